/- Texts laid together: MParts, MCount, RowSet, MLabel, TouchC, MArea, PartsB, PartsM, PartsA, BlkP, MFor, BlkR. Lemmas for the statements of this seat; no condition. -/
import Derived.Test.YtdolpeljengpaaaGreatPk8
import Derived.Test.YtdolpeljengpaaaGreatPk1
import Derived.Maps.RangeWalk
import Derived.Maps.Ext
import Derived.Test.YtdolpeljengpaaaGreatPk2
import Derived.Test.YtdolpeljengpaaaGreatPk7
import Derived.Test.YtdolpeljengpaaaGreatPk4

/- Plain law: components of a list of rectangles, each named by its least index. -/
namespace Go.Proofs.YtdolpeljengpaaaGreat
set_option linter.unusedVariables false
set_option linter.unusedSimpArgs false

/-- Rectangles i and j lie side by side. -/
def adj (l : List R4) (i j : Nat) : Prop := ∃ x y, l[i]? = some x ∧ l[j]? = some y ∧ bsd x y = true
theorem adj.symm {l : List R4} {i j : Nat} (h : adj l i j) : adj l j i := by
  obtain ⟨x, y, h1, h2, h3⟩ := h
  exact ⟨y, x, h2, h1, by rw [bsd_symm]; exact h3⟩
inductive Conn (l : List R4) (i : Nat) : Nat → Prop where
  | refl : Conn l i i
  | step {j k : Nat} : Conn l i j → adj l j k → Conn l i k
theorem Conn.trans {l : List R4} {i j k : Nat} (h : Conn l i j) (g : Conn l j k) : Conn l i k := by
  induction g with
  | refl => exact h
  | step _ a ih => exact ih.step a
theorem Conn.symm {l : List R4} {i j : Nat} (h : Conn l i j) : Conn l j i := by
  induction h with
  | refl => exact .refl
  | step _ a ih => exact (Conn.refl.step a.symm).trans ih
theorem Conn.lt {l : List R4} {i j : Nat} (h : Conn l i j) (hi : i < l.length) : j < l.length := by
  cases h with
  | refl => exact hi
  | step _ a =>
    obtain ⟨x, y, _, h2, _⟩ := a
    exact (List.getElem?_eq_some_iff.1 h2).1
theorem least (p : Nat → Prop) : ∀ n, p n → ∃ m, p m ∧ ∀ k, p k → m ≤ k := by
  intro n
  induction n using Nat.strongRecOn with
  | _ n ih =>
    intro h
    by_cases hk : ∃ k, k < n ∧ p k
    · obtain ⟨k, h1, h2⟩ := hk
      exact ih k h1 h2
    · refine ⟨n, h, fun k hp => ?_⟩
      by_cases hkn : k < n
      · exact absurd ⟨k, hkn, hp⟩ hk
      · omega
/-- The least index of a component. -/
noncomputable def mn (l : List R4) (i : Nat) : Nat := Classical.choose (least (Conn l i) i .refl)
theorem mn_conn (l : List R4) (i : Nat) : Conn l i (mn l i) := (Classical.choose_spec (least (Conn l i) i .refl)).1
theorem mn_least {l : List R4} {i k : Nat} (h : Conn l i k) : mn l i ≤ k := (Classical.choose_spec (least (Conn l i) i .refl)).2 k h
theorem mn_le (l : List R4) (i : Nat) : mn l i ≤ i := mn_least .refl
theorem mn_eq {l : List R4} {i j : Nat} (h : Conn l i j) : mn l i = mn l j := by
  have h1 := mn_least (h.trans (mn_conn l j))
  have h2 := mn_least (h.symm.trans (mn_conn l i))
  omega
theorem mn_mn (l : List R4) (i : Nat) : mn l (mn l i) = mn l i := (mn_eq (mn_conn l i)).symm
theorem conn_of_mn {l : List R4} {i j : Nat} (h : mn l i = mn l j) : Conn l i j := by
  have h1 := mn_conn l i
  rw [h] at h1
  exact h1.trans (mn_conn l j).symm
/-- Labels that do not go down any more are the least indices. -/
theorem labels_mn {l : List R4} {f : Nat → Nat} (h1 : ∀ i, i < l.length → Conn l i (f i) ∧ f i ≤ i) (h2 : ∀ i k, adj l i k → f i ≤ f k) : ∀ i, i < l.length → f i = mn l i := by
  have key : ∀ i k, Conn l i k → f i = f k := by
    intro i k h
    induction h with
    | refl => rfl
    | step _ a ih => have := h2 _ _ a; have := h2 _ _ a.symm; omega
  intro i hi
  have a1 := mn_least (h1 i hi).1
  have a2 := (h1 _ ((mn_conn l i).lt hi)).2
  have a3 := key _ _ (mn_conn l i)
  omega
open Classical in
/-- The rectangles of the component whose least index is i, in their order. -/
noncomputable def compL (l : List R4) (i : Nat) : List R4 := ((List.range l.length).filter fun j => decide (mn l j = i)).filterMap fun j => l[j]?
open Classical in
noncomputable def partsF (l : List R4) : List (List R4) := ((List.range l.length).filter fun i => decide (mn l i = i)).map fun i => rjoin hFst (compL l i) []
theorem mem_compL {l : List R4} {i : Nat} {r : R4} : r ∈ compL l i ↔ ∃ j, mn l j = i ∧ l[j]? = some r := by
  unfold compL
  simp only [List.mem_filterMap, List.mem_filter, List.mem_range, decide_eq_true_eq]
  constructor
  · rintro ⟨j, ⟨_, h2⟩, h3⟩
    exact ⟨j, h2, h3⟩
  · rintro ⟨j, h2, h3⟩
    exact ⟨j, ⟨(List.getElem?_eq_some_iff.1 h3).1, h2⟩, h3⟩
/-- The region of a list hangs on its rectangles' set alone. -/
theorem rjoin_set {a b : List R4} (ha : ∀ r ∈ a, wf4 r) (hb : ∀ r ∈ b, wf4 r) (h : ∀ r, r ∈ a ↔ r ∈ b) : rjoin hFst a [] = rjoin hFst b [] := by
  obtain ⟨c1, p1⟩ := rjoin_ok (h := hFst) rfl ha (b := []) (by simp)
  obtain ⟨c2, p2⟩ := rjoin_ok (h := hFst) rfl hb (b := []) (by simp)
  refine c1.ext c2 fun x y => ?_
  rw [p1, p2]
  have : decide (pmem a x y) = decide (pmem b x y) := decide_eq_decide.2 (by
    unfold pmem
    constructor
    · rintro ⟨r, h1, h2⟩
      exact ⟨r, (h r).1 h1, h2⟩
    · rintro ⟨r, h1, h2⟩
      exact ⟨r, (h r).2 h1, h2⟩)
  rw [this]
end Go.Proofs.YtdolpeljengpaaaGreat

/- Plain law: a part of a canonical region, made a region, has no more rectangles than the part. -/
namespace Go.Proofs.YtdolpeljengpaaaGreat
set_option linter.unusedVariables false
set_option linter.unusedSimpArgs false

theorem swp_sum_from (g : Int → List Sp) : ∀ (ps : List (Int × Int)) (S : List Slab), (flat (ps.foldl (fun S p => addS S p.1 p.2 (g p.1)) S)).length ≤ (flat S).length + (ps.map fun p => (g p.1).length).sum
  | [], S => by simp
  | p :: ps, S => by
    have h1 := swp_sum_from g ps (addS S p.1 p.2 (g p.1))
    have h2 := addS_len S p.1 p.2 (g p.1)
    simp only [List.foldl_cons, List.map_cons, List.sum_cons]
    omega
theorem prs_sum (f : Int → Nat) : ∀ cs : List Int, ((prs cs).map fun p => f p.1).sum ≤ (cs.map f).sum
  | [] => by simp [prs]
  | [c] => by simp [prs]
  | c :: d :: r => by
    have := prs_sum f (d :: r)
    simp only [prs, List.map_cons, List.sum_cons] at this ⊢
    omega
theorem crossL_cons_len (r : R4) (C : List R4) (c : Int) : (crossL (r :: C) c).length = (if r.x0 ≤ c ∧ c < r.x1 then 1 else 0) + (crossL C c).length := by
  unfold crossL
  by_cases h : r.x0 ≤ c ∧ c < r.x1
  · rw [List.filter_cons_of_pos (by simp [h.1, h.2]), if_pos h]
    simp; omega
  · rw [List.filter_cons_of_neg (by simpa using h), if_neg h]
    simp
theorem sum_add {α : Type} (f g : α → Nat) : ∀ l : List α, (l.map fun x => f x + g x).sum = (l.map f).sum + (l.map g).sum
  | [] => rfl
  | a :: l => by have := sum_add f g l; simp only [List.map_cons, List.sum_cons, this]; omega
theorem one_cut {r : R4} : ∀ {cs : List Int}, cs.Pairwise (· < ·) → (∀ c ∈ cs, r.x0 ≤ c → c < r.x1 → r.x0 = c) → (cs.map fun c => if r.x0 ≤ c ∧ c < r.x1 then 1 else 0).sum ≤ 1
  | [], _, _ => by simp
  | c :: cs, hs, h => by
    have ih := one_cut (r := r) (List.pairwise_cons.1 hs).2 (fun c hc => h c (List.mem_cons_of_mem _ hc))
    simp only [List.map_cons, List.sum_cons]
    by_cases hc : r.x0 ≤ c ∧ c < r.x1
    · have e := h c (List.mem_cons_self) hc.1 hc.2
      have hz : (cs.map fun c => if r.x0 ≤ c ∧ c < r.x1 then 1 else 0).sum = 0 := by
        rw [List.sum_eq_zero_iff_forall_eq_nat]
        intro n hn
        obtain ⟨d, hd, rfl⟩ := List.mem_map.1 hn
        have h1 := (List.pairwise_cons.1 hs).1 d hd
        rw [if_neg]
        rintro ⟨h2, h3⟩
        have := h d (List.mem_cons_of_mem _ hd) h2 h3
        omega
      rw [if_pos hc, hz]
      omega
    · rw [if_neg hc]
      omega
theorem sum_cross {cs : List Int} (hs : cs.Pairwise (· < ·)) : ∀ {C : List R4}, (∀ r ∈ C, ∀ c ∈ cs, r.x0 ≤ c → c < r.x1 → r.x0 = c) → (cs.map fun c => (crossL C c).length).sum ≤ C.length
  | [], _ => by
    have : (cs.map fun c => (crossL [] c).length).sum = 0 := by
      rw [List.sum_eq_zero_iff_forall_eq_nat]
      intro n hn
      obtain ⟨d, _, rfl⟩ := List.mem_map.1 hn
      rfl
    omega
  | r :: C, h => by
    have ih := sum_cross hs (C := C) (fun r hr => h r (List.mem_cons_of_mem _ hr))
    have h1 := one_cut hs (h r (List.mem_cons_self))
    simp only [crossL_cons_len]
    rw [sum_add]
    simp only [List.length_cons]
    omega
theorem SOK.apart : ∀ {S : List Slab}, SOK S → ∀ a ∈ S, ∀ b ∈ S, a = b ∨ a.t ≤ b.f ∨ b.t ≤ a.f
  | [], _, a, ha, _, _ => by cases ha
  | c :: S, h, a, ha, b, hb => by
    rcases List.mem_cons.1 ha with e1 | ha'
    · rcases List.mem_cons.1 hb with e2 | hb'
      · exact .inl (e1.trans e2.symm)
      · exact .inr (.inl (e1 ▸ h.after b hb'))
    · rcases List.mem_cons.1 hb with e2 | hb'
      · exact .inr (.inr (e2 ▸ h.after a ha'))
      · exact SOK.apart h.tail a ha' b hb'
theorem SOK.wide : ∀ {S : List Slab}, SOK S → ∀ a ∈ S, a.f < a.t
  | [], _, a, ha => by cases ha
  | c :: S, h, a, ha => by
    rcases List.mem_cons.1 ha with rfl | ha
    · exact h.head.1
    · exact SOK.wide h.tail a ha
theorem mem_flat {S : List Slab} {r : R4} (h : r ∈ flat S) : ∃ a ∈ S, r.x0 = a.f ∧ r.x1 = a.t := by
  obtain ⟨a, ha, h⟩ := List.mem_flatMap.1 h
  obtain ⟨p, hp, rfl⟩ := List.mem_map.1 h
  exact ⟨a, ha, rfl, rfl⟩
theorem can_cut {l : List R4} (h : RCan l) {r s : R4} (hr : r ∈ l) (hs : s ∈ l) {c : Int} (hc : c = s.x0 ∨ c = s.x1) (h1 : r.x0 ≤ c) (h2 : c < r.x1) : r.x0 = c := by
  obtain ⟨S, hS, rfl⟩ := h
  obtain ⟨a, ha, a1, a2⟩ := mem_flat hr
  obtain ⟨b, hb, b1, b2⟩ := mem_flat hs
  have w1 := hS.wide a ha
  have w2 := hS.wide b hb
  rcases hS.apart a ha b hb with rfl | h3 | h3 <;> rcases hc with rfl | rfl <;> omega
theorem sub_count {l C : List R4} (h : RCan l) (hw : ∀ r ∈ l, wf4 r) (hC : C.Sublist l) : (rjoin hFst C []).length ≤ C.length := by
  have hcs := cutsOf_ok (cutsL C)
  have hwC : ∀ r ∈ C, wf4 r := fun r hr => hw r (hC.subset hr)
  have hg : ∀ c, sjoin hFst (crossL C c) (crossL [] c) = crossL C c := fun c => by
    refine (sjoin_eq (h := hFst) rfl (crossL_wf hwC c) (by simp [crossL]) ⟨crossL_wf hwC c, (crossL_can h c).2.sublist ((hC.filter _).map _)⟩ fun x => by simp [hFst]).symm
  rw [← swp_join (h := hFst) rfl hwC (b := []) (by simp) hcs.1 (fun c hc => (hcs.2 c).2 hc) (by simp [cutsL])]
  have h1 := swp_sum_from (fun c => sjoin hFst (crossL C c) (crossL [] c)) (prs (cutsOf (cutsL C))) []
  simp only [hg] at h1
  have h2 := prs_sum (fun c => (crossL C c).length) (cutsOf (cutsL C))
  have h3 := sum_cross hcs.1 (C := C) (fun r hr c hc q1 q2 => by
    have hc2 := (hcs.2 c).1 hc
    obtain ⟨s, hs, he⟩ : ∃ s ∈ C, c = s.x0 ∨ c = s.x1 := by simpa [cutsL] using hc2
    exact can_cut h (hC.subset hr) (hC.subset hs) he q1 q2)
  have h4 : (flat ([] : List Slab)).length = 0 := rfl
  unfold swp
  simp only [hg]
  omega
theorem filterMap_at {α : Type} : ∀ l : List α, (List.range l.length).filterMap (fun j => l[j]?) = l
  | [] => rfl
  | a :: l => by
    have ih := filterMap_at l
    rw [List.length_cons, List.range_succ_eq_map, List.filterMap_cons_some (by rfl : (a :: l)[0]? = some a), List.filterMap_map]
    show a :: List.filterMap (fun j => l[j]?) (List.range l.length) = a :: l
    rw [ih]
theorem compL_sub (l : List R4) (i : Nat) : (compL l i).Sublist l := by
  have h := filterMap_at l
  have h2 : (compL l i).Sublist ((List.range l.length).filterMap (fun j => l[j]?)) := (List.filter_sublist).filterMap _
  rwa [h] at h2
end Go.Proofs.YtdolpeljengpaaaGreat

/- A store into a row of the call's own; the sum of a row of numbers, read off the world. -/
namespace Go.Proofs.YtdolpeljengpaaaGreat
open Go.RowKit
set_option linter.unusedVariables false
set_option linter.unusedSimpArgs false

/-- The sum of n numbers of a row. -/
def cellSum (w : World) (v : Value) (n : Nat) : Nat :=
  match v with
  | .slice (some p) _ _ => ((List.range n).map fun j => match w.cell? ⟨p.block, p.off + j, none⟩ with | some (.int _ x) => x.toNat | _ => 0).sum
  | _ => 0
end Go.Proofs.YtdolpeljengpaaaGreat

/- Plain law: labels that go down along neighbours, step by step. -/
namespace Go.Proofs.YtdolpeljengpaaaGreat
set_option linter.unusedVariables false
set_option linter.unusedSimpArgs false

/-- Each label names a rectangle of the component, not behind its own. -/
def Lb (l : List R4) (L : List Int) : Prop := L.length = l.length ∧ ∀ (i : Nat) x, L[i]? = some x → ∃ j : Nat, x = (j : Int) ∧ Conn l i j ∧ j ≤ i
def sumN (L : List Int) : Nat := (L.map Int.toNat).sum
/-- No label is below a neighbour's, as far as the pairs have been seen: rows before m, and row m before j. -/
def Seen (l : List R4) (L : List Int) (m j : Nat) : Prop := ∀ i k x y, adj l i k → L[i]? = some x → L[k]? = some y → (i < m ∨ (i = m ∧ k < j)) → x ≤ y
/-- Inside one pass over all pairs: something went down, or nothing yet. -/
def Pass (l : List R4) (L0 L : List Int) (mb : Bool) (m j : Nat) : Prop := Lb l L ∧ ((mb = true ∧ sumN L < sumN L0) ∨ (mb = false ∧ L = L0 ∧ Seen l L m j))
theorem Lb.start (l : List R4) : Lb l ((List.range l.length).map fun i : Nat => (i : Int)) := by
  refine ⟨by simp, fun i x h => ?_⟩
  rw [List.getElem?_map] at h
  obtain ⟨j, hj, rfl⟩ := Option.map_eq_some_iff.1 h
  obtain ⟨h1, h2⟩ := List.getElem?_eq_some_iff.1 hj
  simp at h2
  subst h2
  exact ⟨i, rfl, .refl, Nat.le_refl _⟩
theorem Pass.stay {l : List R4} {L0 L : List Int} {mb : Bool} {m j : Nat} (h : Pass l L0 L mb m j) (hn : ∀ x y, adj l m j → L[m]? = some x → L[j]? = some y → x ≤ y) : Pass l L0 L mb m (j + 1) := by
  refine ⟨h.1, h.2.imp id fun ⟨a, b, c⟩ => ⟨a, b, fun i k x y ha hx hy hs => ?_⟩⟩
  by_cases e : i = m ∧ k = j
  · obtain ⟨rfl, rfl⟩ := e
    exact hn x y ha hx hy
  · exact c i k x y ha hx hy (by omega)
theorem Pass.row {l : List R4} {L0 L : List Int} {mb : Bool} {m j : Nat} (h : Pass l L0 L mb m j) (hj : l.length ≤ j) : Pass l L0 L mb (m + 1) 0 := by
  refine ⟨h.1, h.2.imp id fun ⟨a, b, c⟩ => ⟨a, b, fun i k x y ha hx hy hs => ?_⟩⟩
  have hk : k < L.length := (List.getElem?_eq_some_iff.1 hy).1
  have := h.1.1
  exact c i k x y ha hx hy (by omega)
/-- Labels of a pass that changed nothing are the least indices. -/
theorem Pass.done {l : List R4} {L0 L : List Int} {m j : Nat} (h : Pass l L0 L false m j) (hm : l.length ≤ m) : L = (List.range l.length).map fun i => ((mn l i : Nat) : Int) := by
  obtain ⟨⟨h1, h2⟩, h3⟩ := h
  obtain ⟨_, _, hs⟩ := h3.resolve_left (fun q => by cases q.1)
  have key := labels_mn (l := l) (f := fun i => ((L[i]?).getD 0).toNat) (fun i hi => by
    obtain ⟨x, hx⟩ : ∃ x, L[i]? = some x := ⟨_, List.getElem?_eq_getElem (by omega)⟩
    obtain ⟨j, rfl, c, le⟩ := h2 i x hx
    simp only [hx, Option.getD_some, Int.toNat_natCast]
    exact ⟨c, le⟩) (fun i k ha => by
    obtain ⟨x0, y0, g1, g2, _⟩ := id ha
    have hi := (List.getElem?_eq_some_iff.1 g1).1
    have hk := (List.getElem?_eq_some_iff.1 g2).1
    obtain ⟨x, hx⟩ : ∃ x, L[i]? = some x := ⟨_, List.getElem?_eq_getElem (by omega)⟩
    obtain ⟨y, hy⟩ : ∃ y, L[k]? = some y := ⟨_, List.getElem?_eq_getElem (by omega)⟩
    have := hs i k x y ha hx hy (.inl (by omega))
    simp only [hx, hy, Option.getD_some]
    omega)
  apply List.ext_getElem?
  intro i
  by_cases hi : i < l.length
  · obtain ⟨x, hx⟩ : ∃ x, L[i]? = some x := ⟨_, List.getElem?_eq_getElem (by omega)⟩
    obtain ⟨j, rfl, c, le⟩ := h2 i x hx
    have := key i hi
    simp only [hx, Option.getD_some, Int.toNat_natCast] at this
    rw [hx, List.getElem?_map, List.getElem?_range hi]
    simp [this]
  · rw [List.getElem?_eq_none (by omega), List.getElem?_eq_none (by simpa using hi)]
end Go.Proofs.YtdolpeljengpaaaGreat

/- The reference's Touch. -/
namespace Go.Proofs.YtdolpeljengpaaaGreat
open Go.RowKit
set_option linter.unusedVariables false
set_option linter.unusedSimpArgs false

end Go.Proofs.YtdolpeljengpaaaGreat

/- Plain law: sums over the lattice; how many points of it a list of rectangles has. -/
namespace Go.Proofs.YtdolpeljengpaaaGreat
set_option linter.unusedVariables false
set_option linter.unusedSimpArgs false

/-- The sum of f over lo ≤ i < lo + n. -/
def sumZ (f : Int → Int) (lo : Int) : Nat → Int
  | 0 => 0
  | n + 1 => sumZ f lo n + f (lo + n)
theorem sumZ_congr {f g : Int → Int} {lo : Int} : ∀ {n : Nat}, (∀ i, lo ≤ i → i < lo + n → f i = g i) → sumZ f lo n = sumZ g lo n
  | 0, _ => rfl
  | n + 1, h => by
    have h1 := sumZ_congr (f := f) (g := g) (lo := lo) (n := n) (fun i a b => h i a (by omega))
    have h2 := h (lo + n) (by omega) (by omega)
    simp only [sumZ, h1, h2]
theorem sumZ_add (f g : Int → Int) (lo : Int) : ∀ n : Nat, sumZ (fun i => f i + g i) lo n = sumZ f lo n + sumZ g lo n
  | 0 => rfl
  | n + 1 => by simp only [sumZ, sumZ_add f g lo n]; omega
theorem sumZ_zero (lo : Int) : ∀ n : Nat, sumZ (fun _ => 0) lo n = 0
  | 0 => rfl
  | n + 1 => by simp only [sumZ, sumZ_zero lo n]; omega
theorem sumZ_mul (c : Int) (f : Int → Int) (lo : Int) : ∀ n : Nat, sumZ (fun i => c * f i) lo n = c * sumZ f lo n
  | 0 => by simp [sumZ]
  | n + 1 => by simp only [sumZ, sumZ_mul c f lo n, Int.mul_add]
theorem sumZ_const (c : Int) (lo : Int) : ∀ n : Nat, sumZ (fun _ => c) lo n = n * c
  | 0 => by simp [sumZ]
  | n + 1 => by simp only [sumZ, sumZ_const c lo n]; rw [Int.natCast_succ, Int.add_mul]; omega
theorem sumZ_split (f : Int → Int) (lo : Int) (n : Nat) : ∀ m : Nat, sumZ f lo (n + m) = sumZ f lo n + sumZ f (lo + n) m
  | 0 => by simp [sumZ]
  | m + 1 => by
    have h := sumZ_split f lo n m
    have e : lo + ((n + m : Nat) : Int) = lo + n + m := by omega
    rw [← Nat.add_assoc]
    simp only [sumZ, h, e]
    omega
theorem sumZ_le {f g : Int → Int} {lo : Int} : ∀ {n : Nat}, (∀ i, lo ≤ i → i < lo + n → f i ≤ g i) → sumZ f lo n ≤ sumZ g lo n
  | 0, _ => Int.le_refl _
  | n + 1, h => by
    have h1 := sumZ_le (f := f) (g := g) (lo := lo) (n := n) (fun i a b => h i a (by omega))
    have h2 := h (lo + n) (by omega) (by omega)
    simp only [sumZ]; omega
/-- Nothing but an interval counts. -/
theorem sumZ_in (f : Int → Int) {lo a b : Int} {n : Nat} (h1 : lo ≤ a) (h2 : a ≤ b) (h3 : b ≤ lo + n) (h : ∀ i, lo ≤ i → i < lo + n → ¬ (a ≤ i ∧ i < b) → f i = 0) : sumZ f lo n = sumZ f a (b - a).toNat := by
  have e : n = (a - lo).toNat + ((b - a).toNat + (lo + n - b).toNat) := by omega
  rw [e, sumZ_split, sumZ_split]
  have e1 : lo + ((a - lo).toNat : Int) = a := by omega
  have e2 : a + ((b - a).toNat : Int) = b := by omega
  rw [e1, e2]
  have z1 : sumZ f lo (a - lo).toNat = 0 := by
    rw [← sumZ_zero lo (a - lo).toNat]
    exact sumZ_congr fun i q1 q2 => h i q1 (by omega) (by omega)
  have z2 : sumZ f b (lo + n - b).toNat = 0 := by
    rw [← sumZ_zero b (lo + n - b).toNat]
    exact sumZ_congr fun i q1 q2 => h i (by omega) (by omega) (by omega)
  omega
/-- 1 where it holds. -/
def ind (p : Prop) [Decidable p] : Int := if p then 1 else 0
theorem ind_01 (p : Prop) [Decidable p] : ind p = 0 ∨ ind p = 1 := by unfold ind; split <;> simp
theorem ind_t {p : Prop} [Decidable p] (h : p) : ind p = 1 := if_pos h
theorem ind_f {p : Prop} [Decidable p] (h : ¬ p) : ind p = 0 := if_neg h
theorem ind_and (p q : Prop) [Decidable p] [Decidable q] : ind (p ∧ q) = ind p * ind q := by
  unfold ind
  by_cases hp : p <;> by_cases hq : q <;> simp [hp, hq]
theorem ind_iff {p q : Prop} [Decidable p] [Decidable q] (h : p ↔ q) : ind p = ind q := by
  unfold ind
  by_cases hp : p
  · rw [if_pos hp, if_pos (h.1 hp)]
  · rw [if_neg hp, if_neg (fun x => hp (h.2 x))]
/-- An interval's points. -/
theorem sumZ_ival {lo a b : Int} {n : Nat} (h1 : lo ≤ a) (h3 : b ≤ lo + n) : sumZ (fun i => ind (a ≤ i ∧ i < b)) lo n = max 0 (b - a) := by
  by_cases hab : a ≤ b
  · rw [sumZ_in _ h1 hab h3 (fun i _ _ h => ind_f h)]
    rw [sumZ_congr (g := fun _ => 1) (fun i q1 q2 => ind_t ⟨q1, by omega⟩), sumZ_const]
    omega
  · rw [sumZ_congr (g := fun _ => 0) (fun i q1 q2 => ind_f (by omega)), sumZ_zero]
    omega

/-- The sum over the square of the lattice from -m to m. -/
def vol (m : Nat) (f : Int → Int → Int) : Int := sumZ (fun x => sumZ (fun y => f x y) (-m) (2 * m)) (-m) (2 * m)
theorem vol_congr {m : Nat} {f g : Int → Int → Int} (h : ∀ x y, -(m : Int) ≤ x → x < m → -(m : Int) ≤ y → y < m → f x y = g x y) : vol m f = vol m g :=
  sumZ_congr fun x a b => sumZ_congr fun y c d => h x y a (by omega) c (by omega)
theorem vol_add (m : Nat) (f g : Int → Int → Int) : vol m (fun x y => f x y + g x y) = vol m f + vol m g := by
  unfold vol
  rw [← sumZ_add]
  exact sumZ_congr fun x _ _ => sumZ_add _ _ _ _
theorem vol_zero (m : Nat) : vol m (fun _ _ => 0) = 0 := by
  unfold vol
  rw [sumZ_congr (g := fun _ => 0) (fun x _ _ => sumZ_zero _ _), sumZ_zero]
theorem vol_le {m : Nat} {f g : Int → Int → Int} (h : ∀ x y, f x y ≤ g x y) : vol m f ≤ vol m g := sumZ_le fun x _ _ => sumZ_le fun y _ _ => h x y
theorem vol_nonneg {m : Nat} {f : Int → Int → Int} (h : ∀ x y, 0 ≤ f x y) : 0 ≤ vol m f := by
  have := vol_le (m := m) (f := fun _ _ => 0) (g := f) h
  rwa [vol_zero] at this
theorem vol_one (m : Nat) : vol m (fun _ _ => 1) = (2 * m) * (2 * m) := by
  unfold vol
  rw [sumZ_congr (g := fun _ => ((2 * m : Nat) : Int)) (fun x _ _ => by rw [sumZ_const]; omega), sumZ_const]
  simp
theorem vol_bd {m : Nat} {f : Int → Int → Int} (h0 : ∀ x y, 0 ≤ f x y) (h : ∀ x y, f x y ≤ 1) : 0 ≤ vol m f ∧ vol m f ≤ (2 * m) * (2 * m) :=
  ⟨vol_nonneg h0, by rw [← vol_one]; exact vol_le h⟩
/-- A rectangle's points: of any four numbers. -/
def box (r : R4) : Int := max 0 (r.x1 - r.x0) * max 0 (r.y1 - r.y0)
theorem rin_ind (r : R4) (x y : Int) : ind (rin r x y) = ind (r.x0 ≤ x ∧ x < r.x1) * ind (r.y0 ≤ y ∧ y < r.y1) := by
  rw [← ind_and]
  exact ind_iff ⟨fun h => ⟨⟨h.1, h.2.1⟩, h.2.2⟩, fun h => ⟨h.1.1, h.1.2, h.2⟩⟩
theorem vol_rect {m : Nat} {r : R4} (h1 : -(m : Int) ≤ r.x0) (h2 : r.x1 ≤ m) (h3 : -(m : Int) ≤ r.y0) (h4 : r.y1 ≤ m) : vol m (fun x y => ind (rin r x y)) = box r := by
  unfold vol
  have e : ∀ x, sumZ (fun y => ind (rin r x y)) (-m) (2 * m) = max 0 (r.y1 - r.y0) * ind (r.x0 ≤ x ∧ x < r.x1) := fun x => by
    rw [sumZ_congr (g := fun y => ind (r.x0 ≤ x ∧ x < r.x1) * ind (r.y0 ≤ y ∧ y < r.y1)) (fun y _ _ => rin_ind r x y), sumZ_mul, sumZ_ival h3 (by omega), Int.mul_comm]
  rw [sumZ_congr (fun x _ _ => e x), sumZ_mul, sumZ_ival h1 (by omega)]
  unfold box
  rw [Int.mul_comm]
/-- The common part of two rectangles, any numbers. -/
def meet4 (p q : R4) : R4 := ⟨max p.x0 q.x0, max p.y0 q.y0, min p.x1 q.x1, min p.y1 q.y1⟩
theorem rin_meet (p q : R4) (x y : Int) : rin (meet4 p q) x y ↔ rin p x y ∧ rin q x y := by
  simp only [rin, meet4]; omega
theorem ind_meet (p q : R4) (x y : Int) : ind (rin (meet4 p q) x y) = ind (rin p x y) * ind (rin q x y) := by
  rw [← ind_and]; exact ind_iff (rin_meet p q x y)
/-- How many rectangles of a list have a point. -/
def cntP (l : List R4) (x y : Int) : Int := (l.map fun r => ind (rin r x y)).sum
theorem cntP_nil (x y : Int) : cntP [] x y = 0 := rfl
theorem cntP_cons (r : R4) (l : List R4) (x y : Int) : cntP (r :: l) x y = ind (rin r x y) + cntP l x y := by simp [cntP]
theorem cntP_append (a b : List R4) (x y : Int) : cntP (a ++ b) x y = cntP a x y + cntP b x y := by simp [cntP, List.sum_append]
/-- No two rectangles have a common point. -/
def apart4 (a b : R4) : Prop := ∀ x y, ¬ (rin a x y ∧ rin b x y)
theorem cntP_ind {l : List R4} (h : l.Pairwise apart4) (x y : Int) : cntP l x y = ind (pmem l x y) := by
  induction l with
  | nil => rw [cntP_nil, ind_f pmem_nil]
  | cons r l ih =>
    obtain ⟨h1, h2⟩ := List.pairwise_cons.1 h
    rw [cntP_cons, ih h2]
    by_cases hr : rin r x y
    · have hn : ¬ pmem l x y := fun ⟨s, hs, hx⟩ => h1 s hs x y ⟨hr, hx⟩
      rw [ind_t hr, ind_f hn, ind_t (pmem_cons.2 (.inl hr))]; rfl
    · rw [ind_f hr, Int.zero_add]
      exact ind_iff ⟨fun h => pmem_cons.2 (.inr h), fun h => (pmem_cons.1 h).resolve_left hr⟩
/-- 1 at the points of a list. -/
def one (a : List R4) (x y : Int) : Int := ind (pmem a x y)
theorem one_01 (a : List R4) (x y : Int) : one a x y = 0 ∨ one a x y = 1 := ind_01 _
/-- The rectangles of a list within a frame. -/
def inFr (m : Nat) (r : R4) : Prop := -(m : Int) ≤ r.x0 ∧ r.x1 ≤ m ∧ -(m : Int) ≤ r.y0 ∧ r.y1 ≤ m
theorem vol_cntP {m : Nat} {l : List R4} (h : ∀ r ∈ l, inFr m r) : vol m (cntP l) = (l.map box).sum := by
  induction l with
  | nil => exact vol_zero m
  | cons r l ih =>
    have e : cntP (r :: l) = fun x y => ind (rin r x y) + cntP l x y := by funext x y; exact cntP_cons r l x y
    obtain ⟨a, b, c, d⟩ := h r (by simp)
    rw [e, vol_add, ih (fun s hs => h s (by simp [hs])), vol_rect a b c d]
    simp
/-- The points that a rectangle has in common with those of a list. -/
theorem vol_rect_cnt {m : Nat} {p : R4} {b : List R4} (hp : inFr m p) : vol m (fun x y => ind (rin p x y) * cntP b x y) = (b.map fun q => box (meet4 p q)).sum := by
  induction b with
  | nil => simp only [cntP_nil, Int.mul_zero, List.map_nil, List.sum_nil]; exact vol_zero m
  | cons q b ih =>
    have e : (fun x y => ind (rin p x y) * cntP (q :: b) x y) = fun x y => ind (rin (meet4 p q) x y) + ind (rin p x y) * cntP b x y := by
      funext x y; rw [cntP_cons, Int.mul_add, ind_meet]
    obtain ⟨h1, h2, h3, h4⟩ := hp
    rw [e, vol_add, ih, vol_rect (by simp only [meet4]; omega) (by simp only [meet4]; omega) (by simp only [meet4]; omega) (by simp only [meet4]; omega)]
    simp
theorem vol_cnt_cnt {m : Nat} {a b : List R4} (ha : ∀ r ∈ a, inFr m r) : vol m (fun x y => cntP a x y * cntP b x y) = (a.map fun p => (b.map fun q => box (meet4 p q)).sum).sum := by
  induction a with
  | nil => simp only [cntP_nil, Int.zero_mul, List.map_nil, List.sum_nil]; exact vol_zero m
  | cons p a ih =>
    have e : (fun x y => cntP (p :: a) x y * cntP b x y) = fun x y => ind (rin p x y) * cntP b x y + cntP a x y * cntP b x y := by
      funext x y; rw [cntP_cons, Int.add_mul]
    rw [e, vol_add, ih (fun s hs => ha s (by simp [hs])), vol_rect_cnt (ha p (by simp))]
    simp
/-- A canonical list has each point in one rectangle. -/
theorem SCan.apart {s : List Sp} (h : SCan s) : s.Pairwise fun p q => p.2 ≤ q.1 := h.2.imp fun h => by omega
theorem flat_apart : ∀ {S : List Slab}, SOK S → (flat S).Pairwise apart4
  | [], _ => List.Pairwise.nil
  | a :: S, h => by
    have ih := flat_apart h.tail
    have e : flat (a :: S) = flat1 a ++ flat S := by simp [flat]
    rw [e, List.pairwise_append]
    refine ⟨?_, ih, fun r hr s hs x y ⟨h1, h2⟩ => ?_⟩
    · unfold flat1
      rw [List.pairwise_map]
      exact h.head.2.2.apart.imp fun {p q} hpq x y ⟨h1, h2⟩ => by
        simp only [rin] at h1 h2; omega
    · obtain ⟨p, hp, rfl⟩ := List.mem_map.1 hr
      obtain ⟨b, hb, hs⟩ := List.mem_flatMap.1 hs
      obtain ⟨q, hq, rfl⟩ := List.mem_map.1 hs
      have := h.after b hb
      simp only [rin] at h1 h2; omega
theorem RCan.apart {l : List R4} (h : RCan l) : l.Pairwise apart4 := by
  obtain ⟨S, hS, rfl⟩ := h
  exact flat_apart hS
end Go.Proofs.YtdolpeljengpaaaGreat

/- The reference's Parts. -/
namespace Go.Proofs.YtdolpeljengpaaaGreat
open Go.RowKit
set_option linter.unusedVariables false
set_option linter.unusedSimpArgs false

/-- A list of regions of the call's own. -/
structure Regs (w : World) (vo : Value) (R : List (List R4)) (wr : World) : Prop where
  low : Below w.heap.size w wr
  o : ∃ vs, wr.ownsRow w.heap.size 27 1 vo R.length vs ∧ ∀ (i : Nat) (r : List R4), R[i]? = some r → ∃ v, vs[i]? = some v ∧ wr.ownsRow w.heap.size 69 4 v r.length (r.flatMap encR)
theorem Regs.below {w wr w2 : World} {vo : Value} {R : List (List R4)} (h : Regs w vo R wr) (hb : Below wr.heap.size wr w2) : Regs w vo R w2 := by
  obtain ⟨vs, h1, h2⟩ := h.o
  refine ⟨h.low.trans (hb.mono h.low.size), vs, own_below h1 hb, fun i r hr => ?_⟩
  obtain ⟨v, h3, h4⟩ := h2 i r hr
  exact ⟨v, h3, own_below h4 hb⟩
theorem Regs.push {w wr w2 : World} {vo v2 v : Value} {R : List (List R4)} {r : List R4} {vs : List Value} (low : Below w.heap.size w wr) (h1 : wr.ownsRow w.heap.size 27 1 vo R.length vs)
    (h2 : ∀ (i : Nat) (r : List R4), R[i]? = some r → ∃ v, vs[i]? = some v ∧ wr.ownsRow w.heap.size 69 4 v r.length (r.flatMap encR)) (hv : wr.ownsRow w.heap.size 69 4 v r.length (r.flatMap encR))
    (hg : wr.grownBy w2 vo.ownBlock) (h3 : w2.ownsRow w.heap.size 27 1 v2 (R.length + 1) (vs ++ [v])) : Regs w v2 (R ++ [r]) w2 := by
  have hl : vs.length = R.length := by have := h1.1; omega
  refine ⟨low.grown hg low.size (fun q hq => (h1.lt q hq).1), vs ++ [v], by simpa using h3, fun i x hx => ?_⟩
  by_cases hi : i < R.length
  · rw [List.getElem?_append_left hi] at hx
    obtain ⟨u, h4, h5⟩ := h2 i x hx
    exact ⟨u, by rw [List.getElem?_append_left (by omega)]; exact h4, h5.kept hg (own_apart h5 h1 (by decide))⟩
  · rw [List.getElem?_append_right (by omega)] at hx
    have hi0 : i - R.length = 0 := by
      have := (List.getElem?_eq_some_iff.1 hx).1
      simp at this
      omega
    rw [hi0] at hx
    simp at hx
    subst hx
    refine ⟨v, by rw [List.getElem?_append_right (by omega), hl, hi0]; rfl, hv.kept hg (own_apart hv h1 (by decide))⟩
def RegsRet (B : Nat) (x : List (List R4) × Int) (e : Ending) (w' : World) : Prop :=
  ∃ A c vs, e = .returned (.tuple #[.slice A x.1.length c, .int .i64 x.2]) ∧ w'.ownsRow B 27 1 (.slice A x.1.length c) x.1.length vs ∧ ∀ (i : Nat) (r : List R4), x.1[i]? = some r → ∃ v, vs[i]? = some v ∧ w'.ownsRow B 69 4 v r.length (r.flatMap encR)
noncomputable def partsE (l : List R4) : List (List R4) × Int := if checkF l = 0 then (partsF l, 0) else ([], checkF l)
theorem infoRg : (Tryz.prog.info? 27).map (fun i => (i.zero, i.size, i.bytes)) = some (some (.slice none 0 0), 1, 24) := by kernel_rfl
/-- The component's rectangles among the first j. -/
noncomputable def compP (l : List R4) (i j : Nat) : List R4 := ((List.range j).filter fun k => decide (mn l k = i)).filterMap fun k => l[k]?
noncomputable def partsP (l : List R4) (m : Nat) : List (List R4) := ((List.range m).filter fun i => decide (mn l i = i)).map fun i => rjoin hFst (compL l i) []
theorem partsP_in {l : List R4} {m : Nat} (h : mn l m = m) : partsP l (m + 1) = partsP l m ++ [rjoin hFst (compL l m) []] := by
  unfold partsP
  rw [List.range_succ, List.filter_append, List.map_append]
  simp [h]
theorem partsP_out {l : List R4} {m : Nat} (h : mn l m ≠ m) : partsP l (m + 1) = partsP l m := by
  unfold partsP
  rw [List.range_succ, List.filter_append, List.map_append]
  simp [h]
theorem partsP_all (l : List R4) : partsP l l.length = partsF l := rfl
theorem partsP_len (l : List R4) (m : Nat) : (partsP l m).length ≤ m := by
  unfold partsP
  rw [List.length_map]
  exact Nat.le_trans (List.length_filter_le _ _) (by simp)
theorem rects_at {W wr : World} {l : List R4} {b o m : Nat} (hk : ∀ (j : Nat) (x : R4), l[j]? = some x → ∀ (i : Nat) (u : Value), (encR x)[i]? = some u → W.cell? ⟨b, o + j * 4 + i, none⟩ = some u) (hb : ∀ q, wr.cell? ⟨b, q, none⟩ = W.cell? ⟨b, q, none⟩) {p0 p1 p2 p3 : Int} (hp : l[m]? = some ⟨p0, p1, p2, p3⟩) :
    wr.cell? ⟨b, o + m * 4, none⟩ = some (.int .i64 p0) ∧ wr.cell? ⟨b, o + m * 4 + 1, none⟩ = some (.int .i64 p1) ∧ wr.cell? ⟨b, o + m * 4 + 2, none⟩ = some (.int .i64 p2) ∧ wr.cell? ⟨b, o + m * 4 + 3, none⟩ = some (.int .i64 p3) :=
  ⟨(hb _).trans (hk m _ hp 0 _ rfl), (hb _).trans (hk m _ hp 1 _ rfl), (hb _).trans (hk m _ hp 2 _ rfl), (hb _).trans (hk m _ hp 3 _ rfl)⟩
def lab0 (m : Nat) : List Int := (List.range m).map fun i : Nat => (i : Int)
def labR (l : List R4) (w : World) (vf : Value) (L : List Int) (wr : World) : Prop := wr.ownsRow w.heap.size 3 1 vf l.length (L.map iv) ∧ Below w.heap.size w wr

end Go.Proofs.YtdolpeljengpaaaGreat

/- A map from indexes to rectangles: its words, and the laws at its operations; a component that grows. -/
namespace Go.Proofs.YtdolpeljengpaaaGreat
open Go.RowKit Go.Maps
set_option linter.unusedVariables false
set_option linter.unusedSimpArgs false

theorem lawI : Keyed Tryz.prog 3 := int_keyed Tryz.underlying3
def rectD (r : R4) : DataW Unit := .agg [.lit (.int .i64 r.x0), .lit (.int .i64 r.y0), .lit (.int .i64 r.x1), .lit (.int .i64 r.y1)]
def rectE (v : Value) : Option (DataW Unit × List MemPlace) :=
  match v with
  | .agg xs => match xs.toList with
    | [.int .i64 a, .int .i64 b, .int .i64 c, .int .i64 d] => some (rectD ⟨a, b, c, d⟩, [])
    | _ => none
  | _ => none
theorem rectE_mk4 (a b c d : Int) : rectE (.agg #[.int .i64 a, .int .i64 b, .int .i64 c, .int .i64 d]) = some (rectD ⟨a, b, c, d⟩, []) := rfl
theorem rectE_inv {v : Value} {y : DataW Unit × List MemPlace} (h : rectE v = some y) : ∃ r : R4, v = .agg #[.int .i64 r.x0, .int .i64 r.y0, .int .i64 r.x1, .int .i64 r.y1] ∧ y = (rectD r, []) := by
  unfold rectE at h
  split at h
  · rename_i xs
    split at h
    · rename_i a b c d e
      injection h with h
      refine ⟨⟨a, b, c, d⟩, ?_, h.symm⟩
      congr 1
      apply Array.toList_inj.1
      exact e
    · cases h
  · cases h
theorem rectD_inj {r s : R4} (h : rectD r = rectD s) : r = s := by
  unfold rectD at h
  simp only [DataW.agg.injEq, List.cons.injEq, DataW.lit.injEq, Lit.int.injEq, true_and, and_true] at h
  obtain ⟨h1, h2, h3, h4⟩ := h
  cases r; cases s
  simp_all
theorem zeroR (w : World) : (zeroValue 69).run Tryz.prog w = .ok (.agg #[.int .i64 0, .int .i64 0, .int .i64 0, .int .i64 0]) w := by kernel_rfl
abbrev ownsM (b n : Nat) (D : DataW Unit) (w : World) : Prop := w.ownsMap Tryz.prog 3 rectE b n D
/-- The map holds the rectangles of l at the indexes S. -/
def Mp (l : List R4) (S : Nat → Prop) (D : DataW Unit) : Prop :=
  (∀ kl, Maps.has D kl = true ↔ ∃ k, k < l.length ∧ S k ∧ kl = .int .i64 (k : Int)) ∧ ∀ (k : Nat) r, l[k]? = some r → S k → ∀ zd, D.atKey (.int .i64 (k : Int)) zd = rectD r
theorem key_ne {k j : Nat} (h : k ≠ j) : (Lit.int .i64 (k : Int)) ≠ .int .i64 (j : Int) := fun e => h (by injection e with _ e; omega)
theorem Mp.start (l : List R4) : Mp l (fun k => k < 0) (.map []) := by
  refine ⟨fun kl => ?_, fun k r _ h => absurd h (Nat.not_lt_zero _)⟩
  rw [has_eq]
  simp
theorem Mp.put {l : List R4} {D : DataW Unit} {m : Nat} {r : R4} (h : Mp l (fun k => k < m) D) (hD : IsMap D) (hr : l[m]? = some r) : Mp l (fun k => k < m + 1) (D.put (.int .i64 (m : Int)) (rectD r)) := by
  have hm := (List.getElem?_eq_some_iff.1 hr).1
  refine ⟨fun kl => ?_, fun k s hs hk zd => ?_⟩
  · by_cases e : kl = .int .i64 (m : Int)
    · subst e
      rw [has_put_same hD (show WideAt.IsKeyLit (.int .i64 (m : Int)) from trivial)]
      exact ⟨fun _ => ⟨m, hm, by omega, rfl⟩, fun _ => rfl⟩
    · rw [has_put_other e, h.1]
      constructor
      · rintro ⟨k, h1, h2, h3⟩
        exact ⟨k, h1, by omega, h3⟩
      · rintro ⟨k, h1, h2, rfl⟩
        exact ⟨k, h1, by have : k ≠ m := fun e2 => e (by rw [e2]); omega, rfl⟩
  · by_cases e : k = m
    · subst e
      rw [hr] at hs
      injection hs with hs
      subst hs
      exact atKey_put_same hD (show WideAt.IsKeyLit (.int .i64 (k : Int)) from trivial) _ _
    · rw [atKey_put_other (key_ne e)]
      exact h.2 k s hs (by omega) zd
theorem Mp.del {l : List R4} {S : Nat → Prop} {D : DataW Unit} {m : Nat} (h : Mp l S D) : Mp l (fun k => S k ∧ k ≠ m) (D.del (.int .i64 (m : Int))) := by
  refine ⟨fun kl => ?_, fun k s hs hk zd => ?_⟩
  · by_cases e : kl = .int .i64 (m : Int)
    · subst e
      rw [has_del_same]
      constructor
      · intro h; cases h
      · rintro ⟨k, h1, h2, h3⟩
        injection h3 with _ h3
        exact absurd (by omega) h2.2
    · rw [has_del_other e, h.1]
      constructor
      · rintro ⟨k, h1, h2, h3⟩
        exact ⟨k, h1, ⟨h2, fun e2 => e (by rw [h3, e2])⟩, h3⟩
      · rintro ⟨k, h1, h2, h3⟩
        exact ⟨k, h1, h2.1, h3⟩
  · rw [atKey_del_other (key_ne hk.2)]
    exact h.2 k s hs hk.1 zd
theorem Mp.iff {l : List R4} {S T : Nat → Prop} {D : DataW Unit} (h : Mp l S D) (e : ∀ k, k < l.length → (S k ↔ T k)) : Mp l T D := by
  refine ⟨fun kl => ?_, fun k r hr hk => h.2 k r hr ((e k (List.getElem?_eq_some_iff.1 hr).1).2 hk)⟩
  rw [h.1]
  constructor
  · rintro ⟨k, h1, h2, h3⟩; exact ⟨k, h1, (e k h1).1 h2, h3⟩
  · rintro ⟨k, h1, h2, h3⟩; exact ⟨k, h1, (e k h1).2 h2, h3⟩
theorem Mp.is {l : List R4} {S : Nat → Prop} {D : DataW Unit} (h : Mp l S D) {k : Nat} (hk : k < l.length) : Maps.has D (.int .i64 (k : Int)) = true ↔ S k := by
  rw [h.1]
  constructor
  · rintro ⟨j, _, h2, h3⟩
    injection h3 with _ h3
    obtain rfl : k = j := by omega
    exact h2
  · exact fun h => ⟨k, hk, h, rfl⟩
/-- The laws at the operations, the element's shape written out. -/
theorem own_map_apart {w : World} {B n bM k : Nat} {size : Nat} {e : TypeId} {v : Value} {xs : List Value} {D : DataW Unit} (h : w.ownsRow B e size v n xs) (hm : ownsM bM k D w) : v.ownBlock = none ∨ v.ownBlock ≠ some bM := by
  rcases h.2 with ⟨rfl, _⟩ | ⟨g, cap, cur, rfl, _, hg, _⟩
  · exact .inl rfl
  · right
    intro he
    obtain ⟨es, c, hb, _⟩ := hm
    have : g = bM := by simpa [Value.ownBlock] using he
    subst this
    rw [hg] at hb
    cases hb
section
variable {w : World} {ops : Array Oper} {rest : List Oper} {o : Oper} {a : Act} {Q : Exit → Act → World → Prop}
theorem wpList_look_rect (hg : o.guard = none) (m x : Operand) (hop : o.op = Op.lookup 152 m x true) (b n : Nat) (D : DataW Unit) (hm : a.eval m = .map (some b)) (hown : ownsM b n D w) (k : Int) (hx : a.eval x = .int .i64 k) (hk : -9223372036854775808 ≤ k ∧ k ≤ 9223372036854775807)
    (t : Bool) (ht : Maps.has D (.int .i64 k) = t) (hK : ∀ r : R4, wpList Tryz.prog ops Q rest (a.put o.dst (.tuple #[.agg #[.int .i64 r.x0, .int .i64 r.y0, .int .i64 r.x1, .int .i64 r.y1], .bool t])) w) : wpList Tryz.prog ops Q (o :: rest) a w :=
  wpList_lookup_own_ok w hg m x 152 hop 3 69 lawI Tryz.underlying152 rectE (zeroR w) (rectD ⟨0, 0, 0, 0⟩) [] rfl b n D hm hown (.int .i64 k) (.int .i64 k) hx (keyOf_int_mk Tryz.underlying3 (WalkArith.wf_i64 hk)) (fun v ps hv => by
    obtain ⟨r, rfl, _⟩ := rectE_inv hv
    rw [ht]
    exact hK r)
theorem wpList_next_rect (hg : o.guard = none) (it : Operand) (hop : o.op = Op.next it false) (b r n : Nat) (D : DataW Unit) (left : Lit → Bool) (cnt : Nat) (hit : a.eval it = .pointer (some ⟨r, 0, none⟩)) (h : w.ranges Tryz.prog 3 rectE b r n D left cnt) {l : List R4} {S : Nat → Prop} (hM : Mp l S D)
    (hDone : (∀ kl, left kl = false) → wpList Tryz.prog ops Q rest (a.put o.dst (.tuple #[.bool false])) w)
    (hMore : ∀ (k : Nat) (q0 q1 q2 q3 : Int) (w' : World) (cnt' : Nat), l[k]? = some ⟨q0, q1, q2, q3⟩ → S k → left (.int .i64 (k : Int)) = true → w'.ranges Tryz.prog 3 rectE b r n D (fun z => left z && !z.sameKey (.int .i64 (k : Int))) cnt' → cnt' < cnt →
      w.grownBy w' (some r) → w'.heap.size = w.heap.size → (Instr.entry (.pointer (some ⟨r, 0, none⟩))).run Tryz.prog w' = .ok (.tuple #[.int .i64 (k : Int), .agg #[.int .i64 q0, .int .i64 q1, .int .i64 q2, .int .i64 q3]]) w' → wpList Tryz.prog ops Q rest (a.put o.dst (.tuple #[.bool true, .int .i64 (k : Int), .agg #[.int .i64 q0, .int .i64 q1, .int .i64 q2, .int .i64 q3]])) w') :
    wpList Tryz.prog ops Q (o :: rest) a w :=
  wpList_next_ranges w hg it hop 3 lawI rectE (fun x : Int => .int .i64 x) (fun r : R4 => .agg #[.int .i64 r.x0, .int .i64 r.y0, .int .i64 r.x1, .int .i64 r.y1])
    (fun key kl hk => by obtain ⟨x, rfl, _⟩ := Maps.keyOf_int_inv Tryz.underlying3 hk; exact ⟨x, rfl⟩) (fun v y hv => by obtain ⟨r, rfl, _⟩ := rectE_inv hv; exact ⟨r, rfl⟩) b r n D left cnt hit h (fun _ hl => hDone hl)
    (fun x c kl y w' cnt' hkey hlk hv hat hrg hlt hgr hsz hen => by
      obtain ⟨x', e1, rfl, _⟩ := Maps.keyOf_int_inv Tryz.underlying3 hkey
      injection e1 with _ e1
      subst e1
      have hh := has_true_of_atKey (D := D) (k := .int .i64 x) hat
      obtain ⟨k, hk, hS, e2⟩ := (hM.1 _).1 hh
      injection e2 with _ e2
      subst e2
      obtain ⟨s, hs⟩ : ∃ s, l[k]? = some s := ⟨_, List.getElem?_eq_getElem hk⟩
      obtain ⟨r, e3, e4⟩ := rectE_inv hv
      have e5 := (hM.2 k s hs hS (rectD s)).symm.trans (hat (rectD s))
      rw [e4] at e5
      have e6 := rectD_inj e5
      subst e6
      obtain ⟨s0, s1, s2, s3⟩ := s
      obtain ⟨c0, c1, c2, c3⟩ := c
      simp only [Value.agg.injEq, Array.mk.injEq, List.cons.injEq, Value.int.injEq, true_and, and_true] at e3
      obtain ⟨rfl, rfl, rfl, rfl⟩ := e3
      exact hMore k _ _ _ _ w' cnt' hs hS hlk hrg hlt hgr hsz hen)
end
/-! ### a component that grows -/
/-- P: indexes of the component of m; of the first kk of them all neighbours are in P. -/
def Grow (l : List R4) (m : Nat) (P : List Nat) (kk : Nat) : Prop := (∀ p ∈ P, Conn l m p) ∧ m ∈ P ∧ ∀ i, i < kk → ∀ p, P[i]? = some p → ∀ n, adj l p n → n ∈ P
theorem Grow.start (l : List R4) (m : Nat) : Grow l m [m] 0 := ⟨fun p hp => by rw [List.mem_singleton] at hp; subst hp; exact .refl, List.mem_singleton.2 rfl, fun i h => absurd h (Nat.not_lt_zero _)⟩
theorem Grow.push {l : List R4} {m : Nat} {P : List Nat} {kk p n : Nat} (h : Grow l m P kk) (hkk : kk ≤ P.length) (hp : p ∈ P) (ha : adj l p n) : Grow l m (P ++ [n]) kk := by
  refine ⟨fun q hq => ?_, List.mem_append_left _ h.2.1, fun i hi q hq k hk => ?_⟩
  · rcases List.mem_append.1 hq with hq | hq
    · exact h.1 q hq
    · rw [List.mem_singleton] at hq
      subst hq
      exact (h.1 p hp).step ha
  · rw [List.getElem?_append_left (by omega)] at hq
    exact List.mem_append_left _ (h.2.2 i hi q hq k hk)
theorem Grow.next {l : List R4} {m : Nat} {P : List Nat} {kk p : Nat} (h : Grow l m P kk) (hp : P[kk]? = some p) (ha : ∀ n, adj l p n → n ∈ P) : Grow l m P (kk + 1) := by
  refine ⟨h.1, h.2.1, fun i hi q hq => ?_⟩
  by_cases e : i = kk
  · subst e
    rw [hp] at hq
    injection hq with hq
    subst hq
    exact ha
  · exact h.2.2 i (by omega) q hq
theorem Grow.all {l : List R4} {m : Nat} {P : List Nat} {kk : Nat} (h : Grow l m P kk) (hkk : P.length ≤ kk) {k : Nat} : k ∈ P ↔ Conn l m k := by
  refine ⟨h.1 k, fun c => ?_⟩
  induction c with
  | refl => exact h.2.1
  | step _ a ih =>
    obtain ⟨i, hi, e⟩ := List.getElem_of_mem ih
    exact h.2.2 i (by omega) _ (by rw [← e]; exact List.getElem?_eq_getElem hi) _ a
def left4 (l : List R4) (P : List Nat) : List R4 := P.filterMap fun k => l[k]?
theorem left4_snoc {l : List R4} {P : List Nat} {n : Nat} {r : R4} (h : l[n]? = some r) : left4 l (P ++ [n]) = left4 l P ++ [r] := by simp [left4, h]
theorem left4_at {l : List R4} {P : List Nat} (hP : ∀ p ∈ P, p < l.length) {i p : Nat} {r : R4} (hi : P[i]? = some p) (hr : l[p]? = some r) : (left4 l P)[i]? = some r := by
  unfold left4
  induction P generalizing i with
  | nil => simp at hi
  | cons q P ih =>
    have h1 := hP q (by simp)
    rw [List.filterMap_cons_some (List.getElem?_eq_getElem h1)]
    cases i with
    | zero =>
      have e : q = p := by simpa using hi
      subst e
      rw [List.getElem?_eq_getElem h1] at hr
      simpa using hr
    | succ i => exact ih (fun q hq => hP q (by simp [hq])) (by simpa using hi)
theorem left4_len {l : List R4} {P : List Nat} (hP : ∀ p ∈ P, p < l.length) : (left4 l P).length = P.length := by
  unfold left4
  induction P with
  | nil => rfl
  | cons p P ih =>
    have h1 := hP p (by simp)
    rw [List.filterMap_cons_some (List.getElem?_eq_getElem h1), List.length_cons, List.length_cons, ih (fun q hq => hP q (by simp [hq]))]
/-- The component, in whatever order it was found, makes the part. -/
theorem grow_made {l : List R4} {m : Nat} {P : List Nat} {kk : Nat} (hc : RCan l) (hv : ∀ r ∈ l, wf4 r) (hl : l.length ≤ 400) (h : Grow l m P kk) (hkk : P.length ≤ kk) (hm : mn l m = m) : madeF (left4 l P) = (rjoin hFst (compL l m) [], 0) := by
  have hset : ∀ r, r ∈ left4 l P ↔ r ∈ compL l m := fun r => by
    rw [mem_compL]
    unfold left4
    rw [List.mem_filterMap]
    constructor
    · rintro ⟨k, hk, hr⟩
      exact ⟨k, by rw [← mn_eq ((h.all hkk).1 hk), hm], hr⟩
    · rintro ⟨k, hk, hr⟩
      exact ⟨k, (h.all hkk).2 (conn_of_mn (by rw [hm, hk])), hr⟩
  have hsub := compL_sub l m
  have e := rjoin_set (a := left4 l P) (b := compL l m) (fun r hr => hv r (hsub.subset ((hset r).1 hr))) (fun r hr => hv r (hsub.subset hr)) hset
  have hcnt := sub_count hc hv hsub
  have := hsub.length_le
  unfold madeF
  rw [e, if_neg (by omega)]
/-- What the outer loop's round has struck. -/
theorem grow_rest {l : List R4} {m : Nat} {P : List Nat} {kk : Nat} (h : Grow l m P kk) (hkk : P.length ≤ kk) (hm : mn l m = m) (k : Nat) : (m ≤ mn l k ∧ k ∉ P) ↔ m + 1 ≤ mn l k := by
  rw [h.all hkk]
  constructor
  · rintro ⟨h1, h2⟩
    have : mn l k ≠ m := fun e => h2 (conn_of_mn (by rw [hm, e]))
    omega
  · intro h1
    refine ⟨by omega, fun c => ?_⟩
    have := mn_eq c
    omega
theorem rest_skip {l : List R4} {m : Nat} (hm : mn l m ≠ m) (k : Nat) : m ≤ mn l k ↔ m + 1 ≤ mn l k := by
  constructor
  · intro h
    have : mn l k ≠ m := fun e => hm (by rw [← e, mn_mn])
    omega
  · intro h; omega
theorem below_grown {w w' : World} (h : Below w.heap.size w w') : w.grownBy w' none := ⟨h.os, h.tape, h.output, h.size, fun k hk _ => h.block k hk⟩
end Go.Proofs.YtdolpeljengpaaaGreat

/- region.Parts. -/
namespace Go.Proofs.YtdolpeljengpaaaGreat
open Go.RowKit Go.Maps
set_option linter.unusedVariables false
set_option linter.unusedSimpArgs false

theorem Regs.but {w a c : World} {vo : Value} {R : List (List R4)} {bM k : Nat} {D : DataW Unit} (h : Regs w vo R a) (hm : ownsM bM k D a) (hg : a.grownBy c (some bM)) (hb : w.heap.size ≤ bM) : Regs w vo R c := by
  obtain ⟨vs, h1, h2⟩ := h.o
  exact ⟨h.low.grown hg h.low.size (fun q hq => by cases hq; exact hb), vs, h1.kept hg (own_map_apart h1 hm), fun i r hr => by
    obtain ⟨v, h3, h4⟩ := h2 i r hr
    exact ⟨v, h3, h4.kept hg (own_map_apart h4 hm)⟩⟩
theorem own_ranges_apart {w : World} {B n bM rI k cnt : Nat} {size : Nat} {e : TypeId} {v : Value} {xs : List Value} {D : DataW Unit} {left : Lit → Bool} (h : w.ownsRow B e size v n xs) (hm : w.ranges Tryz.prog 3 rectE bM rI k D left cnt) : v.ownBlock = none ∨ v.ownBlock ≠ some rI := by
  rcases h.2 with ⟨rfl, _⟩ | ⟨g, cap, cur, rfl, _, hg, _⟩
  · exact .inl rfl
  · right
    intro he
    obtain ⟨es, c, s1, s2, s3, _, _, _, _, hb, _⟩ := hm
    have : g = rI := by simpa [Value.ownBlock] using he
    subst this
    rw [hg] at hb
    cases hb
theorem apart_ne {v : Value} {q : Nat} (h : v.ownBlock = none ∨ v.ownBlock ≠ some q) : some q ≠ v.ownBlock := by
  rcases h with h | h
  · rw [h]; simp
  · exact fun e => h e.symm
theorem box_cells {w : World} {B : Nat} (hB : w.heap.size = B) (a b c d : Value) (t : TypeId) : (w.alloc (.cells #[a, b, c, d] t)).cell? ⟨B, 0, none⟩ = some a ∧ (w.alloc (.cells #[a, b, c, d] t)).cell? ⟨B, 1, none⟩ = some b ∧ (w.alloc (.cells #[a, b, c, d] t)).cell? ⟨B, 2, none⟩ = some c ∧ (w.alloc (.cells #[a, b, c, d] t)).cell? ⟨B, 3, none⟩ = some d := by
  have h := news_new w [a, b, c, d] t B hB
  have h0 := h 0 a rfl
  have h1 := h 1 b rfl
  have h2 := h 2 c rfl
  have h3 := h 3 d rfl
  simp only [addr_add] at h0 h1 h2 h3
  exact ⟨h0, h1, h2, h3⟩
/-- The part that is being found, the map, and all else as it was at W. -/
structure PS (l : List R4) (W : World) (bM m : Nat) (P : List Nat) (kk : Nat) (v : Value) (D : DataW Unit) (wi : World) : Prop where
  grow : Grow l m P kk
  mp : Mp l (fun k => m ≤ mn l k ∧ k ∉ P) D
  size : P.length + Maps.size D ≤ l.length
  row : wi.ownsRow W.heap.size 69 4 v P.length ((left4 l P).flatMap encR)
  same : W.grownBy wi (some bM)
theorem PS.lt {l : List R4} {W wi : World} {bM m kk : Nat} {P : List Nat} {v : Value} {D : DataW Unit} (h : PS l W bM m P kk v D wi) (hm : m < l.length) : ∀ p ∈ P, p < l.length := fun p hp => (h.grow.1 p hp).lt hm
/-- What the range has left over so far is not beside p. -/
def Off (l : List R4) (p : Nat) (D : DataW Unit) (left : Lit → Bool) : Prop := ∀ n, n < l.length → Maps.has D (.int .i64 (n : Int)) = true → left (.int .i64 (n : Int)) = false → ¬ adj l p n
theorem Off.start (l : List R4) (p : Nat) (D : DataW Unit) : Off l p D (Maps.has D) := fun n _ h1 h2 => by rw [h1] at h2; cases h2
theorem same_false {k n : Nat} (h : k ≠ n) : (Lit.int .i64 (n : Int)).sameKey (.int .i64 (k : Int)) = false := sameKey_ne (key_ne (Ne.symm h))
theorem Off.stay {l : List R4} {p k : Nat} {D : DataW Unit} {left : Lit → Bool} (h : Off l p D left) (hn : ¬ adj l p k) : Off l p D (fun z => left z && !z.sameKey (.int .i64 (k : Int))) := fun n hn1 h1 h2 => by
  by_cases e : k = n
  · subst e; exact hn
  · refine h n hn1 h1 ?_
    simpa [same_false e] using h2
theorem Off.strike {l : List R4} {p k : Nat} {D : DataW Unit} {left : Lit → Bool} (h : Off l p D left) : Off l p (D.del (.int .i64 (k : Int))) (fun z => left z && !z.sameKey (.int .i64 (k : Int))) := fun n hn1 h1 h2 => by
  by_cases e : k = n
  · subst e; rw [has_del_same] at h1; cases h1
  · rw [has_del_other (key_ne (Ne.symm e))] at h1
    refine h n hn1 h1 ?_
    simpa [same_false e] using h2
theorem Off.done {l : List R4} {W wi : World} {bM m kk : Nat} {P : List Nat} {v : Value} {D : DataW Unit} {p : Nat} {left : Lit → Bool} (h : PS l W bM m P kk v D wi) (hm : mn l m = m) (hp : P[kk]? = some p) (ho : Off l p D left) (hl : ∀ kl, left kl = false) : PS l W bM m P (kk + 1) v D wi := by
  refine ⟨h.grow.next hp fun n ha => ?_, h.mp, h.size, h.row, h.same⟩
  by_cases hn : n ∈ P
  · exact hn
  · obtain ⟨_, y, _, hy, _⟩ := id ha
    have hlt := (List.getElem?_eq_some_iff.1 hy).1
    have hc := (h.grow.1 p (List.mem_of_getElem? hp)).step ha
    have hmn := mn_eq hc
    exact absurd ha (ho n hlt ((h.mp.is hlt).2 ⟨by omega, hn⟩) (hl _))

set_option maxRecDepth 100000 in
set_option maxHeartbeats 4000000 in
theorem parts_any {w : World} {v : Value} {l : List R4} (hr : RdK encR 4 w w.heap.size v l) (hl : l.length ≤ 100000000) :
    Calls Tryz.prog 52 #[v] w fun e w' => RegsRet w.heap.size (partsE l) e w' ∧ Below w.heap.size w w' := by
  obtain ⟨i2, fi, fz0, fz1, fz2⟩ := info_parts infoRg
  obtain ⟨i3, ki, kz0, kz1, kz2⟩ := info_parts infoRc
  have hck := check_any hr hl
  have hmm := @run_makeMap Tryz.prog
  have hR := hide hr
  obtain ⟨A0, c0, hv, hc⟩ := id hr
  subst hv
  have HCK := hide hck
  have HRC := hide hc
  clear hck hr hc
  by_cases h0 : checkF l = 0
  · obtain ⟨k1, k2, _⟩ := checkF_ok h0
    have HF : Hid (partsE l = (partsF l, 0)) := hide (if_pos h0)
    have HCAN := hide (check_rcan h0)
    have HV := hide k2
    rw [h0] at HCK
    clear k2 h0
    go_enter Tryz.func52, Tryz.ntmps52
    go_wp2_with (go_at_call 68; refine HCK.out.mono ?_; rintro e w1 ⟨rfl, hb1⟩)
    obtain ⟨bM, hbM⟩ : ∃ bM, bM = w1.heap.size := ⟨_, rfl⟩
    have hbw : w.heap.size ≤ bM := by rw [hbM]; exact hb1.size
    have hM0 : ownsM bM 0 (.map []) (w1.alloc (.map #[] 0)) := by rw [hbM]; exact World.ownsMap_made _ _ _ _
    have hB0 : Below w.heap.size w (w1.alloc (.map #[] 0)) := hb1.alloc hb1.size _
    rw [← hbM]
    have HM0 := hide hM0
    have HB0 := hide hB0
    have HP0 := hide (Mp.start l)
    clear hbM hb1 hM0 hB0 hmm
    go_loopw [27] (fun i wr => ∃ m : Nat, m ≤ l.length ∧ i = .int .i64 m ∧ ∃ D, Hid (ownsM bM m D wr) ∧ Hid (Mp l (fun k => k < m) D) ∧ Hid (Below w.heap.size w wr)) (fun i _ => l.length - (intOf i).toNat)
    case atStart => exact ⟨0, Nat.zero_le _, rfl, _, HM0, HP0, HB0⟩
    case round =>
      clear HM0 HP0 HB0
      obtain ⟨m, hm, rfl, D, HM, HP, HB⟩ := hrel
      by_cases hlt : m < l.length
      · have mz : (m : Int) < (l.length : Int) := by omega
        obtain ⟨⟨p0, p1, p2, p3⟩, hp⟩ : ∃ p, l[m]? = some p := ⟨_, List.getElem?_eq_getElem hlt⟩
        obtain ⟨b, o, rfl, hbl, k⟩ := HRC.out (by intro e; rw [e] at hlt; simp at hlt)
        obtain ⟨d0, d1, d2, d3⟩ := rects_at k (fun q => HB.out.cell (p := ⟨b, q, none⟩) hbl) hp
        have hsz := HB.out.size
        have hbw2 : b < wr.heap.size := by omega
        have HPP := hide hp
        clear k hp
        go_wp2_with (at_mapUpdate; go_loud (refine wpList_mapUpdate_own _ rfl _ _ _ 152 rfl 3 69 lawI Tryz.underlying152 rectE bM m D rfl (World.ownsMap.alloc HM.out _) (by unfold maxLen; omega) _ _ _ rfl rfl (keyOf_int_mk Tryz.underlying3 (WalkArith.wf_i64 (by omega))) _ [] (rectE_mk4 p0 p1 p2 p3) ?_))
        intro w2 hown2 hgrow2
        have HM2 := hide hown2
        have HP2 := hide (HP.out.put HM.out.isMap HPP.out)
        have HB2 := hide ((HB.out.alloc hsz _).grown hgrow2 (by simp; omega) (fun q hq => by cases hq; exact hbw))
        clear hown2 hgrow2
        go_wp2
        go_roundw
        case rel => exact ⟨m + 1, by omega, by go_num, _, HM2, HP2, HB2⟩
        case measure => simp [intOf]; omega
      · have mz : ¬ (m : Int) < (l.length : Int) := by omega
        obtain rfl : m = l.length := by omega
        have HP0 := hide (show Mp l (fun k => 0 ≤ mn l k) D from HP.out.iff fun k hk => ⟨fun _ => Nat.zero_le _, fun _ => hk⟩)
        have HM0 := HM
        have HB0 := HB
        clear HP HM HB mz
        go_wp2
        go_loopw [8, 38] (fun v i wr => ∃ m : Nat, m ≤ l.length ∧ i = .int .i64 m ∧ ∃ Ao no co, v = .slice Ao no co ∧ Hid (no = (partsP l m).length) ∧ Hid (Regs w (.slice Ao no co) (partsP l m) wr) ∧ ∃ D, Hid (ownsM bM l.length D wr) ∧ Hid (Mp l (fun k => m ≤ mn l k) D)) (fun _ i _ => l.length - (intOf i).toNat)
        case atStart => exact ⟨0, Nat.zero_le _, rfl, none, 0, 0, rfl, hide rfl, hide ⟨HB0.out, [], World.ownsRow_nil _ _ _ _, fun i r h => by simp [partsP] at h⟩, D, HM0, HP0⟩
        case round =>
          clear HP0 HM0 HB0
          obtain ⟨m, hm, rfl, Ao, no, co, rfl, HN, HRG, D, HM, HP⟩ := hrel
          by_cases hlt : m < l.length
          · have mz : (m : Int) < (l.length : Int) := by omega
            obtain ⟨⟨p0, p1, p2, p3⟩, hp⟩ : ∃ p, l[m]? = some p := ⟨_, List.getElem?_eq_getElem hlt⟩
            obtain ⟨b, o, rfl, hbl, k⟩ := HRC.out (by intro e; rw [e] at hlt; simp at hlt)
            obtain ⟨d0, d1, d2, d3⟩ := rects_at k (fun q => HRG.out.low.cell (p := ⟨b, q, none⟩) hbl) hp
            have hsz := HRG.out.low.size
            have hbw2 : b < wr.heap.size := by omega
            have HPP := hide hp
            clear k hp
            by_cases hmn : mn l m = m
            · have HAS := hide (show Maps.has D (.int .i64 (m : Int)) = true from (HP.out.is hlt).2 (by omega))
              have HMN := hide hmn
              clear hmn
              go_wp2_with (first
                | (at_lookup; go_loud (refine wpList_look_rect rfl _ _ rfl bM l.length D rfl (World.ownsMap.alloc HM.out _) (m : Int) rfl (by omega) true HAS.out ?_); intro rr; obtain ⟨rr0, rr1, rr2, rr3⟩ := rr)
                | (at_delete; go_loud (refine wpList_delete_own _ rfl _ _ 152 3 rfl 69 lawI Tryz.underlying152 rectE bM l.length D rfl (World.ownsMap.alloc (World.ownsMap.alloc HM.out _) _) _ _ rfl (keyOf_int_mk Tryz.underlying3 (WalkArith.wf_i64 (by omega))) ?_)))
              intro w4 hown4 hturn4
              have HM4 := hide hown4
              have hmlt := HM.out.lt
              obtain ⟨xb0, xb1, xb2, xb3⟩ := box_cells (w := wr) rfl (.int .i64 p0) (.int .i64 p1) (.int .i64 p2) (.int .i64 p3) 69
              have hxk : ∀ q, w4.cell? ⟨wr.heap.size, q, none⟩ = (wr.alloc (.cells #[.int .i64 p0, .int .i64 p1, .int .i64 p2, .int .i64 p3] 69)).cell? ⟨wr.heap.size, q, none⟩ := fun q =>
                (World.cell?_of_block (hturn4.grown.block wr.heap.size (by simp; omega) (by simp; omega))).trans (World.cell?_alloc_lt (wr.alloc _) _ ⟨wr.heap.size, q, none⟩ (by simp))
              have x0 := (hxk 0).trans xb0
              have x1 := (hxk 1).trans xb1
              have x2 := (hxk 2).trans xb2
              have x3 := (hxk 3).trans xb3
              have hs4 : wr.heap.size + 2 ≤ w4.heap.size := by have := hturn4.grown.size; simp at this; omega
              have HRG4 := hide (((HRG.out.below (((Below.refl _ _).alloc (Nat.le_refl _) _).alloc (by simp) _)).but (World.ownsMap.alloc (World.ownsMap.alloc HM.out _) _) hturn4.grown hbw))
              have hrow : (w4.alloc (.cells #[.int .i64 p0, .int .i64 p1, .int .i64 p2, .int .i64 p3] 69)).ownsRow w4.heap.size 69 4 (.slice (some ⟨w4.heap.size, 0, none⟩) 1 1) 1 (encR ⟨p0, p1, p2, p3⟩) :=
                ⟨rfl, .inr ⟨w4.heap.size, 1, _, rfl, Nat.le_refl _, World.alloc_heap_new _ _, Nat.le_refl _, by simp [maxLen], rfl, rfl⟩⟩
              have hl4 : left4 l [m] = [⟨p0, p1, p2, p3⟩] := by simp [left4, HPP.out]
              have HPS := hide (show PS l w4 bM m [m] 0 (.slice (some ⟨w4.heap.size, 0, none⟩) 1 1) (D.del (.int .i64 (m : Int))) (w4.alloc (.cells #[.int .i64 p0, .int .i64 p1, .int .i64 p2, .int .i64 p3] 69)) from by
                refine ⟨Grow.start l m, HP.out.del.iff (fun k _ => by simp), ?_, ?_, (World.grownBy_alloc _ _ _)⟩
                · have h1 := size_del (k := .int .i64 (m : Int)) (HM.out.tidy lawI)
                  rw [if_pos HAS.out] at h1
                  have h2 := HM.out.size_le
                  simp only [List.length_singleton]
                  omega
                · rw [hl4]
                  simpa using hrow)
              have HM5 := hide (World.ownsMap.alloc HM4.out (.cells #[.int .i64 p0, .int .i64 p1, .int .i64 p2, .int .i64 p3] 69))
              have hbM4 : bM < w4.heap.size := HM4.out.lt
              clear hown4 hturn4 xb0 xb1 xb2 xb3 hxk hrow hl4 hmlt HM HP HAS HRG d0 d1 d2 d3
              go_wp2
              go_loopw [13, 14] (fun v q wi => ∃ (kk : Nat) (P : List Nat), kk ≤ P.length ∧ q = .int .i64 kk ∧ ∃ Ap cp, v = .slice Ap P.length cp ∧ ∃ D, Hid (ownsM bM l.length D wi) ∧ Hid (PS l w4 bM m P kk (.slice Ap P.length cp) D wi)) (fun _ q _ => l.length - (intOf q).toNat)
              case atStart => exact ⟨0, [m], by simp, rfl, _, _, rfl, _, HM5, HPS⟩
              case round =>
                clear HM5 HPS x0 x1 x2 x3
                obtain ⟨kk, P, hkP, rfl, Ap, cp, rfl, D, HM, HPS⟩ := hrel
                by_cases hkk : kk < P.length
                · have kz : (kk : Int) < (P.length : Int) := by omega
                  obtain ⟨p, hp⟩ : ∃ p, P[kk]? = some p := ⟨_, List.getElem?_eq_getElem hkk⟩
                  have hpl := HPS.out.lt hlt p (List.mem_of_getElem? hp)
                  have hkl : kk < l.length := by have := HPS.out.size; omega
                  obtain ⟨⟨a0, a1, a2, a3⟩, ha⟩ : ∃ r, l[p]? = some r := ⟨_, List.getElem?_eq_getElem hpl⟩
                  have HPK := hide hp
                  have HPA := hide ha
                  obtain ⟨rI, hrI⟩ : ∃ rI, rI = wr.heap.size := ⟨_, rfl⟩
                  have hrI4 : w4.heap.size ≤ rI := by rw [hrI]; exact HPS.out.same.size
                  clear hp ha
                  go_wp2_with (at_range; go_loud (refine wpList_range_own _ rfl _ 152 rfl 3 69 lawI Tryz.underlying152 rectE bM l.length D rfl HM.out ?_); intro w0 hrg0 hg0 hs0)
                  rw [← hrI] at hrg0 ⊢
                  have HRR := hide hrg0
                  have HPS0 := hide (show PS l w4 bM m P kk (.slice Ap P.length cp) D w0 from ⟨HPS.out.grow, HPS.out.mp, HPS.out.size, HPS.out.row.kept hg0 (Classical.em _), HPS.out.same.andThen hg0 (fun q hq => by cases hq)⟩)
                  have HOF := hide (Off.start l p D)
                  clear hrg0 hg0 hs0 hrI
                  go_frame
                  go_loopw [13] (fun v wi => ∃ P, Hid (P[kk]? = some p) ∧ kk < P.length ∧ ∃ Ap cp, v = .slice Ap P.length cp ∧ ∃ D left cnt, Hid (wi.ranges Tryz.prog 3 rectE bM rI l.length D left cnt) ∧ Hid (PS l w4 bM m P kk (.slice Ap P.length cp) D wi) ∧ Hid (Off l p D left)) (fun _ wi => wi.rangeLeft bM rI)
                  case atStart => exact ⟨P, HPK, hkk, Ap, cp, rfl, D, _, _, HRR, HPS0, HOF⟩
                  case round =>
                    clear HRR HPS0 HOF HPS HM HPK kz
                    obtain ⟨P, HPK, hkk, Ap, cp, rfl, D, left, cnt, HRR, HPS, HOF⟩ := hrel
                    have kz : (kk : Int) < (P.length : Int) := by omega
                    go_wp2_with (at_next; go_loud (refine wpList_next_rect rfl _ rfl bM rI l.length D left cnt rfl HRR.out HPS.out.mp ?_ ?_))
                    · intro hl0
                      have HPS9 := hide (HOF.out.done HPS.out HMN.out HPK.out hl0)
                      have HM9 := hide HRR.out.owns
                      clear hl0
                      go_wp2
                      go_roundw
                      case rel => exact ⟨kk + 1, P, by omega, by go_num, Ap, cp, rfl, D, HM9, HPS9⟩
                      case measure => simp [intOf]; omega
                    · intro k q0 q1 q2 q3 w5 cnt5 hk hS1 hS2 hlk hrg5 hlt5 hg5 hs5 hen
                      have HK := hide hk
                      have HKS := hide (show m ≤ mn l k ∧ k ∉ P from ⟨hS1, hS2⟩)
                      have hkl : k < l.length := (List.getElem?_eq_some_iff.1 hk).1
                      have HKH := hide ((HPS.out.mp.is hkl).2 ⟨hS1, hS2⟩)
                      have hap := own_ranges_apart HPS.out.row HRR.out
                      have HPS5 := hide (show PS l w4 bM m P kk (.slice Ap P.length cp) D w5 from ⟨HPS.out.grow, HPS.out.mp, HPS.out.size, HPS.out.row.kept hg5 hap, HPS.out.same.andThen hg5 (fun q hq => by cases hq; exact .inl hrI4)⟩)
                      have hpls := HPS5.out.lt hlt
                      obtain ⟨g, cpg, hvg, hBg, hgg⟩ := HPS5.out.row.form (by omega)
                      injection hvg with e1 _ e3
                      subst e1; subst e3
                      have hat := left4_at hpls HPK.out HPA.out
                      have hgw : g < w5.heap.size := (HPS5.out.row.lt g rfl).2
                      have hc5 : ∀ i u, (encR ⟨a0, a1, a2, a3⟩)[i]? = some u → w5.cell? ⟨g, kk * 4 + i, none⟩ = some u := fun i u hu => by
                        have := (HPS5.out.row.cells (g := g) rfl) _ _ (flat_get (k := 4) (fun _ => rfl) _ kk _ i u hat hu)
                        rwa [addr_add] at this
                      have HC5 := hide hc5
                      have HRG5 := hide hrg5
                      have HLT5 := hide hlt5
                      have HG5 := hide hg5
                      have hva := HV.out _ (List.mem_of_getElem? HPA.out)
                      have hvk := HV.out _ (List.mem_of_getElem? hk)
                      have hbs := fun W => beside_any ⟨a0, a1, a2, a3⟩ ⟨q0, q1, q2, q3⟩ (valid_mid hva) (valid_mid hvk) W
                      simp only [encR] at hbs
                      have HADJ : Hid (bsd ⟨a0, a1, a2, a3⟩ ⟨q0, q1, q2, q3⟩ = true ↔ adj l p k) := hide (by
                        constructor
                        · exact fun h => ⟨_, _, HPA.out, hk, h⟩
                        · rintro ⟨u, v, h1, h2, h3⟩
                          rw [HPA.out] at h1; rw [hk] at h2
                          injection h1 with h1; injection h2 with h2
                          subst h1; subst h2
                          exact h3)
                      have hkz : (0 : Int) ≤ (kk : Int) := by omega
                      have hk400 : k ≤ 400 := by omega
                      clear hk hS1 hS2 hlk hrg5 hlt5 hg5 hs5 hap hpls hat hc5 hva hvk
                      go_wp2
                      refine wp_name fun w6 hw6 => ?_
                      have hsz6 : w5.heap.size < w6.heap.size := by rw [hw6]; simp
                      obtain ⟨b0, b1, b2, b3⟩ := box_cells (w := w5) rfl (.int .i64 q0) (.int .i64 q1) (.int .i64 q2) (.int .i64 q3) 69
                      rw [← hw6] at b0 b1 b2 b3
                      have c6 : ∀ i u, (encR ⟨a0, a1, a2, a3⟩)[i]? = some u → w6.cell? ⟨g, kk * 4 + i, none⟩ = some u := fun i u hu => by rw [hw6]; exact (World.cell?_alloc_lt w5 _ ⟨g, kk * 4 + i, none⟩ hgw).trans (HC5.out i u hu)
                      have c0 : w6.cell? ⟨g, kk * 4, none⟩ = some (.int .i64 a0) := c6 0 _ rfl
                      have c1 : w6.cell? ⟨g, kk * 4 + 1, none⟩ = some (.int .i64 a1) := c6 1 _ rfl
                      have c2 : w6.cell? ⟨g, kk * 4 + 2, none⟩ = some (.int .i64 a2) := c6 2 _ rfl
                      have c3 : w6.cell? ⟨g, kk * 4 + 3, none⟩ = some (.int .i64 a3) := c6 3 _ rfl
                      have HRG6 := hide (show w6.ranges Tryz.prog 3 rectE bM rI l.length D (fun z => left z && !z.sameKey (.int .i64 (k : Int))) cnt5 by rw [hw6]; exact HRG5.out.alloc _)
                      have HPS6 := hide (show PS l w4 bM m P kk (.slice (some ⟨g, 0, none⟩) P.length cp) D w6 by rw [hw6]; exact ⟨HPS5.out.grow, HPS5.out.mp, HPS5.out.size, World.ownsRow.alloc HPS5.out.row _, HPS5.out.same.andThen (World.grownBy_alloc _ _ none) (fun q hq => by cases hq)⟩)
                      have hg6 : g < w6.heap.size := by omega
                      clear hw6 c6
                      cases hbd : bsd ⟨a0, a1, a2, a3⟩ ⟨q0, q1, q2, q3⟩ with
                      | true =>
                        rw [hbd] at hbs
                        have HBS := hide hbs
                        have HA := hide (HADJ.out.1 hbd)
                        clear hbs hbd
                        refine wp_hab fun hab => ?_
                        refine wp_region_above (by kernel_rfl) (by kernel_rfl) ?_
                        repeat (go_big_quiet_step ((go_at_call 98; exact above_of (HBS.out _))))
                        refine wpQuiet_nil ?_
                        refine above_ends fun w7 hb7 => ?_
                        clear hab c0 c1 c2 c3
                        have j0 := (hb7.cell (p := ⟨w5.heap.size, 0, none⟩) hsz6).trans b0
                        have j1 := (hb7.cell (p := ⟨w5.heap.size, 1, none⟩) hsz6).trans b1
                        have j2 := (hb7.cell (p := ⟨w5.heap.size, 2, none⟩) hsz6).trans b2
                        have j3 := (hb7.cell (p := ⟨w5.heap.size, 3, none⟩) hsz6).trans b3
                        have HRG7 := hide (HRG6.out.kept (below_grown hb7) (by simp) (by simp))
                        have HPS7 := hide (show PS l w4 bM m P kk (.slice (some ⟨g, 0, none⟩) P.length cp) D w7 from ⟨HPS6.out.grow, HPS6.out.mp, HPS6.out.size, own_below HPS6.out.row hb7, HPS6.out.same.andThen (below_grown hb7) (fun q hq => by cases hq)⟩)
                        have hs7 := hb7.size
                        have hP4 : P.length ≤ 400 := by have := HPS7.out.size; omega
                        have h47 := HPS7.out.same.size
                        have HLL := hide (left4_snoc (P := P) HK.out)
                        clear b0 b1 b2 b3 hb7
                        go_wp2_with (first
                          | (at_builtin; go_loud (refine wpList_append_lies _ rfl (.tmp 74) (.tmp 76) 26 rfl w4.heap.size 69 i3 (.agg #[.int .i64 0, .int .i64 0, .int .i64 0, .int .i64 0]) 4 32 Tryz.underlying26 ki kz0 kz1 kz2 rfl (by decide) _ P.length _ rfl (World.ownsRow.alloc HPS7.out.row _) ⟨w7.heap.size, 0, none⟩ 1 1 [.int .i64 q0, .int .i64 q1, .int .i64 q2, .int .i64 q3] rfl rfl (news_new w7 _ _ _ rfl) (ints_one rfl) (by omega) (by unfold maxLen; omega) (by omega) (by simp; omega) _ rfl ?_))
                          | (at_delete; go_loud (refine wpList_delete_ranges _ rfl _ _ 152 3 rfl 69 lawI Tryz.underlying152 rectE bM rI l.length D _ _ rfl HRG9.out _ _ rfl (keyOf_int_mk Tryz.underlying3 (WalkArith.wf_i64 (by omega))) ?_)))
                        intro g9 cap9 w9 hown9 hgrow9 _ _
                        have hx9 : (left4 l P).flatMap encR ++ [.int .i64 q0, .int .i64 q1, .int .i64 q2, .int .i64 q3] = (left4 l (P ++ [k])).flatMap encR := by rw [HLL.out, List.flatMap_append]; rfl
                        rw [hx9] at hown9
                        have HO9 := hide hown9
                        have HRG9 := hide ((HRG7.out.alloc (.cells #[.int .i64 q0, .int .i64 q1, .int .i64 q2, .int .i64 q3] 69)).kept hgrow9 (apart_ne (own_map_apart HPS7.out.row HRG7.out.owns)) (apart_ne (own_ranges_apart HPS7.out.row HRG7.out)))
                        have HSM9 := hide ((HPS7.out.same.andThen (World.grownBy_alloc _ (.cells #[.int .i64 q0, .int .i64 q1, .int .i64 q2, .int .i64 q3] 69) none) (fun q hq => by cases hq)).andThen hgrow9 (fun q hq => .inl (HPS7.out.row.lt q hq).1))
                        clear hown9 hgrow9 hx9 j0 j1 j2 j3
                        go_wp2_with (at_delete; go_loud (refine wpList_delete_ranges _ rfl _ _ 152 3 rfl 69 lawI Tryz.underlying152 rectE bM rI l.length D _ _ rfl HRG9.out _ _ rfl (keyOf_int_mk Tryz.underlying3 (WalkArith.wf_i64 (by omega))) ?_))
                        intro w10 cnt10 hrg10 hle10 hturn10
                        have HRG10 := hide hrg10
                        have HPS10 := hide (show PS l w4 bM m (P ++ [k]) kk (.slice (some ⟨g9, 0, none⟩) (P.length + 1) cap9) (D.del (.int .i64 (k : Int))) w10 from by
                          refine ⟨HPS7.out.grow.push (Nat.le_of_lt hkk) (List.mem_of_getElem? HPK.out) HA.out, HPS7.out.mp.del.iff (fun n _ => by simp only [List.mem_append, List.mem_singleton, not_or, and_assoc]), ?_, ?_, HSM9.out.andThen hturn10.grown (fun q hq => .inr hq)⟩
                          · have h1 := size_del (k := .int .i64 (k : Int)) (HRG7.out.owns.tidy lawI)
                            rw [if_pos HKH.out] at h1
                            have h2 := HPS7.out.size
                            simp only [List.length_append, List.length_singleton]
                            omega
                          · rw [List.length_append]
                            exact HO9.out.kept hturn10.grown (own_map_apart HO9.out HRG9.out.owns))
                        have HOF10 := hide (HOF.out.strike (k := k))
                        have HPK10 := hide (show (P ++ [k])[kk]? = some p by rw [List.getElem?_append_left hkk]; exact HPK.out)
                        have hle := Nat.lt_of_le_of_lt hle10 HLT5.out
                        have HLE := hide hle
                        have e10 : P.length + 1 = (P ++ [k]).length := by simp
                        have HE10 := hide e10
                        clear hrg10 hle10 hturn10 hle e10
                        go_wp2
                        go_roundw
                        case rel => exact ⟨P ++ [k], HPK10, by rw [← HE10.out]; omega, _, cap9, by rw [← HE10.out], _, _, cnt10, HRG10, by rw [← HE10.out]; exact HPS10, HOF10⟩
                        case measure => rw [HRG10.out.left_eq, HRR.out.left_eq]; exact HLE.out
                      | false =>
                        rw [hbd] at hbs
                        have HBS := hide hbs
                        have HA := hide (fun h => Bool.false_ne_true (hbd.symm.trans (HADJ.out.2 h)))
                        clear hbs hbd
                        refine wp_hab fun hab => ?_
                        refine wp_region_above (by kernel_rfl) (by kernel_rfl) ?_
                        repeat (go_big_quiet_step ((go_at_call 98; exact above_of (HBS.out _))))
                        refine wpQuiet_nil ?_
                        refine above_ends fun w7 hb7 => ?_
                        clear hab c0 c1 c2 c3 b0 b1 b2 b3
                        have HRG7 := hide (HRG6.out.kept (below_grown hb7) (by simp) (by simp))
                        have HPS7 := hide (show PS l w4 bM m P kk (.slice (some ⟨g, 0, none⟩) P.length cp) D w7 from ⟨HPS6.out.grow, HPS6.out.mp, HPS6.out.size, own_below HPS6.out.row hb7, HPS6.out.same.andThen (below_grown hb7) (fun q hq => by cases hq)⟩)
                        have HOF7 := hide (HOF.out.stay HA.out)
                        clear hb7
                        go_wp2
                        go_roundw
                        case rel => exact ⟨P, HPK, hkk, _, cp, rfl, D, _, cnt5, HRG7, HPS7, HOF7⟩
                        case measure => rw [HRG7.out.left_eq, HRR.out.left_eq]; exact HLT5.out
                · have kz : ¬ (kk : Int) < (P.length : Int) := by omega
                  have hpls := HPS.out.lt hlt
                  have hlen := left4_len hpls
                  have hP4 : P.length ≤ 400 := by have := HPS.out.size; omega
                  have hvl : ∀ r ∈ left4 l P, valid4 r := fun r hr => by
                    obtain ⟨i, _, hr⟩ := List.mem_filterMap.1 hr
                    exact HV.out r (List.mem_of_getElem? hr)
                  have hmd := made_any (w := wr) (own_rd (own_n HPS.out.row hlen.symm) (fun _ => rfl)) (by omega) hvl
                  rw [grow_made HCAN.out (fun r hr => by have := HV.out r hr; exact ⟨this.1, this.2.1⟩) k1 HPS.out.grow (by omega) HMN.out] at hmd
                  have HMD := hide hmd
                  have HPI := hide (partsP_in HMN.out)
                  have hJL := Nat.le_trans (sub_count HCAN.out (fun r hr => by have := HV.out r hr; exact ⟨this.1, this.2.1⟩) (compL_sub l m)) (compL_sub l m).length_le
                  have HREST := hide (HPS.out.mp.iff fun k _ => grow_rest HPS.out.grow (by omega) HMN.out k)
                  have HRGi := hide (HRG4.out.but HM4.out HPS.out.same hbw)
                  generalize rjoin hFst (compL l m) [] = J at *
                  clear hmd hvl hpls hlen
                  obtain ⟨low, vs, g1, g2⟩ := HRGi.out
                  have HLOW := hide low
                  have HG1 := hide g1
                  have HG2 := hide g2
                  have hno : no ≤ 400 := by have := HN.out; have := partsP_len l m; omega
                  have hlow := low.size
                  clear low g1 g2
                  go_wp2_with (first
                    | (go_at_call 93; refine HMD.out.mono ?_; rintro e w5 ⟨⟨Aj, cj, rfl, ho⟩, hb5⟩; have HJ := hide (own_base ho hlow); have HB5 := hide hb5; clear ho hb5; have hs5 := HB5.out.size)
                    | (at_builtin; go_loud (refine wpList_append_lies _ rfl (.tmp 85) (.tmp 87) 35 rfl w.heap.size 27 i2 (.slice none 0 0) 1 24 Tryz.underlying35 fi fz0 fz1 fz2 rfl (by decide) _ no _ rfl (World.ownsRow.alloc (own_below (own_n HG1.out HN.out.symm) HB5.out) _) ⟨w5.heap.size, 0, none⟩ 1 1 [.slice Aj J.length cj] rfl rfl (news_new w5 _ _ _ rfl) (by intro u hu; rw [List.mem_singleton] at hu; subst hu; rfl) (by omega) (by unfold maxLen; omega) (by omega) (by simp; omega) _ rfl ?_)))
                  intro g9 cap9 w9 hown9 hgrow9 _ _
                  have hpush := Regs.push (w := w) ((HLOW.out.trans (HB5.out.mono hlow)).alloc (Nat.le_trans hlow hs5) _) (World.ownsRow.alloc (own_below HG1.out HB5.out) _) (fun i r hi => by
                    obtain ⟨v, q1, q2⟩ := HG2.out i r hi
                    exact ⟨v, q1, World.ownsRow.alloc (own_below q2 HB5.out) _⟩) (World.ownsRow.alloc HJ.out _) hgrow9 (by rw [← HN.out]; exact hown9)
                  rw [← HPI.out] at hpush
                  have HRG9 := hide hpush
                  have HN9 := hide (show no + 1 = (partsP l (m + 1)).length by rw [HPI.out, List.length_append, ← HN.out]; rfl)
                  have hM5 := HM.out.kept (below_grown HB5.out) (by simp)
                  have HM9 := hide ((World.ownsMap.alloc hM5 (.cells #[.slice Aj J.length cj] 27)).kept hgrow9 (apart_ne (own_map_apart (own_below HG1.out HB5.out) hM5)))
                  clear hown9 hgrow9 hpush hM5
                  go_wp2
                  go_roundw
                  case rel => exact ⟨m + 1, by omega, by go_num, _, _, cap9, rfl, HN9, HRG9, D, HM9, HREST⟩
                  case measure => simp [intOf]; omega
            · have HAS := hide (show Maps.has D (.int .i64 (m : Int)) = false from by
                rw [← Bool.not_eq_true, HP.out.is hlt]
                have := mn_le l m
                omega)
              have HPP2 := hide (partsP_out hmn)
              have HP2 := hide (HP.out.iff fun k _ => rest_skip hmn k)
              clear hmn
              rw [← HPP2.out] at HN HRG
              go_wp2_with (at_lookup; go_loud (refine wpList_look_rect rfl _ _ rfl bM l.length D rfl (World.ownsMap.alloc HM.out _) (m : Int) rfl (by omega) false HAS.out ?_); intro rr; obtain ⟨rr0, rr1, rr2, rr3⟩ := rr)
              have HRG2 := hide (HRG.out.below (((Below.refl _ _).alloc (Nat.le_refl _) (.cells #[.int .i64 p0, .int .i64 p1, .int .i64 p2, .int .i64 p3] 69)).alloc (by simp) (.cells #[.int .i64 rr0, .int .i64 rr1, .int .i64 rr2, .int .i64 rr3] 69)))
              have HM2 := hide (World.ownsMap.alloc (World.ownsMap.alloc HM.out (.cells #[.int .i64 p0, .int .i64 p1, .int .i64 p2, .int .i64 p3] 69)) (.cells #[.int .i64 rr0, .int .i64 rr1, .int .i64 rr2, .int .i64 rr3] 69))
              go_roundw
              case rel => exact ⟨m + 1, by omega, by go_num, Ao, no, co, rfl, HN, HRG2, D, HM2, HP2⟩
              case measure => simp [intOf]; omega
          · have mz : ¬ (m : Int) < (l.length : Int) := by omega
            obtain rfl : m = l.length := by omega
            rw [partsP_all] at HN HRG
            go_wp2
            go_ret2
            obtain ⟨low, vs, h1, h2⟩ := HRG.out
            have hn := HN.out
            subst hn
            refine ⟨⟨Ao, co, vs, by rw [HF.out]; rfl, by rw [HF.out]; exact h1, ?_⟩, low⟩
            rw [HF.out]
            exact h2
  · have HF : Hid (partsE l = ([], checkF l)) := hide (if_neg h0)
    generalize checkF l = ck at *
    have hne : (ck != 0) = true := by simpa using h0
    clear h0
    go_enter Tryz.func52, Tryz.ntmps52
    go_wp2_with (go_at_call 68; refine HCK.out.mono ?_; rintro e w1 ⟨rfl, hb1⟩)
    have HB1 := hide hb1
    clear hb1
    go_ret2
    exact ⟨⟨none, 0, [], by rw [HF.out]; rfl, by rw [HF.out]; exact World.ownsRow_nil _ _ _ _, fun i r hi => by rw [HF.out] at hi; simp at hi⟩, HB1.out⟩
end Go.Proofs.YtdolpeljengpaaaGreat

/- block.Blocks: the walk. -/
namespace Go.Proofs.YtdolpeljengpaaaGreat
open Go.RowKit Go.Maps
set_option linter.unusedVariables false
set_option linter.unusedSimpArgs false

/-- What Blocks gives. -/
noncomputable def blkF (N : List Pt) (E : List Ei) (d : Int) (land : List R4) : List (List R4) × Int := if (strF N E d).2 ≠ 0 then ([], (strF N E d).2) else if (joinF hSub land (strF N E d).1).2 ≠ 0 then ([], (joinF hSub land (strF N E d).1).2) else partsE (joinF hSub land (strF N E d).1).1
theorem strF_len (N : List Pt) (E : List Ei) (d : Int) : (strF N E d).1.length ≤ 400 := by
  unfold strF
  split
  · simp
  · split
    · simp
    · split
      · simp
      · split
        · simp
        · exact makeF_len _
theorem regs_nil (B : Nat) (k : Int) (w : World) : RegsRet B ([], k) (.returned (.tuple #[.slice none 0 0, .int .i64 k])) w := ⟨none, 0, [], rfl, World.ownsRow_nil _ _ _ _, fun i r h => by simp at h⟩
set_option maxRecDepth 100000 in
set_option maxHeartbeats 8000000 in
theorem blocks_any {w : World} {nv ev va : Value} {N : List Pt} {E : List Ei} {d : Int} {land : List R4} (hn : RdK encS 2 w w.heap.size nv N) (he : RdK encS 2 w w.heap.size ev E) (ha : RdK encR 4 w w.heap.size va land) (na : land.length ≤ 100000000) :
    Calls Tryz.prog 13 #[.agg #[nv, ev], .int .i64 d, va] w fun e w' => RegsRet w.heap.size (blkF N E d land) e w' ∧ Below w.heap.size w w' := by
  have HN := hide hn
  have HE := hide he
  have HA := hide ha
  have HNA := hide na
  obtain ⟨An, cn, rfl, _⟩ := hn
  obtain ⟨Ae, ce, rfl, _⟩ := he
  obtain ⟨Aa, ca, rfl, _⟩ := ha
  have hb0 : Below w.heap.size w (w.alloc (.cells #[.slice An N.length cn, .slice Ae E.length ce] 25)) := (Below.refl _ _).alloc (Nat.le_refl _) _
  have HB0 := hide hb0
  clear hb0 na
  go_enter Tryz.func13, Tryz.ntmps13
  go_wp2_with (fail)
  refine (streets_any ((HN.out.below HB0.out).mono HB0.out.size) ((HE.out.below HB0.out).mono HB0.out.size)).mono ?_
  rintro e w1 ⟨⟨A1, c1, rfl, o1⟩, hb1⟩
  have HB1 := hide (HB0.out.trans (hb1.mono HB0.out.size))
  have HR1 := hide (own_rd o1 (fun _ => rfl))
  have HS := hide (strF_len N E d)
  have HF0 : Hid (blkF N E d land = if (strF N E d).2 ≠ 0 then ([], (strF N E d).2) else if (joinF hSub land (strF N E d).1).2 ≠ 0 then ([], (joinF hSub land (strF N E d).1).2) else partsE (joinF hSub land (strF N E d).1).1) := hide rfl
  clear o1 hb1
  generalize strF N E d = F at *
  by_cases h0 : F.2 = 0
  · have HF1 : Hid (blkF N E d land = if (joinF hSub land F.1).2 ≠ 0 then ([], (joinF hSub land F.1).2) else partsE (joinF hSub land F.1).1) := hide (by rw [HF0.out, if_neg (fun h => h h0)])
    rw [h0]
    clear HF0 h0
    go_wp2_with (fail)
    refine (minus_any ((HA.out.below HB1.out).mono HB1.out.size) HR1.out HNA.out (Nat.le_trans HS.out (by omega))).mono ?_
    rintro e w2 ⟨⟨A2, c2, rfl, o2⟩, hb2⟩
    have HB2 := hide (HB1.out.trans (hb2.mono HB1.out.size))
    have HR2 := hide (own_rd o2 (fun _ => rfl))
    have HJ := hide (joinF_len hSub land F.1)
    clear o2 hb2
    generalize joinF hSub land F.1 = J at *
    by_cases h1 : J.2 = 0
    · have HF2 : Hid (blkF N E d land = partsE J.1) := hide (by rw [HF1.out, if_neg (fun h => h h1)])
      rw [h1]
      clear HF1 h1
      go_wp2_with (fail)
      refine (parts_any HR2.out (Nat.le_trans HJ.out (by omega))).mono ?_
      rintro e w3 ⟨⟨A3, c3, vs, rfl, o3, k3⟩, hb3⟩
      have HB3 := hide (HB2.out.trans (hb3.mono HB2.out.size))
      have HO3 : Hid (RegsRet w.heap.size (blkF N E d land) (.returned (.tuple #[.slice A3 (partsE J.1).1.length c3, .int .i64 (partsE J.1).2])) w3) := hide (by
        rw [HF2.out]
        refine ⟨A3, c3, vs, rfl, own_base o3 HB2.out.size, fun i r h => ?_⟩
        obtain ⟨v, h1, h2⟩ := k3 i r h
        exact ⟨v, h1, own_base h2 HB2.out.size⟩)
      clear o3 k3 hb3
      generalize partsE J.1 = P at *
      go_wp2
      go_ret2
      exact ⟨HO3.out, HB3.out⟩
    · have hz : (J.2 != 0) = true := by simpa using h1
      have HF2 : Hid (blkF N E d land = ([], J.2)) := hide (by rw [HF1.out, if_pos h1])
      clear HF1 h1
      go_wp2
      go_ret2
      exact ⟨by rw [HF2.out]; exact regs_nil _ _ _, HB2.out⟩
  · have hz : (F.2 != 0) = true := by simpa using h0
    have HF1 : Hid (blkF N E d land = ([], F.2)) := hide (by rw [HF0.out, if_pos h0])
    clear HF0 h0
    go_wp2
    go_ret2
    exact ⟨by rw [HF1.out]; exact regs_nil _ _ _, HB1.out⟩
end Go.Proofs.YtdolpeljengpaaaGreat

/- Plain: who points where among the nodes of a network, and the first one of each part. -/
namespace Go.Proofs.YtdolpeljengpaaaGreat
set_option linter.unusedVariables false
set_option linter.unusedSimpArgs false

def fset (f : Nat → Option Nat) (b a : Nat) : Nat → Option Nat := fun i => if i = b then some a else f i
/-- What points somewhere points into its own part, and ever lower; what points nowhere is its part's label. -/
structure FOK (n : Nat) (f : Nat → Option Nat) (L : List Nat) (r : Nat → Nat) : Prop where
  rk : ∀ i j, i < n → f i = some j → j < n ∧ r j < r i ∧ lb L j = lb L i
  root : ∀ i, i < n → f i = none → lb L i = i
theorem FOK.start (n : Nat) : FOK n (fun _ => none) (List.range n) (fun _ => 0) :=
  ⟨fun i j _ h => by simp at h, fun i hi _ => by
    unfold lb
    rw [List.getD_eq_getElem?_getD, List.getElem?_range hi]
    rfl⟩
theorem FOK.step {n m : Nat} {f : Nat → Option Nat} {L : List Nat} {r : Nat → Nat} (h : FOK n f L r) (hc : CompOK n L m) {a b : Nat} (ha : a < n) (hb : b < n) (hne : lb L a ≠ lb L b) :
    FOK n (fset f (lb L b) (lb L a)) (joinLb L (lb L a) (lb L b)) (fun i => if lb L i = lb L b then r i + (r (lb L a) + 1) else r i) := by
  have hj : ∀ i, i < n → lb (joinLb L (lb L a) (lb L b)) i = if lb L i = lb L b then lb L a else lb L i := fun i hi => lb_join (by rw [hc.len]; exact hi)
  have la := hc.lt _ ha
  have lbb := hc.lt _ hb
  have ia := hc.idem _ ha
  have ib := hc.idem _ hb
  refine ⟨fun i j hi hf => ?_, fun i hi hf => ?_⟩
  · unfold fset at hf
    by_cases e : i = lb L b
    · rw [if_pos e] at hf
      injection hf with hf
      subst hf
      subst e
      refine ⟨la, ?_, ?_⟩
      · simp only [ia, ib, if_neg hne, if_true]
        omega
      · rw [hj _ la, hj _ hi, ia, ib, if_neg hne, if_pos rfl]
    · rw [if_neg e] at hf
      obtain ⟨h1, h2, h3⟩ := h.rk i j hi hf
      refine ⟨h1, ?_, ?_⟩
      · simp only [h3]
        split <;> omega
      · rw [hj _ h1, hj _ hi, h3]
  · unfold fset at hf
    by_cases e : i = lb L b
    · rw [if_pos e] at hf
      simp at hf
    · rw [if_neg e] at hf
      have := h.root i hi hf
      rw [hj _ hi, this, if_neg e]
/-- As many steps of the code's loop have been made: the labels and the number of parts. -/
def compI (n : Nat) (E : List Ed) (m : Nat) : List Nat × Nat := compF n (E.take m)
theorem compI_zero (n : Nat) (E : List Ed) : compI n E 0 = (List.range n, n) := by
  unfold compI compF
  simp
theorem compI_succ {n : Nat} {E : List Ed} {m : Nat} {e : Ed} (h : E[m]? = some e) : compI n E (m + 1) = compS (compI n E m) e := by
  unfold compI compF
  rw [List.take_add_one, h]
  simp
theorem compI_all (n : Nat) (E : List Ed) : compI n E E.length = compF n E := by
  unfold compI
  rw [List.take_length]
theorem compI_ok {n : Nat} {E : List Ed} (hE : ∀ e ∈ E, e.1 < n ∧ e.2 < n) (m : Nat) : CompOK n (compI n E m).1 (compI n E m).2 := comp_ok fun e he => hE e (List.mem_of_mem_take he)
end Go.Proofs.YtdolpeljengpaaaGreat

/- block.Parts, block.Loops: the walks. -/
namespace Go.Proofs.YtdolpeljengpaaaGreat
open Go.RowKit Go.Maps
set_option linter.unusedVariables false
set_option linter.unusedSimpArgs false

/-- Block b maps each node i that points somewhere to where it points. -/
def PM (b n : Nat) (f : Nat → Option Nat) (w : World) : Prop := ∃ D : DataW Unit, w.ownsMap Tryz.prog 3 (plainElem Tryz.prog 3) b n D ∧ ∀ k : Nat, Maps.has D (.int .i64 (k : Int)) = (f k).isSome ∧ D.atKey (.int .i64 (k : Int)) (.lit (.int .i64 0)) = .lit (.int .i64 (((f k).getD 0 : Nat) : Int))
theorem PM.made (w : World) : PM w.heap.size 0 (fun _ => none) (w.alloc (.map #[] 0)) := ⟨.map [], World.ownsMap_made w _ _ _, fun k => ⟨rfl, rfl⟩⟩
theorem PM.grown {b n : Nat} {f : Nat → Option Nat} {w w' : World} (h : PM b n f w) {row : Option Nat} (hg : w.grownBy w' row) (h1 : some b ≠ row) : PM b n f w' := by
  obtain ⟨D, d1, d2⟩ := h
  exact ⟨D, d1.kept hg h1, d2⟩
theorem PM.below {b n : Nat} {f : Nat → Option Nat} {w w' : World} (h : PM b n f w) (hb : Below w.heap.size w w') : PM b n f w' := h.grown (below_grow hb) (by simp)
theorem PM.lt {b n : Nat} {f : Nat → Option Nat} {w : World} (h : PM b n f w) : b < w.heap.size := by
  obtain ⟨D, d1, _⟩ := h
  exact d1.lt
theorem PM.look {b n : Nat} {f : Nat → Option Nat} {w : World} (h : PM b n f w) {k : Nat} (hk : k ≤ 1000000) : (Instr.lookup 105 (.map (some b)) (.int .i64 (k : Int)) true).run Tryz.prog w = .ok (.tuple #[.int .i64 (((f k).getD 0 : Nat) : Int), .bool (f k).isSome]) w := by
  obtain ⟨D, d1, d2⟩ := h
  obtain ⟨v, ps, hrun, hat⟩ := d1.look_ok lawIS Tryz.underlying105 (zeroI w) (plainElem_int Tryz.underlying3 (by decide)) (keyI (k := (k : Int)) (by unfold okK; omega))
  obtain ⟨c, rfl, hc, hwc⟩ := plainElem_int_inv Tryz.underlying3 hat
  simp only [Prod.mk.injEq] at hc
  obtain ⟨q1, q2⟩ := d2 k
  rw [q2] at hc
  rw [litInj hc.1, ← q1]
  exact hrun
theorem PM.store {b n : Nat} {f : Nat → Option Nat} {w : World} (h : PM b n f w) {k v : Nat} (hk : k ≤ 1000000) (hv : v ≤ 1000000) (hn : n < maxLen) :
    ∃ w', (Instr.mapUpdate 105 (.map (some b)) (.int .i64 (k : Int)) (.int .i64 (v : Int))).run Tryz.prog w = .ok () w' ∧ w.grownBy w' (some b) ∧ PM b (n + 1) (fset f k v) w' := by
  obtain ⟨D, d1, d2⟩ := h
  have hkk := keyI (k := (k : Int)) (by unfold okK; omega)
  obtain ⟨w', hrun, o3, g3⟩ := d1.update lawIS Tryz.underlying105 hn hkk (plainElem_int Tryz.underlying3 (WalkArith.wf_i64 (by omega)) (a := (v : Int)))
  refine ⟨w', hrun, g3, _, o3, fun k' => ?_⟩
  unfold fset
  by_cases e : k' = k
  · subst e
    simp only [if_true]
    rw [atKey_put_same d1.isMap (lawIS.key hkk), has_put_same d1.isMap (lawIS.key hkk)]
    exact ⟨rfl, rfl⟩
  · simp only [if_neg e]
    have hne : (Lit.int .i64 (k' : Int)) ≠ .int .i64 (k : Int) := fun e2 => by
      injection e2 with _ e2
      omega
    rw [atKey_put_other hne, has_put_other hne]
    exact d2 k'
set_option maxHeartbeats 4000000 in
theorem first35_any {w : World} {gT bT m n : Nat} {f : Nat → Option Nat} {L : List Nat} {r : Nat → Nat} (c0 : w.cell? ⟨gT, 0, none⟩ = some (.map (some bT))) (h : PM bT m f w) (hf : FOK n f L r) (hn : n ≤ 400) {i : Nat} (hi : i < n) :
    Calls Tryz.prog 57 #[.int .i64 (i : Int), .pointer (some ⟨gT, 0, none⟩)] w fun e w' => e = .returned (.int .i64 (lb L i : Int)) ∧ w = w' := by
  have HP := hide h
  have HF := hide hf
  clear h hf
  go_enter Tryz.func57, Tryz.ntmps57
  go_wp2
  go_loopw [0] (fun v wr => ∃ j : Nat, j < n ∧ v = .int .i64 (j : Int) ∧ Hid (lb L j = lb L i) ∧ wr = w) (fun v _ => r (intOf v).toNat)
  case atStart => exact ⟨i, hi, rfl, hide rfl, rfl⟩
  case round =>
    obtain ⟨j, hj, rfl, HL, rfl⟩ := hrel
    have lk := HP.out.look (k := j) (by omega)
    have HRK := hide (HF.out.rk j)
    have HRT := hide (HF.out.root j hj)
    cases hfj : f j with
    | none =>
      rw [hfj] at lk
      have hr := HRT.out hfj
      have HE : Hid ((lb L i : Int) = (j : Int)) := hide (by rw [← HL.out, hr])
      simp only [Option.getD_none, Option.isSome_none] at lk
      clear hfj hr
      go_wp2
      go_ret
      exact ⟨by rw [HE.out]; rfl, rfl⟩
    | some k =>
      rw [hfj] at lk
      obtain ⟨h1, h2, h3⟩ := HRK.out k hj hfj
      simp only [Option.getD_some, Option.isSome_some] at lk
      have HX := hide (And.intro h1 (And.intro h2 h3))
      clear hfj h1 h2 h3
      go_wp2
      go_roundw
      case rel => exact ⟨k, HX.out.1, rfl, hide (HX.out.2.2.trans HL.out), by first | rfl | trivial⟩
      case measure => simpa [intOf] using HX.out.2.1
/-- What Parts gives. -/
def prtF (N : List Pt) (E : List Ei) : Int × Int := if chkN N E = 0 then ((partsN (segsI N E) : Nat), 0) else (0, chkN N E)
/-- The state of the loop over the edges: the box of the network, the map behind its box. -/
structure Pst (w wr : World) (H m : Nat) (f : Nat → Option Nat) (ev : Value) : Prop where
  low : Below w.heap.size w wr
  c1 : wr.cell? ⟨w.heap.size, 1, none⟩ = some ev
  ct : wr.cell? ⟨H + 1, 0, none⟩ = some (.map (some H))
  pm : PM H m f wr
  lt : w.heap.size < H
  sz : H + 2 ≤ wr.heap.size
theorem Pst.below {w wr w' : World} {H m : Nat} {f : Nat → Option Nat} {ev : Value} (h : Pst w wr H m f ev) (hb : Below wr.heap.size wr w') : Pst w w' H m f ev := by
  have h1 := h.lt
  have h2 := h.sz
  exact ⟨h.low.trans (hb.mono h.low.size), (hb.cell (p := ⟨_, 1, none⟩) (by simp only; omega)).trans h.c1, (hb.cell (p := ⟨H + 1, 0, none⟩) (by simp only; omega)).trans h.ct, h.pm.below hb, h.lt, Nat.le_trans h2 hb.size⟩
theorem Pst.put {w wr : World} {H m : Nat} {f : Nat → Option Nat} {ev : Value} (h : Pst w wr H m f ev) {a b : Nat} (ha : a ≤ 1000000) (hb : b ≤ 1000000) (hm : m ≤ 1000000) :
    ∃ w', (Instr.mapUpdate 105 (.map (some H)) (.int .i64 (b : Int)) (.int .i64 (a : Int))).run Tryz.prog wr = .ok () w' ∧ Pst w w' H (m + 1) (fset f b a) ev := by
  obtain ⟨w', hrun, hg, hp⟩ := h.pm.store (k := b) (v := a) hb ha (by unfold maxLen; omega)
  have h1 := h.lt
  have h2 := h.sz
  have hs := hg.size
  refine ⟨w', hrun, h.low.grown hg h.low.size (fun q hq => by injection hq with hq; omega), (cell_grow hg (by omega) (fun e => by injection e with e; omega)).trans h.c1, (cell_grow hg (by omega) (fun e => by injection e with e; omega)).trans h.ct, hp, h.lt, by omega⟩
theorem Pst.start {w w1 : World} {ev : Value} (hb : Below w.heap.size w w1) (hlt : w.heap.size < w1.heap.size) (hc : w1.cell? ⟨w.heap.size, 1, none⟩ = some ev) {w2 : World} {t : TypeId} (hw : w2 = ((w1.alloc (.map #[] 0)).alloc (.cells #[.map (some w1.heap.size)] t))) : Pst w w2 w1.heap.size 0 (fun _ => none) ev := by
  have hb1 : Below w1.heap.size w1 w2 := by
    rw [hw]
    exact ((Below.refl _ _).alloc (Nat.le_refl _) _).alloc (by simp) _
  have e1 : (w1.alloc (.map #[] 0)).heap.size = w1.heap.size + 1 := by simp
  have hb2 : Below (w1.alloc (.map #[] 0)).heap.size (w1.alloc (.map #[] 0)) w2 := by
    rw [hw]
    exact (Below.refl _ _).alloc (Nat.le_refl _) _
  refine ⟨hb.trans (hb1.mono hb.size), (hb1.cell (p := ⟨w.heap.size, 1, none⟩) hlt).trans hc, ?_, (PM.made w1).below hb2, hlt, by rw [hw]; simp⟩
  rw [hw]
  simp [go_sem]
set_option maxRecDepth 100000 in
set_option maxHeartbeats 8000000 in
theorem parts35_any {w : World} {nv ev : Value} {N : List Pt} {E : List Ei} (hn : RdK encS 2 w w.heap.size nv N) (he : RdK encS 2 w w.heap.size ev E) :
    Calls Tryz.prog 15 #[.agg #[nv, ev]] w fun e w' => e = .returned (.tuple #[.int .i64 (prtF N E).1, .int .i64 (prtF N E).2]) ∧ Below w.heap.size w w' := by
  have HN := hide hn
  have HE := hide he
  obtain ⟨An, cn, rfl, _⟩ := hn
  obtain ⟨Ae, ce, rfl, hE⟩ := he
  have HER := hide hE
  clear hE
  have hmm := @run_makeMap Tryz.prog
  have hb0 : Below w.heap.size w (w.alloc (.cells #[.slice An N.length cn, .slice Ae E.length ce] 25)) := (Below.refl _ _).alloc (Nat.le_refl _) _
  have HB0 := hide hb0
  have x0 : (w.alloc (.cells #[.slice An N.length cn, .slice Ae E.length ce] 25)).cell? ⟨w.heap.size, 0, none⟩ = some (.slice An N.length cn) := by simp [go_sem]
  have x1 : (w.alloc (.cells #[.slice An N.length cn, .slice Ae E.length ce] 25)).cell? ⟨w.heap.size, 1, none⟩ = some (.slice Ae E.length ce) := by simp [go_sem]
  have HX := hide (And.intro x0 x1)
  have s0 : w.heap.size < (w.alloc (.cells #[.slice An N.length cn, .slice Ae E.length ce] 25)).heap.size := by simp
  have HS0 := hide s0
  clear hb0 x0 x1 s0
  go_enter Tryz.func15, Tryz.ntmps15
  go_wp2_with (fail)
  refine (Check_any ((HN.out.below HB0.out).mono HB0.out.size) ((HE.out.below HB0.out).mono HB0.out.size)).mono ?_
  rintro e w1 ⟨rfl, hb1⟩
  rw [chkC_eq]
  have HB1 := hide (HB0.out.trans (hb1.mono HB0.out.size))
  have k0 := (hb1.cell (p := ⟨w.heap.size, 0, none⟩) HS0.out).trans HX.out.1
  have k1 := (hb1.cell (p := ⟨w.heap.size, 1, none⟩) HS0.out).trans HX.out.2
  have hs1 : w.heap.size < w1.heap.size := Nat.lt_of_lt_of_le HS0.out hb1.size
  clear hb1
  have HPF : Hid (prtF N E = if chkN N E = 0 then (((partsN (segsI N E) : Nat) : Int), 0) else (0, chkN N E)) := hide rfl
  obtain ⟨r, hr⟩ : ∃ r, chkN N E = r := ⟨_, rfl⟩
  rw [hr] at HPF ⊢
  by_cases h0 : r = 0
  · subst h0
    obtain ⟨g1, g2, g3, g4, g5⟩ := chkN_ok hr
    rw [if_pos rfl] at HPF
    have hEE := (net_ok (segs_ok g3)).edges_lt
    obtain ⟨ED, hED⟩ : ∃ ED, edgesF (segsI N E) = ED := ⟨_, rfl⟩
    have HPV : Hid (prtF N E = ((((compF N.length ED).2 : Nat) : Int), 0)) := hide (by
      rw [HPF.out]
      show ((((compF (nodesF (segsI N E)).length (edgesF (segsI N E))).2 : Nat) : Int), (0 : Int)) = _
      rw [g4, hED])
    have hlt : ∀ e ∈ ED, e.1 < N.length ∧ e.2 < N.length := fun e he => by
      have := hEE e (by rw [← hED] at he; exact he)
      rwa [g4] at this
    have HLT := hide hlt
    have HEQ : Hid (E = edI ED) := hide (by rw [← hED]; exact g5.symm)
    have HNL := hide (And.intro g1 g2)
    clear hr HPF g1 g2 g3 g4 g5 hEE hED hlt HN HE
    go_upto_region 6 with fail
    refine wp_name fun w2 hw2 => ?_
    have HS2 := hide (Pst.start HB1.out hs1 k1 hw2)
    have k0' : w2.cell? ⟨w.heap.size, 0, none⟩ = some (.slice An N.length cn) := ((show Below w1.heap.size w1 w2 by rw [hw2]; exact ((Below.refl _ _).alloc (Nat.le_refl _) _).alloc (by simp) _).cell (p := ⟨w.heap.size, 0, none⟩) hs1).trans k0
    have k1' := HS2.out.c1
    clear hw2 k0 k1 HB0 HB1 HX HS0 hmm
    go_wp2_with (fail)
    clear k0' k1'
    go_loopw [7, 24] (fun c i wr => ∃ m : Nat, m ≤ E.length ∧ i = .int .i64 (m : Int) ∧ c = .int .i64 ((compI N.length ED m).2 : Int) ∧ Hid (∃ f r, FOK N.length f (compI N.length ED m).1 r ∧ ∃ q, q ≤ m ∧ Pst w wr w1.heap.size q f (.slice Ae E.length ce))) (fun _ i _ => E.length - (intOf i).toNat)
    case atStart => exact ⟨0, Nat.zero_le _, rfl, by rw [compI_zero], hide ⟨_, _, by rw [compI_zero]; exact FOK.start _, 0, Nat.le_refl _, HS2.out⟩⟩
    case round =>
      clear HS2
      obtain ⟨m, hm, rfl, rfl, HH⟩ := hrel
      by_cases hlt : m < E.length
      · have mz : (m : Int) < (E.length : Int) := by omega
        obtain ⟨f, r, hf, q, hq, hst⟩ := HH.out
        have hlen : ED.length = E.length := by rw [HEQ.out]; unfold edI; simp
        obtain ⟨⟨a, b⟩, hab⟩ : ∃ e, ED[m]? = some e := ⟨_, List.getElem?_eq_getElem (by omega)⟩
        have hsE : E[m]? = some ((a : Int), (b : Int)) := by rw [HEQ.out]; unfold edI; rw [List.getElem?_map, hab]; rfl
        obtain ⟨ha, hb⟩ := HLT.out _ (List.mem_of_getElem? hab)
        simp only at ha hb
        obtain ⟨bE, o, rfl, hbl, k⟩ := HER.out (by intro e; rw [e] at hlt; simp at hlt)
        have hsz := hst.sz
        have hwl := hst.lt
        have d0 : wr.cell? ⟨bE, o + m * 2, none⟩ = some (.int .i64 (a : Int)) := (hst.low.cell (p := ⟨bE, _, none⟩) hbl).trans (k m _ hsE 0 _ rfl)
        have d1 : wr.cell? ⟨bE, o + m * 2 + 1, none⟩ = some (.int .i64 (b : Int)) := (hst.low.cell (p := ⟨bE, _, none⟩) hbl).trans (k m _ hsE 1 _ rfl)
        have hco := compI_ok HLT.out m
        have HF := hide hf
        have HCO := hide hco
        have HST := hide hst
        have la := hco.lt _ ha
        have lbb := hco.lt _ hb
        have HSC : Hid (compI N.length ED (m + 1) = compS (compI N.length ED m) (a, b)) := hide (compI_succ hab)
        have HPO : Hid (0 < (compI N.length ED m).2 ∧ (compI N.length ED m).2 ≤ N.length) := hide ⟨parts_pos (fun e he => HLT.out e (List.mem_of_mem_take he)) (by omega), (parts_bd _ _).2⟩
        have HAB := hide (And.intro ha hb)
        obtain ⟨hn400, hel⟩ := HNL.out
        have c1 := hst.c1
        have hbw : bE < wr.heap.size := by omega
        have hww : w.heap.size < wr.heap.size := by omega
        clear hab hsE k hf hco hst HH hlen
        go_upto_region 10 with fail
        refine wp_hab fun hab => ?_
        refine wp_region_above (by kernel_rfl) (by kernel_rfl) ?_
        have HF1 := hide (fun (y : Above wr) => above_same (x := y) (first35_any ((y.keeps.cell (p := ⟨w1.heap.size + 1, 0, none⟩) (by simp only; omega)).trans HST.out.ct) (HST.out.pm.below y.keeps) HF.out hn400 HAB.out.1))
        have HF2 := hide (fun (y : Above wr) => above_same (x := y) (first35_any ((y.keeps.cell (p := ⟨w1.heap.size + 1, 0, none⟩) (by simp only; omega)).trans HST.out.ct) (HST.out.pm.below y.keeps) HF.out hn400 HAB.out.2))
        generalize compI N.length ED m = C at *
        obtain ⟨L, cc⟩ := C
        simp only at HF HCO HPO HF1 HF2 la lbb ⊢
        repeat (go_big_quiet_step ((go_at_call 57; first | with_reducible exact HF1.out _ | with_reducible exact HF2.out _)))
        refine wpQuiet_nil ?_
        refine above_ends fun w5 hb5 => ?_
        have HS5 := hide (HST.out.below hb5)
        clear hab HF1 HF2 hb5 d0 d1 c1 hbw hww HST
        have HL := hide (And.intro la lbb)
        by_cases he : lb L a = lb L b
        · have HSN : Hid (compI N.length ED (m + 1) = (L, cc)) := hide (by
            rw [HSC.out]
            unfold compS
            rw [if_pos he])
          rw [he]
          clear he la lbb HSC
          go_wp2
          go_roundw
          case rel => exact ⟨m + 1, by omega, by go_num, by rw [HSN.out], hide ⟨_, _, by rw [HSN.out]; exact HF.out, q, by omega, HS5.out⟩⟩
          case measure => simp [intOf]; omega
        · have hz : ((lb L a : Int) != (lb L b : Int)) = true := by simpa using fun h : (lb L a : Int) = (lb L b : Int) => he (by omega)
          obtain ⟨w6, hrun, hs6⟩ := HS5.out.put (a := lb L a) (b := lb L b) (by omega) (by omega) (by have := HNL.out.2; omega)
          have HS6 := hide hs6
          have HSN : Hid (compI N.length ED (m + 1) = (joinLb L (lb L a) (lb L b), cc - 1)) := hide (by
            rw [HSC.out]
            unfold compS
            rw [if_neg he])
          have HF6 := hide (HF.out.step HCO.out HAB.out.1 HAB.out.2 he)
          obtain ⟨hcc, hcd⟩ := HPO.out
          have ct := HS5.out.ct
          clear he la lbb HSC hs6 HL
          generalize lb L a = la at *
          generalize lb L b = lbb at *
          have hc1 : (((cc - 1 : Nat)) : Int) = (cc : Int) - 1 := by omega
          have HC1 := hide hc1
          clear hc1
          go_wp2
          go_roundw
          case rel => exact ⟨m + 1, by omega, by go_num, by rw [HSN.out]; exact int_eq HC1.out.symm, hide ⟨_, _, by rw [HSN.out]; exact HF6.out, q + 1, by omega, HS6.out⟩⟩
          case measure => simp [intOf]; omega
      · obtain rfl : m = E.length := by omega
        have mz : ¬ (E.length : Int) < (E.length : Int) := by omega
        obtain ⟨f, r, hf, q, hq, hst⟩ := HH.out
        have HBE := hide hst.low
        have hlen : ED.length = E.length := by rw [HEQ.out]; unfold edI; simp
        have HV : Hid (prtF N E = (((compI N.length ED E.length).2 : Int), 0)) := hide (by rw [HPV.out, ← hlen, compI_all])
        clear HH hf hst hlen HPV
        generalize (compI N.length ED E.length).2 = cc at *
        go_wp2
        go_ret2
        exact ⟨by rw [HV.out]; rfl, HBE.out⟩
  · have hz : (r != 0) = true := by simpa using h0
    rw [if_neg h0] at HPF
    clear h0 hr
    go_wp2
    go_ret2
    exact ⟨by rw [HPF.out]; rfl, HB1.out⟩
/-- What Loops gives. -/
def lopF (N : List Pt) (E : List Ei) : Int × Int := if (prtF N E).2 = 0 then ((E.length : Int) - N.length + (prtF N E).1, 0) else (0, (prtF N E).2)
theorem prtF_bd {N : List Pt} {E : List Ei} (h : (prtF N E).2 = 0) : N.length ≤ 400 ∧ E.length ≤ 800 ∧ 0 ≤ (prtF N E).1 ∧ (prtF N E).1 ≤ N.length := by
  unfold prtF at h ⊢
  by_cases h0 : chkN N E = 0
  · rw [if_pos h0]
    obtain ⟨g1, g2, g3, g4, g5⟩ := chkN_ok h0
    have hb := (parts_bd (nodesF (segsI N E)).length (edgesF (segsI N E))).2
    have hb2 : partsN (segsI N E) ≤ N.length := by
      show (compF (nodesF (segsI N E)).length (edgesF (segsI N E))).2 ≤ N.length
      rw [g4] at hb ⊢
      exact hb
    refine ⟨g1, g2, ?_, ?_⟩
    · simp only; omega
    · simp only; omega
  · rw [if_neg h0] at h
    exact absurd h h0
set_option maxHeartbeats 4000000 in
theorem loops_any {w : World} {nv ev : Value} {N : List Pt} {E : List Ei} (hn : RdK encS 2 w w.heap.size nv N) (he : RdK encS 2 w w.heap.size ev E) :
    Calls Tryz.prog 17 #[.agg #[nv, ev]] w fun e w' => e = .returned (.tuple #[.int .i64 (lopF N E).1, .int .i64 (lopF N E).2]) ∧ Below w.heap.size w w' := by
  have HN := hide hn
  have HE := hide he
  obtain ⟨An, cn, rfl, _⟩ := hn
  obtain ⟨Ae, ce, rfl, _⟩ := he
  have hb0 : Below w.heap.size w (w.alloc (.cells #[.slice An N.length cn, .slice Ae E.length ce] 25)) := (Below.refl _ _).alloc (Nat.le_refl _) _
  have HB0 := hide hb0
  have x0 : (w.alloc (.cells #[.slice An N.length cn, .slice Ae E.length ce] 25)).cell? ⟨w.heap.size, 0, none⟩ = some (.slice An N.length cn) := by simp [go_sem]
  have x1 : (w.alloc (.cells #[.slice An N.length cn, .slice Ae E.length ce] 25)).cell? ⟨w.heap.size, 1, none⟩ = some (.slice Ae E.length ce) := by simp [go_sem]
  have HX := hide (And.intro x0 x1)
  have s0 : w.heap.size < (w.alloc (.cells #[.slice An N.length cn, .slice Ae E.length ce] 25)).heap.size := by simp
  have HS0 := hide s0
  clear hb0 x0 x1 s0
  go_enter Tryz.func17, Tryz.ntmps17
  go_wp2_with (fail)
  refine (parts35_any ((HN.out.below HB0.out).mono HB0.out.size) ((HE.out.below HB0.out).mono HB0.out.size)).mono ?_
  rintro e w1 ⟨rfl, hb1⟩
  have HB1 := hide (HB0.out.trans (hb1.mono HB0.out.size))
  have k0 := (hb1.cell (p := ⟨w.heap.size, 0, none⟩) HS0.out).trans HX.out.1
  have k1 := (hb1.cell (p := ⟨w.heap.size, 1, none⟩) HS0.out).trans HX.out.2
  have hs1 : w.heap.size < w1.heap.size := Nat.lt_of_lt_of_le HS0.out hb1.size
  clear hb1
  have HLF : Hid (lopF N E = if (prtF N E).2 = 0 then ((E.length : Int) - N.length + (prtF N E).1, 0) else (0, (prtF N E).2)) := hide rfl
  have hbd := prtF_bd (N := N) (E := E)
  generalize prtF N E = p at *
  obtain ⟨p1, p2⟩ := p
  simp only at hbd HLF ⊢
  by_cases h0 : p2 = 0
  · subst h0
    obtain ⟨b1, b2, b3, b4⟩ := hbd rfl
    have HV : Hid (lopF N E = ((E.length : Int) - N.length + p1, 0)) := hide (by rw [HLF.out, if_pos rfl])
    clear hbd HLF
    go_wp2
    go_ret2
    exact ⟨by rw [HV.out]; rfl, HB1.out⟩
  · have hz : (p2 != 0) = true := by simpa using h0
    have HV : Hid (lopF N E = (0, p2)) := hide (by rw [HLF.out, if_neg h0])
    clear hbd HLF h0
    go_wp2
    go_ret2
    exact ⟨by rw [HV.out]; rfl, HB1.out⟩
end Go.Proofs.YtdolpeljengpaaaGreat
