/- Texts laid together: MTexA, MTexB, App, RoundR, Grp, CopyN, TexK, TexC. Lemmas for the statements of this seat; no condition. -/
import Derived.Test.YtjlfdgoijalfaaaGreatPk1
import Derived.Test.YtjlfdgoijalfaaaGreatPk5
import Derived.Test.YtjlfdgoijalfaaaGreatPk3
import Derived.Maps.AppendAt
import Derived.Laws.AppendOwnNone
import Derived.Test.YtjlfdgoijalfaaaGreatPk2
import Derived.Maps.OwnSet
import Derived.WideKeyEntry
import Derived.DeepKeys4
import Derived.Laws.CopyOwn

/- Plain law: the bricks that a region meets, in order; the part of a region on a brick. -/
namespace Go.Proofs.YtjlfdgoijalfaaaGreat
set_option linter.unusedVariables false
set_option linter.unusedSimpArgs false

/-- A brick's row and column. -/
abbrev Ky := Int × Int
def klt (a b : Ky) : Prop := a.1 < b.1 ∨ (a.1 = b.1 ∧ a.2 < b.2)
instance (a b : Ky) : Decidable (klt a b) := by unfold klt; infer_instance
theorem klt_irr (a : Ky) : ¬ klt a a := by unfold klt; omega
theorem klt_trans {a b c : Ky} (h : klt a b) (g : klt b c) : klt a c := by unfold klt at *; omega
theorem klt_total (a b : Ky) : klt a b ∨ a = b ∨ klt b a := by
  obtain ⟨a1, a2⟩ := a; obtain ⟨b1, b2⟩ := b
  unfold klt
  by_cases h1 : a1 < b1
  · exact .inl (.inl h1)
  · by_cases h2 : b1 < a1
    · exact .inr (.inr (.inl h2))
    · obtain rfl : a1 = b1 := by omega
      by_cases h3 : a2 < b2
      · exact .inl (.inr ⟨rfl, h3⟩)
      · by_cases h4 : b2 < a2
        · exact .inr (.inr (.inr ⟨rfl, h4⟩))
        · obtain rfl : a2 = b2 := by omega
          exact .inr (.inl rfl)
theorem ksort_ext : ∀ {a b : List Ky}, a.Pairwise klt → b.Pairwise klt → (∀ k, k ∈ a ↔ k ∈ b) → a = b
  | [], [], _, _, _ => rfl
  | [], y :: b, _, _, h => absurd ((h y).2 (by simp)) (by simp)
  | x :: a, [], _, _, h => absurd ((h x).1 (by simp)) (by simp)
  | x :: a, y :: b, ha, hb, h => by
    obtain ⟨a1, a2⟩ := List.pairwise_cons.1 ha
    obtain ⟨b1, b2⟩ := List.pairwise_cons.1 hb
    have e : x = y := by
      rcases List.mem_cons.1 ((h x).1 (by simp)) with e | hx
      · exact e
      · rcases List.mem_cons.1 ((h y).2 (by simp)) with e | hy
        · exact e.symm
        · exact absurd (klt_trans (a1 y hy) (b1 x hx)) (klt_irr x)
    subst e
    rw [ksort_ext a2 b2 fun k => ?_]
    constructor
    · intro hk
      rcases List.mem_cons.1 ((h k).1 (List.mem_cons_of_mem _ hk)) with e | hk2
      · subst e; exact absurd (a1 k hk) (klt_irr k)
      · exact hk2
    · intro hk
      rcases List.mem_cons.1 ((h k).2 (List.mem_cons_of_mem _ hk)) with e | hk2
      · subst e; exact absurd (b1 k hk) (klt_irr k)
      · exact hk2
def insK (k : Ky) : List Ky → List Ky
  | [] => [k]
  | a :: l => if klt k a then k :: a :: l else if k = a then a :: l else a :: insK k l
theorem mem_insK (k : Ky) : ∀ (l : List Ky) (x : Ky), x ∈ insK k l ↔ x = k ∨ x ∈ l
  | [], x => by simp [insK]
  | a :: l, x => by
    unfold insK
    split
    · simp
    · split
      · rename_i e; subst e; simp
      · simp only [List.mem_cons, mem_insK k l x]
        constructor
        · rintro (h | h | h)
          · exact .inr (.inl h)
          · exact .inl h
          · exact .inr (.inr h)
        · rintro (h | h | h)
          · exact .inr (.inl h)
          · exact .inl h
          · exact .inr (.inr h)
theorem insK_sorted (k : Ky) : ∀ (l : List Ky), l.Pairwise klt → (insK k l).Pairwise klt
  | [], _ => by simp [insK]
  | a :: l, h => by
    obtain ⟨h1, h2⟩ := List.pairwise_cons.1 h
    unfold insK
    split
    · rename_i hk
      refine List.pairwise_cons.2 ⟨fun x hx => ?_, h⟩
      rcases List.mem_cons.1 hx with rfl | hx
      · exact hk
      · exact klt_trans hk (h1 x hx)
    · split
      · exact h
      · rename_i hk he
        refine List.pairwise_cons.2 ⟨fun x hx => ?_, insK_sorted k l h2⟩
        rcases (mem_insK k l x).1 hx with rfl | hx
        · rcases klt_total x a with h3 | h3 | h3
          · exact absurd h3 hk
          · exact absurd h3 he
          · exact h3
        · exact h1 x hx
def srtK (l : List Ky) : List Ky := l.foldl (fun a k => insK k a) []
theorem srtK_from : ∀ (l a : List Ky), a.Pairwise klt → (l.foldl (fun a k => insK k a) a).Pairwise klt ∧ ∀ x, x ∈ l.foldl (fun a k => insK k a) a ↔ x ∈ l ∨ x ∈ a
  | [], a, h => ⟨h, by simp⟩
  | k :: l, a, h => by
    obtain ⟨h1, h2⟩ := srtK_from l (insK k a) (insK_sorted k a h)
    refine ⟨h1, fun x => ?_⟩
    rw [List.foldl_cons, h2, mem_insK]
    simp only [List.mem_cons]
    constructor
    · rintro (h | h | h)
      · exact .inl (.inr h)
      · exact .inl (.inl h)
      · exact .inr h
    · rintro ((h | h) | h)
      · exact .inr (.inl h)
      · exact .inl h
      · exact .inr (.inr h)
theorem srtK_ok (l : List Ky) : (srtK l).Pairwise klt ∧ ∀ x, x ∈ srtK l ↔ x ∈ l := by
  obtain ⟨h1, h2⟩ := srtK_from l [] (by simp)
  exact ⟨h1, fun x => by unfold srtK; rw [h2]; simp⟩
theorem klt_nodup {l : List Ky} (h : l.Pairwise klt) : l.Nodup := by
  unfold List.Nodup
  exact h.imp fun {a b} h (e : a = b) => klt_irr b (by rw [e] at h; exact h)
/-- Keys as they come, each once. -/
def onceK (l : List Ky) : List Ky := l.foldl (fun a k => if k ∈ a then a else a ++ [k]) []
theorem onceK_snoc (l : List Ky) (k : Ky) : onceK (l ++ [k]) = if k ∈ onceK l then onceK l else onceK l ++ [k] := by
  unfold onceK
  rw [List.foldl_append]
  rfl
theorem snoc_ind {α : Type} {M : List α → Prop} (h0 : M []) (hs : ∀ l a, M l → M (l ++ [a])) (l : List α) : M l := by
  rw [← List.reverse_reverse l]
  induction l.reverse with
  | nil => exact h0
  | cons a r ih => rw [List.reverse_cons]; exact hs _ _ ih
theorem onceK_ok (l : List Ky) : (onceK l).Nodup ∧ ∀ x, x ∈ onceK l ↔ x ∈ l := by
  refine snoc_ind (M := fun l => (onceK l).Nodup ∧ ∀ x, x ∈ onceK l ↔ x ∈ l) (by simp [onceK]) (fun l k ih => ?_) l
  · rw [onceK_snoc]
    split
    · rename_i h
      refine ⟨ih.1, fun x => ?_⟩
      rw [ih.2, List.mem_append, List.mem_singleton]
      constructor
      · exact .inl
      · rintro (h1 | rfl)
        · exact h1
        · exact (ih.2 _).1 h
    · rename_i h
      refine ⟨?_, fun x => ?_⟩
      · rw [List.nodup_append]
        refine ⟨ih.1, by simp, fun a ha b hb e => ?_⟩
        rw [List.mem_singleton] at hb
        subst hb; subst e
        exact h ha
      · rw [List.mem_append, List.mem_append, ih.2]
theorem onceK_mono (l m : List Ky) : (onceK l).length ≤ (onceK (l ++ m)).length := by
  refine snoc_ind (M := fun m => (onceK l).length ≤ (onceK (l ++ m)).length) (by simp) (fun m k ih => ?_) m
  · rw [← List.append_assoc, onceK_snoc]
    split
    · exact ih
    · simp; omega
theorem onceK_len (l : List Ky) : (onceK l).length = (srtK l).length := by
  refine List.Perm.length_eq ((List.perm_ext_iff_of_nodup (onceK_ok l).1 (klt_nodup (srtK_ok l).1)).2 fun x => ?_)
  rw [(onceK_ok l).2, (srtK_ok l).2]
/-! ### Bricks -/
def irange (a b : Int) : List Int := (List.range (b + 1 - a).toNat).map fun i : Nat => a + (i : Int)
theorem mem_irange {a b x : Int} : x ∈ irange a b ↔ a ≤ x ∧ x ≤ b := by
  unfold irange
  rw [List.mem_map]
  constructor
  · rintro ⟨i, hi, rfl⟩
    rw [List.mem_range] at hi
    omega
  · rintro ⟨h1, h2⟩
    exact ⟨(x - a).toNat, List.mem_range.2 (by omega), by omega⟩
def brR (W H S : Int) (k : Ky) : R4 := ⟨brX W H S k.2 k.1, k.1 * H, brX W H S k.2 k.1 + W, (k.1 + 1) * H⟩
def keyP (W H S x y : Int) : Ky := (rowI H y, colI W H S x y)
theorem div_is {x n q : Int} (hn : 0 < n) : x / n = q ↔ q * n ≤ x ∧ x < q * n + n := by
  have h1 := Int.emod_add_mul_ediv x n
  have h2 := Int.emod_nonneg x (Int.ne_of_gt hn)
  have h3 := Int.emod_lt_of_pos x hn
  constructor
  · rintro rfl
    rw [Int.mul_comm]
    omega
  · rintro ⟨h4, h5⟩
    apply Int.le_antisymm
    · apply Int.le_of_lt_add_one
      rw [Int.ediv_lt_iff_lt_mul hn, Int.add_mul]
      omega
    · rw [Int.le_ediv_iff_mul_le hn]
      exact h4
theorem rin_brR {W H S : Int} (hp : okPat W H S) (k : Ky) (x y : Int) : rin (brR W H S k) x y ↔ keyP W H S x y = k := by
  obtain ⟨r, c⟩ := k
  have hW : 0 < W := by have := hp.1; omega
  have hH : 0 < H := by have := hp.2.2.1; omega
  unfold rin brR keyP rowI colI brX
  simp only [Prod.mk.injEq]
  constructor
  · rintro ⟨h1, h2, h3, h4⟩
    rw [Int.add_mul] at h4
    have e : y / H = r := (div_is hH).2 ⟨h3, by omega⟩
    refine ⟨e, ?_⟩
    rw [show rowI H y = r from e]
    exact (div_is hW).2 ⟨by omega, by omega⟩
  · rintro ⟨e, h⟩
    rw [show rowI H y = r from e] at h
    obtain ⟨h1, h2⟩ := (div_is hH).1 e
    obtain ⟨h3, h4⟩ := (div_is hW).1 h
    rw [Int.add_mul]
    omega
theorem brR_wf {W H S : Int} (hp : okPat W H S) (k : Ky) : wf4 (brR W H S k) := by
  unfold wf4 brR
  have h1 := hp.1
  have h2 := hp.2.2.1
  simp only
  rw [Int.add_mul]
  omega
/-- The bricks of a rectangle, as the code comes to them. -/
def colsR (W H S : Int) (t : R4) (row : Int) : List Ky := (irange ((t.x0 - shiftI W S row) / W) ((t.x1 - 1 - shiftI W S row) / W)).map fun col => (row, col)
def keysR (W H S : Int) (t : R4) : List Ky := (irange (t.y0 / H) ((t.y1 - 1) / H)).flatMap (colsR W H S t)
theorem meet_wf {p q : R4} : wf4 (meet4 p q) ↔ ∃ x y, rin p x y ∧ rin q x y := by
  constructor
  · intro h
    refine ⟨(meet4 p q).x0, (meet4 p q).y0, (rin_meet p q _ _).1 ⟨Int.le_refl _, h.1, Int.le_refl _, h.2⟩⟩
  · rintro ⟨x, y, h⟩
    obtain ⟨h1, h2, h3, h4⟩ := (rin_meet p q x y).2 h
    exact ⟨by omega, by omega⟩
theorem mem_keysR {W H S : Int} (hp : okPat W H S) {t : R4} (ht : wf4 t) (k : Ky) : k ∈ keysR W H S t ↔ wf4 (meet4 (brR W H S k) t) := by
  obtain ⟨r, c⟩ := k
  have hW : 0 < W := by have := hp.1; omega
  have hH : 0 < H := by have := hp.2.2.1; omega
  obtain ⟨t1, t2⟩ := ht
  have e1 : (r, c) ∈ keysR W H S t ↔ (t.y0 / H ≤ r ∧ r ≤ (t.y1 - 1) / H) ∧ (t.x0 - shiftI W S r) / W ≤ c ∧ c ≤ (t.x1 - 1 - shiftI W S r) / W := by
    unfold keysR colsR
    simp only [List.mem_flatMap, List.mem_map, mem_irange, Prod.mk.injEq]
    constructor
    · rintro ⟨row, h1, col, h2, rfl, rfl⟩
      exact ⟨h1, h2⟩
    · rintro ⟨h1, h2⟩
      exact ⟨r, h1, c, h2, rfl, rfl⟩
  rw [e1]
  unfold wf4 meet4 brR brX
  simp only
  rw [Int.le_ediv_iff_mul_le hH, Int.le_ediv_iff_mul_le hW]
  have e2 : t.y0 / H ≤ r ↔ t.y0 < r * H + H := by
    rw [← Int.lt_add_one_iff, Int.ediv_lt_iff_lt_mul hH, Int.add_mul]
    omega
  have e3 : (t.x0 - shiftI W S r) / W ≤ c ↔ t.x0 - shiftI W S r < c * W + W := by
    rw [← Int.lt_add_one_iff, Int.ediv_lt_iff_lt_mul hW, Int.add_mul]
    omega
  rw [e2, e3, Int.add_mul]
  generalize r * H = rh
  generalize c * W = cw
  generalize shiftI W S r = s
  omega
theorem keysR_nodup (W H S : Int) (t : R4) : (keysR W H S t).Pairwise klt := by
  have hi : ∀ a b : Int, (irange a b).Pairwise (· < ·) := fun a b => by
    unfold irange
    rw [List.pairwise_map]
    exact List.pairwise_lt_range.imp fun h => by omega
  unfold keysR
  rw [List.pairwise_flatMap]
  constructor
  · intro row _
    unfold colsR
    rw [List.pairwise_map]
    exact (hi _ _).imp fun h => .inr ⟨rfl, h⟩
  · refine (hi _ _).imp fun {a b} h x hx y hy => ?_
    unfold colsR at hx hy
    obtain ⟨_, _, rfl⟩ := List.mem_map.1 hx
    obtain ⟨_, _, rfl⟩ := List.mem_map.1 hy
    exact .inl h
def allK (W H S : Int) (l : List R4) : List Ky := l.flatMap (keysR W H S)
theorem mem_allK {W H S : Int} (hp : okPat W H S) {l : List R4} (hl : ∀ r ∈ l, wf4 r) (k : Ky) : k ∈ allK W H S l ↔ ∃ x y, pmem l x y ∧ keyP W H S x y = k := by
  unfold allK
  rw [List.mem_flatMap]
  constructor
  · rintro ⟨t, ht, hk⟩
    obtain ⟨x, y, h1, h2⟩ := meet_wf.1 ((mem_keysR hp (hl t ht) k).1 hk)
    exact ⟨x, y, ⟨t, ht, h2⟩, (rin_brR hp k x y).1 h1⟩
  · rintro ⟨x, y, ⟨t, ht, h2⟩, h1⟩
    exact ⟨t, ht, (mem_keysR hp (hl t ht) k).2 (meet_wf.2 ⟨x, y, (rin_brR hp k x y).2 h1, h2⟩)⟩
/-- The rectangles on a brick. -/
def prt (W H S : Int) (l : List R4) (k : Ky) : List R4 := (l.filter fun t => decide (k ∈ keysR W H S t)).map (meet4 (brR W H S k))
theorem prt_snoc (W H S : Int) (l : List R4) (t : R4) (k : Ky) : prt W H S (l ++ [t]) k = prt W H S l k ++ if k ∈ keysR W H S t then [meet4 (brR W H S k) t] else [] := by
  unfold prt
  rw [List.filter_append, List.map_append]
  by_cases h : k ∈ keysR W H S t
  · simp [h]
  · simp [h]
theorem prt_len (W H S : Int) (l : List R4) (k : Ky) : (prt W H S l k).length ≤ l.length := by
  unfold prt
  rw [List.length_map]
  exact List.length_filter_le _ _
theorem prt_wf {W H S : Int} (hp : okPat W H S) {l : List R4} (hl : ∀ r ∈ l, wf4 r) (k : Ky) : ∀ r ∈ prt W H S l k, wf4 r := by
  intro r hr
  obtain ⟨t, ht, rfl⟩ := List.mem_map.1 hr
  obtain ⟨h1, h2⟩ := List.mem_filter.1 ht
  exact (mem_keysR hp (hl t h1) k).1 (by simpa using h2)
theorem prt_pts {W H S : Int} (hp : okPat W H S) {l : List R4} (hl : ∀ r ∈ l, wf4 r) (k : Ky) (x y : Int) : pmem (prt W H S l k) x y ↔ pmem l x y ∧ rin (brR W H S k) x y := by
  constructor
  · rintro ⟨r, hr, h⟩
    obtain ⟨t, ht, rfl⟩ := List.mem_map.1 hr
    obtain ⟨h1, h2⟩ := (rin_meet _ _ x y).1 h
    exact ⟨⟨t, (List.mem_filter.1 ht).1, h2⟩, h1⟩
  · rintro ⟨⟨t, ht, h2⟩, h1⟩
    refine ⟨meet4 (brR W H S k) t, List.mem_map.2 ⟨t, List.mem_filter.2 ⟨ht, ?_⟩, rfl⟩, (rin_meet _ _ x y).2 ⟨h1, h2⟩⟩
    simpa using (mem_keysR hp (hl t ht) k).2 (meet_wf.2 ⟨x, y, h1, h2⟩)
/-- A list whose cross-sections are canonical, and no rectangle of which goes on beyond another's end, has no more rectangles than it when it is made a region. -/
theorem count_of {C : List R4} (hwC : ∀ r ∈ C, wf4 r) (hS : ∀ c, SCan (crossL C c)) (hcut : ∀ r ∈ C, ∀ s ∈ C, ∀ c, (c = s.x0 ∨ c = s.x1) → r.x0 ≤ c → c < r.x1 → r.x0 = c) : (rjoin hFst C []).length ≤ C.length := by
  have hcs := cutsOf_ok (cutsL C)
  have hg : ∀ c, sjoin hFst (crossL C c) (crossL [] c) = crossL C c := fun c => by
    refine (sjoin_eq (h := hFst) rfl (crossL_wf hwC c) (by simp [crossL]) (hS c) fun x => by simp [hFst]).symm
  rw [← swp_join (h := hFst) rfl hwC (b := []) (by simp) hcs.1 (fun c hc => (hcs.2 c).2 hc) (by simp [cutsL])]
  have h1 := swp_sum_from (fun c => sjoin hFst (crossL C c) (crossL [] c)) (prs (cutsOf (cutsL C))) []
  simp only [hg] at h1
  have h2 := prs_sum (fun c => (crossL C c).length) (cutsOf (cutsL C))
  have h3 := sum_cross hcs.1 (C := C) (fun r hr c hc q1 q2 => by
    have hc2 := (hcs.2 c).1 hc
    obtain ⟨s, hs, he⟩ : ∃ s ∈ C, c = s.x0 ∨ c = s.x1 := by simpa [cutsL] using hc2
    exact hcut r hr s hs c he q1 q2)
  have h4 : (flat ([] : List Slab)).length = 0 := rfl
  unfold swp
  simp only [hg]
  omega
theorem clip_can {s : List Sp} (h : SCan s) (a b : Int) : SCan ((s.filter fun p => decide (max a p.1 < min b p.2)).map fun p => (max a p.1, min b p.2)) := by
  constructor
  · intro p hp
    obtain ⟨q, hq, rfl⟩ := List.mem_map.1 hp
    simpa using (List.mem_filter.1 hq).2
  · rw [List.pairwise_map]
    refine (h.2.filter _).imp fun {p q} h => ?_
    simp only
    omega
theorem prt_cross {W H S : Int} (hp : okPat W H S) {l : List R4} (hl : ∀ r ∈ l, wf4 r) (k : Ky) (c : Int) (hc : (brR W H S k).x0 ≤ c ∧ c < (brR W H S k).x1) :
    crossL (prt W H S l k) c = ((crossL l c).filter fun p => decide (max (brR W H S k).y0 p.1 < min (brR W H S k).y1 p.2)).map fun p => (max (brR W H S k).y0 p.1, min (brR W H S k).y1 p.2) := by
  induction l with
  | nil => simp [prt, crossL]
  | cons t l ih =>
    have ht := hl t (by simp)
    have ih := ih fun r hr => hl r (List.mem_cons_of_mem _ hr)
    have hm := mem_keysR hp ht k
    have e : prt W H S (t :: l) k = (if k ∈ keysR W H S t then [meet4 (brR W H S k) t] else []) ++ prt W H S l k := by
      unfold prt
      by_cases h : k ∈ keysR W H S t
      · simp [h]
      · simp [h]
    have e2 : ∀ (a b : List R4) (x : Int), crossL (a ++ b) x = crossL a x ++ crossL b x := fun a b x => by simp [crossL]
    rw [e, e2, show t :: l = [t] ++ l from rfl, e2, List.filter_append, List.map_append, ih]
    congr 1
    by_cases hx : t.x0 ≤ c ∧ c < t.x1
    · have e3 : crossL [t] c = [(t.y0, t.y1)] := by simp [crossL, hx.1, hx.2]
      rw [e3]
      by_cases hy : max (brR W H S k).y0 t.y0 < min (brR W H S k).y1 t.y1
      · have hk : k ∈ keysR W H S t := hm.2 ⟨by simp only [meet4]; omega, hy⟩
        rw [if_pos hk]
        have h5 : (meet4 (brR W H S k) t).x0 ≤ c ∧ c < (meet4 (brR W H S k) t).x1 := by simp only [meet4]; omega
        simp [crossL, h5.1, h5.2, hy]
        simp [meet4]
      · have hk : ¬ k ∈ keysR W H S t := fun h => hy (hm.1 h).2
        rw [if_neg hk]
        simp [crossL, hy]
    · have e3 : crossL [t] c = [] := by
        simp only [crossL, List.map_eq_nil_iff, List.filter_eq_nil_iff, List.mem_singleton]
        rintro r rfl
        simpa using hx
      rw [e3]
      split
      · have h5 : ¬ ((meet4 (brR W H S k) t).x0 ≤ c ∧ c < (meet4 (brR W H S k) t).x1) := by simp only [meet4]; omega
        simp only [crossL, List.filter_nil, List.map_nil, List.map_eq_nil_iff, List.filter_eq_nil_iff, List.mem_singleton]
        rintro r rfl
        simpa using h5
      · simp [crossL]
theorem prt_count {W H S : Int} (hp : okPat W H S) {l : List R4} (hc : RCan l) (hl : ∀ r ∈ l, wf4 r) (k : Ky) : (rjoin hFst (prt W H S l k) []).length ≤ (prt W H S l k).length := by
  refine count_of (prt_wf hp hl k) (fun c => ?_) ?_
  · by_cases h : (brR W H S k).x0 ≤ c ∧ c < (brR W H S k).x1
    · rw [prt_cross hp hl k c h]
      exact clip_can (crossL_can hc c) _ _
    · have : crossL (prt W H S l k) c = [] := by
        simp only [crossL, List.map_eq_nil_iff, List.filter_eq_nil_iff]
        intro r hr
        obtain ⟨t, _, rfl⟩ := List.mem_map.1 hr
        simp only [meet4, Bool.and_eq_true, decide_eq_true_eq]
        rintro ⟨h1, h2⟩
        have h3 : max (brR W H S k).x0 t.x0 ≤ c := of_decide_eq_true h1
        have h4 : c < min (brR W H S k).x1 t.x1 := of_decide_eq_true h2
        exact h ⟨by omega, by omega⟩
      rw [this]
      exact SCan.nil
  · intro r hr s hs c he q1 q2
    obtain ⟨r', hr', rfl⟩ := List.mem_map.1 hr
    obtain ⟨s', hs', rfl⟩ := List.mem_map.1 hs
    have mr := (List.mem_filter.1 hr').1
    have ms := (List.mem_filter.1 hs').1
    simp only [meet4] at he q1 q2 ⊢
    have h0 := fun h1 h2 => can_cut hc mr ms (c := s'.x0) (.inl rfl) h1 h2
    have h1 := fun h1 h2 => can_cut hc mr ms (c := s'.x1) (.inr rfl) h1 h2
    rcases he with he | he
    · by_cases g : (brR W H S k).x0 ≤ s'.x0
      · have : c = s'.x0 := by omega
        subst this
        have := h0 (by omega) (by omega)
        omega
      · omega
    · by_cases g : s'.x1 < (brR W H S k).x1
      · have : c = s'.x1 := by omega
        subst this
        have := h1 (by omega) (by omega)
        omega
      · omega
/-- The piece on a brick. -/
def pieceR (W H S : Int) (l : List R4) (k : Ky) : List R4 := rjoin hAnd l [brR W H S k]
theorem piece_ok {W H S : Int} (hp : okPat W H S) {l : List R4} (hl : ∀ r ∈ l, wf4 r) (k : Ky) : RCan (pieceR W H S l k) ∧ ∀ x y, pmem (pieceR W H S l k) x y ↔ pmem l x y ∧ keyP W H S x y = k := by
  obtain ⟨h1, h2⟩ := rjoin_ok (h := hAnd) rfl hl (b := [brR W H S k]) (fun r hr => by rw [List.mem_singleton] at hr; subst hr; exact brR_wf hp k)
  refine ⟨h1, fun x y => ?_⟩
  unfold pieceR
  rw [h2, ← rin_brR hp k x y]
  have e : decide (pmem [brR W H S k] x y) = decide (rin (brR W H S k) x y) := decide_eq_decide.2 (by simp [pmem])
  rw [e]
  simp [hAnd]
theorem prt_piece {W H S : Int} (hp : okPat W H S) {l : List R4} (hl : ∀ r ∈ l, wf4 r) (k : Ky) : rjoin hFst (prt W H S l k) [] = pieceR W H S l k := by
  obtain ⟨h1, h2⟩ := rjoin_ok (h := hFst) rfl (prt_wf hp hl k) (b := []) (by simp)
  obtain ⟨h3, h4⟩ := piece_ok hp hl k
  refine h1.ext h3 fun x y => ?_
  rw [h2, h4, ← rin_brR hp k x y, ← prt_pts hp hl k]
  simp [hFst]
theorem prt_valid {W H S : Int} (hp : okPat W H S) {l : List R4} (hv : ∀ r ∈ l, valid4 r) (k : Ky) : ∀ r ∈ prt W H S l k, valid4 r := by
  intro r hr
  have hw := prt_wf hp (fun r hr => ⟨(hv r hr).1, (hv r hr).2.1⟩) k r hr
  obtain ⟨t, ht, rfl⟩ := List.mem_map.1 hr
  have h := hv t (List.mem_filter.1 ht).1
  obtain ⟨w1, w2⟩ := hw
  unfold valid4 fineP at *
  simp only [meet4] at *
  omega
theorem piece_len {W H S : Int} (hp : okPat W H S) {l : List R4} (h : checkF l = 0) (k : Ky) : (pieceR W H S l k).length ≤ 400 := by
  obtain ⟨h1, h2, _⟩ := checkF_ok h
  have hw : ∀ r ∈ l, wf4 r := fun r hr => ⟨(h2 r hr).1, (h2 r hr).2.1⟩
  rw [← prt_piece hp hw k]
  have := prt_count hp (check_rcan h) hw k
  have := prt_len W H S l k
  omega
theorem prt_make {W H S : Int} (hp : okPat W H S) {l : List R4} (h : checkF l = 0) (k : Ky) : makeF (prt W H S l k) = (pieceR W H S l k, 0) := by
  obtain ⟨h1, h2, _⟩ := checkF_ok h
  have hw : ∀ r ∈ l, wf4 r := fun r hr => ⟨(h2 r hr).1, (h2 r hr).2.1⟩
  have hv := prt_valid hp h2 k
  have := prt_len W H S l k
  have hn := piece_len hp h k
  unfold makeF
  rw [if_neg (by omega), if_neg (by simpa using hv)]
  unfold madeF
  rw [prt_piece hp hw k, if_neg (by omega)]
/-- The tiling: error, or the pieces in order. -/
def keysT (W H S : Int) (l : List R4) : List Ky := srtK (allK W H S l)
def tileF (W H S : Int) (l : List R4) : List (Ky × List R4) × Int :=
  if checkF l = 0 then (if okPat W H S then (if 400 < (keysT W H S l).length then ([], 4) else ((keysT W H S l).map fun k => (k, pieceR W H S l k), 0)) else ([], 8)) else ([], checkF l)
end Go.Proofs.YtjlfdgoijalfaaaGreat

/- Plain law: insertion of a key at its place; the scan over points; the map of parts while the code goes over bricks. -/
namespace Go.Proofs.YtjlfdgoijalfaaaGreat
set_option linter.unusedVariables false
set_option linter.unusedSimpArgs false

theorem insK_at (k : Ky) : ∀ (S : List Ky) (n : Nat), S.Pairwise klt → n ≤ S.length → (∀ j x, n ≤ j → S[j]? = some x → klt k x) → (∀ x, n ≠ 0 → S[n - 1]? = some x → klt x k) → insK k S = S.take n ++ k :: S.drop n
  | [], n, _, hn, _, _ => by
    have : n = 0 := by simpa using hn
    subst this
    rfl
  | a :: S, 0, hs, _, hg, _ => by
    have := hg 0 a (Nat.le_refl _) rfl
    simp [insK, this]
  | a :: S, n + 1, hs, hn, hg, hl => by
    obtain ⟨h1, h2⟩ := List.pairwise_cons.1 hs
    have hn2 : n ≤ S.length := by simpa using hn
    have hak : klt a k := by
      rcases Nat.eq_zero_or_pos n with h0 | h0
      · subst h0; exact hl a (by omega) rfl
      · obtain ⟨y, hy⟩ : ∃ y, S[n - 1]? = some y := ⟨_, List.getElem?_eq_getElem (by omega)⟩
        have hx := hl y (by omega) (by rw [show n + 1 - 1 = (n - 1) + 1 by omega]; simpa using hy)
        exact klt_trans (h1 y (List.mem_of_getElem? hy)) hx
    have ih := insK_at k S n h2 hn2 (fun j x h3 h4 => hg (j + 1) x (by omega) (by simpa using h4)) (fun x h3 h4 => hl x (by omega) (by rw [show n + 1 - 1 = (n - 1) + 1 by omega]; simpa using h4))
    unfold insK
    rw [if_neg (fun h => klt_irr _ (klt_trans hak h)), if_neg (fun e => by subst e; exact klt_irr _ hak), ih]
    simp
theorem insK_there (k : Ky) : ∀ (S : List Ky), S.Pairwise klt → k ∈ S → insK k S = S
  | [], _, h => by cases h
  | a :: S, hs, h => by
    obtain ⟨h1, h2⟩ := List.pairwise_cons.1 hs
    unfold insK
    rcases List.mem_cons.1 h with rfl | hk
    · rw [if_neg (klt_irr _), if_pos rfl]
    · have := h1 k hk
      rw [if_neg (fun h => klt_irr _ (klt_trans this h)), if_neg (fun e => by subst e; exact klt_irr _ this), insK_there k S h2 hk]
/-- A list is a key's own by its place. -/
theorem klt_lt {S : List Ky} (hs : S.Pairwise klt) {i j : Nat} {a b : Ky} (hi : S[i]? = some a) (hj : S[j]? = some b) (h : i < j) : klt a b := by
  obtain ⟨h1, e1⟩ := List.getElem?_eq_some_iff.1 hi
  obtain ⟨h2, e2⟩ := List.getElem?_eq_some_iff.1 hj
  rw [← e1, ← e2]
  exact List.pairwise_iff_getElem.1 hs i j h1 h2 h
/-- The keys of the points that the reference has looked at. -/
def Scn (h : R4) (y x u v : Int) : Prop := (h.y0 ≤ v ∧ v < y ∧ h.x0 ≤ u ∧ u < h.x1) ∨ (v = y ∧ h.x0 ≤ u ∧ u < x)
structure SK (W H S : Int) (l : List R4) (h : R4) (y x : Int) (L : List Ky) : Prop where
  srt : L.Pairwise klt
  mem : ∀ k, k ∈ L ↔ ∃ u v, Scn h y x u v ∧ pmem l u v ∧ keyP W H S u v = k
theorem SK.start (W H S : Int) (l : List R4) (h : R4) : SK W H S l h h.y0 h.x0 [] := ⟨by simp, fun k => by
  constructor
  · intro h; cases h
  · rintro ⟨u, v, h, _⟩; unfold Scn at h; omega⟩
theorem SK.line {W H S : Int} {l : List R4} {h : R4} {y : Int} {L : List Ky} (q : SK W H S l h y h.x1 L) (hy : h.y0 ≤ y) : SK W H S l h (y + 1) h.x0 L := ⟨q.srt, fun k => by
  rw [q.mem]
  constructor
  · rintro ⟨u, v, h1, h2⟩; refine ⟨u, v, ?_, h2⟩; unfold Scn at *; omega
  · rintro ⟨u, v, h1, h2⟩; refine ⟨u, v, ?_, h2⟩; unfold Scn at *; omega⟩
theorem SK.off {W H S : Int} {l : List R4} {h : R4} {y x : Int} {L : List Ky} (q : SK W H S l h y x L) (hx : h.x0 ≤ x) (hn : ¬ pmem l x y) : SK W H S l h y (x + 1) L := ⟨q.srt, fun k => by
  rw [q.mem]
  constructor
  · rintro ⟨u, v, h1, h2⟩; refine ⟨u, v, ?_, h2⟩; unfold Scn at *; omega
  · rintro ⟨u, v, h1, h2, h3⟩
    refine ⟨u, v, ?_, h2, h3⟩
    by_cases e : u = x ∧ v = y
    · obtain ⟨rfl, rfl⟩ := e; exact absurd h2 hn
    · unfold Scn at *; omega⟩
theorem SK.on {W H S : Int} {l : List R4} {h : R4} {y x : Int} {L : List Ky} (q : SK W H S l h y x L) (hx : h.x0 ≤ x) (hm : pmem l x y) : SK W H S l h y (x + 1) (insK (keyP W H S x y) L) := ⟨insK_sorted _ _ q.srt, fun k => by
  rw [mem_insK, q.mem]
  constructor
  · rintro (rfl | ⟨u, v, h1, h2⟩)
    · exact ⟨x, y, .inr ⟨rfl, hx, by omega⟩, hm, rfl⟩
    · refine ⟨u, v, ?_, h2⟩; unfold Scn at *; omega
  · rintro ⟨u, v, h1, h2, h3⟩
    by_cases e : u = x ∧ v = y
    · obtain ⟨rfl, rfl⟩ := e; exact .inl h3.symm
    · refine .inr ⟨u, v, ?_, h2, h3⟩; unfold Scn at *; omega⟩
theorem SK.all {W H S : Int} (hp : okPat W H S) {l : List R4} (hl : ∀ r ∈ l, wf4 r) {h : R4} (hh : IsHull l h) {y : Int} (hy : h.y1 ≤ y) {L : List Ky} (q : SK W H S l h y h.x0 L) : L = keysT W H S l := by
  have hk := srtK_ok (allK W H S l)
  refine ksort_ext q.srt hk.1 fun k => ?_
  rw [q.mem, show (k ∈ keysT W H S l) ↔ _ from hk.2 k, mem_allK hp hl]
  constructor
  · rintro ⟨u, v, _, h2, h3⟩; exact ⟨u, v, h2, h3⟩
  · rintro ⟨u, v, h2, h3⟩
    refine ⟨u, v, ?_, h2, h3⟩
    obtain ⟨r, hr, h4⟩ := h2
    have := hh.b r hr
    unfold rin at h4
    unfold Scn
    omega
theorem keysT_nil (W H S : Int) : keysT W H S [] = [] := rfl
/-! ### The code's way -/
/-- Keys done when m rectangles are, and the bricks pre of the next one. -/
def doneK (W H S : Int) (l : List R4) (m : Nat) (pre : List Ky) : List Ky := allK W H S (l.take m) ++ pre
theorem doneK_next (W H S : Int) {l : List R4} {m : Nat} {t : R4} (h : l[m]? = some t) : doneK W H S l m (keysR W H S t) = doneK W H S l (m + 1) [] := by
  unfold doneK allK
  rw [List.take_add_one, h]
  simp
theorem doneK_all (W H S : Int) {l : List R4} {m : Nat} (h : l.length ≤ m) : doneK W H S l m [] = allK W H S l := by
  unfold doneK
  rw [List.take_of_length_le h]
  simp
theorem doneK_prefix (W H S : Int) {l : List R4} {m : Nat} {t : R4} (h : l[m]? = some t) {pre post : List Ky} {k : Ky} (hk : keysR W H S t = pre ++ k :: post) : (onceK (doneK W H S l m (pre ++ [k]))).length ≤ (keysT W H S l).length := by
  have e : allK W H S l = doneK W H S l m (pre ++ [k]) ++ (post ++ allK W H S (l.drop (m + 1))) := by
    obtain ⟨hm, ht⟩ := List.getElem?_eq_some_iff.1 h
    have e1 : l = l.take m ++ t :: l.drop (m + 1) := by rw [← ht, ← List.drop_eq_getElem_cons hm, List.take_append_drop]
    conv => lhs; rw [e1]
    unfold doneK allK
    rw [List.flatMap_append, List.flatMap_cons, hk]
    simp
  have h1 := onceK_mono (doneK W H S l m (pre ++ [k])) (post ++ allK W H S (l.drop (m + 1)))
  rw [← e, onceK_len (allK W H S l)] at h1
  exact h1
theorem doneK_snoc (W H S : Int) (l : List R4) (m : Nat) (pre : List Ky) (k : Ky) : onceK (doneK W H S l m (pre ++ [k])) = if k ∈ onceK (doneK W H S l m pre) then onceK (doneK W H S l m pre) else onceK (doneK W H S l m pre) ++ [k] := by
  have e : doneK W H S l m (pre ++ [k]) = doneK W H S l m pre ++ [k] := by unfold doneK; rw [List.append_assoc]
  rw [e, onceK_snoc]
def partK (W H S : Int) (l : List R4) (m : Nat) (t : R4) (pre : List Ky) (k : Ky) : List R4 := prt W H S (l.take m) k ++ if k ∈ pre then [meet4 (brR W H S k) t] else []
theorem partK_next (W H S : Int) {l : List R4} {m : Nat} {t : R4} (h : l[m]? = some t) (k : Ky) (t' : R4) : partK W H S l m t (keysR W H S t) k = partK W H S l (m + 1) t' [] k := by
  unfold partK
  rw [List.take_add_one, h]
  simp only [Option.toList_some, prt_snoc]
  simp
theorem partK_len (W H S : Int) (l : List R4) (m : Nat) (t : R4) (pre : List Ky) (k : Ky) : (partK W H S l m t pre k).length ≤ m + 1 := by
  unfold partK
  have h1 := prt_len W H S (l.take m) k
  have h2 := List.length_take_le m l
  split <;> simp <;> omega
theorem partK_push (W H S : Int) (l : List R4) (m : Nat) (t : R4) {pre : List Ky} {k : Ky} (h : k ∉ pre) (k' : Ky) : partK W H S l m t (pre ++ [k]) k' = partK W H S l m t pre k' ++ if k' = k then [meet4 (brR W H S k) t] else [] := by
  unfold partK
  rw [List.append_assoc]
  congr 1
  by_cases e : k' = k
  · subst e; simp [h]
  · simp [e]
theorem mem_doneK {W H S : Int} {l : List R4} {m : Nat} {t : R4} {pre : List Ky} {k : Ky} : k ∈ doneK W H S l m pre ↔ partK W H S l m t pre k ≠ [] := by
  unfold doneK partK allK prt
  rw [List.mem_append, List.mem_flatMap]
  constructor
  · rintro (⟨r, hr, hk⟩ | hk) e
    · rw [List.append_eq_nil_iff, List.map_eq_nil_iff, List.filter_eq_nil_iff] at e
      exact e.1 r hr (by simpa using hk)
    · simp [hk] at e
  · intro h
    by_cases hk : k ∈ pre
    · exact .inr hk
    · left
      simp only [hk, if_false, List.append_nil, ne_eq, List.map_eq_nil_iff] at h
      obtain ⟨r, hr⟩ := List.exists_mem_of_ne_nil _ h
      exact ⟨r, (List.mem_filter.1 hr).1, by simpa using (List.mem_filter.1 hr).2⟩
/-- Keys in their order, by the code's sort of keys as they came. -/
theorem sorted_once {l s : List Ky} (h1 : s.Perm (onceK l)) (h2 : s.Pairwise fun a b => ¬ klt b a) : s = srtK l := by
  have hk := srtK_ok l
  have ho := onceK_ok l
  have hn : s.Nodup := h1.nodup_iff.2 ho.1
  refine ksort_ext ?_ hk.1 fun k => ?_
  · refine (List.Pairwise.and h2 hn).imp fun {a b} h => ?_
    rcases klt_total a b with h3 | h3 | h3
    · exact h3
    · exact absurd h3 h.2
    · exact absurd h3 h.1
  · rw [h1.mem_iff, ho.2, hk.2]
end Go.Proofs.YtjlfdgoijalfaaaGreat

/- append(x, y...) where y reads as a list, empty or nil let in; and the reference's Twin. -/
namespace Go.Proofs.YtjlfdgoijalfaaaGreat
open Go.RowKit
set_option linter.unusedVariables false
set_option linter.unusedSimpArgs false

section
variable {P : Program} {α : Type} {enc : α → List Value} {k : Nat}
theorem run_app_rd (w : World) (henc : ∀ x, (enc x).length = k) (hint : ∀ (l : List α), ∀ u ∈ l.flatMap enc, u.oneCell' = true) (base : Nat) (t ty e : TypeId) (i : TypeInfo) (z : Value) (bytes : Nat)
    (ht : P.underlying t = some (.slice e)) (hi : P.info? e = some i) (hz : i.zero = some z) (hsize : i.size = k) (hby : i.bytes = bytes) (hzs : z.cells.size = k) (hsz : 0 < k)
    (v : Value) (n : Nat) (xs : List Value) (hown : w.ownsRow base e k v n xs) (B : Nat) (x : Value) (l : List α) (hr : RdK enc k w B x l) (h63 : n + l.length ≤ maxLen) (hbytes : (n + l.length) * bytes ≤ 140737488355328) (hbase : base ≤ w.heap.size) :
    ∃ v' w', (Builtin.append_ #[t, t] ty #[v, x]).run P w = .ok v' w' ∧ w'.ownsRow base e k v' (n + l.length) (xs ++ l.flatMap enc) ∧ w.grownBy w' v.ownBlock := by
  obtain ⟨A, c, rfl, hc⟩ := hr
  have key : ∀ ad : Addr, (∀ j u, (l.flatMap enc)[j]? = some u → w.cell? (ad.add j) = some u) → ∃ v' w', (Builtin.append_ #[t, t] ty #[v, .slice (some ad) l.length c]).run P w = .ok v' w' ∧ w'.ownsRow base e k v' (n + l.length) (xs ++ l.flatMap enc) ∧ w.grownBy w' v.ownBlock := by
    intro ad had
    obtain ⟨v', w', h1, h2, h3, _, _⟩ := run_append_own_at (P := P) w base t ty e i z k bytes ht hi hz hsize hby hzs hsz v n xs hown ad l.length c (l.flatMap enc) (by rw [flat_len henc]) had (hint l) h63 hbytes hbase
    exact ⟨v', w', h1, h2, h3⟩
  by_cases hl : l = []
  · subst hl
    cases A with
    | some ad => exact key ad (by simp)
    | none =>
      refine ⟨v, w, ?_, by simpa using hown, grown_refl _ _⟩
      rcases hown.2 with ⟨rfl, rfl⟩ | ⟨g, cap, cur, rfl, _, _, hnc, _⟩
      · simp [Builtin.append_, run_underlying ht, sizeOf, typeInfo, hi, Builtin.lenOf, Builtin.firstCells]
      · simp [Builtin.append_, run_underlying ht, sizeOf, typeInfo, hi, Builtin.lenOf, Builtin.firstCells, hnc, storeCells]
  · obtain ⟨b, off, rfl, hb, hcell⟩ := hc hl
    refine key _ fun j u hu => ?_
    have hj : j < (l.flatMap enc).length := (List.getElem?_eq_some_iff.1 hu).1
    rw [flat_len henc] at hj
    have hq : j / k < l.length := (Nat.div_lt_iff_lt_mul hsz).2 hj
    have e1 : j / k * k + j % k = j := by rw [Nat.mul_comm]; exact Nat.div_add_mod j k
    have hu2 : (enc l[j / k])[j % k]? = some u := by
      have h1 := List.getElem?_eq_getElem (l := enc l[j / k]) (i := j % k) (by rw [henc]; exact Nat.mod_lt _ hsz)
      have h2 := flat_get henc l (j / k) _ (j % k) _ (List.getElem?_eq_getElem hq) h1
      rw [e1, hu] at h2
      rw [h1]; exact h2.symm
    have := hcell (j / k) _ (List.getElem?_eq_getElem hq) (j % k) u hu2
    rw [Nat.add_assoc, e1] at this
    have e2 : (⟨b, off, none⟩ : Addr).add j = ⟨b, off + j, none⟩ := by unfold Addr.add; split <;> simp_all
    rw [e2]; exact this

theorem wp_app_rd (w : World) {o : Oper} {a : Act} {K : Act → World → Prop} {Q : Exit → Act → World → Prop} (henc : ∀ x, (enc x).length = k) (hint : ∀ (l : List α), ∀ u ∈ l.flatMap enc, u.oneCell' = true) (s x : Operand) (t : TypeId)
    (ho : o.op = .call { callee := .builtin .append, args := #[s, x], argTypes := #[t, t] }) (base : Nat) (e : TypeId) (i : TypeInfo) (z : Value) (bytes : Nat)
    (ht : P.underlying t = some (.slice e)) (hi : P.info? e = some i) (hz : i.zero = some z) (hsize : i.size = k) (hby : i.bytes = bytes) (hzs : z.cells.size = k) (hsz : 0 < k)
    (v : Value) (n : Nat) (xs : List Value) (hs : a.eval s = v) (hown : w.ownsRow base e k v n xs) (B : Nat) (l : List α) (hr : RdK enc k w B (a.eval x) l) (h63 : n + l.length ≤ maxLen) (hbytes : (n + l.length) * bytes ≤ 140737488355328) (hbase : base ≤ w.heap.size)
    (h : ∀ v' w', w'.ownsRow base e k v' (n + l.length) (xs ++ l.flatMap enc) → w.grownBy w' v.ownBlock → K (a.put o.dst v') w') : o.wp P a w K Q := by
  obtain ⟨v', w', hrun, h2, h3⟩ := run_app_rd (P := P) w henc hint base t o.type e i z bytes ht hi hz hsize hby hzs hsz v n xs hown B _ l hr h63 hbytes hbase
  unfold Oper.wp execOp
  simp only [ho, resolve, invoke, builtin, Sem.run_bind, Sem.run_pure, Result.andThen_ok, List.map_toArray, List.map_cons, List.map_nil, hs, hrun]
  exact h v' w' h2 h3
theorem wpList_app_rd {w : World} {ops : Array Oper} {rest : List Oper} {o : Oper} {a : Act} {Q : Exit → Act → World → Prop} (hgd : o.guard = none) (henc : ∀ x, (enc x).length = k) (hint : ∀ (l : List α), ∀ u ∈ l.flatMap enc, u.oneCell' = true) (s x : Operand) (t : TypeId)
    (ho : o.op = .call { callee := .builtin .append, args := #[s, x], argTypes := #[t, t] }) (base : Nat) (e : TypeId) (i : TypeInfo) (z : Value) (bytes : Nat)
    (ht : P.underlying t = some (.slice e)) (hi : P.info? e = some i) (hz : i.zero = some z) (hsize : i.size = k) (hby : i.bytes = bytes) (hzs : z.cells.size = k) (hsz : 0 < k)
    (v : Value) (n : Nat) (xs : List Value) (hs : a.eval s = v) (hown : w.ownsRow base e k v n xs) (B : Nat) (l : List α) (hr : RdK enc k w B (a.eval x) l) (h63 : n + l.length ≤ maxLen) (hbytes : (n + l.length) * bytes ≤ 140737488355328) (hbase : base ≤ w.heap.size)
    (h : ∀ v' w', w'.ownsRow base e k v' (n + l.length) (xs ++ l.flatMap enc) → w.grownBy w' v.ownBlock → wpList P ops Q rest (a.put o.dst v') w') : wpList P ops Q (o :: rest) a w :=
  wpList_plain hgd fun _ hK => wp_app_rd w henc hint s x t ho base e i z bytes ht hi hz hsize hby hzs hsz v n xs hs hown B l hr h63 hbytes hbase fun v' w' h2 h3 => hK _ _ (h v' w' h2 h3)
end
theorem one_encR (l : List R4) : ∀ u ∈ l.flatMap encR, u.oneCell' = true := by
  intro u hu
  obtain ⟨r, _, hr⟩ := List.mem_flatMap.1 hu
  simp only [encR, List.mem_cons, List.not_mem_nil, or_false] at hr
  rcases hr with rfl | rfl | rfl | rfl <;> rfl

end Go.Proofs.YtjlfdgoijalfaaaGreat

/- Regions inside a round, by the walks that serve outside of one: plain ones, and those that draw their order (reads under a condition, then a tail). -/
namespace Go.Proofs.YtjlfdgoijalfaaaGreat
open Go.RowKit
set_option linter.unusedVariables false
set_option linter.unusedSimpArgs false

theorem wpList_round {P : Program} {ops : Array Oper} {Q : Exit → Act → World → Prop} {r n : Nat} (hout : ∀ a w, ¬ Q .outgrown a w) :
    ∀ (l : List Oper) (a : Act) (w : World), noDefer l = true → wpList P ops Q l a w → wpListIn (Fence.wide.inRound r) n P ops Q l a w
  | [], _, _, _, h => h
  | o :: l, a, w, hn, h => by
    simp only [noDefer, List.all_cons, Bool.and_eq_true] at hn
    unfold wpList at h
    unfold wpListIn
    by_cases hw : Region.wanted o (yielded ops a.tmps) = true
    · simp only [hw, if_true] at h ⊢
      rcases h with h | ⟨_, a0, w0, hq⟩
      · exact oper_round (fun c hc => by have := hn.1; rw [hc] at this; cases this) (fun a' w' h' => wpList_round hout l a' w' hn.2 h') h
      · exact (hout _ _ hq).elim
    · simp only [hw] at h ⊢
      exact ⟨fun _ _ => trivial, wpList_round hout l _ w hn.2 h⟩
/-- A plain region in a round. -/
theorem wpIn_region_plain_round {P : Program} {id r n : Nat} {Q : Exit → Act → World → Prop} {a : Act} {w : World} {l : List Oper} (hnd : noDefer l = true) (hout : ∀ a w, ¬ Q .outgrown a w) (h : wpList P l.toArray Q l a w) :
    (Code.region id l.toArray false).wpIn (Fence.wide.inRound r) n P Q a w := wpIn_region_lit (wpList_round hout l a w hnd h)
/-- A region that draws its order, in a round: reads under S, then a tail. -/
theorem wpIn_region_mix_round {P : Program} {id r n : Nat} {Q : Exit → Act → World → Prop} {a : Act} {w : World} {l : List Oper} (R T : List Nat) (S : World → Prop) (hm : P.follows .mixedOrders = true) (hB : mixB .any l.toArray R T = true) (hnd : noDefer l = true) (hout : ∀ a w, ¬ Q .outgrown a w) (hS : S w.drew)
    (h : wpReads P l.toArray S (fun a' => wpTail P l.toArray S (NoPanic Q) (T.map (opAt l)) a' w.drew) (R.map (opAt l)) a) : (Code.region id l.toArray true).wpIn (Fence.wide.inRound r) n P Q a w := by
  refine wpIn_mono (Q := NoPanic Q) (wpIn_region_any hm (wpAny_round (Q := NoPanic Q) (noDefer_spec hnd) (fun a w h => hout a w h) _ _ _ _ (wpAny_of_E (S := S) (L := l.length - 1) _ _ _ _ ?_))) NoPanic.imp
  simp only [mixB, Bool.and_eq_true, decide_eq_true_eq, beq_iff_eq, List.size_toArray] at hB
  obtain ⟨⟨⟨b1, b2⟩, b3⟩, b4⟩ := hB
  have := wpReads_mix (Q := NoPanic Q) (S := S) (l := l) (T := T) (w := w.drew) (Region.noSelect_spec b1) (fun _ _ _ _ h => h) (fun t ht => by rw [b3] at ht; injection ht with ht; exact ht.symm) hS R _ a b4 h
  rw [b2] at this
  exact this
end Go.Proofs.YtjlfdgoijalfaaaGreat

/- A map from bricks' keys to slices of rectangles that the call itself has made: what lies in it, and the laws at its operations. -/
namespace Go.Proofs.YtjlfdgoijalfaaaGreat
open Go.RowKit Go.Maps Go.WideElems
open Go.ChangeMaps (setBlock heap_setBlock_same heap_setBlock_other)
set_option linter.unusedVariables false
set_option linter.unusedSimpArgs false

theorem laidOutT : laidOutB Tryz.prog = true := by kernel_rfl
theorem rowKT : 77 < Tryz.prog.types.size := of_decide_eq_true (by kernel_rfl)
theorem lawKT : WideMaps.KeyLaw Tryz.prog 77 := deep_law_laid laidOutT (m := 2) (by omega) rowKT (by kernel_rfl) (by rw [Tryz.underlying77])
theorem lawK : Keyed Tryz.prog 77 := Keyed.of_law lawKT
def kv (k : Ky) : Value := .agg #[.int .i64 k.1, .int .i64 k.2]
def kl (k : Ky) : Lit := .string (keyBytes [.int .i64 k.1, .int .i64 k.2])
def kin (k : Ky) : Prop := -1000000000 ≤ k.1 ∧ k.1 ≤ 1000000000 ∧ -1000000000 ≤ k.2 ∧ k.2 ≤ 1000000000
theorem keyLits_kv {k : Ky} (h : kin k) (d : Nat) : Tryz.prog.keyLits (d + 2) 77 [.int .i64 k.1, .int .i64 k.2] = some [.int .i64 k.1, .int .i64 k.2] := by
  obtain ⟨h1, h2, h3, h4⟩ := h
  have w1 : (Lit.int .i64 k.1).wf = true := WalkArith.wf_i64 (by omega)
  have w2 : (Lit.int .i64 k.2).wf = true := WalkArith.wf_i64 (by omega)
  have c1 : Tryz.prog.cellsOf 77 = 2 := by kernel_rfl
  have c2 : Tryz.prog.cellsOf 3 = 1 := by kernel_rfl
  simp [Program.keyLits, Tryz.underlying77, Tryz.underlying3, c1, c2, w1, w2, List.range, List.range.loop]
theorem keyOf_kv {k : Ky} (h : kin k) : keyOf Tryz.prog 77 (kv k) = some (kl k) := by
  have h1 : Tryz.prog.keyType 77 = true := by kernel_rfl
  have c1 : Tryz.prog.cellsOf 77 = 2 := by kernel_rfl
  obtain ⟨d, hd⟩ : ∃ d, Tryz.prog.types.size + 1 = d + 2 := by
    have := Nat.lt_of_le_of_lt (Nat.zero_le _) rowKT
    exact ⟨Tryz.prog.types.size - 1, by omega⟩
  have h2 := keyLits_kv h d
  unfold keyOf kv
  rw [Tryz.underlying77, hd]
  have h3 : (Value.agg #[.int .i64 k.1, .int .i64 k.2]).formed Tryz.prog 77 = true := by simp [Value.formed, Tryz.underlying77, c1]
  have h4 : (Value.agg #[.int .i64 k.1, .int .i64 k.2]).cells.toList = [.int .i64 k.1, .int .i64 k.2] := rfl
  simp only [h1, h3, h4, h2, Bool.and_true, if_true, Option.map_some]
  rfl
theorem kl_inj {a b : Ky} (ha : kin a) (hb : kin b) (h : kl a = kl b) : a = b := by
  have h1 := keyOf_kv ha
  have h2 := keyOf_kv hb
  rw [h] at h1
  have := lawK.inj h1 h2
  unfold kv at this
  simp only [Value.agg.injEq, Array.mk.injEq, List.cons.injEq, Value.int.injEq, true_and, and_true] at this
  exact Prod.ext this.1 this.2
theorem kl_ne {a b : Ky} (ha : kin a) (hb : kin b) (h : a ≠ b) : kl a ≠ kl b := fun e => h (kl_inj ha hb e)
/-- A slice's words, whatever lies behind it. -/
def sliE : Value → DataW Unit
  | .slice none n c => .agg [.lit (.int .i64 n), .lit (.int .i64 c)]
  | .slice (some ⟨g, o, none⟩) n c => .agg [.lit (.int .i64 g), .lit (.int .i64 o), .lit (.int .i64 n), .lit (.int .i64 c)]
  | _ => .nil
def sliD : Value → Option (DataW Unit × List MemPlace)
  | .slice none n c => some (sliE (.slice none n c), [])
  | .slice (some ⟨g, o, none⟩) n c => some (sliE (.slice (some ⟨g, o, none⟩) n c), [])
  | _ => none
theorem sliD_inj {u v : Value} {d : DataW Unit} {p q : List MemPlace} (h1 : sliD u = some (d, p)) (h2 : sliD v = some (d, q)) : u = v := by
  unfold sliD at h1 h2
  split at h1 <;> split at h2 <;> simp only [Option.some.injEq, Prod.mk.injEq, reduceCtorEq] at h1 h2 <;> obtain ⟨e1, _⟩ := h1 <;> obtain ⟨e2, _⟩ := h2 <;> rw [← e1] at e2 <;> simp only [sliE, DataW.agg.injEq, List.cons.injEq, DataW.lit.injEq, Lit.int.injEq, true_and, and_true, reduceCtorEq, and_false, Int.natCast_inj] at e2
  · obtain ⟨rfl, rfl⟩ := e2; rfl
  · obtain ⟨rfl, rfl, rfl, rfl⟩ := e2; rfl
abbrev ownsG (b n : Nat) (D : DataW Unit) (w : World) : Prop := w.ownsMap Tryz.prog 77 sliD b n D
theorem zeroG (w : World) : (zeroValue 43).run Tryz.prog w = .ok (.slice none 0 0) w := by kernel_rfl

/-- What is at a key: the slice, or nil. -/
def gv (K : List Ky) (vals : Ky → Value) (k : Ky) : Value := if k ∈ K then vals k else .slice none 0 0
def addK (K : List Ky) (k : Ky) : List Ky := if k ∈ K then K else K ++ [k]
/-- Block bM maps each key of K to a slice that owns the rectangles p; no two lie in one row; none lies from n0 up to n1. -/
structure Gs (B bM n0 n1 : Nat) (K : List Ky) (p : Ky → List R4) (vals : Ky → Value) (w : World) : Prop where
  map : ∃ D, (ownsG bM K.length D w ∧ Maps.size D = K.length) ∧ (∀ k ∈ K, ∀ z, D.atKey (kl k) z = sliE (vals k)) ∧ ∀ l, Maps.has D l = true ↔ ∃ k ∈ K, l = kl k
  vs : ∀ k ∈ K, ∃ g c, vals k = .slice (some ⟨g, 0, none⟩) (p k).length c ∧ (g < n0 ∨ n1 ≤ g) ∧ w.ownsRow B 41 4 (vals k) (p k).length ((p k).flatMap encR)
  apart : ∀ a ∈ K, ∀ b ∈ K, a ≠ b → (vals a).ownBlock ≠ (vals b).ownBlock
  rng : ∀ k ∈ K, kin k
  nd : K.Nodup
theorem Gs.made (w : World) (B n0 n1 : Nat) (p : Ky → List R4) (vals : Ky → Value) : Gs B w.heap.size n0 n1 [] p vals (w.alloc (.map #[] 0)) :=
  ⟨⟨.map [], ⟨World.ownsMap_made w _ _ _, rfl⟩, fun k h => (List.not_mem_nil h).elim, fun l => by rw [has_eq]; simp⟩, fun k h => (List.not_mem_nil h).elim, fun a h => (List.not_mem_nil h).elim, fun k h => (List.not_mem_nil h).elim, by simp⟩
theorem Gs.same {B bM n0 n1 : Nat} {K : List Ky} {p q : Ky → List R4} {vals : Ky → Value} {w : World} (h : Gs B bM n0 n1 K p vals w) (e : ∀ k, p k = q k) : Gs B bM n0 n1 K q vals w := by
  obtain rfl : p = q := funext e
  exact h
theorem Gs.lt {B bM n0 n1 : Nat} {K : List Ky} {p : Ky → List R4} {vals : Ky → Value} {w : World} (h : Gs B bM n0 n1 K p vals w) {k : Ky} (hk : k ∈ K) {g : Nat} (hg : (vals k).ownBlock = some g) : B ≤ g ∧ g < w.heap.size := by
  obtain ⟨_, _, _, _, hr⟩ := h.vs k hk
  exact hr.lt g hg
theorem Gs.gap {B bM n0 n1 : Nat} {K : List Ky} {p : Ky → List R4} {vals : Ky → Value} {w : World} (h : Gs B bM n0 n1 K p vals w) {m0 m1 : Nat} (hm : w.heap.size ≤ m0) : Gs B bM m0 m1 K p vals w :=
  ⟨h.map, fun k hk => by
    obtain ⟨g, c, e, _, hr⟩ := h.vs k hk
    exact ⟨g, c, e, .inl (Nat.lt_of_lt_of_le (hr.lt g (by rw [e]; rfl)).2 hm), hr⟩, h.apart, h.rng, h.nd⟩
theorem Gs.grown {B bM n0 n1 : Nat} {K : List Ky} {p : Ky → List R4} {vals : Ky → Value} {w w' : World} (h : Gs B bM n0 n1 K p vals w) {row : Option Nat} (hg : w.grownBy w' row) (h1 : some bM ≠ row) (h2 : ∀ k ∈ K, (vals k).ownBlock ≠ row) : Gs B bM n0 n1 K p vals w' := by
  obtain ⟨D, d1, d2, d3⟩ := h.map
  exact ⟨⟨D, ⟨d1.1.kept hg h1, d1.2⟩, d2, d3⟩, fun k hk => by
    obtain ⟨g, c, e, hgap, hr⟩ := h.vs k hk
    exact ⟨g, c, e, hgap, hr.kept hg (.inr (h2 k hk))⟩, h.apart, h.rng, h.nd⟩
theorem Gs.someB {B bM n0 n1 : Nat} {K : List Ky} {p : Ky → List R4} {vals : Ky → Value} {w : World} (h : Gs B bM n0 n1 K p vals w) {k : Ky} (hk : k ∈ K) : (vals k).ownBlock ≠ none := by
  obtain ⟨g, c, e, _, _⟩ := h.vs k hk
  rw [e]; simp [Value.ownBlock]
theorem Gs.below {B bM n0 n1 : Nat} {K : List Ky} {p : Ky → List R4} {vals : Ky → Value} {w w' : World} (h : Gs B bM n0 n1 K p vals w) (hb : Below w.heap.size w w') : Gs B bM n0 n1 K p vals w' :=
  h.grown ⟨hb.os, hb.tape, hb.output, hb.size, fun k hk _ => hb.block k hk⟩ (by simp) fun k hk => h.someB hk
theorem Gs.bM_lt {B bM n0 n1 : Nat} {K : List Ky} {p : Ky → List R4} {vals : Ky → Value} {w : World} (h : Gs B bM n0 n1 K p vals w) : bM < w.heap.size := by
  obtain ⟨D, d1, _⟩ := h.map
  exact d1.1.lt
/-- The map's block holds no cells: no row is it. -/
theorem Gs.not_map {B bM n0 n1 : Nat} {K : List Ky} {p : Ky → List R4} {vals : Ky → Value} {w : World} (h : Gs B bM n0 n1 K p vals w) {b n : Nat} {e : TypeId} {s : Nat} {v : Value} {xs : List Value} (ho : w.ownsRow b e s v n xs) : some bM ≠ v.ownBlock := by
  obtain ⟨D, ⟨⟨es, clock, hb, _⟩, _⟩, _⟩ := h.map
  rcases ho.2 with ⟨rfl, _⟩ | ⟨g, cap, cur, rfl, _, hg, _⟩
  · simp [Value.ownBlock]
  · intro e1
    have : g = bM := by simpa [Value.ownBlock] using e1.symm
    subst this
    rw [hg] at hb
    cases hb
theorem Gs.setCell {B bM n0 n1 : Nat} {K : List Ky} {p : Ky → List R4} {vals : Ky → Value} {w : World} (h : Gs B bM n0 n1 K p vals w) {q : Nat} (off : Nat) (u : Value) (h1 : bM ≠ q) (h2 : ∀ k ∈ K, (vals k).ownBlock ≠ some q) : Gs B bM n0 n1 K p vals (w.setCell ⟨q, off, none⟩ u) :=
  h.grown (row := some q) ⟨rfl, rfl, rfl, by simp, fun k _ hk => Below.heap_setCell _ _ _ _ (fun e => hk (by rw [e]))⟩ (by simpa using h1) h2
theorem Gs.look {B bM n0 n1 : Nat} {K : List Ky} {p : Ky → List R4} {vals : Ky → Value} {w : World} (h : Gs B bM n0 n1 K p vals w) {k : Ky} (hk : kin k) : (Instr.lookup 72 (.map (some bM)) (kv k) false).run Tryz.prog w = .ok (gv K vals k) w := by
  obtain ⟨D, ⟨d1, _⟩, d2, d3⟩ := h.map
  obtain ⟨v, ps, hrun, hR⟩ := d1.lookup lawK Tryz.underlying72 (zeroG w) (show sliD (.slice none 0 0) = some (sliE (.slice none 0 0), []) from rfl) (keyOf_kv hk)
  suffices e : v = gv K vals k by rw [← e]; exact hrun
  by_cases hm : k ∈ K
  · rw [d2 k hm] at hR
    obtain ⟨g, c, e, _, _⟩ := h.vs k hm
    unfold gv
    rw [if_pos hm]
    refine sliD_inj hR (q := []) ?_
    rw [e]; rfl
  · have hno : Maps.has D (kl k) = false := by
      rw [← Bool.not_eq_true, d3]
      rintro ⟨k', hk', e⟩
      exact hm (kl_inj hk (h.rng k' hk') e ▸ hk')
    rw [atKey_of_not_has hno] at hR
    unfold gv
    rw [if_neg hm]
    exact sliD_inj hR (q := []) rfl
/-- 'm[k]' at the operation. -/
theorem wpList_look_grp {w : World} {ops : Array Oper} {rest : List Oper} {o : Oper} {a : Act} {Q : Exit → Act → World → Prop} (hg : o.guard = none) (m x : Operand) (hop : o.op = Op.lookup 72 m x false) {B bM n0 n1 : Nat} {K : List Ky} {p : Ky → List R4} {vals : Ky → Value}
    (hm : a.eval m = .map (some bM)) (h : Gs B bM n0 n1 K p vals w) (k : Ky) (hx : a.eval x = kv k) (hk : kin k) (v : Value) (hv : gv K vals k = v) (hK : wpList Tryz.prog ops Q rest (a.put o.dst v) w) : wpList Tryz.prog ops Q (o :: rest) a w := by
  refine wpList_plain hg fun K' hK' => ?_
  unfold Oper.wp
  subst hv
  simp [execOp, hop, hm, hx, h.look hk, Result.andThen]
  exact hK' _ _ hK

/-- Between 'm[k]' taken for a store and the store. -/
def GMid (B bM n0 n1 : Nat) (K : List Ky) (p : Ky → List R4) (vals : Ky → Value) (k : Ky) (st : Nat) (w1 : World) : Prop :=
  bM < w1.heap.size ∧ ∀ (w2 : World) (r : R4) (g c : Nat), w1.grownBy w2 (gv K vals k).ownBlock → ((gv K vals k).ownBlock = some g ∨ w1.heap.size ≤ g) → (g < n0 ∨ n1 ≤ g) → w2.ownsRow B 41 4 (.slice (some ⟨g, 0, none⟩) ((p k).length + 1) c) ((p k).length + 1) ((p k ++ [r]).flatMap encR) →
    ∃ w3, (Instr.entryStore 72 (.map (some bM)) (goInt st) (.slice (some ⟨g, 0, none⟩) ((p k).length + 1) c)).run Tryz.prog w2 = .ok () w3 ∧ w2.grownBy w3 (some bM) ∧
      Gs B bM n0 n1 (addK K k) (fun k' => p k' ++ if k' = k then [r] else []) (fun k' => if k' = k then .slice (some ⟨g, 0, none⟩) ((p k).length + 1) c else vals k') w3
theorem setBlock_grown {w : World} {b : Nat} {es : Array MapEntry} {clock : Nat} (hb : w.heap[b]? = some (.map es clock)) (o' : Obj) : w.grownBy (setBlock w b o') (some b) :=
  ⟨rfl, rfl, rfl, by simp [setBlock], fun i _ hi => heap_setBlock_other hb _ (fun e => hi (by rw [e]))⟩
theorem Gs.entry {B bM n0 n1 : Nat} {K : List Ky} {p : Ky → List R4} {vals : Ky → Value} {w : World} (h : Gs B bM n0 n1 K p vals w) {k : Ky} (hk : kin k) (hn : K.length < maxLen) (hp : k ∉ K → p k = []) (hn1 : n1 ≤ w.heap.size) :
    ∃ (st : Nat) (w1 : World), (Instr.mapEntry 72 (.map (some bM)) (kv k)).run Tryz.prog w = .ok (.tuple #[gv K vals k, goInt st]) w1 ∧ w.grownBy w1 (some bM) ∧ w1.heap.size = w.heap.size ∧ GMid B bM n0 n1 K p vals k st w1 := by
  have hlook := h.look hk
  obtain ⟨D, ⟨d1, hKs⟩, d2, d3⟩ := h.map
  obtain ⟨es, clock, hb, F, hs, hD⟩ := id d1
  have hblt := d1.lt
  obtain ⟨v0, st, es1, clock1, hrun, hv0, hst⟩ := entry_then_store lawKT Tryz.underlying72 zeroG hb F (keyOf_kv hk)
  have hgw := setBlock_grown hb (.map es1 clock1)
  have e0 : v0 = gv K vals k := by
    rcases Maps.fit_look false lawK Tryz.underlying72 (zeroG w) hb F (keyOf_kv hk) with ⟨hr, hno, _⟩ | ⟨e0, y, hm0, hk0, hr, _⟩
    · rw [hlook] at hr
      simp only [Result.ok.injEq, and_true] at hr
      rcases hv0 with ⟨e1, h1, h2, h3⟩ | ⟨h1, h2⟩
      · exact absurd h2 (hno e1 h1)
      · rw [h2, hr]; rfl
    · rw [hlook] at hr
      simp only [Result.ok.injEq, and_true] at hr
      rcases hv0 with ⟨e1, h1, h2, h3⟩ | ⟨h1, h2⟩
      · have : e1 = e0 := by
          have hnd : es.toList.Pairwise (fun x y => x.key ≠ y.key) := ((MapKept.stamped_iff es clock).1 F.stamped).2.2
          rcases List.getElem_of_mem h1 with ⟨i, hi, ei⟩
          rcases List.getElem_of_mem hm0 with ⟨j, hj, ej⟩
          rcases Nat.lt_trichotomy i j with hij | hij | hij
          · exact absurd (by rw [ei, ej, h2, hk0]) (List.pairwise_iff_getElem.1 hnd i j hi hj hij)
          · subst hij; rw [← ei, ← ej]
          · exact absurd (by rw [ei, ej, h2, hk0]) (List.pairwise_iff_getElem.1 hnd j i hj hi hij)
        rw [h3, this, hr]; rfl
      · exact absurd hk0 (h1 e0 hm0)
  subst e0
  refine ⟨st, _, hrun, hgw, by simp [setBlock], by simpa [setBlock] using hblt, ?_⟩
  intro w2 r g c hg2 hloc hgap hown2
  have hbM2 : some bM ≠ (gv K vals k).ownBlock := by
    unfold gv
    split
    · rename_i hm
      obtain ⟨_, _, _, _, hr⟩ := h.vs k hm
      exact h.not_map hr
    · simp [Value.ownBlock]
  have hw2 : w2.heap[bM]? = some (.map es1 clock1) := (hg2.block bM (by simpa [setBlock] using hblt) hbM2).trans (heap_setBlock_same hb _)
  obtain ⟨es', clock', hrun2, hupd⟩ := hst w2 (.slice (some ⟨g, 0, none⟩) ((p k).length + 1) c) hw2
  obtain ⟨es'', clock'', hrun3, F'', hput, _⟩ := Maps.fit_store (R' := sliD) lawK Tryz.underlying72 hb F (Nat.lt_of_le_of_lt hs hn) (fun _ _ _ _ hz => hz) (keyOf_kv hk) (show sliD (.slice (some ⟨g, 0, none⟩) ((p k).length + 1) c) = some (sliE (.slice (some ⟨g, 0, none⟩) ((p k).length + 1) c), []) from rfl)
  rw [hupd] at hrun3
  simp only [Result.ok.injEq, true_and] at hrun3
  have hsame : es' = es'' ∧ clock' = clock'' := by
    have h1 := heap_setBlock_same hb (.map es' clock')
    have h2 := heap_setBlock_same hb (.map es'' clock'')
    rw [hrun3] at h1
    rw [h1] at h2
    simp only [Option.some.injEq, Obj.map.injEq] at h2
    exact h2
  obtain ⟨rfl, rfl⟩ := hsame
  have hg3 := setBlock_grown hw2 (.map es' clock')
  refine ⟨_, hrun2, hg3, ?_⟩
  have hlen : es'.size = Maps.size (D.put (kl k) (sliE (.slice (some ⟨g, 0, none⟩) ((p k).length + 1) c))) := by
    rw [hD, DataW.put_eq, Maps.size_eq, ← hput, length_sorted]
    simp
  have hhas : Maps.has D (kl k) = true ↔ k ∈ K := by
    rw [d3]
    constructor
    · rintro ⟨k', hk', e⟩
      exact kl_inj hk (h.rng k' hk') e ▸ hk'
    · intro hm; exact ⟨k, hm, rfl⟩
  have hrng : ∀ k' ∈ addK K k, kin k' := by
    intro k' hk'
    unfold addK at hk'
    split at hk'
    · exact h.rng k' hk'
    · rcases List.mem_append.1 hk' with h1 | h1
      · exact h.rng k' h1
      · rw [List.mem_singleton] at h1; subst h1; exact hk
  have hmem : ∀ k', k' ∈ addK K k ↔ k' = k ∨ k' ∈ K := by
    intro k'
    unfold addK
    split
    · rename_i hm
      constructor
      · exact .inr
      · rintro (rfl | h1)
        · exact hm
        · exact h1
    · rw [List.mem_append, List.mem_singleton]
      exact Or.comm
  have hoth : ∀ k' ∈ K, k' ≠ k → (vals k').ownBlock ≠ some g ∧ (vals k').ownBlock ≠ (gv K vals k).ownBlock := by
    intro k' hk' hne
    have hsm := h.someB hk'
    have h2 : (vals k').ownBlock ≠ (gv K vals k).ownBlock := by
      unfold gv
      split
      · rename_i hm; exact h.apart k' hk' k hm hne
      · exact hsm
    refine ⟨?_, h2⟩
    rcases hloc with hl | hl
    · rw [← hl]; exact h2
    · intro e
      have := (h.lt hk' e).2
      have : (setBlock w bM (.map es1 clock1)).heap.size = w.heap.size := by simp [setBlock]
      omega
  have hsz : Maps.size (D.put (kl k) (sliE (.slice (some ⟨g, 0, none⟩) ((p k).length + 1) c))) = (addK K k).length := by
    rw [size_put (d1.tidy lawK)]
    unfold addK
    by_cases hm : k ∈ K
    · rw [if_pos (hhas.2 hm), if_pos hm]; omega
    · rw [if_neg (fun e => hm (hhas.1 e)), if_neg hm]; simp; omega
  refine ⟨⟨D.put (kl k) (sliE (.slice (some ⟨g, 0, none⟩) ((p k).length + 1) c)), ⟨⟨es', clock', heap_setBlock_same hw2 _, F'', by omega, by rw [hD, DataW.put_eq, hput]⟩, hsz⟩, ?_, ?_⟩, ?_, ?_, hrng, ?_⟩
  · intro k' hk' z
    by_cases e : k' = k
    · subst e
      rw [if_pos rfl, atKey_put_same d1.isMap (lawK.key (keyOf_kv hk))]
    · rw [if_neg e, atKey_put_other (kl_ne (hrng k' hk') hk e)]
      rcases (hmem k').1 hk' with h1 | h1
      · exact absurd h1 e
      · exact d2 k' h1 z
  · intro l
    by_cases e : l = kl k
    · subst e
      rw [has_put_same d1.isMap (lawK.key (keyOf_kv hk))]
      exact ⟨fun _ => ⟨k, (hmem k).2 (.inl rfl), rfl⟩, fun _ => rfl⟩
    · rw [has_put_other e, d3]
      constructor
      · rintro ⟨k', h1, h2⟩; exact ⟨k', (hmem k').2 (.inr h1), h2⟩
      · rintro ⟨k', h1, h2⟩
        rcases (hmem k').1 h1 with h3 | h3
        · subst h3; exact absurd h2 e
        · exact ⟨k', h3, h2⟩
  · intro k' hk'
    by_cases e : k' = k
    · subst e
      refine ⟨g, c, by simp, hgap, ?_⟩
      simp only [if_true, List.length_append, List.length_singleton]
      refine hown2.kept hg3 (.inr ?_)
      have hno : some bM ≠ (Value.slice (some ⟨g, 0, none⟩) ((p k').length + 1) c).ownBlock := by
        intro e1
        have e2 : g = bM := by simpa [Value.ownBlock] using e1.symm
        subst e2
        rcases hown2.2 with ⟨e3, _⟩ | ⟨g', cap, cur, e3, _, hh, _⟩
        · cases e3
        · injection e3 with e4
          injection e4 with e4
          injection e4 with e4
          subst e4
          rw [hh] at hw2
          cases hw2
      exact fun e1 => hno e1.symm
    · rcases (hmem k').1 hk' with h1 | h1
      · exact absurd h1 e
      · obtain ⟨g', c', e', hgap', hr'⟩ := h.vs k' h1
        obtain ⟨o1, o2⟩ := hoth k' h1 e
        refine ⟨g', c', by simp [e, e'], hgap', ?_⟩
        simp only [e, if_false, List.append_nil]
        have hk1 : (vals k').ownBlock ≠ some bM := fun e1 => (h.not_map hr') e1.symm
        exact ((hr'.kept hgw (.inr hk1)).kept hg2 (.inr o2)).kept hg3 (.inr hk1)
  · intro a ha b hb' hne
    by_cases ea : a = k
    · subst ea
      rw [if_pos rfl, if_neg (Ne.symm hne)]
      rcases (hmem b).1 hb' with h1 | h1
      · exact absurd h1.symm hne
      · exact fun e => (hoth b h1 (Ne.symm hne)).1 e.symm
    · rw [if_neg ea]
      rcases (hmem a).1 ha with h1 | h1
      · exact absurd h1 ea
      · by_cases eb : b = k
        · subst eb
          rw [if_pos rfl]
          exact (hoth a h1 hne).1
        · rw [if_neg eb]
          rcases (hmem b).1 hb' with h2 | h2
          · exact absurd h2 eb
          · exact h.apart a h1 b h2 hne
  · unfold addK
    split
    · exact h.nd
    · rename_i hm
      rw [List.nodup_append]
      refine ⟨h.nd, by simp, fun a ha b hb e => ?_⟩
      rw [List.mem_singleton] at hb
      subst hb; subst e
      exact hm ha
theorem wpList_entry_grp {w : World} {ops : Array Oper} {rest : List Oper} {o : Oper} {a : Act} {Q : Exit → Act → World → Prop} (hg : o.guard = none) (m x : Operand) (hop : o.op = Op.mapEntry 72 m x) {B bM n0 n1 : Nat} {K : List Ky} {p : Ky → List R4} {vals : Ky → Value}
    (hm : a.eval m = .map (some bM)) (h : Gs B bM n0 n1 K p vals w) (k : Ky) (hx : a.eval x = kv k) (hk : kin k) (hn : K.length < maxLen) (hp : k ∉ K → p k = []) (hn1 : n1 ≤ w.heap.size) (v : Value) (hv : gv K vals k = v)
    (hK : ∀ (st : Nat) (w1 : World), w.grownBy w1 (some bM) → w1.heap.size = w.heap.size → GMid B bM n0 n1 K p vals k st w1 → wpList Tryz.prog ops Q rest (a.put o.dst (.tuple #[v, .int .i64 (st : Nat)])) w1) : wpList Tryz.prog ops Q (o :: rest) a w := by
  refine wpList_plain hg fun K' hK' => ?_
  obtain ⟨st, w1, hrun, h1, h2, h3⟩ := h.entry hk hn hp hn1
  subst hv
  unfold Oper.wp
  simp [execOp, hop, hm, hx, hrun, Result.andThen]
  exact hK' _ _ (hK st w1 h1 h2 h3)
theorem wpList_store_grp {w w1 : World} {ops : Array Oper} {rest : List Oper} {o : Oper} {a : Act} {Q : Exit → Act → World → Prop} (hg : o.guard = none) (m x y : Operand) (hop : o.op = Op.entryStore 72 m x y) {B bM n0 n1 : Nat} {K : List Ky} {p : Ky → List R4} {vals : Ky → Value} {k : Ky} {st : Nat} (h : GMid B bM n0 n1 K p vals k st w1)
    (hm : a.eval m = .map (some bM)) (hx : a.eval x = .int .i64 (st : Nat)) (r : R4) (g c : Nat) (hy : a.eval y = .slice (some ⟨g, 0, none⟩) ((p k).length + 1) c) (hgr : w1.grownBy w (gv K vals k).ownBlock) (hloc : (gv K vals k).ownBlock = some g ∨ w1.heap.size ≤ g) (hgap : g < n0 ∨ n1 ≤ g)
    (hown : w.ownsRow B 41 4 (.slice (some ⟨g, 0, none⟩) ((p k).length + 1) c) ((p k).length + 1) ((p k ++ [r]).flatMap encR))
    (hK : ∀ w3, w.grownBy w3 (some bM) → Gs B bM n0 n1 (addK K k) (fun k' => p k' ++ if k' = k then [r] else []) (fun k' => if k' = k then .slice (some ⟨g, 0, none⟩) ((p k).length + 1) c else vals k') w3 → wpList Tryz.prog ops Q rest (a.put o.dst undef) w3) : wpList Tryz.prog ops Q (o :: rest) a w := by
  refine wpList_plain hg fun K' hK' => ?_
  obtain ⟨w3, hrun, h1, h2⟩ := h.2 w r g c hgr hloc hgap hown
  unfold Oper.wp
  simp [execOp, hop, hm, hx, hy, goInt, hrun, Result.andThen]
  simp only [goInt] at hrun
  rw [hrun]
  exact hK' _ _ (hK w3 h1 h2)
end Go.Proofs.YtjlfdgoijalfaaaGreat

/- copy on rows whose elements have any number of cells: the kit's laws with the size as a number of its own. -/
namespace Go.Proofs.YtjlfdgoijalfaaaGreat
open Go.RowKit
set_option linter.unusedVariables false
set_option linter.unusedSimpArgs false

theorem setRow_grown (w : World) (g : Nat) (cs : Array Value) : w.grownBy (w.setRow g cs) (some g) := ⟨rfl, rfl, rfl, by simp [World.setRow], fun k _ hk => setRow_other w g k cs (fun e => hk (by rw [e]))⟩
theorem run_copy_row_n {P : Program} (w : World) (dT sT ty elem : TypeId) (g o dLen dCap : Nat) (a : Addr) (sLen sCap : Nat) (cur : Array Value) (t : TypeId) (cs : List Value) (k n : Nat)
    (hu : P.underlying dT = some (.slice elem)) (hs : (P.info? elem).map (·.size) = some k)
    (hg : w.heap[g]? = some (.cells cur t (0, 0))) (hm : n = Nat.min sLen dLen) (hn : cs.length = n * k)
    (hsrc : ∀ j v, cs[j]? = some v → w.cell? (a.add j) = some v) (hfit : o + cs.length ≤ cur.size) (h1 : ∀ v ∈ cs, v.oneCell' = true) :
    (Builtin.copy_ #[dT, sT] ty #[.slice (some ⟨g, o, none⟩) dLen dCap, .slice (some a) sLen sCap]).run P w =
      .ok (goInt n) (w.setRow g (cur.toList.take o ++ cs ++ cur.toList.drop (o + cs.length)).toArray) := by
  have hl := run_loadCells_list (P := P) w a cs hsrc
  have hst := run_storeCells_at P g o t cs 0 cur w hg (by simpa using hfit) h1
  cases hq : P.info? elem with
  | none => simp [hq] at hs
  | some i =>
    have hi : i.size = k := by simpa [hq] using hs
    simp [Builtin.copy_, run_underlying hu, Builtin.lenOf, Builtin.firstCells, sizeOf, typeInfo, hq, hi, ← hm, ← hn, hl, hst]
theorem run_copy_none_n {P : Program} (w : World) (dT sT ty elem : TypeId) (d a : Option Addr) (dLen dCap sLen sCap : Nat) (k : Nat) (hu : P.underlying dT = some (.slice elem)) (hs : (P.info? elem).map (·.size) = some k) (hn : Nat.min sLen dLen = 0) :
    (Builtin.copy_ #[dT, sT] ty #[.slice d dLen dCap, .slice a sLen sCap]).run P w = .ok (goInt 0) w := by
  cases hq : P.info? elem with
  | none => simp [hq] at hs
  | some i =>
    have hl : ∀ (x : Addr), (loadCells x 0).run P w = .ok #[] w := fun x => by simpa using run_loadCells_list (P := P) w x [] (by simp)
    cases d <;> cases a <;> simp [Builtin.copy_, run_underlying hu, Builtin.lenOf, Builtin.firstCells, sizeOf, typeInfo, hq, hn, storeCells, hl]
theorem wpList_copy_n {P : Program} {w : World} {ops : Array Oper} {rest : List Oper} {o : Oper} {a : Act} {Q : Exit → Act → World → Prop} (hgd : o.guard = none) (d s : Operand) (dT sT : TypeId)
    (ho : o.op = .call { callee := .builtin .copy, args := #[d, s], argTypes := #[dT, sT] }) (elem : TypeId) (hu : P.underlying dT = some (.slice elem)) (k : Nat) (hsz : (P.info? elem).map (·.size) = some k)
    (dp sp : Option Addr) (dLen dCap sLen sCap : Nat) (hd : a.eval d = .slice dp dLen dCap) (hs : a.eval s = .slice sp sLen sCap)
    (g off : Nat) (cur : List Value) (t : TypeId) (hg : w.heap[g]? = some (.cells cur.toArray t (0, 0))) (cs : List Value) (n : Nat) (hm : n = Nat.min sLen dLen) (hn : cs.length = n * k)
    (hpos : 0 < n → dp = some ⟨g, off, none⟩ ∧ ∃ ad, sp = some ad ∧ ∀ j v, cs[j]? = some v → w.cell? (ad.add j) = some v)
    (hfit : off + cs.length ≤ cur.length) (h1 : ∀ v ∈ cs, v.oneCell' = true) (B : Nat) (w0 : World) (hb : Below B w0 w) (hBg : B ≤ g)
    (h : ∀ w', Hid (w'.heap[g]? = some (.cells (splice cur off cs).toArray t (0, 0))) → Below B w0 w' → w.grownBy w' (some g) → wpList P ops Q rest (a.put o.dst (goInt n)) w') :
    wpList P ops Q (o :: rest) a w := by
  refine wpList_plain hgd fun K hK => ?_
  by_cases h0 : n = 0
  · subst h0
    obtain rfl : cs = [] := List.eq_nil_of_length_eq_zero (by simpa using hn)
    have hrun := run_copy_none_n (P := P) w dT sT o.type elem dp sp dLen dCap sLen sCap k hu hsz hm.symm
    unfold Oper.wp
    simp [execOp, ho, resolve, invoke, builtin, hd, hs, hrun, Result.andThen]
    exact hK _ _ (h w (show _ = _ by simpa [splice] using hg) hb ⟨rfl, rfl, rfl, Nat.le_refl _, fun _ _ _ => rfl⟩)
  · obtain ⟨rfl, ad, rfl, hsrc⟩ := hpos (by omega)
    have hrun := run_copy_row_n (P := P) w dT sT o.type elem g off dLen dCap ad sLen sCap cur.toArray t cs k n hu hsz hg hm hn hsrc (by simpa using hfit) h1
    unfold Oper.wp
    simp [execOp, ho, resolve, invoke, builtin, hd, hs, hrun, Result.andThen]
    exact hK _ _ (h _ (show _ = _ by simpa [splice] using setRow_heap w g _ _ t _ hg) (below_setRow hb hBg _) (setRow_grown _ _ _))
theorem step_copy_n {P : Program} {ops : Array Oper} {o : Oper} {a : Act} {w : World} {K : Act → World → Prop} {Q : Exit → Act → World → Prop} {E : Prop} (hgd : o.guard = none) (d s : Operand) (dT sT : TypeId)
    (ho : o.op = .call { callee := .builtin .copy, args := #[d, s], argTypes := #[dT, sT] }) (elem : TypeId) (hu : P.underlying dT = some (.slice elem)) (k : Nat) (hsz : (P.info? elem).map (·.size) = some k)
    (dp sp : Option Addr) (dLen dCap sLen sCap : Nat) (hd : a.eval d = .slice dp dLen dCap) (hs : a.eval s = .slice sp sLen sCap)
    (g off : Nat) (cur : List Value) (t : TypeId) (hg : w.heap[g]? = some (.cells cur.toArray t (0, 0))) (cs : List Value) (n : Nat) (hm : n = Nat.min sLen dLen) (hn : cs.length = n * k)
    (hpos : 0 < n → dp = some ⟨g, off, none⟩ ∧ ∃ ad, sp = some ad ∧ ∀ j v, cs[j]? = some v → w.cell? (ad.add j) = some v)
    (hfit : off + cs.length ≤ cur.length) (h1 : ∀ v ∈ cs, v.oneCell' = true) (B : Nat) (w0 : World) (hb : Below B w0 w) (hBg : B ≤ g)
    (h : ∀ w', Hid (w'.heap[g]? = some (.cells (splice cur off cs).toArray t (0, 0))) → Below B w0 w' → w.grownBy w' (some g) → K (a.put o.dst (goInt n)) w') :
    if Region.wanted o (yielded ops a.tmps) = true then Oper.wp P o a w K Q else E := by
  have hw : Region.wanted o (yielded ops a.tmps) = true := by simp [Region.wanted, hgd]
  rw [if_pos hw]
  by_cases h0 : n = 0
  · subst h0
    obtain rfl : cs = [] := List.eq_nil_of_length_eq_zero (by simpa using hn)
    have hrun := run_copy_none_n (P := P) w dT sT o.type elem dp sp dLen dCap sLen sCap k hu hsz hm.symm
    unfold Oper.wp
    simp [execOp, ho, resolve, invoke, builtin, hd, hs, hrun, Result.andThen]
    exact h w (show _ = _ by simpa [splice] using hg) hb ⟨rfl, rfl, rfl, Nat.le_refl _, fun _ _ _ => rfl⟩
  · obtain ⟨rfl, ad, rfl, hsrc⟩ := hpos (by omega)
    have hrun := run_copy_row_n (P := P) w dT sT o.type elem g off dLen dCap ad sLen sCap cur.toArray t cs k n hu hsz hg hm hn hsrc (by simpa using hfit) h1
    unfold Oper.wp
    simp [execOp, ho, resolve, invoke, builtin, hd, hs, hrun, Result.andThen]
    exact h _ (show _ = _ by simpa [splice] using setRow_heap w g _ _ t _ hg) (below_setRow hb hBg _) (setRow_grown _ _ _)
end Go.Proofs.YtjlfdgoijalfaaaGreat

/- texture.sorted: keys in order. -/
namespace Go.Proofs.YtjlfdgoijalfaaaGreat
open Go.RowKit
set_option linter.unusedVariables false
set_option linter.unusedSimpArgs false

def encK (k : Ky) : List Value := [.int .i64 k.1, .int .i64 k.2]
theorem infoKy : (Tryz.prog.info? 77).map (fun i => (i.zero, i.size, i.bytes)) = some (some (.agg #[.int .i64 0, .int .i64 0]), 2, 16) := by kernel_rfl
theorem own_copied_n {w w' : World} {base : Nat} {e t : TypeId} {g n cap off size : Nat} {xs cs cur : List Value} (h : w.ownsRow base e size (.slice (some ⟨g, 0, none⟩) n cap) n xs) (hg : w.heap[g]? = some (.cells cur.toArray t (0, 0))) (hg' : w'.heap[g]? = some (.cells (splice cur off cs).toArray t (0, 0))) (hfit : off + cs.length ≤ n * size) :
    w'.ownsRow base e size (.slice (some ⟨g, 0, none⟩) n cap) n (splice xs off cs) := by
  rcases h.2 with ⟨e0, _⟩ | ⟨g', cap', cur', e0, hb, hh, hn, hm, hs, ht⟩
  · cases e0
  · injection e0 with e1 _ e3
    injection e1 with e1
    injection e1 with e1
    subst e1; subst e3
    rw [hg] at hh
    injection hh with hh
    injection hh with h1 h2
    subst h1; subst h2
    have hl : cur.length = cap * size := by simpa using hs
    have hx := h.1
    have hcap : n * size ≤ cap * size := Nat.mul_le_mul_right _ hn
    refine ⟨by rw [length_splice _ _ _ (by omega)]; exact hx, .inr ⟨g, cap, _, rfl, hb, hg', hn, hm, by rw [List.size_toArray, length_splice _ _ _ (by omega)]; omega, ?_⟩⟩
    rw [splice_take _ _ _ _ hfit]
    rw [← ht]
theorem set_two {α : Type} (L : List α) (o : Nat) (a b : α) (h : o + 2 ≤ L.length) : (L.set o a).set (o + 1) b = splice L o [a, b] := by
  unfold splice
  apply List.ext_getElem?
  intro i
  simp only [List.getElem?_set, List.length_set, List.getElem?_append, List.length_take, List.getElem?_take, List.length_cons, List.length_nil, List.getElem?_drop]
  have e1 : min o L.length = o := by omega
  rw [e1]
  by_cases h1 : i < o
  · rw [if_neg (by omega), if_neg (by omega), if_pos h1, if_pos h1]
  · by_cases h2 : i = o
    · subst h2
      rw [if_neg (by omega), if_pos rfl, if_pos (by omega), if_neg (by omega)]
      simp
    · by_cases h3 : i = o + 1
      · subst h3
        rw [if_pos rfl, if_pos (by omega), if_neg (by omega)]
        rw [show o + 1 - o = 1 by omega]
        simp
      · rw [if_neg (by omega), if_neg (by omega), if_neg h1, if_neg (by simp; omega)]
        congr 1
        simp; omega
theorem flatN_len {α : Type} {enc : α → List Value} {k : Nat} (hk : ∀ a, (enc a).length = k) : ∀ l : List α, (l.flatMap enc).length = l.length * k
  | [] => by simp
  | a :: l => by rw [List.flatMap_cons, List.length_append, hk, flatN_len hk l, List.length_cons, Nat.add_mul]; omega
theorem ins_splice_n {α : Type} {enc : α → List Value} {k : Nat} (hk : ∀ a, (enc a).length = k) (S : List α) (z x : α) (i : Nat) (hi : i ≤ S.length) :
    splice (splice ((S ++ [z]).flatMap enc) ((i + 1) * k) ((S.drop i).flatMap enc)) (i * k) (enc x) = (S.take i ++ x :: S.drop i).flatMap enc := by
  have hA : (S.take i).length = i := by rw [List.length_take]; omega
  have hB : (S.drop i).length = S.length - i := List.length_drop
  have f1 := flatN_len hk (S.take i)
  have f2 := flatN_len hk (S.drop i)
  have f3 := flatN_len hk (S ++ [z])
  rw [hA] at f1
  rw [hB] at f2
  rw [List.length_append, List.length_singleton] at f3
  have m1 : (i + 1) * k = i * k + k := Nat.succ_mul i k
  have m2 : (S.length + 1) * k = i * k + (S.length - i) * k + k := by rw [← Nat.add_mul, ← Nat.succ_mul]; congr 1; omega
  have e0 : (S ++ [z]).flatMap enc = (S.take i).flatMap enc ++ ((S.drop i) ++ [z]).flatMap enc := by
    rw [← List.flatMap_append, ← List.append_assoc, List.take_append_drop]
  have hx := hk x
  generalize hP : (S.take i).flatMap enc = P at *
  generalize hQ : (S.drop i).flatMap enc = Q at *
  generalize hR : ((S.drop i) ++ [z]).flatMap enc = R at *
  have hRl : R.length = (S.length - i) * k + k := by
    have := f3
    rw [e0, List.length_append, f1] at this
    omega
  have hlhs : splice (P ++ R) ((i + 1) * k) Q = P ++ (R.take k ++ Q) := by
    unfold splice
    rw [List.drop_of_length_le (by rw [List.length_append, f1, hRl, f2]; omega), List.append_nil, List.take_append, List.take_of_length_le (by omega), f1, show (i + 1) * k - i * k = k by omega, List.append_assoc]
  rw [e0, hlhs]
  unfold splice
  rw [List.take_append, List.take_of_length_le (by omega), f1, Nat.sub_self, List.take_zero, List.append_nil, hx, List.drop_append, List.drop_of_length_le (by omega), f1, show i * k + k - i * k = k by omega, List.nil_append,
    List.drop_append, List.drop_of_length_le (by rw [List.length_take]; omega), List.nil_append, List.length_take, show k - min k R.length = 0 by omega, List.drop_zero]
  rw [List.flatMap_append, List.flatMap_cons, hP, hQ]
theorem encK_one (l : List Ky) : ∀ v ∈ l.flatMap encK, v.oneCell' = true := by
  intro v hv
  obtain ⟨a, _, ha⟩ := List.mem_flatMap.1 hv
  simp only [encK, List.mem_cons, List.not_mem_nil, or_false] at ha
  rcases ha with rfl | rfl <;> rfl
theorem klt_of {a b : Ky} (h1 : ¬ klt a b) (h2 : a ≠ b) : klt b a := by
  rcases klt_total a b with h | h | h
  · exact absurd h h1
  · exact absurd h h2
  · exact h
theorem srtK_snoc (l : List Ky) (k : Ky) : srtK (l ++ [k]) = insK k (srtK l) := by simp [srtK]
theorem srtK_len {l : List Ky} (h : l.Nodup) : (srtK l).length = l.length := by
  refine (List.Perm.length_eq ((List.perm_ext_iff_of_nodup h (klt_nodup (srtK_ok l).1)).2 fun x => ?_)).symm
  rw [(srtK_ok l).2]

set_option maxRecDepth 100000 in
set_option maxHeartbeats 4000000 in
theorem ksorted_any {w : World} {v : Value} {l : List Ky} {B : Nat} (hr : RdK encK 2 w B v l) (hB : B ≤ w.heap.size) (hl : l.length ≤ 1000) (hn : l.Nodup) :
    Calls Tryz.prog 32 #[v] w fun e w' => ∃ vo, e = .returned vo ∧ w'.ownsRow w.heap.size 77 2 vo (srtK l).length ((srtK l).flatMap encK) ∧ Below w.heap.size w w' := by
  obtain ⟨i1, gi, gz0, gz1, gz2⟩ := info_parts infoKy
  obtain ⟨A, c, rfl, hc⟩ := hr
  have HR := hide hc
  have HN := hide hn
  clear hc hn
  go_enter Tryz.func32, Tryz.ntmps32
  go_wp2
  go_loopw [3, 9] (fun v i wr => ∃ m : Nat, m ≤ l.length ∧ i = .int .i64 m ∧ ∃ Av cv, v = .slice Av m cv ∧ Hid (wr.ownsRow w.heap.size 77 2 (.slice Av m cv) m ((srtK (l.take m)).flatMap encK)) ∧ Hid (Below w.heap.size w wr)) (fun _ i _ => l.length - (intOf i).toNat)
  case atStart => exact ⟨0, Nat.zero_le _, rfl, none, 0, rfl, hide (World.ownsRow_nil _ _ _ _), hide (Below.refl _ _)⟩
  case round =>
    obtain ⟨m, hm, rfl, Av, cv, rfl, HO, HB⟩ := hrel
    by_cases hlt : m < l.length
    · obtain ⟨⟨x1, x2⟩, hp⟩ : ∃ p, l[m]? = some p := ⟨_, List.getElem?_eq_getElem hlt⟩
      obtain ⟨b, o, rfl, hbl, k⟩ := HR.out (by intro e; rw [e] at hlt; simp at hlt)
      have hsz := HB.out.size
      have d0 : wr.cell? ⟨b, o + m * 2, none⟩ = some (.int .i64 x1) := (HB.out.cell (p := ⟨b, _, none⟩) (by show b < _; omega)).trans (k m _ hp 0 _ rfl)
      have d1 : wr.cell? ⟨b, o + m * 2 + 1, none⟩ = some (.int .i64 x2) := (HB.out.cell (p := ⟨b, _, none⟩) (by show b < _; omega)).trans (k m _ hp 1 _ rfl)
      have mz : (m : Int) < (l.length : Int) := by omega
      have hS := (srtK_ok (l.take m)).1
      have hSl := srtK_len (l := l.take m) (HN.out.sublist (List.take_sublist m l))
      rw [List.length_take, Nat.min_eq_left hm] at hSl
      have HT : Hid (srtK (l.take (m + 1)) = insK (x1, x2) (srtK (l.take m))) := hide (by
        obtain ⟨i1, e1⟩ := List.getElem?_eq_some_iff.1 hp
        rw [List.take_succ_eq_append_getElem i1, e1, srtK_snoc])
      have HX : Hid ((x1, x2) ∉ srtK (l.take m)) := hide (by
        rw [(srtK_ok _).2]
        intro h
        obtain ⟨i1, e1⟩ := List.getElem?_eq_some_iff.1 hp
        obtain ⟨q, hq1, hq2⟩ := List.getElem_of_mem h
        rw [List.length_take] at hq1
        rw [List.getElem_take, ← e1] at hq2
        exact List.pairwise_iff_getElem.1 HN.out q m (by omega) i1 (by omega) (hq2.trans rfl))
      generalize srtK (l.take m) = S at *
      subst hSl
      have HS := hide hS
      have hm400 : S.length ≤ 1000 := by omega
      clear k hp hS
      generalize wr = w0 at *
      go_wp2
      refine wp_name fun w1 hw1 => ?_
      have hb1 : Below w0.heap.size w0 w1 := by rw [hw1]; exact (Below.refl _ _).alloc (Nat.le_refl _) _
      have hs1 : w1.heap.size = w0.heap.size + 1 := by rw [hw1]; simp
      have c10 : w1.cell? ⟨w0.heap.size, 0, none⟩ = some (.int .i64 x1) := by rw [hw1]; simp [go_sem]
      have c11 : w1.cell? ⟨w0.heap.size, 1, none⟩ = some (.int .i64 x2) := by rw [hw1]; simp [go_sem]
      have HO1 := hide (own_below HO.out hb1)
      have HBW := hide (HB.out.trans (hb1.mono hsz))
      have HLT : Hid (∀ q, (Value.slice Av S.length cv).ownBlock = some q → q < w0.heap.size) := hide (fun q hq => (HO.out.lt q hq).2)
      clear hw1 d0 d1 HO HB hb1
      go_wp2
      go_loopw [6] (fun kk wr => ∃ k : Nat, k ≤ S.length ∧ kk = .int .i64 k ∧ Hid (∀ j y, k ≤ j → S[j]? = some y → klt (x1, x2) y) ∧ Hid (Below w1.heap.size w1 wr)) (fun kk _ => (intOf kk).toNat)
      case atStart => exact ⟨S.length, Nat.le_refl _, rfl, hide (fun j y h1 h2 => by rw [List.getElem?_eq_none h1] at h2; cases h2), hide (Below.refl _ _)⟩
      case round =>
        obtain ⟨k, hk, rfl, HG, HB2⟩ := hrel
        have hB2 := HB2.out.size
        have e10 : wr.cell? ⟨w0.heap.size, 0, none⟩ = some (.int .i64 x1) := (HB2.out.cell (p := ⟨w0.heap.size, 0, none⟩) (by show w0.heap.size < _; omega)).trans c10
        have e11 : wr.cell? ⟨w0.heap.size, 1, none⟩ = some (.int .i64 x2) := (HB2.out.cell (p := ⟨w0.heap.size, 1, none⟩) (by show w0.heap.size < _; omega)).trans c11
        rcases Nat.eq_zero_or_pos k with rfl | hkp
        · have HLE : Hid (∀ y, 0 ≠ 0 → S[0 - 1]? = some y → klt y (x1, x2)) := hide (fun y h => absurd rfl h)
          rw [show ((0 : Nat) : Int) = 0 from rfl]
          go_wp2
          go_quiet (fail)
          refine name_exit fun wd hwd => ?_
          have hbd : Below w1.heap.size w1 wd := by rw [hwd]; exact below_drewN HB2.out _
          have d10 : wd.cell? ⟨w0.heap.size, 0, none⟩ = some (.int .i64 x1) := (hbd.cell (p := ⟨w0.heap.size, 0, none⟩) (by show w0.heap.size < _; omega)).trans c10
          have d11 : wd.cell? ⟨w0.heap.size, 1, none⟩ = some (.int .i64 x2) := (hbd.cell (p := ⟨w0.heap.size, 1, none⟩) (by show w0.heap.size < _; omega)).trans c11
          have HOD := hide (own_below HO1.out hbd)
          have HBD := hide (HBW.out.trans (hbd.mono (by omega)))
          have hwdz : w.heap.size ≤ wd.heap.size := HBD.out.size
          have hwz : w0.heap.size < wd.heap.size := by have := hbd.size; omega
          clear hwd hbd e10 e11
          go_wp2_with (at_builtin; go_loud (refine wpList_append_lies _ rfl (.tmp 52) (.tmp 54) 73 rfl w.heap.size 77 i1 (.agg #[.int .i64 0, .int .i64 0]) 2 16 Tryz.underlying73 gi gz0 gz1 gz2 rfl (by decide) _ S.length _ rfl (HOD.out.alloc _) ⟨wd.heap.size, 0, none⟩ 1 1 [.int .i64 x1, .int .i64 x2] rfl rfl (news_new wd _ _ _ rfl) (ints_one rfl) (by omega) (by unfold maxLen; omega) (by omega) (by simp; omega) _ rfl ?_))
          intro g9 cap9 w2 hown2 hgrow hg9 _
          have hx2 : S.flatMap encK ++ [.int .i64 x1, .int .i64 x2] = (S ++ [(x1, x2)]).flatMap encK := by simp [encK]
          rw [hx2] at hown2
          have hne9 : g9 ≠ w0.heap.size := by
            intro e
            rcases hg9 with h | h
            · have := HLT.out g9 h; omega
            · have : g9 = wd.heap.size + 1 := by simpa using h
              omega
          have hbox : ∀ o u, wd.cell? ⟨w0.heap.size, o, none⟩ = some u → w2.cell? ⟨w0.heap.size, o, none⟩ = some u := fun o u h =>
            World.grownBy.cell hgrow (a := ⟨w0.heap.size, o, none⟩) ((World.cell?_alloc_lt wd _ ⟨w0.heap.size, o, none⟩ hwz).trans h) (fun e => by have h9 : w0.heap.size < w0.heap.size := HLT.out _ e.symm; omega)
          have g10 := hbox _ _ d10
          have g11 := hbox _ _ d11
          have hb2 : Below w.heap.size w w2 := ((HBD.out.alloc hwdz _).grown hgrow (by simp; omega) (fun q hq => (HOD.out.lt q hq).1))
          obtain ⟨_, cap9', cur9, e9, hbg9, hh9, hn9, hm9, hs9, ht9⟩ : ∃ (g' cap' : Nat) (cur : Array Value), Value.slice (some ⟨g9, 0, none⟩) (S.length + 1) cap9 = .slice (some ⟨g', 0, none⟩) (S.length + 1) cap' ∧ w.heap.size ≤ g' ∧ w2.heap[g']? = some (.cells cur 77 (0, 0)) ∧ S.length + 1 ≤ cap' ∧ cap' ≤ maxLen ∧ cur.size = cap' * 2 ∧ cur.toList.take ((S.length + 1) * 2) = (S ++ [(x1, x2)]).flatMap encK := by
            rcases hown2.2 with ⟨e0, _⟩ | q
            · cases e0
            · exact q
          injection e9 with e1 _ e3
          injection e1 with e1
          injection e1 with e1
          subst e1; subst e3
          have HX2 := hide hown2
          have HB2' := hide hb2
          have HH9 := hide hh9
          have HS9 := hide hs9
          unfold maxLen at hm9
          clear hown2 hgrow hb2 hx2 hg9 hh9 hs9 ht9 d10 d11 hbox
          go_wp2
          have r1 : IntKind.i64.wrap (1) = 1 := by simp [IntKind.wrap, IntKind.bits, IntKind.signed]
          have r2 : (0 : Int) ≤ 1 := by omega
          have r3 : (1 : Int) ≤ (S.length : Int) + 1 := by omega
          have r4 : (1 : Int).toNat = 0 + 1 := by omega
          have r5 : (0 : Int) ≤ 0 := by omega
          have r6 : (0 : Int) ≤ (S.length : Int) + 1 := by omega
          have r7 : (0 : Int).toNat = 0 := by omega
          refine wp_region_reads0 7 (by kernel_rfl) (by kernel_rfl) ?_
          simp only [List.take_succ_cons, List.take_zero, List.drop_succ_cons, List.drop_zero]
          iterate 7
            refine ⟨?_, Or.inl ⟨by rfl, ?_⟩, ?_⟩
            rotate_left 1
            · intro w' _
              go_simp
              first | done | with_reducible rfl
            simp only [Act.put, List.setIfInBounds_toArray, List.set_cons_zero, List.set_cons_succ]
          clear r1 r2 r3 r4 r5 r6 r7
          simp only [wpReads]
          intro K hK
          have hcur : w2.drew.heap[g9]? = some (.cells cur9.toList.toArray 77 (0, 0)) := by show w2.heap[g9]? = _; simpa using HH9.out
          have hcl : cur9.toList.length = cap9 * 2 := by simpa using HS9.out
          have hfl : ((S.drop (0)).flatMap encK).length = (S.length - 0) * 2 := by rw [flatN_len (k := 2) (fun _ => rfl), List.length_drop]
          refine step_copy_n rfl (.tmp 59) (.tmp 62) 73 73 rfl 77 Tryz.underlying73 2 (by kernel_rfl) _ _ _ _ _ _ rfl rfl g9 ((0 + 1) * 2) cur9.toList 77 hcur ((S.drop (0)).flatMap encK) (S.length - 0) (by show _ = min _ _; omega) hfl ?_ (by omega) (encK_one _) w.heap.size w (HB2'.out.drew) hbg9 ?_
          · intro hpos
            refine ⟨by first | rfl | rw [if_neg (by omega)], ⟨g9, 0 * 2, none⟩, by first | rfl | rw [if_neg (by omega)], fun i u hi => ?_⟩
            have hi2 : ((S ++ [(x1, x2)]).flatMap encK)[0 * 2 + i]? = some u := by
              have e0 : (S ++ [(x1, x2)]).flatMap encK = (S.take (0)).flatMap encK ++ ((S.drop (0)).flatMap encK ++ encK (x1, x2)) := by
                rw [← List.append_assoc, ← List.flatMap_append, List.take_append_drop, List.flatMap_append]
                rw [List.flatMap_cons, List.flatMap_nil, List.append_nil]
              have e1 : ((S.take (0)).flatMap encK).length = 0 * 2 := by rw [flatN_len (k := 2) (fun _ => rfl), List.length_take]; omega
              rw [e0, List.getElem?_append_right (by omega), e1, Nat.add_sub_cancel_left, List.getElem?_append_left (List.getElem?_eq_some_iff.1 hi).1]
              exact hi
            have := (HX2.out.cells (g := g9) rfl) _ _ hi2
            rw [addr_add] at this
            rw [addr_add']
            exact this
          · intro w3 hsp hb3 hgr3
            have hx3 := own_copied_n HX2.out (by simpa using HH9.out) hsp.out (by omega)
            have k10 := World.grownBy.cell hgr3 (a := ⟨w0.heap.size, 0, none⟩) (show w2.drew.cell? _ = _ from g10) (by simpa using Ne.symm hne9)
            have k11 := World.grownBy.cell hgr3 (a := ⟨w0.heap.size, 1, none⟩) (show w2.drew.cell? _ = _ from g11) (by simpa using Ne.symm hne9)
            refine hK _ _ (fun _ => trivial) ?_
            clear hK K
            refine NoPanic.normal ?_
            have hlen3 := hx3.1
            obtain ⟨u3, c30⟩ : ∃ u, w3.cell? ⟨g9, 0 * 2, none⟩ = some u := by
              have := (hx3.cells (g := g9) rfl) (0 * 2) _ (List.getElem?_eq_getElem (by omega))
              rw [addr_add] at this
              exact ⟨_, this⟩
            obtain ⟨u4, c31⟩ : ∃ u, w3.cell? ⟨g9, 0 * 2 + 1, none⟩ = some u := by
              have := (hx3.cells (g := g9) rfl) (0 * 2 + 1) _ (List.getElem?_eq_getElem (by omega))
              rw [addr_add] at this
              exact ⟨_, this⟩
            have f30 : w3.frozen? ⟨g9, 0 * 2, none⟩ = false := hx3.frozenAt _
            have f31 : w3.frozen? ⟨g9, 0 * 2 + 1, none⟩ = false := hx3.frozenAt _
            have hst := ((hx3.stored (0 * 2) (.int .i64 x1)).1.stored (0 * 2 + 1) (.int .i64 x2)).1
            rw [set_two _ _ _ _ (by omega)] at hst
            have hsp2 := ins_splice_n (enc := encK) (k := 2) (fun _ => rfl) S (x1, x2) (x1, x2) (0) (by omega)
            rw [show ([.int .i64 x1, .int .i64 x2] : List Value) = encK (x1, x2) from rfl, hsp2] at hst
            have hins : insK (x1, x2) S = S.take (0) ++ (x1, x2) :: S.drop (0) := insK_at (x1, x2) S (0) HS.out (by omega) HG.out HLE.out
            rw [← hins] at hst
            have HST := hide hst
            have HB3 := hide hb3
            clear hins hst hx3 hsp hb3 hcur hcl hgr3 hsp2 hfl hlen3
            go_wp2
            go_roundw
            case rel => exact ⟨S.length + 1, by omega, by go_num, some ⟨g9, 0, none⟩, cap9, rfl, hide (by rw [HT.out]; exact HST.out), hide ((HB3.out.setCell (p := ⟨g9, _, none⟩) hbg9 _).setCell (p := ⟨g9, _, none⟩) hbg9 _)⟩
            case measure => simp [intOf]; omega
        · obtain ⟨j, rfl⟩ : ∃ j, k = j + 1 := ⟨k - 1, by omega⟩
          obtain ⟨⟨y1, y2⟩, hy⟩ : ∃ y, S[j]? = some y := ⟨_, List.getElem?_eq_getElem (by omega)⟩
          obtain ⟨g, cap, hv, hBg, hgw⟩ := HO1.out.form (by omega)
          injection hv with e1 _ e3
          subst e1; subst e3
          have f0 : wr.cell? ⟨g, j * 2, none⟩ = some (.int .i64 y1) := by
            have := (HO1.out.cells (g := g) rfl) _ _ (flat_get (k := 2) (fun _ => rfl) _ j _ 0 _ hy rfl)
            rw [addr_add] at this
            exact (HB2.out.cell (p := ⟨g, j * 2, none⟩) hgw).trans this
          have f1 : wr.cell? ⟨g, j * 2 + 1, none⟩ = some (.int .i64 y2) := by
            have := (HO1.out.cells (g := g) rfl) _ _ (flat_get (k := 2) (fun _ => rfl) _ j _ 1 _ hy rfl)
            rw [addr_add] at this
            exact (HB2.out.cell (p := ⟨g, j * 2 + 1, none⟩) hgw).trans this
          have q1 : (0 : Int) < (j : Int) + 1 := by omega
          have q2 : (j : Int) < (S.length : Int) := by omega
          have q3 : IntKind.i64.wrap ((j : Int) + 1 - 1) = j := by simp [IntKind.wrap, IntKind.bits, IntKind.signed]; omega
          have q4 : (0 : Int) ≤ (j : Int) := by omega
          have HY := hide hy
          clear hy hkp
          rw [show ((j + 1 : Nat) : Int) = (j : Int) + 1 from rfl]
          by_cases hgt : klt (x1, x2) (y1, y2)
          · have hgs : x1 < y1 ∨ (decide (x1 < y1) = false ∧ (y1 == x1) = true ∧ x2 < y2) := by
              unfold klt at hgt
              simp only at hgt
              rcases hgt with h | ⟨h1, h2⟩
              · exact .inl h
              · exact .inr ⟨decide_eq_false (by omega), by simp [h1], h2⟩
            have HG2 := hide hgt
            clear hgt
            rcases hgs with h1 | ⟨h1, h2, h3⟩
            all_goals
              go_wp2
              go_quiet (fail)
              go_wp2
              go_roundw
              case rel =>
                refine ⟨j, by omega, by go_num, hide ?_, hide (below_drewN HB2.out _)⟩
                intro i z h1 h2
                by_cases hij : i = j
                · subst hij
                  rw [HY.out] at h2
                  injection h2 with h2
                  subst h2
                  exact HG2.out
                · exact HG.out i z (by omega) h2
              case measure => simp [intOf]
          · have HLE : Hid (∀ y, j + 1 ≠ 0 → S[j + 1 - 1]? = some y → klt y (x1, x2)) := hide (fun y _ h => by
              rw [Nat.add_sub_cancel, HY.out] at h
              injection h with h
              subst h
              exact klt_of hgt (fun e => HX.out (by rw [e]; exact List.mem_of_getElem? HY.out)))
            have hgs : (decide (x1 < y1) = false ∧ (y1 == x1) = false) ∨ (decide (x1 < y1) = false ∧ (y1 == x1) = true ∧ decide (x2 < y2) = false) := by
              unfold klt at hgt
              simp only at hgt
              by_cases h : y1 = x1
              · exact .inr ⟨decide_eq_false (by omega), by simp [h], decide_eq_false (by omega)⟩
              · exact .inl ⟨decide_eq_false (by omega), by simpa using h⟩
            clear hgt
            rcases hgs with ⟨h1, h2⟩ | ⟨h1, h2, h3⟩
            all_goals
              go_wp2
              go_quiet (fail)
              refine name_exit fun wd hwd => ?_
              have hbd : Below w1.heap.size w1 wd := by rw [hwd]; exact below_drewN HB2.out _
              have d10 : wd.cell? ⟨w0.heap.size, 0, none⟩ = some (.int .i64 x1) := (hbd.cell (p := ⟨w0.heap.size, 0, none⟩) (by show w0.heap.size < _; omega)).trans c10
              have d11 : wd.cell? ⟨w0.heap.size, 1, none⟩ = some (.int .i64 x2) := (hbd.cell (p := ⟨w0.heap.size, 1, none⟩) (by show w0.heap.size < _; omega)).trans c11
              have HOD := hide (own_below HO1.out hbd)
              have HBD := hide (HBW.out.trans (hbd.mono (by omega)))
              have hwdz : w.heap.size ≤ wd.heap.size := HBD.out.size
              have hwz : w0.heap.size < wd.heap.size := by have := hbd.size; omega
              clear hwd hbd e10 e11
              go_wp2_with (at_builtin; go_loud (refine wpList_append_lies _ rfl (.tmp 52) (.tmp 54) 73 rfl w.heap.size 77 i1 (.agg #[.int .i64 0, .int .i64 0]) 2 16 Tryz.underlying73 gi gz0 gz1 gz2 rfl (by decide) _ S.length _ rfl (HOD.out.alloc _) ⟨wd.heap.size, 0, none⟩ 1 1 [.int .i64 x1, .int .i64 x2] rfl rfl (news_new wd _ _ _ rfl) (ints_one rfl) (by omega) (by unfold maxLen; omega) (by omega) (by simp; omega) _ rfl ?_))
              intro g9 cap9 w2 hown2 hgrow hg9 _
              have hx2 : S.flatMap encK ++ [.int .i64 x1, .int .i64 x2] = (S ++ [(x1, x2)]).flatMap encK := by simp [encK]
              rw [hx2] at hown2
              have hne9 : g9 ≠ w0.heap.size := by
                intro e
                rcases hg9 with h | h
                · have := HLT.out g9 h; omega
                · have : g9 = wd.heap.size + 1 := by simpa using h
                  omega
              have hbox : ∀ o u, wd.cell? ⟨w0.heap.size, o, none⟩ = some u → w2.cell? ⟨w0.heap.size, o, none⟩ = some u := fun o u h =>
                World.grownBy.cell hgrow (a := ⟨w0.heap.size, o, none⟩) ((World.cell?_alloc_lt wd _ ⟨w0.heap.size, o, none⟩ hwz).trans h) (fun e => by have h9 : w0.heap.size < w0.heap.size := HLT.out _ e.symm; omega)
              have g10 := hbox _ _ d10
              have g11 := hbox _ _ d11
              have hb2 : Below w.heap.size w w2 := ((HBD.out.alloc hwdz _).grown hgrow (by simp; omega) (fun q hq => (HOD.out.lt q hq).1))
              obtain ⟨_, cap9', cur9, e9, hbg9, hh9, hn9, hm9, hs9, ht9⟩ : ∃ (g' cap' : Nat) (cur : Array Value), Value.slice (some ⟨g9, 0, none⟩) (S.length + 1) cap9 = .slice (some ⟨g', 0, none⟩) (S.length + 1) cap' ∧ w.heap.size ≤ g' ∧ w2.heap[g']? = some (.cells cur 77 (0, 0)) ∧ S.length + 1 ≤ cap' ∧ cap' ≤ maxLen ∧ cur.size = cap' * 2 ∧ cur.toList.take ((S.length + 1) * 2) = (S ++ [(x1, x2)]).flatMap encK := by
                rcases hown2.2 with ⟨e0, _⟩ | q
                · cases e0
                · exact q
              injection e9 with e1 _ e3
              injection e1 with e1
              injection e1 with e1
              subst e1; subst e3
              have HX2 := hide hown2
              have HB2' := hide hb2
              have HH9 := hide hh9
              have HS9 := hide hs9
              unfold maxLen at hm9
              clear hown2 hgrow hb2 hx2 hg9 hh9 hs9 ht9 d10 d11 hbox
              go_wp2
              have r1 : IntKind.i64.wrap (((j : Int) + 1 + 1)) = ((j : Int) + 1 + 1) := by simp [IntKind.wrap, IntKind.bits, IntKind.signed]; omega
              have r2 : (0 : Int) ≤ ((j : Int) + 1 + 1) := by omega
              have r3 : (((j : Int) + 1 + 1) : Int) ≤ (S.length : Int) + 1 := by omega
              have r4 : (((j : Int) + 1 + 1) : Int).toNat = (j + 1) + 1 := by omega
              have r5 : (0 : Int) ≤ ((j : Int) + 1) := by omega
              have r6 : (((j : Int) + 1) : Int) ≤ (S.length : Int) + 1 := by omega
              have r7 : (((j : Int) + 1) : Int).toNat = (j + 1) := by omega
              refine wp_region_reads0 7 (by kernel_rfl) (by kernel_rfl) ?_
              simp only [List.take_succ_cons, List.take_zero, List.drop_succ_cons, List.drop_zero]
              iterate 7
                refine ⟨?_, Or.inl ⟨by rfl, ?_⟩, ?_⟩
                rotate_left 1
                · intro w' _
                  go_simp
                  first | done | with_reducible rfl
                simp only [Act.put, List.setIfInBounds_toArray, List.set_cons_zero, List.set_cons_succ]
              clear r1 r2 r3 r4 r5 r6 r7
              simp only [wpReads]
              intro K hK
              have hcur : w2.drew.heap[g9]? = some (.cells cur9.toList.toArray 77 (0, 0)) := by show w2.heap[g9]? = _; simpa using HH9.out
              have hcl : cur9.toList.length = cap9 * 2 := by simpa using HS9.out
              have hfl : ((S.drop ((j + 1))).flatMap encK).length = (S.length - (j + 1)) * 2 := by rw [flatN_len (k := 2) (fun _ => rfl), List.length_drop]
              refine step_copy_n rfl (.tmp 59) (.tmp 62) 73 73 rfl 77 Tryz.underlying73 2 (by kernel_rfl) _ _ _ _ _ _ rfl rfl g9 (((j + 1) + 1) * 2) cur9.toList 77 hcur ((S.drop ((j + 1))).flatMap encK) (S.length - (j + 1)) (by show _ = min _ _; omega) hfl ?_ (by omega) (encK_one _) w.heap.size w (HB2'.out.drew) hbg9 ?_
              · intro hpos
                refine ⟨by first | rfl | rw [if_neg (by omega)], ⟨g9, (j + 1) * 2, none⟩, by first | rfl | rw [if_neg (by omega)], fun i u hi => ?_⟩
                have hi2 : ((S ++ [(x1, x2)]).flatMap encK)[(j + 1) * 2 + i]? = some u := by
                  have e0 : (S ++ [(x1, x2)]).flatMap encK = (S.take ((j + 1))).flatMap encK ++ ((S.drop ((j + 1))).flatMap encK ++ encK (x1, x2)) := by
                    rw [← List.append_assoc, ← List.flatMap_append, List.take_append_drop, List.flatMap_append]
                    rw [List.flatMap_cons, List.flatMap_nil, List.append_nil]
                  have e1 : ((S.take ((j + 1))).flatMap encK).length = (j + 1) * 2 := by rw [flatN_len (k := 2) (fun _ => rfl), List.length_take]; omega
                  rw [e0, List.getElem?_append_right (by omega), e1, Nat.add_sub_cancel_left, List.getElem?_append_left (List.getElem?_eq_some_iff.1 hi).1]
                  exact hi
                have := (HX2.out.cells (g := g9) rfl) _ _ hi2
                rw [addr_add] at this
                rw [addr_add']
                exact this
              · intro w3 hsp hb3 hgr3
                have hx3 := own_copied_n HX2.out (by simpa using HH9.out) hsp.out (by omega)
                have k10 := World.grownBy.cell hgr3 (a := ⟨w0.heap.size, 0, none⟩) (show w2.drew.cell? _ = _ from g10) (by simpa using Ne.symm hne9)
                have k11 := World.grownBy.cell hgr3 (a := ⟨w0.heap.size, 1, none⟩) (show w2.drew.cell? _ = _ from g11) (by simpa using Ne.symm hne9)
                refine hK _ _ (fun _ => trivial) ?_
                clear hK K
                refine NoPanic.normal ?_
                have hlen3 := hx3.1
                obtain ⟨u3, c30⟩ : ∃ u, w3.cell? ⟨g9, (j + 1) * 2, none⟩ = some u := by
                  have := (hx3.cells (g := g9) rfl) ((j + 1) * 2) _ (List.getElem?_eq_getElem (by omega))
                  rw [addr_add] at this
                  exact ⟨_, this⟩
                obtain ⟨u4, c31⟩ : ∃ u, w3.cell? ⟨g9, (j + 1) * 2 + 1, none⟩ = some u := by
                  have := (hx3.cells (g := g9) rfl) ((j + 1) * 2 + 1) _ (List.getElem?_eq_getElem (by omega))
                  rw [addr_add] at this
                  exact ⟨_, this⟩
                have f30 : w3.frozen? ⟨g9, (j + 1) * 2, none⟩ = false := hx3.frozenAt _
                have f31 : w3.frozen? ⟨g9, (j + 1) * 2 + 1, none⟩ = false := hx3.frozenAt _
                have hst := ((hx3.stored ((j + 1) * 2) (.int .i64 x1)).1.stored ((j + 1) * 2 + 1) (.int .i64 x2)).1
                rw [set_two _ _ _ _ (by omega)] at hst
                have hsp2 := ins_splice_n (enc := encK) (k := 2) (fun _ => rfl) S (x1, x2) (x1, x2) ((j + 1)) (by omega)
                rw [show ([.int .i64 x1, .int .i64 x2] : List Value) = encK (x1, x2) from rfl, hsp2] at hst
                have hins : insK (x1, x2) S = S.take ((j + 1)) ++ (x1, x2) :: S.drop ((j + 1)) := insK_at (x1, x2) S ((j + 1)) HS.out (by omega) HG.out HLE.out
                rw [← hins] at hst
                have HST := hide hst
                have HB3 := hide hb3
                clear hins hst hx3 hsp hb3 hcur hcl hgr3 hsp2 hfl hlen3
                go_wp2
                go_roundw
                case rel => exact ⟨S.length + 1, by omega, by go_num, some ⟨g9, 0, none⟩, cap9, rfl, hide (by rw [HT.out]; exact HST.out), hide ((HB3.out.setCell (p := ⟨g9, _, none⟩) hbg9 _).setCell (p := ⟨g9, _, none⟩) hbg9 _)⟩
                case measure => simp [intOf]; omega
    · obtain rfl : m = l.length := by omega
      have mz : ¬ (l.length : Int) < (l.length : Int) := by omega
      rw [List.take_length] at HO
      have HL := hide (srtK_len HN.out)
      go_wp2
      go_ret
      exact ⟨_, rfl, own_n HO.out HL.out.symm, HB.out⟩
end Go.Proofs.YtjlfdgoijalfaaaGreat

/- The walks of the reference of texture: Rect, Where, At. -/
namespace Go.Proofs.YtjlfdgoijalfaaaGreat
open Go.RowKit
set_option linter.unusedVariables false
set_option linter.unusedSimpArgs false

theorem tdiv_sub (x n : Int) (hn : 1 ≤ n) : (x - x % n).tdiv n = x / n := by
  have e := Int.mul_ediv_add_emod x n
  have h : x - x % n = n * (x / n) := by omega
  rw [h, Int.mul_tdiv_cancel_left _ (by omega)]

set_option maxHeartbeats 1000000 in
theorem brect_any (W H S col row : Int) (w : World) (hp : okPat W H S) (h1 : -2000000 ≤ col) (h2 : col ≤ 2000000) (h3 : -1000000 ≤ row) (h4 : row ≤ 1000000) :
    Calls Tryz.prog 41 #[.agg #[.int .i64 W, .int .i64 H, .int .i64 S], .int .i64 col, .int .i64 row] w fun e w' => e = .returned (.agg #[.int .i64 (brX W H S col row), .int .i64 (row * H), .int .i64 (brX W H S col row + W), .int .i64 ((row + 1) * H)]) ∧ Below w.heap.size w w' := by
  have hsb := shiftI_bd hp row
  unfold okPat at hp
  have m0 := mul_bd row S 1000000 1000 h3 h4 (by omega) (by omega) (by omega)
  have m1 := mul_bd col W 2000000 1000 h1 h2 (by omega) (by omega) (by omega)
  have m2 := mul_bd row H 1000000 1000 h3 h4 (by omega) (by omega) (by omega)
  have m3 := mul_bd (row + 1) H 1000001 1000 (by omega) (by omega) (by omega) (by omega) (by omega)
  have m4 := mul_bd (col + 1) W 2000001 1000 (by omega) (by omega) (by omega) (by omega) (by omega)
  have hmod := fun w => (mod_any (row * S) W w (by omega) (by omega) (by omega) (by omega)).mono (R' := fun e w' => e = .returned (.int .i64 (shiftI W S row)) ∧ w = w') fun e w' h => h
  unfold brX
  go_enter Tryz.func41, Tryz.ntmps41
  go_wp2_with (go_at_call 67; refine (hmod _).mono ?_; rintro e w' ⟨rfl, rfl⟩)
  have e5 : (col + 1) * W = col * W + W := by rw [Int.add_mul, Int.one_mul]
  refine bodyPost_ret (v := .agg #[.int .i64 (col * W + shiftI W S row), .int .i64 (row * H), .int .i64 ((col + 1) * W + shiftI W S row), .int .i64 ((row + 1) * H)]) (by simp [results, Tryz.results41, go_sem]) rfl ⟨?_, ?_⟩
  · rw [e5, show col * W + W + shiftI W S row = col * W + shiftI W S row + W by omega]
  · exact ((Below.refl _ _).alloc (Nat.le_refl _) _).alloc (by simp) _

set_option maxHeartbeats 1000000 in
theorem where_any (W H S x y : Int) (w : World) (hp : okPat W H S) (h1 : -1000000 ≤ x) (h2 : x ≤ 1000000) (h3 : -1000000 ≤ y) (h4 : y ≤ 1000000) :
    Calls Tryz.prog 40 #[.agg #[.int .i64 W, .int .i64 H, .int .i64 S], .int .i64 x, .int .i64 y] w fun e w' => e = .returned (.tuple #[.int .i64 (colI W H S x y), .int .i64 (rowI H y)]) ∧ Below w.heap.size w w' := by
  have hsb := shiftI_bd hp (y / H)
  unfold okPat at hp
  have q1 := ediv_bd y H 1000000 (by omega) h3 h4 (by omega)
  have m0 := mul_bd (y / H) S 1000000 1000 q1.1 q1.2 (by omega) (by omega) (by omega)
  have r1 := emod_bd y H (by omega)
  have r2 := emod_bd (x - shiftI W S (y / H)) W (by omega)
  have q2 := ediv_bd (x - shiftI W S (y / H)) W 2000000 (by omega) (by omega) (by omega) (by omega)
  have e1 := tdiv_sub y H (by omega)
  have e2 := tdiv_sub (x - shiftI W S (y / H)) W (by omega)
  have hmod1 := fun w => (mod_any y H w (by omega) (by omega) (by omega) (by omega))
  have hmod2 := fun w => (mod_any (y / H * S) W w (by omega) (by omega) (by omega) (by omega)).mono (R' := fun e w' => e = .returned (.int .i64 (shiftI W S (y / H))) ∧ w = w') fun e w' h => h
  have hmod3 := fun w => (mod_any (x - shiftI W S (y / H)) W w (by omega) (by omega) (by omega) (by omega))
  unfold colI rowI
  go_enter Tryz.func40, Tryz.ntmps40
  go_wp2
  refine wp_hab fun hab => ?_
  refine wp_region_above (by kernel_rfl) (by kernel_rfl) ?_
  repeat (go_big_quiet_step ((go_at_call 67; exact above_same (hmod1 _))))
  refine wpQuiet_nil ?_
  refine above_ends fun w3 hb3 => ?_
  clear hab
  obtain ⟨hc3, hf3⟩ := bcell hb3
  have hz3 : w.heap.size < w3.heap.size := by have := hb3.size; simp at this; omega
  go_wp2_with (go_at_call 67; refine (hmod2 _).mono ?_; rintro e w' ⟨rfl, rfl⟩)
  refine wp_hab fun hab => ?_
  refine wp_region_above (by kernel_rfl) (by kernel_rfl) ?_
  repeat (go_big_quiet_step ((go_at_call 67; exact above_same (hmod3 _))))
  refine wpQuiet_nil ?_
  refine above_ends fun w4 hb4 => ?_
  go_wp2
  go_ret2
  exact ⟨rfl, (((Below.refl _ _).alloc (Nat.le_refl _) _).trans (hb3.mono (by simp))).trans (hb4.mono (by omega))⟩
end Go.Proofs.YtjlfdgoijalfaaaGreat
