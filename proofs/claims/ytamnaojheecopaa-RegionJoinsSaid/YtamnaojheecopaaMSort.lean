/- Plain law: the reference's sorted lists, and its canonical list of spans. -/
import Derived.Test.YtamnaojheecopaaMMade
namespace Go.Proofs.Ytamnaojheecopaa
set_option linter.unusedVariables false
set_option linter.unusedSimpArgs false

def srt (l : List Int) : List Int := l.foldl (fun acc c => insI c acc) []
theorem srt_snoc (l : List Int) (c : Int) : srt (l ++ [c]) = insI c (srt l) := by simp [srt]
theorem srt_from : ∀ (l acc : List Int), acc.Pairwise (· < ·) → (l.foldl (fun acc c => insI c acc) acc).Pairwise (· < ·) ∧ ∀ x, x ∈ l.foldl (fun acc c => insI c acc) acc ↔ x ∈ l ∨ x ∈ acc
  | [], acc, h => ⟨h, by simp⟩
  | c :: l, acc, h => by
    obtain ⟨h1, h2⟩ := srt_from l (insI c acc) (insI_sorted c acc h)
    refine ⟨h1, fun x => ?_⟩
    simp only [List.foldl_cons]
    rw [h2, mem_insI]
    simp only [List.mem_cons]
    constructor
    · rintro (h | h | h)
      · exact .inl (.inr h)
      · exact .inl (.inl h)
      · exact .inr h
    · rintro ((h | h) | h)
      · exact .inr (.inl h)
      · exact .inl h
      · exact .inr (.inr h)
theorem srt_ok (l : List Int) : (srt l).Pairwise (· < ·) ∧ ∀ x, x ∈ srt l ↔ x ∈ l := by
  obtain ⟨h1, h2⟩ := srt_from l [] List.Pairwise.nil
  exact ⟨h1, fun x => by rw [show srt l = l.foldl (fun acc c => insI c acc) [] from rfl, h2]; simp⟩
theorem insI_len (c : Int) : ∀ (l : List Int), (insI c l).length ≤ l.length + 1
  | [] => by simp [insI]
  | a :: l => by
    have := insI_len c l
    simp only [insI]
    split
    · simp
    · split
      · simp
      · simp; omega
theorem srt_len_from : ∀ (l acc : List Int), (l.foldl (fun acc c => insI c acc) acc).length ≤ acc.length + l.length
  | [], acc => by simp
  | c :: l, acc => by
    have h1 := srt_len_from l (insI c acc)
    have h2 := insI_len c acc
    simp only [List.foldl_cons, List.length_cons]
    omega
theorem srt_len (l : List Int) : (srt l).length ≤ l.length := by
  have := srt_len_from l []
  simpa [srt] using this
/-- Where c belongs: k. -/
theorem insI_at (c : Int) : ∀ (S : List Int) (k : Nat), S.Pairwise (· < ·) → k ≤ S.length → (∀ j x, k ≤ j → S[j]? = some x → c < x) → (∀ x, k ≠ 0 → S[k - 1]? = some x → x < c) → insI c S = S.take k ++ c :: S.drop k
  | [], k, _, hk, _, _ => by
    obtain rfl : k = 0 := by simpa using hk
    rfl
  | a :: S, 0, h, _, h1, _ => by
    have := h1 0 a (Nat.le_refl _) rfl
    simp [insI, this]
  | a :: S, k + 1, h, hk, h1, h2 => by
    obtain ⟨p1, p2⟩ := List.pairwise_cons.1 h
    have hac : a < c := by
      cases k with
      | zero => exact h2 a (by simp) rfl
      | succ k =>
        have hkl : k < S.length := by simp at hk; omega
        have e := h2 S[k] (by simp) (by simp [hkl])
        have := p1 S[k] (List.getElem_mem hkl)
        omega
    have ih := insI_at c S k p2 (by simpa using hk) (fun j x hj hx => h1 (j + 1) x (by omega) (by simpa using hx)) (fun x hk0 hx => by
      refine h2 x (by simp) ?_
      obtain ⟨j, rfl⟩ : ∃ j, k = j + 1 := ⟨k - 1, by omega⟩
      simpa using hx)
    simp only [insI]
    rw [if_neg (by omega), if_neg (by omega), ih]
    simp
theorem insI_there (c : Int) : ∀ (S : List Int), S.Pairwise (· < ·) → c ∈ S → insI c S = S
  | a :: S, h, hc => by
    obtain ⟨p1, p2⟩ := List.pairwise_cons.1 h
    simp only [insI]
    rcases List.mem_cons.1 hc with rfl | hc
    · rw [if_neg (by omega), if_pos rfl]
    · have := p1 c hc
      rw [if_neg (by omega), if_neg (by omega), insI_there c S p2 hc]

/-- The canonical list: from each cut that is in to the next one. -/
def canF (cs : List Int) (bs : List Bool) : List Sp := ((prs cs).zip bs).foldl (fun out x => if x.2 then sext out x.1.1 x.1.2 else out) []
def canG (p : Int → Bool) : List Sp → List Int → List Sp
  | out, c :: d :: r => canG p (if p c then sext out c d else out) (d :: r)
  | out, _ => out
theorem canG_fold (p : Int → Bool) : ∀ (cs : List Int) (out : List Sp), ((prs cs).zip (cs.map p)).foldl (fun out x => if x.2 then sext out x.1.1 x.1.2 else out) out = canG p out cs
  | [], out => rfl
  | [c], out => rfl
  | c :: d :: r, out => by
    have := canG_fold p (d :: r) (if p c then sext out c d else out)
    simp only [prs, List.map_cons, List.zip_cons_cons, List.foldl_cons, canG] at this ⊢
    exact this
theorem canF_canG (p : Int → Bool) (cs : List Int) : canF cs (cs.map p) = canG p [] cs := canG_fold p cs []
theorem sext_len (out : List Sp) (c d : Int) : (sext out c d).length ≤ out.length + 1 := by
  unfold sext
  split
  · split
    · simp
    · simp
  · simp
theorem canF_len_from : ∀ (xs : List ((Int × Int) × Bool)) (out : List Sp), (xs.foldl (fun out x => if x.2 then sext out x.1.1 x.1.2 else out) out).length ≤ out.length + xs.length
  | [], out => by simp
  | x :: xs, out => by
    have h1 := canF_len_from xs (if x.2 then sext out x.1.1 x.1.2 else out)
    have h2 := sext_len out x.1.1 x.1.2
    simp only [List.foldl_cons, List.length_cons]
    by_cases hx : x.2 = true
    · rw [if_pos hx] at h1 ⊢; omega
    · rw [if_neg hx] at h1 ⊢; omega
theorem canF_len (cs : List Int) (bs : List Bool) : (canF cs bs).length ≤ cs.length := by
  have := canF_len_from ((prs cs).zip bs) []
  have h2 := prs_len cs
  have h3 : ((prs cs).zip bs).length ≤ (prs cs).length := by simp; omega
  unfold canF
  simp at this h3 ⊢
  omega
theorem canG_from {H : Int → Prop} {p : Int → Bool} {cs : List Int} (hs : cs.Pairwise (· < ·))
    (hH : ∀ c d x, c ∈ cs → d ∈ cs → c < d → (∀ e ∈ cs, e ≤ c ∨ d ≤ e) → c ≤ x → x < d → (H x ↔ p c = true)) (hhi : ∀ x, (∀ c ∈ cs, c ≤ x) → ¬ H x) :
    ∀ (r : List Int) (A : List Int) (c : Int) (out : List Sp), cs = A ++ c :: r → SCan out → (∀ q ∈ out, q.2 ≤ c) → (∀ x, smem out x ↔ x < c ∧ H x) →
      SCan (canG p out (c :: r)) ∧ ∀ x, smem (canG p out (c :: r)) x ↔ H x
  | [], A, c, out, hcs, h1, h2, h3 => by
    refine ⟨h1, fun x => ?_⟩
    show smem out x ↔ _
    rw [h3]
    constructor
    · exact fun q => q.2
    · intro q
      refine ⟨?_, q⟩
      rcases Int.lt_or_le x c with hx | hx
      · exact hx
      · exfalso
        refine hhi x (fun e he => ?_) q
        rw [hcs] at he hs
        rcases List.mem_append.1 he with he | he
        · have := (List.pairwise_append.1 hs).2.2 e he c (by simp); omega
        · simp at he; omega
  | d :: r, A, c, out, hcs, h1, h2, h3 => by
    have hc : c ∈ cs := by rw [hcs]; simp
    have hd : d ∈ cs := by rw [hcs]; simp
    have hs' := hs
    rw [hcs, List.pairwise_append] at hs'
    have hcd : c < d := (List.pairwise_cons.1 hs'.2.1).1 d (by simp)
    have hgap : ∀ e ∈ cs, e ≤ c ∨ d ≤ e := by
      intro e he
      rw [hcs] at he
      rcases List.mem_append.1 he with he | he
      · have := hs'.2.2 e he c (by simp); omega
      · rcases List.mem_cons.1 he with rfl | he
        · omega
        · rcases List.mem_cons.1 he with rfl | he
          · omega
          · have := (List.pairwise_cons.1 (List.pairwise_cons.1 hs'.2.1).2).1 e he; omega
    have key : SCan (if p c then sext out c d else out) ∧ (∀ q ∈ (if p c then sext out c d else out), q.2 ≤ d) ∧ ∀ x, smem (if p c then sext out c d else out) x ↔ x < d ∧ H x := by
      by_cases hp : p c = true
      · rw [if_pos hp]
        obtain ⟨a1, a2, a3⟩ := sext_ok h1 h2 hcd
        refine ⟨a1, a2, fun x => ?_⟩
        rw [a3, h3]
        constructor
        · rintro (⟨q1, q2⟩ | ⟨q1, q2⟩)
          · exact ⟨by omega, q2⟩
          · exact ⟨q2, (hH c d x hc hd hcd hgap q1 q2).2 hp⟩
        · rintro ⟨q1, q2⟩
          by_cases hx : x < c
          · exact .inl ⟨hx, q2⟩
          · exact .inr ⟨by omega, q1⟩
      · rw [if_neg hp]
        refine ⟨h1, fun q hq => by have := h2 q hq; omega, fun x => ?_⟩
        rw [h3]
        constructor
        · rintro ⟨q1, q2⟩
          exact ⟨by omega, q2⟩
        · rintro ⟨q1, q2⟩
          refine ⟨?_, q2⟩
          rcases Int.lt_or_le x c with hx | hx
          · exact hx
          · exact absurd ((hH c d x hc hd hcd hgap hx q1).1 q2) hp
    exact canG_from hs hH hhi r (A ++ [c]) d _ (by rw [hcs]; simp) key.1 key.2.1 key.2.2
theorem canF_ok {H : Int → Prop} {p : Int → Bool} {cs : List Int} (hs : cs.Pairwise (· < ·))
    (hH : ∀ c d x, c ∈ cs → d ∈ cs → c < d → (∀ e ∈ cs, e ≤ c ∨ d ≤ e) → c ≤ x → x < d → (H x ↔ p c = true)) (hhi : ∀ x, (∀ c ∈ cs, c ≤ x) → ¬ H x) (hlo : ∀ x, (∀ c ∈ cs, x < c) → ¬ H x) :
    SCan (canF cs (cs.map p)) ∧ ∀ x, smem (canF cs (cs.map p)) x ↔ H x := by
  rw [canF_canG]
  cases cs with
  | nil =>
    refine ⟨SCan.nil, fun x => ?_⟩
    have := hhi x (by simp)
    constructor
    · exact fun h => (smem_nil h).elim
    · exact fun h => (this h).elim
  | cons c r =>
    refine canG_from hs hH hhi r [] c [] rfl SCan.nil (by simp) (fun x => ?_)
    constructor
    · exact fun h => (smem_nil h).elim
    · rintro ⟨q1, q2⟩
      exfalso
      refine hlo x (fun e he => ?_) q2
      rcases List.mem_cons.1 he with rfl | he
      · exact q1
      · have := (List.pairwise_cons.1 hs).1 e he; omega

/-- The cuts in y. -/
def cutsY (l : List R4) : List Int := l.flatMap fun r => [r.y0, r.y1]
theorem mem_cutsY {l : List R4} {r : R4} (h : r ∈ l) : r.y0 ∈ cutsY l ∧ r.y1 ∈ cutsY l := by
  unfold cutsY
  exact ⟨List.mem_flatMap.2 ⟨r, h, by simp⟩, List.mem_flatMap.2 ⟨r, h, by simp⟩⟩
theorem pmem_sameY {l : List R4} {cs : List Int} (hcs : ∀ c ∈ cutsY l, c ∈ cs) {c d x y : Int} (hgap : ∀ e ∈ cs, e ≤ c ∨ d ≤ e) (h1 : c ≤ y) (h2 : y < d) : pmem l x y ↔ pmem l x c := by
  constructor
  · rintro ⟨r, hr, a, b, e, f⟩
    have g0 := hgap _ (hcs _ (mem_cutsY hr).1)
    have g1 := hgap _ (hcs _ (mem_cutsY hr).2)
    exact ⟨r, hr, a, b, by omega, by omega⟩
  · rintro ⟨r, hr, a, b, e, f⟩
    have g0 := hgap _ (hcs _ (mem_cutsY hr).1)
    have g1 := hgap _ (hcs _ (mem_cutsY hr).2)
    exact ⟨r, hr, a, b, by omega, by omega⟩
theorem pmem_hiY {l : List R4} {cs : List Int} (hcs : ∀ c ∈ cutsY l, c ∈ cs) {x y : Int} (h : ∀ c ∈ cs, c ≤ y) : ¬ pmem l x y := by
  rintro ⟨r, hr, _, _, _, h2⟩
  have := h _ (hcs _ (mem_cutsY hr).2); omega
theorem pmem_loY {l : List R4} {cs : List Int} (hcs : ∀ c ∈ cutsY l, c ∈ cs) {x y : Int} (h : ∀ c ∈ cs, y < c) : ¬ pmem l x y := by
  rintro ⟨r, hr, _, _, h2, _⟩
  have := h _ (hcs _ (mem_cutsY hr).1); omega
/-- The reference's cross-section at a cut. -/
def refG (h : Bool → Bool → Bool) (a b : List R4) (ys : List Int) (x : Int) : List Sp := canF ys (ys.map fun y => h (decide (pmem a x y)) (decide (pmem b x y)))
theorem refG_ok {h : Bool → Bool → Bool} (h0 : h false false = false) {a b : List R4} {ys : List Int} (hs : ys.Pairwise (· < ·)) (ha : ∀ c ∈ cutsY a, c ∈ ys) (hb : ∀ c ∈ cutsY b, c ∈ ys) (x : Int) :
    SCan (refG h a b ys x) ∧ ∀ y, smem (refG h a b ys x) y ↔ h (decide (pmem a x y)) (decide (pmem b x y)) = true := by
  refine canF_ok (H := fun y => h (decide (pmem a x y)) (decide (pmem b x y)) = true) hs ?_ ?_ ?_
  · intro c d y hc hd hcd hgap h1 h2
    rw [decide_eq_decide.2 (pmem_sameY ha hgap h1 h2), decide_eq_decide.2 (pmem_sameY hb hgap h1 h2)]
  · intro y hy
    rw [decide_eq_false (pmem_hiY ha hy), decide_eq_false (pmem_hiY hb hy), h0]
    exact Bool.false_ne_true
  · intro y hy
    rw [decide_eq_false (pmem_loY ha hy), decide_eq_false (pmem_loY hb hy), h0]
    exact Bool.false_ne_true
/-- **The reference's joined list is the joined list.** -/
theorem ref_join {h : Bool → Bool → Bool} (h0 : h false false = false) {a b : List R4} (ha : ∀ r ∈ a, wf4 r) (hb : ∀ r ∈ b, wf4 r) :
    flat (swp (refG h a b (srt (cutsY a ++ cutsY b))) (prs (srt (cutsL a ++ cutsL b)))) = rjoin h a b := by
  rw [swp_sweep]
  obtain ⟨y1, y2⟩ := srt_ok (cutsY a ++ cutsY b)
  obtain ⟨x1, x2⟩ := srt_ok (cutsL a ++ cutsL b)
  have hG := refG_ok h0 y1 (a := a) (b := b) (fun c hc => (y2 c).2 (by simp [hc])) (fun c hc => (y2 c).2 (by simp [hc]))
  obtain ⟨h1, h2⟩ := sweep_join (h := h) h0 (a := a) (b := b) x1 (fun c hc => (x2 c).2 (by simp [hc])) (fun c hc => (x2 c).2 (by simp [hc])) (g := refG h a b (srt (cutsY a ++ cutsY b))) (fun c _ => by
    refine ⟨(hG c).1, fun y => ?_⟩
    rw [(hG c).2, decide_eq_decide.2 (smem_crossL (l := a)), decide_eq_decide.2 (smem_crossL (l := b))])
  exact rjoin_eq h0 ha hb h1 h2
theorem refG_len (h : Bool → Bool → Bool) (a b : List R4) (ys : List Int) (x : Int) : (refG h a b ys x).length ≤ ys.length := canF_len _ _
end Go.Proofs.Ytamnaojheecopaa
