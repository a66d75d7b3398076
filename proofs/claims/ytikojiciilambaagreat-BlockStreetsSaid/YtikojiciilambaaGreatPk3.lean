/- Texts laid together: MSort, MGra, MapR, StrM, Held, SortI, SlabA, SlabItA. Lemmas for the statements of this seat; no condition. -/
import Derived.Test.YtikojiciilambaaGreatPk2
import Derived.Test.YtikojiciilambaaGreatPk1
import Derived.Maps.RangeWalk
import Derived.Maps.OwnSet
import Derived.OrdersHeld
import Derived.Deep.RegionHeld3
import Derived.Test.YtikojiciilambaaGreatShelf
import Derived.Lib.OwnBridge
import Derived.OwnWalk
import Derived.Laws.EntriesVeiled
import Derived.StillTactics

/- Plain law: the reference's sorted lists, and its canonical list of spans. -/
namespace Go.Proofs.YtikojiciilambaaGreat
set_option linter.unusedVariables false
set_option linter.unusedSimpArgs false
def srt (l : List Int) : List Int := l.foldl (fun acc c => insI c acc) []
theorem srt_snoc (l : List Int) (c : Int) : srt (l ++ [c]) = insI c (srt l) := by simp [srt]
theorem srt_from : ∀ (l acc : List Int), acc.Pairwise (· < ·) → (l.foldl (fun acc c => insI c acc) acc).Pairwise (· < ·) ∧ ∀ x, x ∈ l.foldl (fun acc c => insI c acc) acc ↔ x ∈ l ∨ x ∈ acc
  | [], acc, h => ⟨h, by simp⟩
  | c :: l, acc, h => by
    obtain ⟨h1, h2⟩ := srt_from l (insI c acc) (insI_sorted c acc h)
    refine ⟨h1, fun x => ?_⟩
    simp only [List.foldl_cons]
    rw [h2, mem_insI]
    simp only [List.mem_cons]
    constructor
    · rintro (h | h | h)
      · exact .inl (.inr h)
      · exact .inl (.inl h)
      · exact .inr h
    · rintro ((h | h) | h)
      · exact .inr (.inl h)
      · exact .inl h
      · exact .inr (.inr h)
theorem srt_ok (l : List Int) : (srt l).Pairwise (· < ·) ∧ ∀ x, x ∈ srt l ↔ x ∈ l := by
  obtain ⟨h1, h2⟩ := srt_from l [] List.Pairwise.nil
  exact ⟨h1, fun x => by rw [show srt l = l.foldl (fun acc c => insI c acc) [] from rfl, h2]; simp⟩
theorem insI_len (c : Int) : ∀ (l : List Int), (insI c l).length ≤ l.length + 1
 | [] => by simp [insI]
 | a :: l => by
  have := insI_len c l
  simp only [insI]
  split
  ·simp
  ·split
   ·simp
   ·simp; omega
theorem srt_len_from : ∀ (l acc : List Int), (l.foldl (fun acc c => insI c acc) acc).length ≤ acc.length + l.length
 | [], acc => by simp
 | c :: l, acc => by
  have h1 := srt_len_from l (insI c acc)
  have h2 := insI_len c acc
  simp only [List.foldl_cons, List.length_cons]
  omega
theorem srt_len (l : List Int) : (srt l).length ≤ l.length := by
 have := srt_len_from l []
 simpa [srt] using this
theorem insI_at (c : Int) : ∀ (S : List Int) (k : Nat), S.Pairwise (· < ·) → k ≤ S.length → (∀ j x, k ≤ j → S[j]? = some x → c < x) → (∀ x, k ≠ 0 → S[k - 1]? = some x → x < c) → insI c S = S.take k ++ c :: S.drop k
  | [], k, _, hk, _, _ => by
    obtain rfl : k = 0 := by simpa using hk
    rfl
  | a :: S, 0, h, _, h1, _ => by
    have := h1 0 a (Nat.le_refl _) rfl
    simp [insI, this]
  | a :: S, k + 1, h, hk, h1, h2 => by
    obtain ⟨p1, p2⟩ := List.pairwise_cons.1 h
    have hac : a < c := by
      cases k with
      | zero => exact h2 a (by simp) rfl
      | succ k =>
        have hkl : k < S.length := by simp at hk; omega
        have e := h2 S[k] (by simp) (by simp [hkl])
        have := p1 S[k] (List.getElem_mem hkl)
        omega
    have ih := insI_at c S k p2 (by simpa using hk) (fun j x hj hx => h1 (j + 1) x (by omega) (by simpa using hx)) (fun x hk0 hx => by
      refine h2 x (by simp) ?_
      obtain ⟨j, rfl⟩ : ∃ j, k = j + 1 := ⟨k - 1, by omega⟩
      simpa using hx)
    simp only [insI]
    rw [if_neg (by omega), if_neg (by omega), ih]
    simp
theorem insI_there (c : Int) : ∀ (S : List Int), S.Pairwise (· < ·) → c ∈ S → insI c S = S
  | a :: S, h, hc => by
    obtain ⟨p1, p2⟩ := List.pairwise_cons.1 h
    simp only [insI]
    rcases List.mem_cons.1 hc with rfl | hc
    · rw [if_neg (by omega), if_pos rfl]
    · have := p1 c hc
      rw [if_neg (by omega), if_neg (by omega), insI_there c S p2 hc]
def canF (cs : List Int) (bs : List Bool) : List Sp := ((prs cs).zip bs).foldl (fun out x => if x.2 then sext out x.1.1 x.1.2 else out) []
def canG (p : Int → Bool) : List Sp → List Int → List Sp
 | out, c :: d :: r => canG p (if p c then sext out c d else out) (d :: r)
 | out, _ => out
theorem canG_fold (p : Int → Bool) : ∀ (cs : List Int) (out : List Sp), ((prs cs).zip (cs.map p)).foldl (fun out x => if x.2 then sext out x.1.1 x.1.2 else out) out = canG p out cs
 | [], out => rfl
 | [c], out => rfl
 | c :: d :: r, out => by
  have := canG_fold p (d :: r) (if p c then sext out c d else out)
  simp only [prs, List.map_cons, List.zip_cons_cons, List.foldl_cons, canG] at this ⊢
  exact this
theorem canF_canG (p : Int → Bool) (cs : List Int) : canF cs (cs.map p) = canG p [] cs := canG_fold p cs []
theorem sext_len (out : List Sp) (c d : Int) : (sext out c d).length ≤ out.length + 1 := by
 unfold sext
 split
 ·split
  ·simp
  ·simp
 ·simp
theorem canF_len_from : ∀ (xs : List ((Int × Int) × Bool)) (out : List Sp), (xs.foldl (fun out x => if x.2 then sext out x.1.1 x.1.2 else out) out).length ≤ out.length + xs.length
 | [], out => by simp
 | x :: xs, out => by
  have h1 := canF_len_from xs (if x.2 then sext out x.1.1 x.1.2 else out)
  have h2 := sext_len out x.1.1 x.1.2
  simp only [List.foldl_cons, List.length_cons]
  by_cases hx : x.2 = true
  ·rw [if_pos hx] at h1 ⊢; omega
  ·rw [if_neg hx] at h1 ⊢; omega
theorem canF_len (cs : List Int) (bs : List Bool) : (canF cs bs).length ≤ cs.length := by
 have := canF_len_from ((prs cs).zip bs) []
 have h2 := prs_len cs
 have h3 : ((prs cs).zip bs).length ≤ (prs cs).length := by simp; omega
 unfold canF
 simp at this h3 ⊢
 omega
theorem canG_from {H : Int → Prop} {p : Int → Bool} {cs : List Int} (hs : cs.Pairwise (· < ·))
    (hH : ∀ c d x, c ∈ cs → d ∈ cs → c < d → (∀ e ∈ cs, e ≤ c ∨ d ≤ e) → c ≤ x → x < d → (H x ↔ p c = true)) (hhi : ∀ x, (∀ c ∈ cs, c ≤ x) → ¬ H x) :
    ∀ (r : List Int) (A : List Int) (c : Int) (out : List Sp), cs = A ++ c :: r → SCan out → (∀ q ∈ out, q.2 ≤ c) → (∀ x, smem out x ↔ x < c ∧ H x) →
      SCan (canG p out (c :: r)) ∧ ∀ x, smem (canG p out (c :: r)) x ↔ H x
  | [], A, c, out, hcs, h1, h2, h3 => by
    refine ⟨h1, fun x => ?_⟩
    show smem out x ↔ _
    rw [h3]
    constructor
    · exact fun q => q.2
    · intro q
      refine ⟨?_, q⟩
      rcases Int.lt_or_le x c with hx | hx
      · exact hx
      · exfalso
        refine hhi x (fun e he => ?_) q
        rw [hcs] at he hs
        rcases List.mem_append.1 he with he | he
        · have := (List.pairwise_append.1 hs).2.2 e he c (by simp); omega
        · simp at he; omega
  | d :: r, A, c, out, hcs, h1, h2, h3 => by
    have hc : c ∈ cs := by rw [hcs]; simp
    have hd : d ∈ cs := by rw [hcs]; simp
    have hs' := hs
    rw [hcs, List.pairwise_append] at hs'
    have hcd : c < d := (List.pairwise_cons.1 hs'.2.1).1 d (by simp)
    have hgap : ∀ e ∈ cs, e ≤ c ∨ d ≤ e := by
      intro e he
      rw [hcs] at he
      rcases List.mem_append.1 he with he | he
      · have := hs'.2.2 e he c (by simp); omega
      · rcases List.mem_cons.1 he with rfl | he
        · omega
        · rcases List.mem_cons.1 he with rfl | he
          · omega
          · have := (List.pairwise_cons.1 (List.pairwise_cons.1 hs'.2.1).2).1 e he; omega
    have key : SCan (if p c then sext out c d else out) ∧ (∀ q ∈ (if p c then sext out c d else out), q.2 ≤ d) ∧ ∀ x, smem (if p c then sext out c d else out) x ↔ x < d ∧ H x := by
      by_cases hp : p c = true
      · rw [if_pos hp]
        obtain ⟨a1, a2, a3⟩ := sext_ok h1 h2 hcd
        refine ⟨a1, a2, fun x => ?_⟩
        rw [a3, h3]
        constructor
        · rintro (⟨q1, q2⟩ | ⟨q1, q2⟩)
          · exact ⟨by omega, q2⟩
          · exact ⟨q2, (hH c d x hc hd hcd hgap q1 q2).2 hp⟩
        · rintro ⟨q1, q2⟩
          by_cases hx : x < c
          · exact .inl ⟨hx, q2⟩
          · exact .inr ⟨by omega, q1⟩
      · rw [if_neg hp]
        refine ⟨h1, fun q hq => by have := h2 q hq; omega, fun x => ?_⟩
        rw [h3]
        constructor
        · rintro ⟨q1, q2⟩
          exact ⟨by omega, q2⟩
        · rintro ⟨q1, q2⟩
          refine ⟨?_, q2⟩
          rcases Int.lt_or_le x c with hx | hx
          · exact hx
          · exact absurd ((hH c d x hc hd hcd hgap hx q1).1 q2) hp
    exact canG_from hs hH hhi r (A ++ [c]) d _ (by rw [hcs]; simp) key.1 key.2.1 key.2.2
theorem canF_ok {H : Int → Prop} {p : Int → Bool} {cs : List Int} (hs : cs.Pairwise (· < ·))
    (hH : ∀ c d x, c ∈ cs → d ∈ cs → c < d → (∀ e ∈ cs, e ≤ c ∨ d ≤ e) → c ≤ x → x < d → (H x ↔ p c = true)) (hhi : ∀ x, (∀ c ∈ cs, c ≤ x) → ¬ H x) (hlo : ∀ x, (∀ c ∈ cs, x < c) → ¬ H x) :
    SCan (canF cs (cs.map p)) ∧ ∀ x, smem (canF cs (cs.map p)) x ↔ H x := by
  rw [canF_canG]
  cases cs with
  | nil =>
    refine ⟨SCan.nil, fun x => ?_⟩
    have := hhi x (by simp)
    constructor
    · exact fun h => (smem_nil h).elim
    · exact fun h => (this h).elim
  | cons c r =>
    refine canG_from hs hH hhi r [] c [] rfl SCan.nil (by simp) (fun x => ?_)
    constructor
    · exact fun h => (smem_nil h).elim
    · rintro ⟨q1, q2⟩
      exfalso
      refine hlo x (fun e he => ?_) q2
      rcases List.mem_cons.1 he with rfl | he
      · exact q1
      · have := (List.pairwise_cons.1 hs).1 e he; omega
def cutsY (l : List R4) : List Int := l.flatMap fun r => [r.y0, r.y1]
theorem mem_cutsY {l : List R4} {r : R4} (h : r ∈ l) : r.y0 ∈ cutsY l ∧ r.y1 ∈ cutsY l := by
 unfold cutsY
 exact ⟨List.mem_flatMap.2 ⟨r, h, by simp⟩, List.mem_flatMap.2 ⟨r, h, by simp⟩⟩
theorem pmem_sameY {l : List R4} {cs : List Int} (hcs : ∀ c ∈ cutsY l, c ∈ cs) {c d x y : Int} (hgap : ∀ e ∈ cs, e ≤ c ∨ d ≤ e) (h1 : c ≤ y) (h2 : y < d) : pmem l x y ↔ pmem l x c := by
 constructor
 ·rintro ⟨r, hr, a, b, e, f⟩
  have g0 := hgap _ (hcs _ (mem_cutsY hr).1)
  have g1 := hgap _ (hcs _ (mem_cutsY hr).2)
  exact ⟨r, hr, a, b, by omega, by omega⟩
 ·rintro ⟨r, hr, a, b, e, f⟩
  have g0 := hgap _ (hcs _ (mem_cutsY hr).1)
  have g1 := hgap _ (hcs _ (mem_cutsY hr).2)
  exact ⟨r, hr, a, b, by omega, by omega⟩
theorem pmem_hiY {l : List R4} {cs : List Int} (hcs : ∀ c ∈ cutsY l, c ∈ cs) {x y : Int} (h : ∀ c ∈ cs, c ≤ y) : ¬ pmem l x y := by
 rintro ⟨r, hr, _, _, _, h2⟩
 have := h _ (hcs _ (mem_cutsY hr).2); omega
theorem pmem_loY {l : List R4} {cs : List Int} (hcs : ∀ c ∈ cutsY l, c ∈ cs) {x y : Int} (h : ∀ c ∈ cs, y < c) : ¬ pmem l x y := by
 rintro ⟨r, hr, _, _, h2, _⟩
 have := h _ (hcs _ (mem_cutsY hr).1); omega
def refG (h : Bool → Bool → Bool) (a b : List R4) (ys : List Int) (x : Int) : List Sp := canF ys (ys.map fun y => h (decide (pmem a x y)) (decide (pmem b x y)))
theorem refG_ok {h : Bool → Bool → Bool} (h0 : h false false = false) {a b : List R4} {ys : List Int} (hs : ys.Pairwise (· < ·)) (ha : ∀ c ∈ cutsY a, c ∈ ys) (hb : ∀ c ∈ cutsY b, c ∈ ys) (x : Int) :
    SCan (refG h a b ys x) ∧ ∀ y, smem (refG h a b ys x) y ↔ h (decide (pmem a x y)) (decide (pmem b x y)) = true := by
  refine canF_ok (H := fun y => h (decide (pmem a x y)) (decide (pmem b x y)) = true) hs ?_ ?_ ?_
  · intro c d y hc hd hcd hgap h1 h2
    rw [decide_eq_decide.2 (pmem_sameY ha hgap h1 h2), decide_eq_decide.2 (pmem_sameY hb hgap h1 h2)]
  · intro y hy
    rw [decide_eq_false (pmem_hiY ha hy), decide_eq_false (pmem_hiY hb hy), h0]
    exact Bool.false_ne_true
  · intro y hy
    rw [decide_eq_false (pmem_loY ha hy), decide_eq_false (pmem_loY hb hy), h0]
    exact Bool.false_ne_true
theorem ref_join {h : Bool → Bool → Bool} (h0 : h false false = false) {a b : List R4} (ha : ∀ r ∈ a, wf4 r) (hb : ∀ r ∈ b, wf4 r) :
  flat (swp (refG h a b (srt (cutsY a ++ cutsY b))) (prs (srt (cutsL a ++ cutsL b)))) = rjoin h a b := by
 rw [swp_sweep]
 obtain ⟨y1, y2⟩ := srt_ok (cutsY a ++ cutsY b)
 obtain ⟨x1, x2⟩ := srt_ok (cutsL a ++ cutsL b)
 have hG := refG_ok h0 y1 (a := a) (b := b) (fun c hc => (y2 c).2 (by simp [hc])) (fun c hc => (y2 c).2 (by simp [hc]))
 obtain ⟨h1, h2⟩ := sweep_join (h := h) h0 (a := a) (b := b) x1 (fun c hc => (x2 c).2 (by simp [hc])) (fun c hc => (x2 c).2 (by simp [hc])) (g := refG h a b (srt (cutsY a ++ cutsY b))) (fun c _ => by
  refine ⟨(hG c).1, fun y => ?_⟩
  rw [(hG c).2, decide_eq_decide.2 (smem_crossL (l := a)), decide_eq_decide.2 (smem_crossL (l := b))])
 exact rjoin_eq h0 ha hb h1 h2
theorem refG_len (h : Bool → Bool → Bool) (a b : List R4) (ys : List Int) (x : Int) : (refG h a b ys x).length ≤ ys.length := canF_len _ _
end Go.Proofs.YtikojiciilambaaGreat

/- Plain: what the reference of networks reckons: unions of spans, lines, points that are nodes. -/
namespace Go.Proofs.YtikojiciilambaaGreat
open Go.RowKit
set_option linter.unusedVariables false
set_option linter.unusedSimpArgs false
def stepM (st : List Sp × Sp) (q : Sp) : List Sp × Sp := if q.2 < st.2.1 ∨ st.2.2 < q.1 then (st.1 ++ [q], st.2) else (st.1, (min st.2.1 q.1, max st.2.2 q.2))
def mergeU (out : List Sp) (s : Sp) : List Sp × Sp := out.foldl stepM ([], s)
def lowN (x : Int) : List Sp → Nat
 | [] => 0
 | q :: t => if q.1 < x then lowN x t + 1 else 0
def insU (rest : List Sp) (s : Sp) : List Sp := rest.take (lowN s.1 rest) ++ [s] ++ rest.drop (lowN s.1 rest)
def stepU (out : List Sp) (s : Sp) : List Sp := insU (mergeU out s).1 (mergeU out s).2
def unitF (l : List Sp) : List Sp := l.foldl stepU []
theorem low_le (x : Int) : ∀ t : List Sp, lowN x t ≤ t.length
 | [] => Nat.le_refl _
 | q :: t => by
  have := low_le x t
  unfold lowN
  split <;> simp <;> omega
theorem low_lt {x : Int} : ∀ {t : List Sp} {i : Nat} {q : Sp}, i < lowN x t → t[i]? = some q → q.1 < x
 | [], i, q, h, _ => by simp [lowN] at h
 | r :: t, i, q, h, hq => by
  unfold lowN at h
  split at h
  ·cases i with
   | zero => simp at hq; subst hq; assumption
   | succ i => exact low_lt (t := t) (i := i) (by omega) (by simpa using hq)
  ·omega
theorem low_at {x : Int} : ∀ {t : List Sp} {q : Sp}, t[lowN x t]? = some q → ¬ q.1 < x
 | [], q, hq => by simp at hq
 | r :: t, q, hq => by
  unfold lowN at hq
  split at hq
  ·exact low_at (t := t) (by simpa using hq)
  ·simp at hq
   subst hq
   assumption
theorem ins_cons_lt {q s : Sp} {t : List Sp} (h : q.1 < s.1) : insU (q :: t) s = q :: insU t s := by
 unfold insU
 have e : lowN s.1 (q :: t) = lowN s.1 t + 1 := by show (if _ then _ else _) = _; rw [if_pos h]
 rw [e]
 simp
theorem ins_cons_ge {q s : Sp} {t : List Sp} (h : ¬ q.1 < s.1) : insU (q :: t) s = s :: q :: t := by
 unfold insU
 have e : lowN s.1 (q :: t) = 0 := by show (if _ then _ else _) = _; rw [if_neg h]
 rw [e]
 simp
theorem ins_mem (s : Sp) : ∀ (t : List Sp) (q : Sp), q ∈ insU t s ↔ q = s ∨ q ∈ t
 | [], q => by simp [insU]
 | r :: t, q => by
  by_cases h : r.1 < s.1
  ·rw [ins_cons_lt h, List.mem_cons, ins_mem s t q, List.mem_cons]
   constructor
   ·rintro (h | h | h)
    ·exact .inr (.inl h)
    ·exact .inl h
    ·exact .inr (.inr h)
   ·rintro (h | h | h)
    ·exact .inr (.inl h)
    ·exact .inl h
    ·exact .inr (.inr h)
  ·rw [ins_cons_ge h]
   simp
theorem ins_can {s : Sp} (hs : s.1 < s.2) : ∀ {t : List Sp}, SCan t → (∀ q ∈ t, q.2 < s.1 ∨ s.2 < q.1) → SCan (insU t s)
 | [], _, _ => by
  refine ⟨fun p hp => ?_, ?_⟩
  ·have : p = s := by simpa [insU] using hp
   subst this; exact hs
  ·simp [insU]
 | r :: t, hc, ha => by
  obtain ⟨h1, h2⟩ := hc
  obtain ⟨h3, h4⟩ := List.pairwise_cons.1 h2
  have hr := h1 r (by simp)
  by_cases h : r.1 < s.1
  ·rw [ins_cons_lt h]
   have hrs : r.2 < s.1 := by have := ha r (by simp); omega
   obtain ⟨i1, i2⟩ := ins_can hs (t := t) ⟨fun p hp => h1 p (by simp [hp]), h4⟩ fun q hq => ha q (by simp [hq])
   refine ⟨fun p hp => ?_, List.pairwise_cons.2 ⟨fun q hq => ?_, i2⟩⟩
   ·rcases List.mem_cons.1 hp with rfl | hp
    ·exact hr
    ·exact i1 p hp
   ·rcases (ins_mem s t q).1 hq with rfl | hq
    ·exact hrs
    ·exact h3 q hq
  ·rw [ins_cons_ge h]
   have hrs : s.2 < r.1 := by have := ha r (by simp); omega
   refine ⟨fun p hp => ?_, List.pairwise_cons.2 ⟨fun q hq => ?_, h2⟩⟩
   ·rcases List.mem_cons.1 hp with rfl | hp
    ·exact hs
    ·exact h1 p hp
   ·rcases List.mem_cons.1 hq with rfl | hq
    ·exact hrs
    ·have := h3 q hq; omega
theorem merge_ok : ∀ {out rest : List Sp} {s : Sp}, SCan out → SCan rest → s.1 < s.2 → (∀ q ∈ rest, q.2 < s.1 ∨ s.2 < q.1) → (∀ q ∈ rest, ∀ r ∈ out, q.2 < r.1) →
  SCan (out.foldl stepM (rest, s)).1 ∧ (out.foldl stepM (rest, s)).2.1 < (out.foldl stepM (rest, s)).2.2 ∧ (∀ q ∈ (out.foldl stepM (rest, s)).1, q.2 < (out.foldl stepM (rest, s)).2.1 ∨ (out.foldl stepM (rest, s)).2.2 < q.1) ∧
  ∀ x, (smem (out.foldl stepM (rest, s)).1 x ∨ (out.foldl stepM (rest, s)).2.1 ≤ x ∧ x < (out.foldl stepM (rest, s)).2.2) ↔ (smem rest x ∨ smem out x ∨ s.1 ≤ x ∧ x < s.2)
 | [], rest, s, _, hr, hs, ha, _ => by
  refine ⟨hr, hs, ha, fun x => ?_⟩
  show (smem rest x ∨ s.1 ≤ x ∧ x < s.2) ↔ _
  have : ¬ smem [] x := fun ⟨p, hp, _⟩ => by simp at hp
  constructor
  ·rintro (h | h)
   ·exact .inl h
   ·exact .inr (.inr h)
  ·rintro (h | h | h)
   ·exact .inl h
   ·exact absurd h this
   ·exact .inr h
 | r :: out, rest, s, hc, hr, hs, ha, hd => by
  obtain ⟨h1, h2⟩ := hc
  obtain ⟨h3, h4⟩ := List.pairwise_cons.1 h2
  have hrr := h1 r (by simp)
  have hc2 : SCan out := ⟨fun p hp => h1 p (by simp [hp]), h4⟩
  have hout : ∀ x, smem (r :: out) x ↔ (r.1 ≤ x ∧ x < r.2) ∨ smem out x := fun x => by
   unfold smem
   constructor
   ·rintro ⟨p, hp, h⟩
    rcases List.mem_cons.1 hp with rfl | hp
    ·exact .inl h
    ·exact .inr ⟨p, hp, h⟩
   ·rintro (h | ⟨p, hp, h⟩)
    ·exact ⟨r, by simp, h⟩
    ·exact ⟨p, by simp [hp], h⟩
  rw [List.foldl_cons]
  by_cases h : r.2 < s.1 ∨ s.2 < r.1
  ·have e : stepM (rest, s) r = (rest ++ [r], s) := if_pos h
   rw [e]
   have hr2 : SCan (rest ++ [r]) := by
    refine ⟨fun p hp => ?_, List.pairwise_append.2 ⟨hr.2, List.pairwise_singleton _ _, fun a ha' b hb => ?_⟩⟩
    ·rcases List.mem_append.1 hp with hp | hp
     ·exact hr.1 p hp
     ·rw [List.mem_singleton.1 hp]; exact hrr
    ·rw [List.mem_singleton.1 hb]; exact hd a ha' r (by simp)
   obtain ⟨k1, k2, k3, k4⟩ := merge_ok (out := out) (rest := rest ++ [r]) (s := s) hc2 hr2 hs (fun q hq => by
    rcases List.mem_append.1 hq with hq | hq
    ·exact ha q hq
    ·rw [List.mem_singleton.1 hq]; exact h) (fun q hq t ht => by
    rcases List.mem_append.1 hq with hq | hq
    ·exact hd q hq t (by simp [ht])
    ·rw [List.mem_singleton.1 hq]; exact h3 t ht)
   refine ⟨k1, k2, k3, fun x => (k4 x).trans ?_⟩
   rw [hout]
   have hm : smem (rest ++ [r]) x ↔ smem rest x ∨ (r.1 ≤ x ∧ x < r.2) := by
    unfold smem
    constructor
    ·rintro ⟨p, hp, h⟩
     rcases List.mem_append.1 hp with hp | hp
     ·exact .inl ⟨p, hp, h⟩
     ·rw [List.mem_singleton.1 hp] at h; exact .inr h
    ·rintro (⟨p, hp, h⟩ | h)
     ·exact ⟨p, by simp [hp], h⟩
     ·exact ⟨r, by simp, h⟩
   rw [hm]
   constructor
   ·rintro ((h | h) | h | h)
    ·exact .inl h
    ·exact .inr (.inl (.inl h))
    ·exact .inr (.inl (.inr h))
    ·exact .inr (.inr h)
   ·rintro (h | (h | h) | h)
    ·exact .inl (.inl h)
    ·exact .inl (.inr h)
    ·exact .inr (.inl h)
    ·exact .inr (.inr h)
  ·have e : stepM (rest, s) r = (rest, (min s.1 r.1, max s.2 r.2)) := if_neg h
   rw [e]
   obtain ⟨k1, k2, k3, k4⟩ := merge_ok (out := out) (rest := rest) (s := (min s.1 r.1, max s.2 r.2)) hc2 hr (by show min s.1 r.1 < max s.2 r.2; omega) (fun q hq => by
    have g1 := ha q hq
    have g2 := hd q hq r (by simp)
    have g3 := hr.1 q hq
    show q.2 < min s.1 r.1 ∨ max s.2 r.2 < q.1
    omega) (fun q hq t ht => hd q hq t (by simp [ht]))
   refine ⟨k1, k2, k3, fun x => (k4 x).trans ?_⟩
   rw [hout]
   show (smem rest x ∨ smem out x ∨ min s.1 r.1 ≤ x ∧ x < max s.2 r.2) ↔ _
   have hm : (min s.1 r.1 ≤ x ∧ x < max s.2 r.2) ↔ (r.1 ≤ x ∧ x < r.2) ∨ (s.1 ≤ x ∧ x < s.2) := by omega
   rw [hm]
   constructor
   ·rintro (h | h | h | h)
    ·exact .inl h
    ·exact .inr (.inl (.inr h))
    ·exact .inr (.inl (.inl h))
    ·exact .inr (.inr h)
   ·rintro (h | (h | h) | h)
    ·exact .inl h
    ·exact .inr (.inr (.inl h))
    ·exact .inr (.inl h)
    ·exact .inr (.inr (.inr h))
theorem stepU_ok {out : List Sp} {s : Sp} (ho : SCan out) (hs : s.1 < s.2) : SCan (stepU out s) ∧ ∀ x, smem (stepU out s) x ↔ smem out x ∨ (s.1 ≤ x ∧ x < s.2) := by
 obtain ⟨k1, k2, k3, k4⟩ := merge_ok (out := out) (rest := []) (s := s) ho ⟨fun p hp => by simp at hp, List.Pairwise.nil⟩ hs (fun q hq => by simp at hq) (fun q hq => by simp at hq)
 refine ⟨ins_can k2 k1 k3, fun x => ?_⟩
 have hn : ¬ smem [] x := fun ⟨p, hp, _⟩ => by simp at hp
 have := k4 x
 unfold stepU mergeU
 rw [show smem (insU (out.foldl stepM ([], s)).1 (out.foldl stepM ([], s)).2) x ↔ (smem (out.foldl stepM ([], s)).1 x ∨ (out.foldl stepM ([], s)).2.1 ≤ x ∧ x < (out.foldl stepM ([], s)).2.2) from by
  unfold smem
  constructor
  ·rintro ⟨p, hp, h⟩
   rcases (ins_mem _ _ p).1 hp with rfl | hp
   ·exact .inr h
   ·exact .inl ⟨p, hp, h⟩
  ·rintro (⟨p, hp, h⟩ | h)
   ·exact ⟨p, (ins_mem _ _ p).2 (.inr hp), h⟩
   ·exact ⟨_, (ins_mem _ _ _).2 (.inl rfl), h⟩]
 rw [this]
 constructor
 ·rintro (h | h | h)
  ·exact absurd h hn
  ·exact .inl h
  ·exact .inr h
 ·rintro (h | h)
  ·exact .inr (.inl h)
  ·exact .inr (.inr h)
theorem unit_from : ∀ (l : List Sp) {out : List Sp}, SCan out → (∀ s ∈ l, s.1 < s.2) → SCan (l.foldl stepU out) ∧ ∀ x, smem (l.foldl stepU out) x ↔ smem out x ∨ smem l x
 | [], out, ho, _ => ⟨ho, fun x => ⟨.inl, fun h => h.elim id fun ⟨p, hp, _⟩ => by simp at hp⟩⟩
 | s :: l, out, ho, hl => by
  obtain ⟨h1, h2⟩ := stepU_ok ho (hl s (by simp))
  obtain ⟨h3, h4⟩ := unit_from l h1 fun t ht => hl t (by simp [ht])
  refine ⟨h3, fun x => ?_⟩
  rw [List.foldl_cons, h4, h2]
  unfold smem
  constructor
  ·rintro ((h | h) | ⟨p, hp, h⟩)
   ·exact .inl h
   ·exact .inr ⟨s, by simp, h⟩
   ·exact .inr ⟨p, by simp [hp], h⟩
  ·rintro (h | ⟨p, hp, h⟩)
   ·exact .inl (.inl h)
   ·rcases List.mem_cons.1 hp with rfl | hp
    ·exact .inl (.inr h)
    ·exact .inr ⟨p, hp, h⟩
theorem unit_ok {l : List Sp} (h : ∀ s ∈ l, s.1 < s.2) : SCan (unitF l) ∧ ∀ x, smem (unitF l) x ↔ smem l x := by
 obtain ⟨h1, h2⟩ := unit_from l (out := []) ⟨fun p hp => by simp at hp, List.Pairwise.nil⟩ h
 refine ⟨h1, fun x => (h2 x).trans ⟨fun h => h.elim (fun ⟨p, hp, _⟩ => by simp at hp) id, .inr⟩⟩
theorem stepM_len (st : List Sp × Sp) (q : Sp) : (stepM st q).1.length ≤ st.1.length + 1 := by
 unfold stepM
 split <;> simp
theorem mergeU_len (out : List Sp) (s : Sp) : (mergeU out s).1.length ≤ out.length := by
 have key : ∀ (out : List Sp) (st : List Sp × Sp), (out.foldl stepM st).1.length ≤ st.1.length + out.length := by
  intro out
  induction out with
  | nil => intro st; simp
  | cons r out ih =>
   intro st
   rw [List.foldl_cons]
   have h1 := ih (stepM st r)
   have h2 := stepM_len st r
   simp only [List.length_cons]
   omega
 have := key out ([], s)
 simpa [mergeU] using this
theorem insU_len (t : List Sp) (s : Sp) : (insU t s).length = t.length + 1 := by
 have := low_le s.1 t
 unfold insU
 simp
 omega
theorem unitF_len : ∀ (l : List Sp), (unitF l).length ≤ l.length := by
 have key : ∀ (l out : List Sp), (l.foldl stepU out).length ≤ out.length + l.length := by
  intro l
  induction l with
  | nil => intro out; simp
  | cons s l ih =>
   intro out
   rw [List.foldl_cons]
   have h1 := ih (stepU out s)
   have h2 : (stepU out s).length ≤ out.length + 1 := by
    unfold stepU
    rw [insU_len]
    have := mergeU_len out s
    omega
   simp only [List.length_cons]
   omega
 intro l
 have := key l []
 simpa [unitF] using this
theorem unit_take {l : List Sp} {m : Nat} {s : Sp} (h : l[m]? = some s) : unitF (l.take (m + 1)) = stepU (unitF (l.take m)) s := by
 unfold unitF
 rw [List.take_add_one, h, List.foldl_append]
 rfl
theorem merge_take {out : List Sp} {s q : Sp} {m : Nat} (h : out[m]? = some q) : (out.take (m + 1)).foldl stepM ([], s) = stepM ((out.take m).foldl stepM ([], s)) q := by
 rw [List.take_add_one, h, List.foldl_append]
 rfl
def atsF (l : List Sg) (al : Bool) : List Int := (l.filter fun s => decide (s.ay = s.cy) == al).map fun s => if al then s.ay else s.ax
def ownF (l : List Sg) (al : Bool) (a : Int) : List Sp := if al then rowSp l a else colSp l a
def linesF (l : List Sg) (al : Bool) : List (Int × List Sp) := (srt (atsF l al)).map fun a => (a, unitF (ownF l al a))
def hasB (L : List (Int × List Sp)) (a x : Int) : Bool := L.any fun r => decide (r.1 = a) && r.2.any fun s => decide (s.1 ≤ x) && decide (x < s.2)
theorem own_wf {l : List Sg} (hv : ∀ s ∈ l, okSg s) (al : Bool) (a : Int) : ∀ s ∈ ownF l al a, s.1 < s.2 := by
 intro p hp
 unfold ownF at hp
 cases al
 ·simp only [Bool.false_eq_true, if_false] at hp
  unfold colSp at hp
  obtain ⟨s, hs, rfl⟩ := List.mem_map.1 hp
  obtain ⟨h1, h2⟩ := List.mem_filter.1 hs
  have := hv s h1
  unfold okSg at this
  simp at h2
  show min s.ay s.cy < max s.ay s.cy
  omega
 ·simp only [if_true] at hp
  unfold rowSp at hp
  obtain ⟨s, hs, rfl⟩ := List.mem_map.1 hp
  obtain ⟨h1, h2⟩ := List.mem_filter.1 hs
  have := hv s h1
  unfold okSg at this
  simp at h2
  show min s.ax s.cx < max s.ax s.cx
  omega
theorem own_nil {l : List Sg} {al : Bool} {a : Int} (h : a ∉ atsF l al) : ownF l al a = [] := by
 unfold ownF
 unfold atsF at h
 cases al
 ·simp only [Bool.false_eq_true, if_false]
  unfold colSp
  rw [List.map_eq_nil_iff, List.filter_eq_nil_iff]
  intro s hs hp
  refine h (List.mem_map.2 ⟨s, List.mem_filter.2 ⟨hs, ?_⟩, ?_⟩)
  ·simp at hp; simp [hp.1]
  ·simp at hp; simp [hp.2]
 ·simp only [if_true]
  unfold rowSp
  rw [List.map_eq_nil_iff, List.filter_eq_nil_iff]
  intro s hs hp
  refine h (List.mem_map.2 ⟨s, List.mem_filter.2 ⟨hs, ?_⟩, ?_⟩)
  ·simp at hp; simp [hp.1]
  ·simp at hp; simp [hp.2]
theorem lines_has {l : List Sg} (hv : ∀ s ∈ l, okSg s) (al : Bool) (a x : Int) : hasB (linesF l al) a x = decide (smem (ownF l al a) x) := by
 obtain ⟨u1, u2⟩ := unit_ok (own_wf hv al a)
 rw [Bool.eq_iff_iff, decide_eq_true_eq, ← u2 x]
 unfold hasB linesF
 rw [List.any_eq_true]
 constructor
 ·rintro ⟨r, hr, h⟩
  obtain ⟨b, hb, rfl⟩ := List.mem_map.1 hr
  simp only [Bool.and_eq_true, decide_eq_true_eq, List.any_eq_true] at h
  obtain ⟨rfl, s, hs, h⟩ := h
  exact ⟨s, hs, h⟩
 ·intro h
  have hm : a ∈ atsF l al := Classical.byContradiction fun hn => by
   rw [own_nil hn] at h
   obtain ⟨p, hp, _⟩ := h
   simp [unitF] at hp
  refine ⟨(a, unitF (ownF l al a)), List.mem_map.2 ⟨a, ((srt_ok _).2 a).2 hm, rfl⟩, ?_⟩
  obtain ⟨p, hp, h⟩ := h
  simp only [Bool.and_eq_true, decide_eq_true_eq, List.any_eq_true]
  exact ⟨trivial, p, hp, h⟩
theorem lines_row {l : List Sg} (hv : ∀ s ∈ l, okSg s) (x y : Int) : hasB (linesF l true) y x = htB l x y := (lines_has hv true y x).trans rfl
theorem lines_col {l : List Sg} (hv : ∀ s ∈ l, okSg s) (x y : Int) : hasB (linesF l false) x y = vtB l x y := (lines_has hv false x y).trans rfl
theorem lines_ok {l : List Sg} (hv : ∀ s ∈ l, okSg s) : Lines l (fun y => unitF (ownF l true y)) (fun x => unitF (ownF l false x)) := by
 refine ⟨fun y => (unit_ok (own_wf hv true y)).1, fun x y => ?_, fun x => (unit_ok (own_wf hv false x)).1, fun x y => ?_⟩
 ·rw [(unit_ok (own_wf hv true y)).2]
  unfold htB
  rw [decide_eq_true_eq]
  exact Iff.rfl
 ·rw [(unit_ok (own_wf hv false x)).2]
  unfold vtB
  rw [decide_eq_true_eq]
  exact Iff.rfl
structure Gd (nd : Pt → Bool) (P : Pt → Prop) (out : List Pt) : Prop where
 srt : out.Pairwise ptLt
 nod : ∀ p ∈ out, nd p = true
 all : 400 < out.length ∨ ∀ p, P p → nd p = true → p ∈ out
theorem Gd.imp {nd : Pt → Bool} {P Q : Pt → Prop} {out : List Pt} (h : Gd nd P out) (hq : ∀ p, Q p → P p) : Gd nd Q out := ⟨h.srt, h.nod, h.all.imp id fun h p hp => h p (hq p hp)⟩
theorem Gd.more {nd : Pt → Bool} {P Q : Pt → Prop} {out : List Pt} (h : Gd nd P out) (hl : 400 < out.length) : Gd nd Q out := ⟨h.srt, h.nod, .inl hl⟩
theorem Gd.skip {nd : Pt → Bool} {P : Pt → Prop} {out : List Pt} {p : Pt} (h : Gd nd P out) (hn : nd p = false) : Gd nd (fun q => P q ∨ q = p) out :=
 ⟨h.srt, h.nod, h.all.imp id fun h q hq hqn => hq.elim (fun hq => h q hq hqn) fun e => by subst e; rw [hn] at hqn; cases hqn⟩
def befN (p : Pt) : List Pt → Nat
 | [] => 0
 | q :: t => if ptLt q p then befN p t + 1 else 0
def putF (l : List Pt) (p : Pt) : List Pt := if l[befN p l]? = some p then l else l.take (befN p l) ++ [p] ++ l.drop (befN p l)
theorem bef_le (p : Pt) : ∀ t : List Pt, befN p t ≤ t.length
 | [] => Nat.le_refl _
 | q :: t => by
  have := bef_le p t
  unfold befN
  split <;> simp <;> omega
theorem bef_lt {p : Pt} : ∀ {t : List Pt} {i : Nat} {q : Pt}, i < befN p t → t[i]? = some q → ptLt q p
 | [], i, q, h, _ => by simp [befN] at h
 | r :: t, i, q, h, hq => by
  unfold befN at h
  split at h
  ·cases i with
   | zero => simp at hq; subst hq; assumption
   | succ i => exact bef_lt (t := t) (i := i) (by omega) (by simpa using hq)
  ·omega
theorem bef_at {p : Pt} : ∀ {t : List Pt} {q : Pt}, t[befN p t]? = some q → ¬ ptLt q p
 | [], q, hq => by simp at hq
 | r :: t, q, hq => by
  unfold befN at hq
  split at hq
  ·exact bef_at (t := t) (by simpa using hq)
  ·simp at hq
   subst hq
   assumption
theorem put_cons_lt {q p : Pt} {t : List Pt} (h : ptLt q p) : putF (q :: t) p = q :: putF t p := by
 have e : befN p (q :: t) = befN p t + 1 := by show (if _ then _ else _) = _; rw [if_pos h]
 unfold putF
 rw [e, List.getElem?_cons_succ]
 split <;> simp
theorem put_cons_eq {q : Pt} {t : List Pt} : putF (q :: t) q = q :: t := by
 have e : befN q (q :: t) = 0 := by show (if _ then _ else _) = _; rw [if_neg (ptLt_irrefl q)]
 unfold putF
 rw [e, if_pos (by simp)]
theorem put_cons_gt {q p : Pt} {t : List Pt} (h : ptLt p q) : putF (q :: t) p = p :: q :: t := by
 have hn : ¬ ptLt q p := fun h2 => ptLt_irrefl _ (ptLt_trans h h2)
 have e : befN p (q :: t) = 0 := by show (if _ then _ else _) = _; rw [if_neg hn]
 unfold putF
 rw [e, if_neg (by
  simp only [List.getElem?_cons_zero, Option.some.injEq]
  intro e
  subst e
  exact ptLt_irrefl _ h)]
 simp
theorem put_ok (p : Pt) : ∀ {t : List Pt}, t.Pairwise ptLt → (putF t p).Pairwise ptLt ∧ ∀ q, q ∈ putF t p ↔ q ∈ t ∨ q = p
 | [], _ => by
  have e : putF [] p = [p] := by unfold putF; rw [if_neg (by simp)]; simp
  rw [e]
  exact ⟨List.pairwise_singleton _ _, fun q => by simp⟩
 | r :: t, h => by
  obtain ⟨h1, h2⟩ := List.pairwise_cons.1 h
  rcases ptLt_tri r p with hlt | rfl | hgt
  ·obtain ⟨i1, i2⟩ := put_ok p h2
   rw [put_cons_lt hlt]
   refine ⟨List.pairwise_cons.2 ⟨fun q hq => ?_, i1⟩, fun q => ?_⟩
   ·rcases (i2 q).1 hq with hq | rfl
    ·exact h1 q hq
    ·exact hlt
   ·rw [List.mem_cons, i2, List.mem_cons, or_assoc]
  ·rw [put_cons_eq]
   refine ⟨h, fun q => ⟨.inl, fun h => h.elim id fun e => by subst e; simp⟩⟩
  ·rw [put_cons_gt hgt]
   refine ⟨List.pairwise_cons.2 ⟨fun q hq => ?_, h⟩, fun q => ?_⟩
   ·rcases List.mem_cons.1 hq with rfl | hq
    ·exact hgt
    ·exact ptLt_trans hgt (h1 q hq)
   ·rw [List.mem_cons]
    constructor
    ·rintro (h | h)
     ·exact .inr h
     ·exact .inl h
    ·rintro (h | h)
     ·exact .inr h
     ·exact .inl h
theorem put_len (l : List Pt) (p : Pt) : l.length ≤ (putF l p).length ∧ (putF l p).length ≤ l.length + 1 := by
 have := bef_le p l
 unfold putF
 split
 ·omega
 ·simp
  omega
theorem Gd.put {nd : Pt → Bool} {P : Pt → Prop} {out : List Pt} {p : Pt} (h : Gd nd P out) (hn : nd p = true) : Gd nd (fun q => P q ∨ q = p) (putF out p) := by
 obtain ⟨h1, h2⟩ := put_ok p h.srt
 refine ⟨h1, fun q hq => ((h2 q).1 hq).elim (h.nod q) fun e => by subst e; exact hn, ?_⟩
 rcases h.all with h3 | h3
 ·exact .inl (by have := (put_len out p).1; omega)
 ·exact .inr fun q hq hqn => (h2 q).2 (hq.elim (fun hq => .inl (h3 q hq hqn)) .inr)
def NodesR (l : List Sg) (R : List Pt) : Prop := (R.length ≤ 400 ∧ R = nodesF l) ∨ (400 < R.length ∧ 400 < (nodesF l).length)
theorem Gd.done {l : List Sg} (hv : ∀ s ∈ l, okSg s) {P : Pt → Prop} {out : List Pt} (h : Gd (nodeG (htB l) (vtB l)) P out) (hP : ∀ p, nodeG (htB l) (vtB l) p = true → P p) : NodesR l out := by
 obtain ⟨n1, n2⟩ := nodesF_ok hv
 by_cases hl : 400 < out.length
 ·refine .inr ⟨hl, ?_⟩
  have hnd : out.Nodup := h.srt.imp fun {a b} hab e => by subst e; exact ptLt_irrefl _ hab
  have := nodup_len hnd fun p hp => (n2 p).2 (h.nod p hp)
  omega
 ·refine .inl ⟨by omega, ?_⟩
  have h3 := h.all.resolve_left hl
  exact sorted_ext ptLt_irrefl (fun a b c => ptLt_trans) h.srt n1 fun p => ⟨fun hp => (n2 p).2 (h.nod p hp), fun hp => h3 p (hP p ((n2 p).1 hp)) ((n2 p).1 hp)⟩
end Go.Proofs.YtikojiciilambaaGreat

/- A store at a key that is there, inside a range over the map: the range goes on with the same entries to come. -/
namespace Go.Proofs.YtikojiciilambaaGreat
open Go Go.ChangeMaps Go.MapKept Go.WideShapes Go.Maps
open Go.WideElems (Fit rd rg pl rd_key rd_val rg_of rd_mk)
set_option linter.unusedVariables false
set_option linter.unusedSimpArgs false
theorem left_borns {l l' : List MapEntry} (seen : Array Nat) (h : l'.map MapEntry.born = l.map MapEntry.born) : (l'.filter fun e => !seen.contains e.born).length = (l.filter fun e => !seen.contains e.born).length := by
 have e : ∀ a : List MapEntry, (a.filter fun e => !seen.contains e.born).length = (a.map MapEntry.born).countP fun b => !seen.contains b := fun a => by
  rw [← List.countP_eq_length_filter, List.countP_map]
  rfl
 rw [e, e, h]
theorem ranges_store {H : Type} {P : Program} {k : TypeId} {R : Value → Option (DataW H × List MemPlace)} {w : World} {b r n : Nat} {D : DataW H} {left : Lit → Bool} {cnt : Nat} {t e : TypeId} (h : w.ranges P k R b r n D left cnt) (K : Keyed P k) (ht : P.underlying t = some (.map k e)) (hn : n < maxLen) {key val : Value} {kl : Lit} {yv : DataW H × List MemPlace}
  (hkey : keyOf P k key = some kl) (hthere : ∃ y, ∀ zd, D.atKey kl zd = y) (hv : R val = some yv) :
  ∃ w', (Instr.mapUpdate t (.map (some b)) key val).run P w = .ok () w' ∧ w'.ranges P k R b r n (D.put kl yv.1) left cnt ∧ w.grownBy w' (some b) ∧ w'.heap.size = w.heap.size := by
 have hne := h.ne
 obtain ⟨es, clock, since, seen, c0, hb, F, hs, rfl, hr, hold, rfl, hl1, hl2, hsc, hsk⟩ := h
 obtain ⟨es', clock', hrun, F', hput, _⟩ := Maps.fit_store (R' := R) K ht hb F (Nat.lt_of_le_of_lt hs hn) (fun _ _ _ _ hz => hz) hkey hv
 rcases K.find w hkey es.toList F.keys with ⟨h1, h2⟩ | ⟨j, e0, h1, h2, h3⟩
 ·exfalso
  obtain ⟨y, hy⟩ := hthere
  have hno := (atKey_sorted (es.toList.map (rg P k R)) (Maps.fit_rising K F) kl (K.key hkey)).1 fun p hp hpk => by
   obtain ⟨x, hx, rfl⟩ := List.mem_map.1 hp
   obtain ⟨z, hz⟩ := F.reads x hx
   rw [rg_of hz] at hpk
   exact h2 x hx (K.inj (rd_key hz) (hpk ▸ hkey))
  have e1 := hy (.map [])
  have e2 := hy .nil
  rw [hno] at e1 e2
  rw [← e2] at e1
  cases e1
 ·have hj : es[j]? = some e0 := by simpa using h2
  have hrun2 : (Instr.mapUpdate t (.map (some b)) key val).run P w = .ok () (setBlock w b (.map (es.modify j (fun e' => { e' with key := key, val := val })) clock)) := by
   simp [Instr.mapUpdate, run_underlying ht, MapKept.run_getObj_map hb, K.check w false hkey, h1, hj, h3, K.stays w hkey, MapKept.run_setObj_map _ hb, Result.andThen, setBlock]
  have hw : setBlock w b (.map es' clock') = setBlock w b (.map (es.modify j (fun e' => { e' with key := key, val := val })) clock) := by
   rw [hrun] at hrun2
   simpa using hrun2
  have hm1 := heap_setBlock_same hb (.map es' clock')
  rw [hw, heap_setBlock_same hb] at hm1
  obtain ⟨rfl, rfl⟩ : es' = es.modify j (fun e' => { e' with key := key, val := val }) ∧ clock' = clock := by simpa using hm1.symm
  have hlist : (es.modify j (fun e' => { e' with key := key, val := val })).toList = es.toList.set j { e0 with key := key, val := val } := by
   rw [Array.toList_modify]
   refine List.ext_getElem? fun i => ?_
   rw [List.getElem?_modify, List.getElem?_set]
   by_cases e1 : j = i
   ·subst e1
    have hlt := (List.getElem?_eq_some_iff.1 h2).1
    have hjs : j < es.size := by simpa using hlt
    rw [h2]
    simp [hjs]
   ·simp [e1]
  have hjl : j < es.toList.length := (List.getElem?_eq_some_iff.1 h2).1
  have hborn : ((es.modify j (fun e' => { e' with key := key, val := val })).toList).map MapEntry.born = es.toList.map MapEntry.born := by
   rw [hlist]
   refine List.ext_getElem? fun i => ?_
   rw [List.getElem?_map, List.getElem?_map, List.getElem?_set]
   by_cases e1 : j = i
   ·subst e1
    rw [h2]
    have hjs : j < es.size := by simpa using hjl
    simp [hjs]
   ·simp [e1]
  have hrg0 : (rg P k R e0).1 = kl := by
   obtain ⟨z, hz⟩ := F.reads e0 (List.mem_of_getElem? h2)
   rw [rg_of hz]
   have := rd_key hz
   rw [h3, hkey] at this
   exact (Option.some.inj this).symm
  have hrg1 : (rg P k R { e0 with key := key, val := val }).1 = kl := by rw [rg_of (rd_mk hkey hv)]
  have who : ∀ x ∈ (es.modify j (fun e' => { e' with key := key, val := val })).toList, ∃ y ∈ es.toList, y.born = x.born ∧ (rg P k R y).1 = (rg P k R x).1 := by
   intro x hx
   rw [hlist] at hx
   obtain ⟨i, hi⟩ := List.getElem?_of_mem hx
   rw [List.getElem?_set] at hi
   by_cases e1 : j = i
   ·rw [if_pos e1, if_pos hjl] at hi
    obtain rfl := Option.some.inj hi
    exact ⟨e0, List.mem_of_getElem? h2, rfl, by rw [hrg0, hrg1]⟩
   ·rw [if_neg e1] at hi
    exact ⟨x, List.mem_of_getElem? hi, rfl, rfl⟩
  have who2 : ∀ y ∈ es.toList, ∃ x ∈ (es.modify j (fun e' => { e' with key := key, val := val })).toList, (rg P k R x).1 = (rg P k R y).1 := by
   intro y hy
   rw [hlist]
   obtain ⟨i, hi⟩ := List.getElem?_of_mem hy
   by_cases e1 : j = i
   ·subst e1
    rw [h2] at hi
    obtain rfl := Option.some.inj hi
    exact ⟨_, List.mem_of_getElem? (i := j) (by rw [List.getElem?_set, if_pos rfl, if_pos hjl]), by rw [hrg0, hrg1]⟩
   ·exact ⟨y, List.mem_of_getElem? (i := i) (by rw [List.getElem?_set, if_neg e1]; exact hi), rfl⟩
  refine ⟨_, hrun, ⟨_, _, since, seen, c0, heap_setBlock_same hb _, F', by simpa using hs, by rw [DataW.put_eq, hput], (heap_setBlock_other hb _ hne).trans hr, fun x hx => ?_, ?_, fun x hx => ?_, fun kl' hkl => ?_, hsc, hsk⟩, ⟨rfl, rfl, rfl, by simp [setBlock], fun i _ hi => heap_setBlock_other hb _ (fun e => hi (by rw [e]))⟩, by simp [setBlock]⟩
  ·obtain ⟨y, hy, e1, _⟩ := who x hx
   rw [← e1]
   exact hold y hy
  ·have e1 : ∀ a : Array MapEntry, (leftOf a seen).size = (a.toList.filter fun e => !seen.contains e.born).length := fun a => by
    unfold leftOf
    rw [← Array.toList_filter, Array.length_toList]
   rw [e1, e1]
   exact left_borns seen hborn
  ·obtain ⟨y, hy, e1, e2⟩ := who x hx
   rw [← e2, hl1 y hy, e1]
  ·obtain ⟨y, hy, e1⟩ := hl2 kl' hkl
   obtain ⟨x, hx, e2⟩ := who2 y hy
   exact ⟨x, hx, e2.trans e1⟩
end Go.Proofs.YtikojiciilambaaGreat

/- A map from ints to slices of spans that the call itself has made: what lies in it, look-up, store, and the range over it. -/
namespace Go.Proofs.YtikojiciilambaaGreat
open Go.RowKit Go.Maps Go.WideElems
open Go.ChangeMaps (setBlock heap_setBlock_same heap_setBlock_other)
set_option linter.unusedVariables false
set_option linter.unusedSimpArgs false
theorem lawIS : Keyed Tryz.prog 3 := int_keyed Tryz.underlying3
def okK (k : Int) : Prop := -9223372036854775808 ≤ k ∧ k ≤ 9223372036854775807
theorem keyI {k : Int} (h : okK k) : keyOf Tryz.prog 3 (.int .i64 k) = some (.int .i64 k) := keyOf_int_mk Tryz.underlying3 (WalkArith.wf_i64 (by unfold okK at h; omega))
def slE : Value → DataW Unit
 | .slice none n c => .agg [.lit (.int .i64 n), .lit (.int .i64 c)]
 | .slice (some ⟨g, o, none⟩) n c => .agg [.lit (.int .i64 g), .lit (.int .i64 o), .lit (.int .i64 n), .lit (.int .i64 c)]
 | _ => .nil
def slD : Value → Option (DataW Unit × List MemPlace)
 | .slice none n c => some (slE (.slice none n c), [])
 | .slice (some ⟨g, o, none⟩) n c => some (slE (.slice (some ⟨g, o, none⟩) n c), [])
 | _ => none
theorem slD_inj {u v : Value} {d : DataW Unit} {p q : List MemPlace} (h1 : slD u = some (d, p)) (h2 : slD v = some (d, q)) : u = v := by
 unfold slD at h1 h2
 split at h1 <;> split at h2 <;> simp only [Option.some.injEq, Prod.mk.injEq, reduceCtorEq] at h1 h2 <;> obtain ⟨e1, _⟩ := h1 <;> obtain ⟨e2, _⟩ := h2 <;> rw [← e1] at e2 <;> simp only [slE, DataW.agg.injEq, List.cons.injEq, DataW.lit.injEq, Lit.int.injEq, true_and, and_true, reduceCtorEq, and_false, Int.natCast_inj] at e2
 ·obtain ⟨rfl, rfl⟩ := e2; rfl
 ·obtain ⟨rfl, rfl, rfl, rfl⟩ := e2; rfl
theorem slD_own {w : World} {B : Nat} {e : TypeId} {s : Nat} {v : Value} {n : Nat} {xs : List Value} (h : w.ownsRow B e s v n xs) : slD v = some (slE v, []) := by
 rcases h.2 with ⟨rfl, _⟩ | ⟨g, cap, cur, rfl, _⟩ <;> rfl
theorem slD_inv {v : Value} {y : DataW Unit × List MemPlace} (h : slD v = some y) : y = (slE v, []) := by
 unfold slD at h
 split at h <;> simp only [Option.some.injEq, reduceCtorEq] at h <;> exact h.symm
abbrev ownsMS (b n : Nat) (D : DataW Unit) (w : World) : Prop := w.ownsMap Tryz.prog 3 slD b n D
theorem zeroM (w : World) : (zeroValue 136).run Tryz.prog w = .ok (.slice none 0 0) w := by kernel_rfl
def gvI (K : List Int) (vals : Int → Value) (k : Int) : Value := if k ∈ K then vals k else .slice none 0 0
def addI (K : List Int) (k : Int) : List Int := if k ∈ K then K else K ++ [k]
theorem mem_addI {K : List Int} {k k' : Int} : k' ∈ addI K k ↔ k' = k ∨ k' ∈ K := by
 unfold addI
 split
 ·rename_i hm
  constructor
  ·exact .inr
  ·rintro (rfl | h1)
   ·exact hm
   ·exact h1
 ·rw [List.mem_append, List.mem_singleton]
  exact Or.comm
structure MD (K : List Int) (vals : Int → Value) (D : DataW Unit) : Prop where
 size : Maps.size D = K.length
 at' : ∀ k ∈ K, ∀ z, D.atKey (.int .i64 k) z = slE (vals k)
 has : ∀ l, Maps.has D l = true ↔ ∃ k ∈ K, l = .int .i64 k
theorem MD.has_iff {K : List Int} {vals : Int → Value} {D : DataW Unit} (h : MD K vals D) {k : Int} : Maps.has D (.int .i64 k) = true ↔ k ∈ K := by
 rw [h.has]
 constructor
 ·rintro ⟨k', hk', e⟩
  injection e with _ e
  rw [e]; exact hk'
 ·intro hm; exact ⟨k, hm, rfl⟩
theorem MD.put {K : List Int} {vals : Int → Value} {D : DataW Unit} (h : MD K vals D) (hm : IsMap D) (ht : Tidy D) {k : Int} (hk : okK k) (v : Value) : MD (addI K k) (fun k' => if k' = k then v else vals k') (D.put (.int .i64 k) (slE v)) := by
 refine ⟨?_, fun k' hk' z => ?_, fun l => ?_⟩
 ·rw [size_put ht]
  unfold addI
  by_cases hm : k ∈ K
  ·rw [if_pos (h.has_iff.2 hm), if_pos hm, h.size]
  ·rw [if_neg (fun e => hm (h.has_iff.1 e)), if_neg hm, h.size]; simp
 ·by_cases e : k' = k
  ·subst e
   simp only [if_true]
   rw [atKey_put_same hm (lawIS.key (keyI hk))]
  ·simp only [if_neg e]
   rw [atKey_put_other (fun e2 => e (by injection e2))]
   rcases mem_addI.1 hk' with h1 | h1
   ·exact absurd h1 e
   ·exact h.at' k' h1 z
 ·by_cases e : l = .int .i64 k
  ·subst e
   rw [has_put_same hm (lawIS.key (keyI hk))]
   exact ⟨fun _ => ⟨k, mem_addI.2 (.inl rfl), rfl⟩, fun _ => rfl⟩
  ·rw [has_put_other e, h.has]
   constructor
   ·rintro ⟨k', h1, h2⟩; exact ⟨k', mem_addI.2 (.inr h1), h2⟩
   ·rintro ⟨k', h1, h2⟩
    rcases mem_addI.1 h1 with h3 | h3
    ·subst h3; exact absurd h2 e
    ·exact ⟨k', h3, h2⟩
structure MV (B : Nat) (K : List Int) (p : Int → List Sp) (vals : Int → Value) (w : World) : Prop where
 vs : ∀ k ∈ K, w.ownsRow B 141 2 (vals k) (p k).length ((p k).flatMap encS)
 apart : ∀ a ∈ K, ∀ b ∈ K, a ≠ b → (vals a).ownBlock = none ∨ (vals a).ownBlock ≠ (vals b).ownBlock
 rng : ∀ k ∈ K, okK k
 nd : K.Nodup
structure Ms (B bM : Nat) (K : List Int) (p : Int → List Sp) (vals : Int → Value) (w : World) : Prop where
 map : ∃ D, ownsMS bM K.length D w ∧ MD K vals D
 mv : MV B K p vals w
structure Mr (B bM r : Nat) (K : List Int) (p : Int → List Sp) (vals : Int → Value) (left : Lit → Bool) (cnt : Nat) (w : World) : Prop where
 map : ∃ D, w.ranges Tryz.prog 3 slD bM r K.length D left cnt ∧ MD K vals D
 mv : MV B K p vals w
theorem Mr.ms {B bM r : Nat} {K : List Int} {p : Int → List Sp} {vals : Int → Value} {left : Lit → Bool} {cnt : Nat} {w : World} (h : Mr B bM r K p vals left cnt w) : Ms B bM K p vals w := by
 obtain ⟨D, d1, d2⟩ := h.map
 exact ⟨⟨D, d1.owns, d2⟩, h.mv⟩
theorem Ms.made (w : World) (B : Nat) (p : Int → List Sp) (vals : Int → Value) : Ms B w.heap.size [] p vals (w.alloc (.map #[] 0)) :=
 ⟨⟨.map [], World.ownsMap_made w _ _ _, rfl, fun k h => (List.not_mem_nil h).elim, fun l => by rw [has_eq]; simp⟩, fun k h => (List.not_mem_nil h).elim, fun a h => (List.not_mem_nil h).elim, fun k h => (List.not_mem_nil h).elim, by simp⟩
theorem MV.grown {B : Nat} {K : List Int} {p : Int → List Sp} {vals : Int → Value} {w w' : World} (h : MV B K p vals w) {row : Option Nat} (hg : w.grownBy w' row) (h2 : ∀ k ∈ K, (vals k).ownBlock = none ∨ (vals k).ownBlock ≠ row) : MV B K p vals w' :=
 ⟨fun k hk => (h.vs k hk).kept hg (h2 k hk), h.apart, h.rng, h.nd⟩
theorem Ms.grown {B bM : Nat} {K : List Int} {p : Int → List Sp} {vals : Int → Value} {w w' : World} (h : Ms B bM K p vals w) {row : Option Nat} (hg : w.grownBy w' row) (h1 : some bM ≠ row) (h2 : ∀ k ∈ K, (vals k).ownBlock = none ∨ (vals k).ownBlock ≠ row) : Ms B bM K p vals w' := by
 obtain ⟨D, d1, d2⟩ := h.map
 exact ⟨⟨D, d1.kept hg h1, d2⟩, h.mv.grown hg h2⟩
theorem Mr.grown {B bM r : Nat} {K : List Int} {p : Int → List Sp} {vals : Int → Value} {left : Lit → Bool} {cnt : Nat} {w w' : World} (h : Mr B bM r K p vals left cnt w) {row : Option Nat} (hg : w.grownBy w' row) (h1 : some bM ≠ row) (h3 : some r ≠ row) (h2 : ∀ k ∈ K, (vals k).ownBlock = none ∨ (vals k).ownBlock ≠ row) : Mr B bM r K p vals left cnt w' := by
 obtain ⟨D, d1, d2⟩ := h.map
 exact ⟨⟨D, d1.kept hg h1 h3, d2⟩, h.mv.grown hg h2⟩
theorem own_none_or {v : Value} : v.ownBlock = none ∨ v.ownBlock ≠ none := by
 by_cases h : v.ownBlock = none
 ·exact .inl h
 ·exact .inr h
theorem below_grow {w w' : World} (hb : Below w.heap.size w w') : w.grownBy w' none := ⟨hb.os, hb.tape, hb.output, hb.size, fun k hk _ => hb.block k hk⟩
theorem Ms.below {B bM : Nat} {K : List Int} {p : Int → List Sp} {vals : Int → Value} {w w' : World} (h : Ms B bM K p vals w) (hb : Below w.heap.size w w') : Ms B bM K p vals w' := h.grown (below_grow hb) (by simp) fun k hk => own_none_or
theorem Mr.below {B bM r : Nat} {K : List Int} {p : Int → List Sp} {vals : Int → Value} {left : Lit → Bool} {cnt : Nat} {w w' : World} (h : Mr B bM r K p vals left cnt w) (hb : Below w.heap.size w w') : Mr B bM r K p vals left cnt w' := h.grown (below_grow hb) (by simp) (by simp) fun k hk => own_none_or
theorem Ms.bM_lt {B bM : Nat} {K : List Int} {p : Int → List Sp} {vals : Int → Value} {w : World} (h : Ms B bM K p vals w) : bM < w.heap.size := by
 obtain ⟨D, d1, _⟩ := h.map
 exact d1.lt
theorem Ms.not_map {B bM : Nat} {K : List Int} {p : Int → List Sp} {vals : Int → Value} {w : World} (h : Ms B bM K p vals w) {b n : Nat} {e : TypeId} {s : Nat} {v : Value} {xs : List Value} (ho : w.ownsRow b e s v n xs) : some bM ≠ v.ownBlock := by
 obtain ⟨D, ⟨es, clock, hb, _⟩, _⟩ := h.map
 rcases ho.2 with ⟨rfl, _⟩ | ⟨g, cap, cur, rfl, _, hg, _⟩
 ·simp [Value.ownBlock]
 ·intro e1
  have : g = bM := by simpa [Value.ownBlock] using e1.symm
  subst this
  rw [hg] at hb
  cases hb
def MsL (bM : Nat) (K : List Int) (vals : Int → Value) (w : World) : Prop := ∃ D, ownsMS bM K.length D w ∧ MD K vals D
theorem MsL.look {bM : Nat} {K : List Int} {vals : Int → Value} {w : World} (h : MsL bM K vals w) (hs : ∀ k ∈ K, slD (vals k) = some (slE (vals k), [])) {k : Int} (hk : okK k) : (Instr.lookup 217 (.map (some bM)) (.int .i64 k) false).run Tryz.prog w = .ok (gvI K vals k) w := by
 obtain ⟨D, d1, d2⟩ := h
 obtain ⟨v, ps, hrun, hR⟩ := d1.lookup lawIS Tryz.underlying217 (zeroM w) (show slD (.slice none 0 0) = some (slE (.slice none 0 0), []) from rfl) (keyI hk)
 suffices e : v = gvI K vals k by rw [← e]; exact hrun
 by_cases hm : k ∈ K
 ·rw [d2.at' k hm] at hR
  unfold gvI
  rw [if_pos hm]
  exact slD_inj hR (hs k hm)
 ·have hno : Maps.has D (.int .i64 k) = false := by
   rw [← Bool.not_eq_true, d2.has_iff]
   exact hm
  rw [atKey_of_not_has hno] at hR
  unfold gvI
  rw [if_neg hm]
  exact slD_inj hR (q := []) rfl
theorem MV.sl {B : Nat} {K : List Int} {p : Int → List Sp} {vals : Int → Value} {w : World} (h : MV B K p vals w) : ∀ k ∈ K, slD (vals k) = some (slE (vals k), []) := fun k hk => slD_own (h.vs k hk)
theorem Ms.look {B bM : Nat} {K : List Int} {p : Int → List Sp} {vals : Int → Value} {w : World} (h : Ms B bM K p vals w) {k : Int} (hk : okK k) : (Instr.lookup 217 (.map (some bM)) (.int .i64 k) false).run Tryz.prog w = .ok (gvI K vals k) w := MsL.look h.map h.mv.sl hk
theorem MsL.grown {bM : Nat} {K : List Int} {vals : Int → Value} {w w' : World} (h : MsL bM K vals w) {row : Option Nat} (hg : w.grownBy w' row) (h1 : some bM ≠ row) : MsL bM K vals w' := by
 obtain ⟨D, d1, d2⟩ := h
 exact ⟨D, d1.kept hg h1, d2⟩
theorem MV.store {B : Nat} {K : List Int} {p : Int → List Sp} {vals : Int → Value} {w w2 w3 : World} (h : MV B K p vals w) {k : Int} (hk : okK k) {row bM : Option Nat} (hg : w.grownBy w2 row) (hg3 : w2.grownBy w3 bM) (hnb : ∀ k' ∈ K, (vals k').ownBlock = none ∨ (vals k').ownBlock ≠ bM)
  (hrow : ∀ k' ∈ K, k' ≠ k → (vals k').ownBlock = none ∨ (vals k').ownBlock ≠ row) {q : List Sp} {v : Value} (hv : w2.ownsRow B 141 2 v q.length (q.flatMap encS)) (hvb : v.ownBlock = none ∨ v.ownBlock ≠ bM)
  (hloc : v.ownBlock = none ∨ v.ownBlock = (gvI K vals k).ownBlock ∨ ∀ g, v.ownBlock = some g → w.heap.size ≤ g) : MV B (addI K k) (fun k' => if k' = k then q else p k') (fun k' => if k' = k then v else vals k') w3 := by
 have hvo : v.ownBlock = none ∨ ∀ k' ∈ K, k' ≠ k → (vals k').ownBlock = none ∨ (vals k').ownBlock ≠ v.ownBlock := by
  rcases hloc with hl | hl | hl
  ·exact .inl hl
  ·by_cases hm : k ∈ K
   ·right
    intro k' hk' hne
    rw [hl]
    unfold gvI
    rw [if_pos hm]
    exact h.apart k' hk' k hm hne
   ·left
    rw [hl]
    unfold gvI
    rw [if_neg hm]
    rfl
  ·right
   intro k' hk' hne
   rcases hb : (vals k').ownBlock with _ | g'
   ·exact .inl rfl
   ·right
    intro e
    have h1 := (h.vs k' hk').lt g' hb
    have h2 := hl g' e.symm
    omega
 refine ⟨fun k' hk' => ?_, fun a ha b hb hne => ?_, fun k' hk' => ?_, ?_⟩
 ·by_cases e : k' = k
  ·subst e
   simp only [if_true]
   exact hv.kept hg3 hvb
  ·rcases mem_addI.1 hk' with h1 | h1
   ·exact absurd h1 e
   ·simp only [if_neg e]
    exact ((h.vs k' h1).kept hg (hrow k' h1 e)).kept hg3 (hnb k' h1)
 ·by_cases ea : a = k
  ·subst ea
   rw [if_pos rfl, if_neg (Ne.symm hne)]
   rcases mem_addI.1 hb with h1 | h1
   ·exact absurd h1.symm hne
   ·rcases hvo with h2 | h2
    ·exact .inl h2
    ·rcases own_none_or (v := v) with h4 | h4
     ·exact .inl h4
     ·rcases h2 b h1 (Ne.symm hne) with h3 | h3
      ·exact .inr (fun e => h4 (e.trans h3))
      ·exact .inr (fun e => h3 e.symm)
  ·rw [if_neg ea]
   rcases mem_addI.1 ha with h1 | h1
   ·exact absurd h1 ea
   ·by_cases eb : b = k
    ·subst eb
     rw [if_pos rfl]
     rcases hvo with h2 | h2
     ·rcases own_none_or (v := vals a) with h4 | h4
      ·exact .inl h4
      ·exact .inr (fun e => h4 (e.trans h2))
     ·exact h2 a h1 hne
    ·rw [if_neg eb]
     rcases mem_addI.1 hb with h2 | h2
     ·exact absurd h2 eb
     ·exact h.apart a h1 b h2 hne
 ·rcases mem_addI.1 hk' with rfl | h1
  ·exact hk
  ·exact h.rng k' h1
 ·unfold addI
  split
  ·exact h.nd
  ·rename_i hm
   rw [List.nodup_append]
   refine ⟨h.nd, by simp, fun a ha b hb e => ?_⟩
   rw [List.mem_singleton] at hb
   subst hb; subst e
   exact hm ha
theorem Ms.notmap {B bM : Nat} {K : List Int} {p : Int → List Sp} {vals : Int → Value} {w : World} (h : Ms B bM K p vals w) : ∀ k ∈ K, (vals k).ownBlock = none ∨ (vals k).ownBlock ≠ some bM := fun k hk => .inr fun e => h.not_map (h.mv.vs k hk) e.symm
theorem own_not_map {w : World} {bM n : Nat} {D : DataW Unit} (hm : ownsMS bM n D w) {b m : Nat} {e : TypeId} {s : Nat} {v : Value} {xs : List Value} (ho : w.ownsRow b e s v m xs) : v.ownBlock = none ∨ v.ownBlock ≠ some bM := by
 obtain ⟨es, clock, hb, _⟩ := hm
 rcases ho.2 with ⟨rfl, _⟩ | ⟨g, cap, cur, rfl, _, hg, _⟩
 ·exact .inl rfl
 ·right
  intro e1
  have : g = bM := by simpa [Value.ownBlock] using e1
  subst this
  rw [hg] at hb
  cases hb
theorem Ms.store {B bM : Nat} {K : List Int} {p : Int → List Sp} {vals : Int → Value} {w w2 : World} (h : Ms B bM K p vals w) {k : Int} (hk : okK k) (hn : K.length < maxLen) {row : Option Nat} (hg : w.grownBy w2 row) (hrb : some bM ≠ row)
  (hrow : ∀ k' ∈ K, k' ≠ k → (vals k').ownBlock = none ∨ (vals k').ownBlock ≠ row) {q : List Sp} {v : Value} (hv : w2.ownsRow B 141 2 v q.length (q.flatMap encS))
  (hloc : v.ownBlock = none ∨ v.ownBlock = (gvI K vals k).ownBlock ∨ ∀ g, v.ownBlock = some g → w.heap.size ≤ g) :
  ∃ w3, (Instr.mapUpdate 217 (.map (some bM)) (.int .i64 k) v).run Tryz.prog w2 = .ok () w3 ∧ w2.grownBy w3 (some bM) ∧ Ms B bM (addI K k) (fun k' => if k' = k then q else p k') (fun k' => if k' = k then v else vals k') w3 := by
 obtain ⟨D, d1, d2⟩ := h.map
 have d3 := d1.kept hg hrb
 obtain ⟨w3, hrun, o3, g3⟩ := d3.update lawIS Tryz.underlying217 hn (keyI hk) (slD_own hv)
 refine ⟨w3, hrun, g3, ⟨D.put (.int .i64 k) (slE v), ?_, d2.put d1.isMap (d1.tidy lawIS) hk v⟩, h.mv.store hk hg g3 h.notmap hrow hv (own_not_map d3 hv) hloc⟩
 have hsz := (d2.put d1.isMap (d1.tidy lawIS) hk v).size
 obtain ⟨es, clock, hb, F, hs, hD⟩ := o3
 refine ⟨es, clock, hb, F, ?_, hD⟩
 rw [← hsz, hD, Maps.size_eq, length_sorted]
 simp
theorem Mr.store {B bM r : Nat} {K : List Int} {p : Int → List Sp} {vals : Int → Value} {left : Lit → Bool} {cnt : Nat} {w w2 : World} (h : Mr B bM r K p vals left cnt w) {k : Int} (hm : k ∈ K) (hn : K.length < maxLen) (hb : Below w.heap.size w w2) {q : List Sp} {v : Value} (hv : w2.ownsRow w.heap.size 141 2 v q.length (q.flatMap encS)) (hB : B ≤ w.heap.size) :
  ∃ w3, (Instr.mapUpdate 217 (.map (some bM)) (.int .i64 k) v).run Tryz.prog w2 = .ok () w3 ∧ w2.grownBy w3 (some bM) ∧ w3.heap.size = w2.heap.size ∧ Mr B bM r K (fun k' => if k' = k then q else p k') (fun k' => if k' = k then v else vals k') left cnt w3 := by
 have hk := h.mv.rng k hm
 have hg := below_grow hb
 obtain ⟨D, d1, d2⟩ := h.map
 have d3 := d1.kept hg (by simp) (by simp)
 obtain ⟨w3, hrun, o3, g3, s3⟩ := ranges_store d3 lawIS Tryz.underlying217 hn (keyI hk) ⟨_, d2.at' k hm⟩ (slD_own hv)
 have e : addI K k = K := by unfold addI; rw [if_pos hm]
 have hp := d2.put d1.owns.isMap (d1.owns.tidy lawIS) hk v
 have hmv := h.mv.store (v := v) hk hg g3 h.ms.notmap (fun k' hk' _ => own_none_or) (own_base hv hB) (own_not_map d3.owns hv) (.inr (.inr fun g hgv => (hv.lt g hgv).1))
 rw [e] at hp hmv
 exact ⟨w3, hrun, g3, s3, ⟨_, o3, hp⟩, hmv⟩
theorem key_left {K : List Int} {vals : Int → Value} {D : DataW Unit} {w : World} {bM r n cnt : Nat} {left : Lit → Bool} (h : w.ranges Tryz.prog 3 slD bM r n D left cnt) (hd : MD K vals D) {x : Int} {kl : Lit} {y : DataW Unit × List MemPlace} (hk : keyOf Tryz.prog 3 (.int .i64 x) = some kl) (hat : ∀ zd, D.atKey kl zd = y.1) : kl = .int .i64 x ∧ x ∈ K := by
 obtain ⟨x', e1, rfl, hw⟩ := Maps.keyOf_int_inv Tryz.underlying3 hk
 injection e1 with _ e1
 subst e1
 refine ⟨rfl, ?_⟩
 rw [← hd.has_iff]
 cases hh : Maps.has D (.int .i64 x)
 ·have e1 := hat (.map [])
  have e2 := hat .nil
  rw [atKey_of_not_has hh] at e1 e2
  rw [← e2] at e1
  cases e1
 ·rfl
theorem wpList_next_ms {w : World} {ops : Array Oper} {rest : List Oper} {o : Oper} {a : Act} {Q : Exit → Act → World → Prop} (hg : o.guard = none) (it : Operand) (hop : o.op = Op.next it false) {B bM r : Nat} {K : List Int} {p : Int → List Sp} {vals : Int → Value} {left : Lit → Bool} {cnt : Nat}
  (hit : a.eval it = .pointer (some ⟨r, 0, none⟩)) (h : Mr B bM r K p vals left cnt w)
  (hDone : cnt = 0 → (∀ kl, left kl = false) → wpList Tryz.prog ops Q rest (a.put o.dst (.tuple #[.bool false])) w)
  (hMore : ∀ (x : Int) (w' : World) (cnt' : Nat), x ∈ K → left (.int .i64 x) = true → Mr B bM r K p vals (fun z => left z && !z.sameKey (.int .i64 x)) cnt' w' → cnt' < cnt → w.grownBy w' (some r) → w'.heap.size = w.heap.size → (Instr.entry (.pointer (some ⟨r, 0, none⟩))).run Tryz.prog w' = .ok (.tuple #[.int .i64 x, vals x]) w' →
   wpList Tryz.prog ops Q rest (a.put o.dst (.tuple #[.bool true, .int .i64 x, vals x])) w') : wpList Tryz.prog ops Q (o :: rest) a w := by
 obtain ⟨D, d1, d2⟩ := h.map
 refine wpList_next_ranges w hg it hop 3 lawIS slD (Value.int .i64) id (fun key kl hkey => by obtain ⟨x, rfl, _⟩ := Maps.keyOf_int_inv Tryz.underlying3 hkey; exact ⟨x, rfl⟩) (fun v y hv => ⟨v, rfl⟩) bM r K.length D left cnt hit d1 hDone ?_
 intro x c kl y w' cnt' hkey hlk hR hat hrg hlt hgr hsz hen
 obtain ⟨rfl, hx⟩ := key_left d1 d2 hkey hat
 have hy := slD_inv hR
 have hc : c = vals x := by
  refine slD_inj (q := []) (hR.trans (by rw [hy])) (p := []) ?_
  rw [h.mv.sl x hx, ← d2.at' x hx .nil, hat, hy]
 subst hc
 refine hMore x w' cnt' hx hlk ⟨⟨D, hrg, d2⟩, h.mv.grown hgr fun k hk => ?_⟩ hlt hgr hsz hen
 rcases hb : (vals k).ownBlock with _ | g
 ·exact .inl rfl
 ·right
  intro e
  have e2 : g = r := by simpa using e
  subst e2
  obtain ⟨es, clock, since, seen, c0, _, _, _, _, hr, _⟩ := d1
  rcases (h.mv.vs k hk).2 with ⟨e3, _⟩ | ⟨g', cap, cur, e3, _, hh, _⟩
  ·rw [e3] at hb; simp [Value.ownBlock] at hb
  ·rw [e3] at hb
   have : g' = g := by simpa [Value.ownBlock] using hb
   subst this
   rw [hh] at hr
   cases hr
theorem wpList_range_ms {w : World} {ops : Array Oper} {rest : List Oper} {o : Oper} {a : Act} {Q : Exit → Act → World → Prop} (hg : o.guard = none) (m : Operand) (hop : o.op = Op.range 217 m) {B bM : Nat} {K : List Int} {p : Int → List Sp} {vals : Int → Value}
  (hm : a.eval m = .map (some bM)) (h : Ms B bM K p vals w)
  (hK : ∀ w' left, Mr B bM w.heap.size K p vals left K.length w' → (∀ x ∈ K, left (.int .i64 x) = true) → w.grownBy w' none → w'.heap.size = w.heap.size + 1 → wpList Tryz.prog ops Q rest (a.put o.dst (.pointer (some ⟨w.heap.size, 0, none⟩))) w') : wpList Tryz.prog ops Q (o :: rest) a w := by
 obtain ⟨D, d1, d2⟩ := h.map
 refine wpList_range_own w hg m _ hop 3 _ lawIS Tryz.underlying217 slD bM K.length D hm d1 fun w' hr hgr hs => ?_
 refine hK w' _ ⟨⟨D, by rw [← d2.size]; rw [d2.size]; exact (d2.size ▸ hr), d2⟩, h.mv.grown hgr fun k hk => own_none_or⟩ (fun x hx => d2.has_iff.2 hx) hgr hs
end Go.Proofs.YtikojiciilambaaGreat

/- A region that draws its order: reads that stay as they are under a condition S, and a tail in one order. The operation L, which waits for all reads (the store at the end), may break S. -/
namespace Go.Proofs.YtikojiciilambaaGreat
open Go.RowKit
set_option linter.unusedVariables false
set_option linter.unusedSimpArgs false
section
variable {P : Program} {ops : Array Oper} {Q : Exit → Act → World → Prop} {md : Region.Mode} {S : World → Prop}
def wpAnyE (P : Program) (md : Region.Mode) (ops : Array Oper) (Q : Exit → Act → World → Prop) (S : World → Prop) (L : Nat) : Nat → Array Bool → Act → World → Prop
 | 0, listed, a, w => Region.ready md ops listed = [] ∧ Q .normal a w
 | fuel + 1, listed, a, w =>
  (Region.ready md ops listed = [] → Q .normal a w) ∧
  ∀ i ∈ Region.ready md ops listed, wpOp P ops Q i (fun a' w' => (i ≠ L → S w') ∧ wpAnyE P md ops Q S L fuel (listed.setIfInBounds i true) a' w') a w
variable {L : Nat}
theorem wpAny_of_E : ∀ (fuel : Nat) (listed : Array Bool) (a : Act) (w : World), wpAnyE P md ops Q S L fuel listed a w → wpAny P md ops Q fuel listed a w
 | 0, _, _, _, h => h
 | fuel + 1, _, _, _, h => ⟨h.1, fun i hi => wpOp_mono (fun a' w' h' => wpAny_of_E fuel _ a' w' h'.2) (h.2 i hi)⟩
theorem wpAnyE_first {i : Nat} {oi : Oper} {v : Value} (hi : ops[i]? = some oi) (hsel : ∀ (j : Nat) (o : Oper) cs b, ops[j]? = some o → o.op ≠ .select cs b)
  (hQ : ∀ c a w, Q (.panic c) (a.put oi.dst v) w → Q (.panic c) a w) (hL : ∀ o, ops[L]? = some o → ∃ e ∈ o.after, Region.binds md e = true ∧ e.on = i) :
  ∀ (fuel : Nat) (listed : Array Bool) (a : Act) (w : World),
   (∀ j oj, ops[j]? = some oj → j ≠ i → listed.getD j true = false → (∀ e ∈ oj.after, Region.binds md e = true → e.on ≠ i) → oi.apart ops oj = true) →
   i ∈ Region.ready md ops listed → YieldsIf P ops S oi v a → S w →
   wpAnyE P md ops Q S L fuel (listed.setIfInBounds i true) (a.put oi.dst v) w → wpAnyE P md ops Q S L (fuel + 1) listed a w := by
 intro fuel
 induction fuel with
 | zero =>
  intro listed a w _ hr hy hS H
  refine ⟨fun h => (by rw [h] at hr; cases hr), fun j hj => ?_⟩
  by_cases hji : j = i
  ·subst hji; exact hy.wpOp hi hS ⟨fun _ => hS, H⟩
  ·have := ready_mono hj hji
   rw [H.1] at this
   cases this
 | succ fuel ih =>
  intro listed a w hfree hr hy hS H
  refine ⟨fun h => (by rw [h] at hr; cases hr), fun j hj => ?_⟩
  by_cases hji : j = i
  ·subst hji; exact hy.wpOp hi hS ⟨fun _ => hS, H⟩
  ·have h1 := H.2 j (ready_mono hj hji)
   obtain ⟨hjun, oj, hoj, hall⟩ := mem_ready.1 hj
   have hnot : ∀ e ∈ oj.after, Region.binds md e = true → e.on ≠ i := fun e he hb heq => by
    have g1 := hall e he hb
    have g0 := (mem_ready.1 hr).1
    rw [heq] at g1
    rcases Nat.lt_or_ge i listed.size with h' | h'
    ·simp [h'] at g0 g1; rw [g0] at g1; cases g1
    ·simp [Array.getElem?_eq_none h'] at g1
   have hjL : j ≠ L := by
    rintro rfl
    obtain ⟨e, he, hb, hon⟩ := hL oj hoj
    exact hnot e he hb hon
   have h2 := wpOp_putIf hoj (hfree j oj hoj hji hjun hnot) (fun cs b => hsel i oi cs b hi) (fun cs b => hsel j oj cs b hoj) hQ hy h1
   have hfree' : ∀ k ok, ops[k]? = some ok → k ≠ i → (listed.setIfInBounds j true).getD k true = false →
     (∀ e ∈ ok.after, Region.binds md e = true → e.on ≠ i) → oi.apart ops ok = true := fun k ok hk hki hun hno => by
    refine hfree k ok hk hki ?_ hno
    by_cases hjk : j = k
    ·subst hjk; exact hjun
    ·rw [getD_set_ne true hjk] at hun; exact hun
   refine wpOp_mono (fun a' w' h3 => ⟨fun _ => h3.2.1 hjL, ih (listed.setIfInBounds j true) a' w' hfree' (ready_mono hr (Ne.symm hji)) h3.1 (h3.2.1 hjL) ?_⟩) h2
   rw [Array.setIfInBounds_comm _ _ hji]
   exact h3.2.2
def pre (m : Nat) : Nat → Array Bool
 | 0 => Array.replicate m false
 | k + 1 => (pre m k).setIfInBounds k true
def waitsFor (md : Region.Mode) (ops : Array Oper) (L i : Nat) : Bool := match ops[L]? with | some o => o.after.any (fun e => Region.binds md e && e.on == i) | none => true
def heldB (md : Region.Mode) (ops : Array Oper) (n : Nat) : Bool :=
 Region.noSelect ops && decide (n < ops.size) && (List.range n).all (fun i => Region.free md ops (pre ops.size i) i && (Region.ready md ops (pre ops.size i)).contains i && waitsFor md ops (ops.size - 1) i) &&
  (List.range (ops.size - n)).all (fun j => Region.ready md ops (pre ops.size (n + j)) == [n + j]) && (Region.ready md ops (pre ops.size ops.size)).isEmpty
def wpReads (P : Program) (ops : Array Oper) (S : World → Prop) (K : Act → Prop) : List Oper → Act → Prop
 | [], a => K a
 | o :: r, a => ∃ v, YieldsIf P ops S o v a ∧ wpReads P ops S K r (a.put o.dst v)
def wpTail (P : Program) (ops : Array Oper) (S : World → Prop) (Q : Exit → Act → World → Prop) : List Oper → Act → World → Prop
 | [], a, w => Q .normal a w
 | o :: r, a, w => ∀ K : Act → World → Prop, (∀ a' w', (r ≠ [] → S w') → wpTail P ops S Q r a' w' → K a' w') → if Region.wanted o (yielded ops a.tmps) = true then o.wp P a w K Q else K (a.put o.dst undef) w
theorem wpTail_E {n : Nat} {l : List Oper} (hT : ∀ j, j < l.length - n → Region.ready md l.toArray (pre l.length (n + j)) = [n + j]) (hE : Region.ready md l.toArray (pre l.length l.length) = []) :
  ∀ (r : List Oper) (k : Nat) (a : Act) (w : World), n ≤ k → k + r.length = l.length → l.drop k = r → wpTail P l.toArray S Q r a w → wpAnyE P md l.toArray Q S (l.length - 1) r.length (pre l.length k) a w
 | [], k, a, w, hk, hl, hd, h => by
  obtain rfl : k = l.length := by simpa using hl
  exact ⟨hE, h⟩
 | o :: r, k, a, w, hk, hl, hd, h => by
  have hkl : k < l.length := by simp at hl; omega
  have hr := hT (k - n) (by omega)
  rw [show n + (k - n) = k by omega] at hr
  have ho : l.toArray[k]? = some o := by
   have : (l.drop k)[0]? = some o := by rw [hd]; rfl
   simpa using this
  have hd' : l.drop (k + 1) = r := by rw [← List.drop_drop, hd]; rfl
  refine ⟨fun h0 => (by rw [hr] at h0; cases h0), fun i hi => ?_⟩
  rw [hr] at hi
  obtain rfl : i = k := by simpa using hi
  refine wpOp_step ho fun K' hK => h K' fun a' w' hS hT' => hK a' w' ⟨fun hne => hS ?_, ?_⟩
  ·rintro rfl
   simp at hl
   omega
  ·exact wpTail_E hT hE r (i + 1) a' w' (by omega) (by simp at hl; omega) hd' hT'
theorem wpReads_E {n : Nat} {l : List Oper} (hsel : ∀ (j : Nat) (o : Oper) cs b, l.toArray[j]? = some o → o.op ≠ .select cs b) (hQ : ∀ c a a' w, Q (.panic c) a w → Q (.panic c) a' w)
  (hF : ∀ i, i < n → Region.free md l.toArray (pre l.length i) i = true ∧ i ∈ Region.ready md l.toArray (pre l.length i) ∧ waitsFor md l.toArray (l.length - 1) i = true) (hn : n ≤ l.length)
  {w : World} (hS : S w) (K : Act → Prop) (hK : ∀ a, K a → wpAnyE P md l.toArray Q S (l.length - 1) (l.length - n) (pre l.length n) a w) :
  ∀ (r : List Oper) (i : Nat) (a : Act), i + r.length = n → (l.take n).drop i = r → wpReads P l.toArray S K r a → wpAnyE P md l.toArray Q S (l.length - 1) (l.length - i) (pre l.length i) a w
 | [], i, a, hi, hd, h => by
  obtain rfl : i = n := by simpa using hi
  exact hK a h
 | o :: r, i, a, hi, hd, h => by
  have hin : i < n := by simp at hi; omega
  obtain ⟨f1, f2, f3⟩ := hF i hin
  obtain ⟨v, hy, h⟩ := h
  have ho : l.toArray[i]? = some o := by
   have : ((l.take n).drop i)[0]? = some o := by rw [hd]; rfl
   rw [List.getElem?_drop, List.getElem?_take] at this
   simpa [hin] using this
  have hd' : (l.take n).drop (i + 1) = r := by rw [← List.drop_drop, hd]; rfl
  have ih := wpReads_E hsel hQ hF hn hS K hK r (i + 1) (a.put o.dst v) (by simp at hi; omega) hd' h
  have e : l.length - i = (l.length - (i + 1)) + 1 := by omega
  rw [e]
  refine wpAnyE_first ho hsel (fun c a w h => hQ c _ _ w h) ?_ _ _ _ _ (Region.free_spec ho f1) f2 hy hS ih
  intro oL hoL
  unfold waitsFor at f3
  rw [hoL] at f3
  obtain ⟨e, he, h2⟩ := Array.any_eq_true'.1 f3
  simp only [Bool.and_eq_true, beq_iff_eq] at h2
  exact ⟨e, he, h2.1, h2.2⟩
theorem wp_region_reads {id : Nat} {a : Act} {w : World} {l : List Oper} (n : Nat) (S : World → Prop) (hm : P.follows .mixedOrders = true) (hB : heldB .any l.toArray n = true) (hS : S w.drew)
  (h : wpReads P l.toArray S (fun a' => wpTail P l.toArray S (NoPanic Q) (l.drop n) a' w.drew) (l.take n) a) : (Code.region id l.toArray true).wp P Q a w := by
 refine wp_region_noPanic (wp_region_any hm (wpAny_of_E (S := S) (L := l.length - 1) _ _ _ _ ?_))
 simp only [heldB, Bool.and_eq_true, decide_eq_true_eq, List.all_eq_true, List.mem_range, beq_iff_eq, List.isEmpty_iff, List.size_toArray, List.contains_iff_mem] at hB
 obtain ⟨⟨⟨⟨b1, b2⟩, b3⟩, b4⟩, b5⟩ := hB
 have := wpReads_E (Q := NoPanic Q) (S := S) (n := n) (l := l) (w := w.drew) (Region.noSelect_spec b1) (fun _ _ _ _ h => h) (fun i hi => ⟨(b3 i hi).1.1, (b3 i hi).1.2, (b3 i hi).2⟩) (by omega) hS _
  (fun a' h' => by
   have h2 := wpTail_E (S := S) (n := n) b4 b5 (l.drop n) n a' w.drew (Nat.le_refl _) (by simp; omega) rfl h'
   rw [List.length_drop] at h2
   exact h2) (l.take n) 0 a (by simp; omega) rfl h
 simpa [pre] using this
def heldB0 (md : Region.Mode) (ops : Array Oper) (n : Nat) : Bool :=
 Region.noSelect ops && decide (n ≤ ops.size) && (List.range n).all (fun i => Region.free md ops (pre ops.size i) i && (Region.ready md ops (pre ops.size i)).contains i) &&
  (List.range (ops.size - n)).all (fun j => Region.ready md ops (pre ops.size (n + j)) == [n + j]) && (Region.ready md ops (pre ops.size ops.size)).isEmpty
theorem wpTail_E0 {n : Nat} {l : List Oper} (hT : ∀ j, j < l.length - n → Region.ready md l.toArray (pre l.length (n + j)) = [n + j]) (hE : Region.ready md l.toArray (pre l.length l.length) = []) :
  ∀ (r : List Oper) (k : Nat) (a : Act) (w : World), n ≤ k → k + r.length = l.length → l.drop k = r → wpTail P l.toArray (fun _ => True) Q r a w → wpAnyE P md l.toArray Q (fun _ => True) l.length r.length (pre l.length k) a w
 | [], k, a, w, hk, hl, hd, h => by
  obtain rfl : k = l.length := by simpa using hl
  exact ⟨hE, h⟩
 | o :: r, k, a, w, hk, hl, hd, h => by
  have hkl : k < l.length := by simp at hl; omega
  have hr := hT (k - n) (by omega)
  rw [show n + (k - n) = k by omega] at hr
  have ho : l.toArray[k]? = some o := by
   have : (l.drop k)[0]? = some o := by rw [hd]; rfl
   simpa using this
  have hd' : l.drop (k + 1) = r := by rw [← List.drop_drop, hd]; rfl
  refine ⟨fun h0 => (by rw [hr] at h0; cases h0), fun i hi => ?_⟩
  rw [hr] at hi
  obtain rfl : i = k := by simpa using hi
  refine wpOp_step ho fun K' hK => h K' fun a' w' hS hT' => hK a' w' ⟨fun _ => trivial, ?_⟩
  exact wpTail_E0 hT hE r (i + 1) a' w' (by omega) (by simp at hl; omega) hd' hT'
theorem wpReads_E0 {n : Nat} {l : List Oper} (hsel : ∀ (j : Nat) (o : Oper) cs b, l.toArray[j]? = some o → o.op ≠ .select cs b) (hQ : ∀ c a a' w, Q (.panic c) a w → Q (.panic c) a' w)
  (hF : ∀ i, i < n → Region.free md l.toArray (pre l.length i) i = true ∧ i ∈ Region.ready md l.toArray (pre l.length i)) (hn : n ≤ l.length)
  {w : World} (K : Act → Prop) (hK : ∀ a, K a → wpAnyE P md l.toArray Q (fun _ => True) l.length (l.length - n) (pre l.length n) a w) :
  ∀ (r : List Oper) (i : Nat) (a : Act), i + r.length = n → (l.take n).drop i = r → wpReads P l.toArray (fun _ => True) K r a → wpAnyE P md l.toArray Q (fun _ => True) l.length (l.length - i) (pre l.length i) a w
 | [], i, a, hi, hd, h => by
  obtain rfl : i = n := by simpa using hi
  exact hK a h
 | o :: r, i, a, hi, hd, h => by
  have hin : i < n := by simp at hi; omega
  obtain ⟨f1, f2⟩ := hF i hin
  obtain ⟨v, hy, h⟩ := h
  have ho : l.toArray[i]? = some o := by
   have : ((l.take n).drop i)[0]? = some o := by rw [hd]; rfl
   rw [List.getElem?_drop, List.getElem?_take] at this
   simpa [hin] using this
  have hd' : (l.take n).drop (i + 1) = r := by rw [← List.drop_drop, hd]; rfl
  have ih := wpReads_E0 hsel hQ hF hn K hK r (i + 1) (a.put o.dst v) (by simp at hi; omega) hd' h
  have e : l.length - i = (l.length - (i + 1)) + 1 := by omega
  rw [e]
  refine wpAnyE_first ho hsel (fun c a w h => hQ c _ _ w h) ?_ _ _ _ _ (Region.free_spec ho f1) f2 hy trivial ih
  intro oL hoL
  have := (Array.getElem?_eq_some_iff.1 hoL).1
  simp at this
theorem wp_region_reads0 {id : Nat} {a : Act} {w : World} {l : List Oper} (n : Nat) (hm : P.follows .mixedOrders = true) (hB : heldB0 .any l.toArray n = true)
  (h : wpReads P l.toArray (fun _ => True) (fun a' => wpTail P l.toArray (fun _ => True) (NoPanic Q) (l.drop n) a' w.drew) (l.take n) a) : (Code.region id l.toArray true).wp P Q a w := by
 refine wp_region_noPanic (wp_region_any hm (wpAny_of_E (S := fun _ => True) (L := l.length) _ _ _ _ ?_))
 simp only [heldB0, Bool.and_eq_true, decide_eq_true_eq, List.all_eq_true, List.mem_range, beq_iff_eq, List.isEmpty_iff, List.size_toArray, List.contains_iff_mem] at hB
 obtain ⟨⟨⟨⟨b1, b2⟩, b3⟩, b4⟩, b5⟩ := hB
 have := wpReads_E0 (Q := NoPanic Q) (n := n) (l := l) (w := w.drew) (Region.noSelect_spec b1) (fun _ _ _ _ h => h) (fun i hi => ⟨(b3 i hi).1, (b3 i hi).2⟩) (by omega) _
  (fun a' h' => by
   have h2 := wpTail_E0 (n := n) b4 b5 (l.drop n) n a' w.drew (Nat.le_refl _) (by simp; omega) rfl h'
   rw [List.length_drop] at h2
   exact h2) (l.take n) 0 a (by simp; omega) rfl h
 simpa [pre] using this
def opAt (l : List Oper) (i : Nat) : Oper := (l[i]?).getD ⟨none, .move (.const undef), 0, "", #[], none⟩
def mixTB (md : Region.Mode) (ops : Array Oper) : List Nat → Array Bool → Bool
 | [], l => (Region.ready md ops l).isEmpty
 | t :: r, l => (Region.ready md ops l == [t]) && mixTB md ops r (l.setIfInBounds t true)
def mixRB (md : Region.Mode) (ops : Array Oper) (T : List Nat) : List Nat → Array Bool → Bool
 | [], l => mixTB md ops T l
 | i :: r, l => Region.free md ops l i && (Region.ready md ops l).contains i && waitsFor md ops (ops.size - 1) i && mixRB md ops T r (l.setIfInBounds i true)
def mixB (md : Region.Mode) (ops : Array Oper) (R T : List Nat) : Bool := Region.noSelect ops && decide (R.length + T.length = ops.size) && (T.getLast? == some (ops.size - 1)) && mixRB md ops T R (Array.replicate ops.size false)
theorem opAt_some {l : List Oper} {i : Nat} {o : Oper} (h : l[i]? = some o) : opAt l i = o := by simp [opAt, h]
theorem wpTail_mix {l : List Oper} : ∀ (T : List Nat) (listed : Array Bool) (a : Act) (w : World), (∀ t, T.getLast? = some t → t = l.length - 1) → mixTB md l.toArray T listed = true → wpTail P l.toArray S Q (T.map (opAt l)) a w → wpAnyE P md l.toArray Q S (l.length - 1) T.length listed a w
 | [], listed, a, w, _, hT, h => by
  simp only [mixTB, List.isEmpty_iff] at hT
  exact ⟨hT, h⟩
 | t :: r, listed, a, w, hL, hT, h => by
  simp only [mixTB, Bool.and_eq_true, beq_iff_eq] at hT
  refine ⟨fun h0 => (by rw [hT.1] at h0; cases h0), fun i hi => ?_⟩
  obtain ⟨_, o, ho, _⟩ := mem_ready.1 hi
  rw [hT.1] at hi
  obtain rfl : i = t := by simpa using hi
  have ho' : l[i]? = some o := by simpa using ho
  simp only [List.map_cons, opAt_some ho'] at h
  refine wpOp_step ho fun K' hK => h K' fun a' w' hS hT' => hK a' w' ⟨fun hne => hS fun hr => hne ?_, ?_⟩
  ·have : r = [] := by simpa using hr
   subst this
   exact hL i rfl
  ·refine wpTail_mix r _ a' w' (fun q hq => ?_) hT.2 hT'
   cases r with
   | nil => cases hq
   | cons x r => exact hL q (by rw [List.getLast?_cons_cons]; exact hq)
theorem wpReads_mix {l : List Oper} {T : List Nat} (hsel : ∀ (j : Nat) (o : Oper) cs b, l.toArray[j]? = some o → o.op ≠ .select cs b) (hQ : ∀ c a a' w, Q (.panic c) a w → Q (.panic c) a' w) (hL : ∀ t, T.getLast? = some t → t = l.length - 1)
  {w : World} (hS : S w) : ∀ (R : List Nat) (listed : Array Bool) (a : Act), mixRB md l.toArray T R listed = true → wpReads P l.toArray S (fun a' => wpTail P l.toArray S Q (T.map (opAt l)) a' w) (R.map (opAt l)) a →
   wpAnyE P md l.toArray Q S (l.length - 1) (R.length + T.length) listed a w
 | [], listed, a, hR, h => by
  rw [List.length_nil, Nat.zero_add]
  exact wpTail_mix T listed a w hL hR h
 | i :: r, listed, a, hR, h => by
  simp only [mixRB, Bool.and_eq_true, List.contains_iff_mem] at hR
  obtain ⟨⟨⟨f1, f2⟩, f3⟩, f4⟩ := hR
  obtain ⟨_, o, ho, _⟩ := mem_ready.1 f2
  have ho' : l[i]? = some o := by simpa using ho
  simp only [List.map_cons, opAt_some ho'] at h
  obtain ⟨v, hy, h⟩ := h
  have ih := wpReads_mix hsel hQ hL hS r _ _ f4 h
  rw [List.length_cons, Nat.add_right_comm]
  refine wpAnyE_first ho hsel (fun c a w h => hQ c _ _ w h) ?_ _ _ _ _ (Region.free_spec ho f1) f2 hy hS ih
  intro oL hoL
  unfold waitsFor at f3
  simp only [List.size_toArray] at f3
  rw [hoL] at f3
  obtain ⟨e, he, h2⟩ := Array.any_eq_true'.1 f3
  simp only [Bool.and_eq_true, beq_iff_eq] at h2
  exact ⟨e, he, h2.1, h2.2⟩
theorem wp_region_mix {id : Nat} {a : Act} {w : World} {l : List Oper} (R T : List Nat) (S : World → Prop) (hm : P.follows .mixedOrders = true) (hB : mixB .any l.toArray R T = true) (hS : S w.drew)
  (h : wpReads P l.toArray S (fun a' => wpTail P l.toArray S (NoPanic Q) (T.map (opAt l)) a' w.drew) (R.map (opAt l)) a) : (Code.region id l.toArray true).wp P Q a w := by
 refine wp_region_noPanic (wp_region_any hm (wpAny_of_E (S := S) (L := l.length - 1) _ _ _ _ ?_))
 simp only [mixB, Bool.and_eq_true, decide_eq_true_eq, beq_iff_eq, List.size_toArray] at hB
 obtain ⟨⟨⟨b1, b2⟩, b3⟩, b4⟩ := hB
 have := wpReads_mix (Q := NoPanic Q) (S := S) (l := l) (T := T) (w := w.drew) (Region.noSelect_spec b1) (fun _ _ _ _ h => h) (fun t ht => by rw [b3] at ht; injection ht with ht; exact ht.symm) hS R _ a b4 h
 rw [b2] at this
 exact this
end
end Go.Proofs.YtikojiciilambaaGreat

/- slices.Sort and slices.Compact on a row of the call's own. -/
namespace Go.Proofs.YtikojiciilambaaGreat
open Go.RowKit Go.Sort
set_option linter.unusedVariables false
set_option linter.unusedSimpArgs false
abbrev iv (x : Int) : Value := .int .i64 x
theorem own_grow {w : World} {base size : Nat} {e : TypeId} {v : Value} {n : Nat} {xs : List Value} (h : w.ownsRow base e size v n xs) (os : Array Obj) : (grow w os).ownsRow base e size v n xs := by
 refine ⟨h.1, ?_⟩
 rcases h.2 with hn | ⟨g, cap, cur, hv, hg, hh, r⟩
 ·exact .inl hn
 ·refine .inr ⟨g, cap, cur, hv, hg, ?_, r⟩
  show (w.heap ++ os)[g]? = _
  rw [Array.getElem?_append_left (Array.getElem?_eq_some_iff.1 hh).1]
  exact hh
theorem putRow_grown {α : Type} [Inhabited α] {enc : α → Value} (w : World) (q g : Nat) (d : Array α) (os : Array Obj) : w.grownBy (grow (putRow enc (Sort.ahead w q) g 0 d) os) (some g) := by
 refine ⟨rfl, rfl, rfl, ?_, fun k hk hne => ?_⟩
 ·show w.heap.size ≤ (_ ++ os).size
  simp [putRow, mapBlock, Sort.ahead]
 ·have hg : g ≠ k := fun e => hne (by rw [e])
  show ((putRow enc (Sort.ahead w q) g 0 d).heap ++ os)[k]? = _
  rw [Array.getElem?_append_left (by simpa [putRow, mapBlock, Sort.ahead] using hk)]
  simp [putRow, mapBlock, Sort.ahead, Array.getElem?_modify, hg]
theorem grown_self (w : World) (row : Option Nat) : w.grownBy w row := ⟨rfl, rfl, rfl, Nat.le_refl _, fun _ _ _ => rfl⟩
theorem own_form {w : World} {base size : Nat} {e : TypeId} {v : Value} {n : Nat} {xs : List Value} (h : w.ownsRow base e size v n xs) : ∃ A c, v = .slice A n c := by
 rcases h.2 with ⟨rfl, rfl⟩ | ⟨g, cap, cur, rfl, _⟩
 ·exact ⟨_, _, rfl⟩
 ·exact ⟨_, _, rfl⟩
theorem sortI_any (base : Nat) (v : Value) (zs : List Int) (w : World) (hown : w.ownsRow base 3 1 v zs.length (zs.map iv)) (hsz : zs.length < 4611686018427387904) :
  Calls Tryz.prog 86 #[v] w fun e w' => e = .returned (.tuple #[]) ∧ w'.ownsRow base 3 1 v zs.length ((zs.mergeSort fun x y => decide (x ≤ y)).map iv) ∧ w.grownBy w' v.ownBlock := by
 by_cases h0 : zs = []
 ·subst h0
  obtain ⟨A, c, rfl⟩ := own_form hown
  refine (Tryz.slices_Sort_int_none A c w).mono ?_
  rintro e w' ⟨rfl, rfl⟩
  exact ⟨rfl, by simpa using hown, grown_self _ _⟩
 ·have hv : v ≠ .slice none 0 0 := by
   rintro rfl
   rcases hown.2 with ⟨_, h⟩ | ⟨g, cap, cur, h, _⟩
   ·exact h0 (List.eq_nil_of_length_eq_zero h)
   ·cases h
  obtain ⟨g, cap, rfl, hb, hg, hn, hm, _, hH⟩ := Lib.holds_of_ownsRow hown hv
  refine (Tryz.slices_Sort_int g 0 cap zs w hH hg hsz).mono ?_
  rintro e w' ⟨rfl, n, os, rfl⟩
  refine ⟨rfl, own_grow ?_ os, putRow_grown _ _ _ _ _⟩
  have hl : (zs.mergeSort fun x y => decide (x ≤ y)).length = zs.length := List.length_mergeSort zs
  have := Lib.ownsRow_putRow (enc := iv) (q := n) (k := zs.length) (ys := zs.mergeSort fun x y => decide (x ≤ y)) hown hl (Nat.le_refl _)
  rw [List.take_of_length_le (by omega)] at this
  exact this
theorem compI_any (base : Nat) (v : Value) (zs : List Int) (w : World) (hown : w.ownsRow base 3 1 v zs.length (zs.map iv)) (hsz : zs.length < 4611686018427387904) :
  Calls Tryz.prog 87 #[v] w fun e w' => ∃ v', e = .returned v' ∧ v'.ownBlock = v.ownBlock ∧ w'.ownsRow base 3 1 v' (Lib.compact zs).length ((Lib.compact zs).map iv) ∧ w.grownBy w' v.ownBlock := by
 by_cases h0 : zs = []
 ·subst h0
  obtain ⟨A, c, rfl⟩ := own_form hown
  refine (Tryz.slices_Compact_int_empty A c w).mono ?_
  rintro e w' ⟨rfl, rfl⟩
  exact ⟨_, rfl, rfl, hown, grown_self _ _⟩
 ·have hv : v ≠ .slice none 0 0 := by
   rintro rfl
   rcases hown.2 with ⟨_, h⟩ | ⟨g, cap, cur, h, _⟩
   ·exact h0 (List.eq_nil_of_length_eq_zero h)
   ·cases h
  obtain ⟨g, cap, rfl, hb, hg, hn, hm, _, hH⟩ := Lib.holds_of_ownsRow hown hv
  refine (Tryz.slices_Compact_int g 0 cap zs w hH (by omega) hn).mono ?_
  rintro e w' ⟨rfl, q, rfl⟩
  have hle : (Lib.compact zs).length ≤ zs.length := Lib.compact_length_le zs
  have := Lib.ownsRow_putRow (enc := iv) (q := q) (k := (Lib.compact zs).length) (ys := Lib.compact zs ++ List.replicate (zs.length - (Lib.compact zs).length) 0) hown (by simp; omega) hle
  rw [List.take_left] at this
  refine ⟨_, rfl, rfl, this, ?_⟩
  have h2 := putRow_grown (enc := iv) w q g (Lib.compact zs ++ List.replicate (zs.length - (Lib.compact zs).length) 0).toArray #[]
  rwa [Go.Sort.grow_empty] at h2
end Go.Proofs.YtikojiciilambaaGreat

/- region.slabs: the cuts of some lists, and the iterator bound to them. -/
namespace Go.Proofs.YtikojiciilambaaGreat
open Go.RowKit
set_option linter.unusedVariables false
set_option linter.unusedSimpArgs false
theorem infoIA : (Tryz.prog.info? 3).map (fun i => (i.zero, i.size, i.bytes)) = some (some (.int .i64 0), 1, 8) := by kernel_rfl
theorem cutsL_take (l : List R4) (m : Nat) (r : R4) (h : l[m]? = some r) : cutsL (l.take (m + 1)) = cutsL (l.take m) ++ [r.x0, r.x1] := by
 obtain ⟨hm, hp⟩ := List.getElem?_eq_some_iff.1 h
 rw [List.take_succ_eq_append_getElem hm, hp]
 simp [cutsL]
theorem cutsL_len (l : List R4) : (cutsL l).length = 2 * l.length := by
 induction l with
 | nil => rfl
 | cons p s ih => simp [cutsL] at ih ⊢; omega
theorem flat_take (ls : List (List R4)) (k : Nat) (l : List R4) (h : ls[k]? = some l) : (ls.take (k + 1)).flatMap cutsL = (ls.take k).flatMap cutsL ++ cutsL l := by
 obtain ⟨hm, hp⟩ := List.getElem?_eq_some_iff.1 h
 rw [List.take_succ_eq_append_getElem hm, hp]
 simp
theorem len_take (ls : List (List R4)) (k : Nat) (l : List R4) (h : ls[k]? = some l) : ((ls.take k).flatMap cutsL).length + (cutsL l).length ≤ (ls.flatMap cutsL).length := by
 rw [← List.length_append, ← flat_take ls k l h]
 conv => rhs; rw [← List.take_append_drop (k + 1) ls]
 rw [List.flatMap_append, List.length_append]; omega
theorem box_fin {B o : Nat} {w1 wa w2 : World} {row : Option Nat} {v2 x : Value} {e : TypeId} {size n : Nat} {xs : List Value} (ks : B ≤ w1.heap.size) (hoB : o < B) (k3 : w1.cell? ⟨o, 0, none⟩ = some x) (k4 : w1.frozen? ⟨o, 0, none⟩ = false)
  (ha : Below w1.heap.size w1 wa) (hgrow : wa.grownBy w2 row) (hr : ∀ k, row = some k → B ≤ k) (hown2 : w2.ownsRow B e size v2 n xs) :
  w2.cell? ⟨o, 0, none⟩ = some x ∧ w2.frozen? ⟨o, 0, none⟩ = false ∧ Hid ((w2.setCell ⟨o, 0, none⟩ v2).cell? ⟨o, 0, none⟩ = some v2 ∧ (w2.setCell ⟨o, 0, none⟩ v2).frozen? ⟨o, 0, none⟩ = false ∧
   (w2.setCell ⟨o, 0, none⟩ v2).ownsRow B e size v2 n xs ∧ Below o w1 (w2.setCell ⟨o, 0, none⟩ v2) ∧ (∀ q off, q < B → q ≠ o → (w2.setCell ⟨o, 0, none⟩ v2).cell? ⟨q, off, none⟩ = w1.cell? ⟨q, off, none⟩) ∧ w1.heap.size ≤ (w2.setCell ⟨o, 0, none⟩ v2).heap.size) := by
 have hb : Below B w1 w2 := (ha.mono ks).grown hgrow (by have := ha.size; omega) hr
 have c := (hb.cell (p := ⟨o, 0, none⟩) hoB).trans k3
 have f := (hb.frozen (p := ⟨o, 0, none⟩) hoB).trans k4
 refine ⟨c, f, hide ⟨by simp [go_sem, c], by simp [go_sem, f], ownsRow_setCell_below hown2 hoB _, (hb.mono (Nat.le_of_lt hoB)).setCell (p := ⟨o, 0, none⟩) (Nat.le_refl o) _, fun q off hq hne => ?_, ?_⟩⟩
 ·refine (World.cell?_of_block (w := w2) (a := ⟨q, off, none⟩) (Below.heap_setCell _ _ _ _ hne)).trans (hb.cell (p := ⟨q, off, none⟩) hq)
 ·have := hb.size
  simpa [World.setCell] using this
set_option maxHeartbeats 2000000 in
theorem slabsA_any (ls : List (List R4)) (L c : Nat) (w : World) (hL : L < w.heap.size) (hv : ∀ k l, ls[k]? = some l → ∃ v, w.cell? ⟨L, k, none⟩ = some v ∧ RdK encR 4 w w.heap.size v l) (hn : (ls.flatMap cutsL).length ≤ 100000000) (hls : ls.length ≤ 1000) :
  Calls Tryz.prog 99 #[.slice (some ⟨L, 0, none⟩) ls.length c] w fun e w' => ∃ v, e = .returned (.func (.func 144) #[] #[.pointer (some ⟨w.heap.size + 1, 0, none⟩), .pointer (some ⟨w.heap.size, 0, none⟩)]) ∧
   w'.cell? ⟨w.heap.size, 0, none⟩ = some (.slice (some ⟨L, 0, none⟩) ls.length c) ∧ w'.cell? ⟨w.heap.size + 1, 0, none⟩ = some v ∧ w'.ownsRow (w.heap.size + 2) 3 1 v (cutsOf (ls.flatMap cutsL)).length ((cutsOf (ls.flatMap cutsL)).map iv) ∧ Below w.heap.size w w' := by
 obtain ⟨i0, hi, hz0, hz1, hz2⟩ := info_parts infoIA
 have HV := hide hv
 clear hv
 go_enter Tryz.func99, Tryz.ntmps99
 go_wp2
 go_loopw [10] (fun i wr => ∃ k : Nat, k ≤ ls.length ∧ i = .int .i64 k ∧ ∃ v, wr.cell? ⟨w.heap.size + 1, 0, none⟩ = some v ∧ wr.frozen? ⟨w.heap.size + 1, 0, none⟩ = false ∧ wr.cell? ⟨w.heap.size, 0, none⟩ = some (.slice (some ⟨L, 0, none⟩) ls.length c) ∧
   wr.ownsRow (w.heap.size + 2) 3 1 v ((ls.take k).flatMap cutsL).length (((ls.take k).flatMap cutsL).map iv) ∧ Below w.heap.size w wr ∧ w.heap.size + 2 ≤ wr.heap.size)
  (fun i _ => ls.length - (intOf i).toNat)
 case atStart =>
  refine ⟨0, Nat.zero_le _, rfl, .slice none 0 0, by simp [go_sem], by simp [go_sem], by simp [go_sem], World.ownsRow_nil _ _ _ _, ((Below.refl _ _).alloc (Nat.le_refl _) _).alloc (by simp) _, by simp⟩
 case round =>
  obtain ⟨k, hk, rfl, v, hc1, hf1, hc0, hown, hb, hsz⟩ := hrel
  by_cases hlt : k < ls.length
  ·obtain ⟨l, hlk⟩ : ∃ l, ls[k]? = some l := ⟨_, List.getElem?_eq_getElem hlt⟩
   obtain ⟨vl, hcl, A, c0, rfl, hrd⟩ := HV.out k l hlk
   have hcl' : wr.cell? ⟨L, k, none⟩ = some (.slice A l.length c0) := (hb.cell (p := ⟨L, k, none⟩) hL).trans hcl
   have hle := len_take ls k l hlk
   have HK := hide (flat_take ls k l hlk)
   have HR := hide hrd
   have hkz : (k : Int) < (ls.length : Int) := by omega
   rw [cutsL_len] at hle
   generalize (ls.take k).flatMap cutsL = P at *
   generalize wr = w1 at *
   clear hcl hrd
   go_wp2
   go_loopw [16] (fun j wi => ∃ m : Nat, m ≤ l.length ∧ j = .int .i64 m ∧ ∃ v, wi.cell? ⟨w.heap.size + 1, 0, none⟩ = some v ∧ wi.frozen? ⟨w.heap.size + 1, 0, none⟩ = false ∧ wi.cell? ⟨w.heap.size, 0, none⟩ = some (.slice (some ⟨L, 0, none⟩) ls.length c) ∧
     wi.ownsRow (w.heap.size + 2) 3 1 v (P ++ cutsL (l.take m)).length ((P ++ cutsL (l.take m)).map iv) ∧ Below w.heap.size w wi ∧ w.heap.size + 2 ≤ wi.heap.size)
    (fun j _ => l.length - (intOf j).toNat)
   case atStart => exact ⟨0, by omega, rfl, v, hc1, hf1, hc0, by simpa [cutsL] using hown, hb, hsz⟩
   case round =>
    clear hc1 hf1 hc0 hown
    obtain ⟨m, hm, rfl, v, hc1, hf1, hc0, hownm, hbm, hszm⟩ := hrel
    by_cases hml : m < l.length
    ·obtain ⟨⟨x0, y0, x1, y1⟩, hp⟩ : ∃ p, l[m]? = some p := ⟨_, List.getElem?_eq_getElem hml⟩
     have hne : l ≠ [] := by intro e; rw [e] at hml; simp at hml
     obtain ⟨bk, off, rfl, hbk, hcell⟩ := HR.out hne
     have d0 : wr.cell? ⟨bk, off + m * 4, none⟩ = some (.int .i64 x0) := (hbm.cell hbk).trans (hcell m _ hp 0 _ rfl)
     have d1 : wr.cell? ⟨bk, off + m * 4 + 1, none⟩ = some (.int .i64 y0) := (hbm.cell hbk).trans (hcell m _ hp 1 _ rfl)
     have d2 : wr.cell? ⟨bk, off + m * 4 + 2, none⟩ = some (.int .i64 x1) := (hbm.cell hbk).trans (hcell m _ hp 2 _ rfl)
     have d3 : wr.cell? ⟨bk, off + m * 4 + 3, none⟩ = some (.int .i64 y1) := (hbm.cell hbk).trans (hcell m _ hp 3 _ rfl)
     have hmz : (m : Int) < (l.length : Int) := by omega
     have hlenE : (P ++ cutsL (l.take m)).length ≤ 100000000 := by rw [List.length_append, cutsL_len, List.length_take]; omega
     have HE : Hid (P ++ cutsL (l.take (m + 1)) = P ++ cutsL (l.take m) ++ [x0, x1]) := hide (by rw [cutsL_take l m _ hp, List.append_assoc])
     obtain ⟨Av, cv, rfl⟩ := own_form hownm
     have hlt1 : w.heap.size + 1 < wr.heap.size := by omega
     have hlt0 : w.heap.size < wr.heap.size := by omega
     clear hcell
     generalize P ++ cutsL (l.take m) = E0 at *
     go_wp2_with (at_builtin; go_loud (refine wpList_append_lies _ rfl (.tmp 20) (.tmp 25) 133 rfl (w.heap.size + 2) 3 i0 (.int .i64 0) 1 8 Tryz.underlying133 hi hz0 hz1 hz2 rfl (by decide) _ _ _ rfl ((hownm.alloc _).alloc _) ⟨wr.heap.size + 1, 0, none⟩ 2 2 [.int .i64 x0, .int .i64 x1] rfl rfl (news_new (wr.alloc _) _ _ _ (by simp)) (ints_one rfl) (by omega) (by unfold maxLen; omega) (by omega) (by simp; omega) _ rfl ?_))
     intro g cap w2 hown2 hgrow _ _
     have hx2 : E0.map iv ++ [.int .i64 x0, .int .i64 x1] = (E0 ++ [x0, x1]).map iv := by simp
     have HL : Hid (E0.length + 2 = (P ++ cutsL (l.take (m + 1))).length) := hide (by rw [HE.out]; simp)
     rw [hx2, ← HE.out] at hown2
     obtain ⟨k3, k4, HF⟩ := box_fin hszm (Nat.lt_succ_self _) hc1 hf1 (((Below.refl _ wr).alloc (Nat.le_refl _) _).alloc (by simp) _) hgrow (fun k h => (hownm.lt k h).1) hown2
     have HC := hide hc0
     clear hown2 hgrow hownm hx2 hc1 hf1 hc0 d0 d1 d2 d3
     go_wp2
     go_roundw
     case rel =>
      obtain ⟨z1, z2, z3, z4, z5, z6⟩ := HF.out
      exact ⟨m + 1, by omega, by go_num, _, z1, z2, (z5 _ _ (by omega) (by omega)).trans HC.out, own_n z3 HL.out, hbm.trans (z4.mono (by omega)), by omega⟩
     case measure => simp [intOf]; omega
    ·have hme : ¬ (m : Int) < (l.length : Int) := by omega
     have hmt : l.take m = l := List.take_of_length_le (by omega)
     rw [hmt, ← HK.out] at hownm
     have HO := hide hownm
     clear hmt hownm
     go_wp2
     go_roundw
     case rel => exact ⟨k + 1, by omega, by go_num, v, hc1, hf1, hc0, HO.out, hbm, hszm⟩
     case measure => simp [intOf]; omega
  ·have hkz : ¬ (k : Int) < (ls.length : Int) := by omega
   have hkt : ls.take k = ls := List.take_of_length_le (by omega)
   rw [hkt] at hown
   have HO := hide hown
   clear hkt hown
   have hl : (ls.flatMap cutsL).length < 4611686018427387904 := by omega
   have hlm : ((ls.flatMap cutsL).mergeSort fun x y => decide (x ≤ y)).length = (ls.flatMap cutsL).length := List.length_mergeSort _
   have HM := hide hlm
   have HC0 := hide hc0
   clear hc0 hlm
   go_wp2_with (first
    | (go_at_call 86; refine (sortI_any _ v _ wr HO.out hl).mono ?_; rintro e w1 ⟨rfl, ho1, hg1⟩; have hb1 : Below (w.heap.size + 2) wr w1 := (Below.refl _ _).grown hg1 hsz (fun k h => (HO.out.lt k h).1); have e1 := (hb1.cell (p := ⟨w.heap.size + 1, 0, none⟩) (Nat.lt_succ_self _)).trans hc1; have HO1 := hide ho1; have HB1 := hide hb1; clear ho1 hg1 hb1)
    | (go_at_call 87; refine (compI_any _ v _ w1 (own_n HO1.out HM.out.symm) (by rw [HM.out]; exact hl)).mono ?_; rintro e w2 ⟨v2, rfl, hv2, ho2, hg2⟩; have hb2 : Below (w.heap.size + 2) w1 w2 := (Below.refl _ _).grown hg2 (Nat.le_trans hsz HB1.out.size) (fun k h => (HO1.out.lt k h).1); have e2 := (hb2.cell (p := ⟨w.heap.size + 1, 0, none⟩) (Nat.lt_succ_self _)).trans e1; have f2 := ((HB1.out.trans hb2).frozen (p := ⟨w.heap.size + 1, 0, none⟩) (Nat.lt_succ_self _)).trans hf1; have HO2 := hide ho2; have HB2 := hide hb2; clear ho2 hg2 hb2; obtain ⟨Av, cv, hv2⟩ := own_form HO2.out; subst hv2))
   go_ret
   have hB : Below (w.heap.size + 2) wr w2 := HB1.out.trans HB2.out
   refine ⟨_, rfl, ?_, by simp [go_sem, e2], ownsRow_setCell_below HO2.out (Nat.lt_succ_self _) _, (hb.trans (hB.mono (by omega))).setCell (p := ⟨w.heap.size + 1, 0, none⟩) (Nat.le_succ _) _⟩
   exact (World.cell?_of_block (w := w2) (a := ⟨w.heap.size, 0, none⟩) (Below.heap_setCell _ _ _ _ (Nat.ne_of_lt (Nat.lt_succ_self _)))).trans ((hB.cell (p := ⟨w.heap.size, 0, none⟩) (by show w.heap.size < _; omega)).trans HC0.out)
end Go.Proofs.YtikojiciilambaaGreat

/- region.slabs's iterator: the slabs between neighbouring cuts. -/
namespace Go.Proofs.YtikojiciilambaaGreat
open Go.RowKit
set_option linter.unusedVariables false
set_option linter.unusedSimpArgs false
attribute [local go_sem] Oper.semAt_some
def KpX (bb n : Nat) (A B : World) : Prop := A.heap.size ≤ B.heap.size ∧ ∀ b o, b < n → b ≠ bb → B.cell? ⟨b, o, none⟩ = A.cell? ⟨b, o, none⟩
theorem KpX.trans {b n : Nat} {A B C : World} (h : KpX b n A B) (k : KpX b n B C) : KpX b n A C := ⟨Nat.le_trans h.1 k.1, fun q o h1 h2 => (k.2 q o h1 h2).trans (h.2 q o h1 h2)⟩
def OkSlab (ls : List (List R4)) (x : Int × Int) (args : Array Value) (W : World) : Prop :=
 ∃ Rw, args = #[.agg #[.int .i64 x.1, .int .i64 x.2, .slice (some ⟨Rw, 0, none⟩) ls.length ls.length]] ∧ Rw < W.heap.size ∧ ∀ k l, ls[k]? = some l → ∃ v, W.cell? ⟨Rw, k, none⟩ = some v ∧ RdK encS 2 W W.heap.size v (crossL l x.1)
structure SMid (ls : List (List R4)) (c d : Int) (Rw S k : Nat) (wi wr : World) : Prop where
 ne : S ≠ Rw
 lowR : wi.heap.size ≤ Rw
 lowS : wi.heap.size ≤ S
 topR : Rw < wr.heap.size
 topS : S < wr.heap.size
 below : Below wi.heap.size wi wr
 s0 : wr.cell? ⟨S, 0, none⟩ = some (.int .i64 c)
 s1 : wr.cell? ⟨S, 1, none⟩ = some (.int .i64 d)
 s2 : wr.cell? ⟨S, 2, none⟩ = some (.slice (some ⟨Rw, 0, none⟩) ls.length ls.length)
 done : ∀ j l, j < k → ls[j]? = some l → ∃ v, wr.cell? ⟨Rw, j, none⟩ = some v ∧ wr.ownsRow (Rw + 1) 141 2 v (crossL l c).length ((crossL l c).flatMap encS)
 left : ∀ j, k ≤ j → j < ls.length → wr.cell? ⟨Rw, j, none⟩ = some (.slice none 0 0)
 fz : ∀ j, wr.frozen? ⟨Rw, j, none⟩ = false
structure SIn (l : List R4) (c : Int) (Rw k m : Nat) (wk wr : World) : Prop where
 upd : Upd Rw none wk wr
 oth : ∀ j, j ≠ k → wr.cell? ⟨Rw, j, none⟩ = wk.cell? ⟨Rw, j, none⟩
 fz : ∀ j, wr.frozen? ⟨Rw, j, none⟩ = wk.frozen? ⟨Rw, j, none⟩
 cur : ∃ v, wr.cell? ⟨Rw, k, none⟩ = some v ∧ wr.ownsRow wk.heap.size 141 2 v (crossL (l.take m) c).length ((crossL (l.take m) c).flatMap encS)
theorem SIn.start {ls : List (List R4)} {l : List R4} {c d : Int} {Rw S k : Nat} {wi wk : World} (h : SMid ls c d Rw S k wi wk) (hk : k < ls.length) : SIn l c Rw k 0 wk wk :=
 ⟨Upd.refl _ _ _, fun _ _ => rfl, fun _ => rfl, ⟨_, h.left k (Nat.le_refl _) hk, World.ownsRow_nil _ _ _ _⟩⟩
theorem SIn.fin {ls : List (List R4)} {l : List R4} {c d : Int} {Rw S k : Nat} {wi wk wr : World} (h : SMid ls c d Rw S k wi wk) (hl : ls[k]? = some l) (g : SIn l c Rw k l.length wk wr) : SMid ls c d Rw S (k + 1) wi wr := by
 have hne := h.ne
 have hlR := h.lowR
 have htR := h.topR
 have hbs := h.below.size
 have key : ∀ {b o v}, b ≠ Rw → wk.cell? ⟨b, o, none⟩ = some v → wr.cell? ⟨b, o, none⟩ = some v := fun {b o v} hb e => (g.upd.cell (lt_of_cell e) hb (by simp)).trans e
 refine ⟨hne, hlR, h.lowS, Nat.lt_of_lt_of_le htR g.upd.size, Nat.lt_of_lt_of_le h.topS g.upd.size, h.below.trans (g.upd.below hlR hbs (by simp)), key hne h.s0, key hne h.s1, key hne h.s2, ?_, ?_, fun j => (g.fz j).trans (h.fz j)⟩
 ·intro j l' hj hl'
  by_cases hjk : j = k
  ·subst hjk
   rw [hl] at hl'
   injection hl' with hl'
   subst hl'
   obtain ⟨v, c1, c2⟩ := g.cur
   rw [List.take_length] at c2
   exact ⟨v, c1, own_base c2 (by omega)⟩
  ·obtain ⟨v, c1, c2⟩ := h.done j l' (by omega) hl'
   refine ⟨v, (g.oth j hjk).trans c1, c2.1, ?_⟩
   rcases c2.2 with hn | ⟨gg, cap, cur, hv, hg, hh, r⟩
   ·exact .inl hn
   ·exact .inr ⟨gg, cap, cur, hv, hg, (g.upd.block gg (Array.getElem?_eq_some_iff.1 hh).1 (by omega) (by simp)).trans hh, r⟩
 ·intro j hj hjn
  exact (g.oth j (by omega)).trans (h.left j (by omega) hjn)
theorem crossL_take {l : List R4} {c : Int} {m : Nat} {r : R4} (h : l[m]? = some r) : crossL (l.take (m + 1)) c = crossL (l.take m) c ++ (if r.x0 ≤ c ∧ c < r.x1 then [(r.y0, r.y1)] else []) := by
 obtain ⟨hm, hp⟩ := List.getElem?_eq_some_iff.1 h
 rw [List.take_succ_eq_append_getElem hm, hp]
 unfold crossL
 rw [List.filter_append, List.map_append]
 congr 1
 by_cases hc : r.x0 ≤ c ∧ c < r.x1
 ·simp [hc.1, hc.2]
 ·rw [if_neg hc]
  have : (decide (r.x0 ≤ c) && decide (c < r.x1)) = false := by
   rw [Bool.and_eq_false_iff]
   by_cases h1 : r.x0 ≤ c
   ·exact .inr (decide_eq_false fun h2 => hc ⟨h1, h2⟩)
   ·exact .inl (decide_eq_false h1)
  simp [List.filter_cons, this]
theorem SIn.skip {l : List R4} {c : Int} {Rw k m : Nat} {wk wr wr' : World} {r : R4} (g : SIn l c Rw k m wk wr) (hr : l[m]? = some r) (hc : ¬ (r.x0 ≤ c ∧ c < r.x1)) (hb : Below wr.heap.size wr wr') (hR : Rw < wr.heap.size) : SIn l c Rw k (m + 1) wk wr' := by
 obtain ⟨v, c1, c2⟩ := g.cur
 refine ⟨g.upd.trans (Upd.of_below hb), fun j hj => (hb.cell (p := ⟨Rw, j, none⟩) hR).trans (g.oth j hj), fun j => (hb.frozen (p := ⟨Rw, j, none⟩) hR).trans (g.fz j), v, (hb.cell (p := ⟨Rw, k, none⟩) hR).trans c1, ?_⟩
 rw [crossL_take hr, if_neg hc, List.append_nil]
 refine ⟨c2.1, ?_⟩
 rcases c2.2 with hn | ⟨gg, cap, cur, hv, hg, hh, r⟩
 ·exact .inl hn
 ·exact .inr ⟨gg, cap, cur, hv, hg, (hb.block gg (Array.getElem?_eq_some_iff.1 hh).1).trans hh, r⟩
theorem SIn.push {l : List R4} {c : Int} {Rw k m n : Nat} {wk wr wa w2 : World} {r : R4} {v v2 : Value} (g : SIn l c Rw k m wk wr) (hr : l[m]? = some r) (hc : r.x0 ≤ c ∧ c < r.x1) (hv : wr.cell? ⟨Rw, k, none⟩ = some v) (hR : Rw < wk.heap.size)
  (ha : Below wr.heap.size wr wa) (hgrow : wa.grownBy w2 v.ownBlock) (hrow : ∀ k, v.ownBlock = some k → wk.heap.size ≤ k) (hown2 : w2.ownsRow wk.heap.size 141 2 v2 n ((crossL (l.take m) c ++ [(r.y0, r.y1)]).flatMap encS)) (hf : wk.frozen? ⟨Rw, k, none⟩ = false) :
  w2.cell? ⟨Rw, k, none⟩ = some v ∧ w2.frozen? ⟨Rw, k, none⟩ = false ∧ Hid (SIn l c Rw k (m + 1) wk (w2.setCell ⟨Rw, k, none⟩ v2)) := by
 have hws := g.upd.size
 have hb : Below wk.heap.size wr w2 := (ha.mono hws).grown hgrow (by have := ha.size; omega) hrow
 have hcell : ∀ j, w2.cell? ⟨Rw, j, none⟩ = wr.cell? ⟨Rw, j, none⟩ := fun j => hb.cell (p := ⟨Rw, j, none⟩) hR
 have hfr : ∀ j, w2.frozen? ⟨Rw, j, none⟩ = wk.frozen? ⟨Rw, j, none⟩ := fun j => (hb.frozen (p := ⟨Rw, j, none⟩) hR).trans (g.fz j)
 have hk2 := (hcell k).trans hv
 refine ⟨hk2, (hfr k).trans hf, hide ⟨?_, fun j hj => ?_, fun j => ?_, v2, by simp [go_sem, hk2], ?_⟩⟩
 ·refine Upd.setCell ⟨hb.os.trans g.upd.os, hb.tape.trans g.upd.tape, hb.output.trans g.upd.output, Nat.le_trans hws hb.size, fun b h1 h2 h3 => (hb.block b h1).trans (g.upd.block b h1 h2 h3)⟩ _ _
 ·refine Eq.trans ?_ ((hcell j).trans (g.oth j hj))
  simp [go_sem, hj]
 ·rw [World.frozen?_setCell]; exact hfr j
 ·have hl := own_len (k := 2) hown2 (fun _ => rfl) (by omega)
  subst hl
  rw [crossL_take hr, if_pos hc]
  exact ownsRow_setCell_below hown2 hR _
theorem smid_first1 {ls : List (List R4)} {c d : Int} {w : World} {CS : Array Value} {t1 t2 : TypeId} (hCS : ∀ j, j < ls.length → CS[j]? = some (.slice none 0 0)) :
  SMid ls c d w.heap.size (w.heap.size + 1) 0 w ((w.alloc (.cells CS t1)).alloc (.cells #[.int .i64 c, .int .i64 d, .slice (some ⟨w.heap.size, 0, none⟩) ls.length ls.length] t2)).drew := by
 refine ⟨by omega, Nat.le_refl _, by omega, by simp; omega, by simp, (((Below.refl _ _).alloc (Nat.le_refl _) _).alloc (by simp) _).drew, by simp [go_sem], by simp [go_sem], by simp [go_sem], fun j _ h => by omega, fun j _ hj => ?_, fun j => by simp [go_sem]⟩
 refine (World.cell?_alloc_lt (w.alloc (.cells CS t1)) _ ⟨w.heap.size, j, none⟩ (by simp)).trans ?_
 have := news_new w CS.toList t1 w.heap.size rfl j _ (by simpa using hCS j hj)
 rw [addr_add] at this
 simpa using this
theorem smid_first2 {ls : List (List R4)} {c d : Int} {w : World} {CS : Array Value} {t1 t2 : TypeId} (hCS : ∀ j, j < ls.length → CS[j]? = some (.slice none 0 0)) :
  SMid ls c d (w.heap.size + 1) w.heap.size 0 w ((w.alloc (.cells #[.int .i64 c, .int .i64 d, .slice (some ⟨w.heap.size + 1, 0, none⟩) ls.length ls.length] t2)).alloc (.cells CS t1)).drew := by
 refine ⟨by omega, by omega, Nat.le_refl _, by simp, by simp; omega, (((Below.refl _ _).alloc (Nat.le_refl _) _).alloc (by simp) _).drew, by simp [go_sem], by simp [go_sem], by simp [go_sem], fun j _ h => by omega, fun j _ hj => ?_, fun j => by simp [go_sem]⟩
 have := news_new (w.alloc (.cells #[.int .i64 c, .int .i64 d, .slice (some ⟨w.heap.size + 1, 0, none⟩) ls.length ls.length] t2)) CS.toList t1 (w.heap.size + 1) (by simp) j _ (by simpa using hCS j hj)
 rw [addr_add] at this
 simpa using this
end Go.Proofs.YtikojiciilambaaGreat
