/- Plain law: sets of integers as canonical lists of spans; what the sweep over the ends of spans gives. No Go in sight. -/
import Derived.Below
namespace Go.Proofs.Ytamnaojheecopaa
set_option linter.unusedVariables false
set_option linter.unusedSimpArgs false

abbrev Sp := Int × Int
/-- x belongs to one of the spans. -/
def smem (s : List Sp) (x : Int) : Prop := ∃ p ∈ s, p.1 ≤ x ∧ x < p.2
instance (s : List Sp) (x : Int) : Decidable (smem s x) := by unfold smem; infer_instance
/-- Canonical: no span is empty; each ends ahead of the next, with a gap. -/
def SCan (s : List Sp) : Prop := (∀ p ∈ s, p.1 < p.2) ∧ s.Pairwise (fun p q => p.2 < q.1)
instance (s : List Sp) : Decidable (SCan s) := by unfold SCan; infer_instance

theorem smem_nil {x : Int} : ¬ smem [] x := by simp [smem]
theorem smem_cons {p : Sp} {s : List Sp} {x : Int} : smem (p :: s) x ↔ (p.1 ≤ x ∧ x < p.2) ∨ smem s x := by simp [smem]
theorem smem_append {s t : List Sp} {x : Int} : smem (s ++ t) x ↔ smem s x ∨ smem t x := by
  simp only [smem, List.mem_append]
  constructor
  · rintro ⟨p, hp | hp, h⟩
    · exact .inl ⟨p, hp, h⟩
    · exact .inr ⟨p, hp, h⟩
  · rintro (⟨p, hp, h⟩ | ⟨p, hp, h⟩)
    · exact ⟨p, .inl hp, h⟩
    · exact ⟨p, .inr hp, h⟩
theorem SCan.nil : SCan [] := by simp [SCan]
theorem SCan.tail {p : Sp} {s : List Sp} (h : SCan (p :: s)) : SCan s := ⟨fun q hq => h.1 q (by simp [hq]), (List.pairwise_cons.1 h.2).2⟩
theorem SCan.head {p : Sp} {s : List Sp} (h : SCan (p :: s)) : p.1 < p.2 := h.1 p (by simp)
theorem SCan.gt {p : Sp} {s : List Sp} {x : Int} (h : SCan (p :: s)) (hx : smem s x) : p.2 < x := by
  obtain ⟨q, hq, h1, h2⟩ := hx
  have := (List.pairwise_cons.1 h.2).1 q hq
  omega
theorem SCan.snoc {s : List Sp} {p : Sp} : SCan (s ++ [p]) ↔ SCan s ∧ p.1 < p.2 ∧ ∀ q ∈ s, q.2 < p.1 := by
  unfold SCan
  rw [List.pairwise_append]
  constructor
  · rintro ⟨h1, h2, _, h4⟩
    exact ⟨⟨fun q hq => h1 q (by simp [hq]), h2⟩, h1 p (by simp), fun q hq => h4 q hq p (by simp)⟩
  · rintro ⟨⟨h1, h2⟩, h3, h4⟩
    refine ⟨?_, h2, by simp, ?_⟩
    · intro q hq
      rcases List.mem_append.1 hq with h | h
      · exact h1 q h
      · simp at h; subst h; exact h3
    · intro a ha b hb
      simp at hb; subst hb; exact h4 a ha
/-- A canonical list is known by its integers. -/
theorem SCan.ext : ∀ {s t : List Sp}, SCan s → SCan t → (∀ x, smem s x ↔ smem t x) → s = t
  | [], [], _, _, _ => rfl
  | [], q :: t, _, ht, h => by
    have := (h q.1).2 (smem_cons.2 (.inl ⟨by omega, ht.head⟩))
    exact (smem_nil this).elim
  | p :: s, [], hs, _, h => by
    have := (h p.1).1 (smem_cons.2 (.inl ⟨by omega, hs.head⟩))
    exact (smem_nil this).elim
  | p :: s, q :: t, hs, ht, h => by
    have ps := hs.head
    have qt := ht.head
    have e1 : p.1 = q.1 := by
      have a := (h p.1).1 (smem_cons.2 (.inl ⟨by omega, ps⟩))
      have b := (h q.1).2 (smem_cons.2 (.inl ⟨by omega, qt⟩))
      rcases smem_cons.1 a with a | a <;> rcases smem_cons.1 b with b | b
      · omega
      · have := hs.gt b; omega
      · have := ht.gt a; omega
      · have := hs.gt b; have := ht.gt a; omega
    have e2 : p.2 = q.2 := by
      rcases Int.lt_trichotomy p.2 q.2 with hl | hl | hl
      · have := (h p.2).2 (smem_cons.2 (.inl ⟨by omega, hl⟩))
        rcases smem_cons.1 this with a | a
        · omega
        · have := hs.gt a; omega
      · exact hl
      · have := (h q.2).1 (smem_cons.2 (.inl ⟨by omega, hl⟩))
        rcases smem_cons.1 this with a | a
        · omega
        · have := ht.gt a; omega
    have e : p = q := Prod.ext e1 e2
    subst e
    have : s = t := SCan.ext hs.tail ht.tail fun x => by
      constructor
      · intro hx
        have g := hs.gt hx
        rcases smem_cons.1 ((h x).1 (smem_cons.2 (.inr hx))) with a | a
        · omega
        · exact a
      · intro hx
        have g := ht.gt hx
        rcases smem_cons.1 ((h x).2 (smem_cons.2 (.inr hx))) with a | a
        · omega
        · exact a
    rw [this]

/-! ### One more span at the end, joined to the last one if it begins where that ends -/
def sext (out : List Sp) (last e : Int) : List Sp :=
  match out.getLast? with
  | some q => if q.2 = last then out.dropLast ++ [(q.1, e)] else out ++ [(last, e)]
  | none => out ++ [(last, e)]
theorem sext_ok {out : List Sp} {last e : Int} (h : SCan out) (hl : ∀ q ∈ out, q.2 ≤ last) (he : last < e) :
    SCan (sext out last e) ∧ (∀ q ∈ sext out last e, q.2 ≤ e) ∧ ∀ x, smem (sext out last e) x ↔ smem out x ∨ (last ≤ x ∧ x < e) := by
  unfold sext
  cases hg : out.getLast? with
  | none =>
    have : out = [] := List.getLast?_eq_none_iff.1 hg
    subst this
    refine ⟨by simp [SCan, he], by simp, fun x => ?_⟩
    simp [smem]
  | some q =>
    obtain ⟨o, rfl⟩ := List.getLast?_eq_some_iff.1 hg
    obtain ⟨h1, h2, h3⟩ := SCan.snoc.1 h
    have hq := hl q (by simp)
    simp only [List.dropLast_concat]
    by_cases hb : q.2 = last
    · rw [if_pos hb]
      refine ⟨SCan.snoc.2 ⟨h1, by simp; omega, fun r hr => h3 r hr⟩, ?_, fun x => ?_⟩
      · intro r hr
        rcases List.mem_append.1 hr with hr | hr
        · have := hl r (by simp [hr]); omega
        · simp at hr; subst hr; simp
      · rw [smem_append, smem_append]
        simp only [smem_cons, smem_nil, or_false]
        constructor
        · rintro (a | a)
          · exact .inl (.inl a)
          · by_cases hx : x < q.2
            · exact .inl (.inr ⟨a.1, hx⟩)
            · exact .inr ⟨by omega, a.2⟩
        · rintro ((a | a) | a)
          · exact .inl a
          · exact .inr ⟨a.1, by omega⟩
          · exact .inr ⟨by omega, a.2⟩
    · rw [if_neg hb]
      refine ⟨SCan.snoc.2 ⟨h, he, fun r hr => ?_⟩, ?_, fun x => ?_⟩
      · rcases List.mem_append.1 hr with hr' | hr'
        · have := h3 r hr'; show r.2 < last; omega
        · simp at hr'; subst hr'; show r.2 < last; omega
      · intro r hr
        rcases List.mem_append.1 hr with hr | hr
        · have := hl r hr; omega
        · simp at hr; subst hr; simp
      · rw [smem_append (t := [(last, e)])]
        simp only [smem_cons, smem_nil, or_false]

/-! ### The ends of spans, and how many are open -/
abbrev En := Int × Int × Int
def evs (i : Int) : List Sp → List En
  | [] => []
  | p :: s => (p.1, i, 1) :: (p.2, i, -1) :: evs i s
def cnt (i x : Int) : List En → Int
  | [] => 0
  | e :: r => (if e.2.1 = i ∧ e.1 ≤ x then e.2.2 else 0) + cnt i x r
theorem cnt_append (i x : Int) : ∀ (A B : List En), cnt i x (A ++ B) = cnt i x A + cnt i x B
  | [], B => by simp [cnt]
  | e :: A, B => by simp only [List.cons_append, cnt, cnt_append i x A B]; omega
theorem cnt_perm (i x : Int) {A B : List En} (h : A.Perm B) : cnt i x A = cnt i x B := by
  induction h with
  | nil => rfl
  | cons e _ ih => simp only [cnt, ih]
  | swap a b l => simp only [cnt]; omega
  | trans _ _ h1 h2 => exact h1.trans h2
theorem cnt_far (i x : Int) : ∀ (A : List En), (∀ e ∈ A, x < e.1) → cnt i x A = 0
  | [], _ => rfl
  | e :: A, h => by
    have h1 := h e (by simp)
    simp only [cnt, cnt_far i x A (fun e he => h e (by simp [he]))]
    rw [if_neg (by omega)]; rfl
theorem cnt_near (i x y : Int) (hxy : y ≤ x) : ∀ (A : List En), (∀ e ∈ A, e.1 ≤ y) → cnt i x A = cnt i y A
  | [], _ => rfl
  | e :: A, h => by
    have h1 := h e (by simp)
    simp only [cnt, cnt_near i x y hxy A (fun e he => h e (by simp [he]))]
    by_cases hi : e.2.1 = i
    · rw [if_pos ⟨hi, by omega⟩, if_pos ⟨hi, h1⟩]
    · rw [if_neg (fun g => hi g.1), if_neg (fun g => hi g.1)]
theorem cnt_evs_other {i j : Int} (hij : i ≠ j) (x : Int) : ∀ (s : List Sp), cnt j x (evs i s) = 0
  | [] => rfl
  | p :: s => by simp [evs, cnt, hij, cnt_evs_other hij x s]
theorem cnt_evs (i x : Int) : ∀ (s : List Sp), (∀ p ∈ s, p.1 < p.2) → 0 ≤ cnt i x (evs i s) ∧ (0 < cnt i x (evs i s) ↔ smem s x)
  | [], _ => by simp [evs, cnt, smem_nil]
  | p :: s, h => by
    have hp := h p (by simp)
    obtain ⟨h1, h2⟩ := cnt_evs i x s (fun q hq => h q (by simp [hq]))
    simp only [evs, cnt, true_and, smem_cons, ← h2]
    by_cases a : p.1 ≤ x <;> by_cases b : p.2 ≤ x <;> simp [a, b] <;> omega
theorem cnt_evs_end (i x : Int) : ∀ (s : List Sp), (∀ e ∈ evs i s, e.1 ≤ x) → cnt i x (evs i s) = 0
  | [], _ => rfl
  | p :: s, h => by
    have h1 : p.1 ≤ x := h (p.1, i, 1) (by simp [evs])
    have h2 : p.2 ≤ x := h (p.2, i, -1) (by simp [evs])
    have h3 := cnt_evs_end i x s (fun e he => h e (by simp [evs, he]))
    simp [evs, cnt, h1, h2, h3]

/-- The state of the sweep. -/
structure JS where
  o0 : Int
  o1 : Int
  out : List Sp
  last : Int
  inn : Bool
def js0 : JS := ⟨0, 0, [], 0, false⟩
def jclose (st : JS) (e : Int) : List Sp := if st.inn = true ∧ st.last ≠ e then sext st.out st.last e else st.out
def jstep (h : Bool → Bool → Bool) (st : JS) (e : En) : JS :=
  let o0 := if e.2.1 = 0 then st.o0 + e.2.2 else st.o0
  let o1 := if e.2.1 = 1 then st.o1 + e.2.2 else st.o1
  ⟨o0, o1, jclose st e.1, e.1, h (decide (0 < o0)) (decide (0 < o1))⟩
def jfold (h : Bool → Bool → Bool) (E : List En) : JS := E.foldl (jstep h) js0

def jH (h : Bool → Bool → Bool) (E : List En) (x : Int) : Bool := h (decide (0 < cnt 0 x E)) (decide (0 < cnt 1 x E))
structure JInv (h : Bool → Bool → Bool) (E P : List En) (st : JS) : Prop where
  can : SCan st.out
  ends : ∀ q ∈ st.out, q.2 ≤ st.last
  near : ∀ e ∈ P, e.1 ≤ st.last
  c0 : st.o0 = cnt 0 st.last P
  c1 : st.o1 = cnt 1 st.last P
  inn : st.inn = h (decide (0 < st.o0)) (decide (0 < st.o1))
  mem : ∀ x, smem st.out x ↔ x < st.last ∧ jH h E x = true

theorem jinv_step {h : Bool → Bool → Bool} {E P R : List En} {e : En} {st : JS} (hE : E = P ++ (e :: R)) (hs : E.Pairwise (fun a b => a.1 ≤ b.1)) (hle : st.last ≤ e.1) (hI : JInv h E P st) : JInv h E (P ++ [e]) (jstep h st e) := by
  have hR : ∀ r ∈ e :: R, e.1 ≤ r.1 := by
    rw [hE, List.pairwise_append] at hs
    intro r hr
    rcases List.mem_cons.1 hr with rfl | hr
    · omega
    · exact (List.pairwise_cons.1 hs.2.1).1 r hr
  have hmid : ∀ x, st.last ≤ x → x < e.1 → jH h E x = st.inn := by
    intro x h1 h2
    have k : ∀ i, cnt i x E = cnt i st.last P := fun i => by
      rw [hE, cnt_append, cnt_far i x (e :: R) (fun r hr => by have := hR r hr; omega), cnt_near i x st.last h1 P hI.near]; omega
    unfold jH
    rw [k, k, hI.inn, hI.c0, hI.c1]
  have hnear : ∀ r ∈ P ++ [e], r.1 ≤ e.1 := by
    intro r hr
    rcases List.mem_append.1 hr with hr | hr
    · have := hI.near r hr; omega
    · simp at hr; subst hr; omega
  have hc : ∀ i, cnt i e.1 (P ++ [e]) = cnt i st.last P + (if e.2.1 = i then e.2.2 else 0) := by
    intro i
    rw [cnt_append, cnt_near i e.1 st.last hle P hI.near]
    simp [cnt]
  have hcl : SCan (jclose st e.1) ∧ (∀ q ∈ jclose st e.1, q.2 ≤ e.1) ∧ ∀ x, smem (jclose st e.1) x ↔ x < e.1 ∧ jH h E x = true := by
    unfold jclose
    by_cases hb : st.inn = true ∧ st.last ≠ e.1
    · rw [if_pos hb]
      obtain ⟨a1, a2, a3⟩ := sext_ok hI.can hI.ends (show st.last < e.1 by omega)
      refine ⟨a1, a2, fun x => ?_⟩
      rw [a3, hI.mem]
      constructor
      · rintro (⟨b1, b2⟩ | ⟨b1, b2⟩)
        · exact ⟨by omega, b2⟩
        · exact ⟨b2, by rw [hmid x b1 b2]; exact hb.1⟩
      · rintro ⟨b1, b2⟩
        by_cases b3 : x < st.last
        · exact .inl ⟨b3, b2⟩
        · exact .inr ⟨by omega, b1⟩
    · rw [if_neg hb]
      refine ⟨hI.can, fun q hq => by have := hI.ends q hq; omega, fun x => ?_⟩
      rw [hI.mem]
      constructor
      · rintro ⟨b1, b2⟩
        exact ⟨by omega, b2⟩
      · rintro ⟨b1, b2⟩
        refine ⟨?_, b2⟩
        rcases Int.lt_or_le x st.last with b3 | b3
        · exact b3
        · exfalso
          rw [hmid x b3 b1] at b2
          exact hb ⟨b2, by omega⟩
  refine ⟨hcl.1, hcl.2.1, hnear, ?_, ?_, rfl, hcl.2.2⟩
  · show (if e.2.1 = 0 then st.o0 + e.2.2 else st.o0) = cnt 0 e.1 (P ++ [e])
    rw [hc, hI.c0]; split <;> omega
  · show (if e.2.1 = 1 then st.o1 + e.2.2 else st.o1) = cnt 1 e.1 (P ++ [e])
    rw [hc, hI.c1]; split <;> omega

theorem jinv_first {h : Bool → Bool → Bool} (h0 : h false false = false) {E R : List En} {e : En} (hE : E = e :: R) (hs : E.Pairwise (fun a b => a.1 ≤ b.1)) : JInv h E [e] (jstep h js0 e) := by
  have hR : ∀ r ∈ E, e.1 ≤ r.1 := by
    rw [hE] at hs ⊢
    intro r hr
    rcases List.mem_cons.1 hr with rfl | hr
    · omega
    · exact (List.pairwise_cons.1 hs).1 r hr
  refine ⟨?_, ?_, by simp [jstep], ?_, ?_, rfl, fun x => ?_⟩
  · simp [jstep, jclose, js0, SCan.nil]
  · simp [jstep, jclose, js0]
  · simp [jstep, js0, cnt]
  · simp [jstep, js0, cnt]
  · simp only [jstep, jclose, js0, Bool.false_eq_true, false_and, if_false]
    constructor
    · exact fun g => (smem_nil g).elim
    · rintro ⟨b1, b2⟩
      exfalso
      unfold jH at b2
      rw [cnt_far 0 x E (fun r hr => by have := hR r hr; omega), cnt_far 1 x E (fun r hr => by have := hR r hr; omega)] at b2
      simp [h0] at b2
theorem jinv_all {h : Bool → Bool → Bool} {E : List En} (hs : E.Pairwise (fun a b => a.1 ≤ b.1)) : ∀ (R P : List En) (st : JS), E = P ++ R → P ≠ [] → JInv h E P st → (∃ e, P.getLast? = some e ∧ st.last = e.1) → JInv h E E (R.foldl (jstep h) st)
  | [], P, st, hE, _, hI, _ => by rw [List.append_nil] at hE; subst hE; exact hI
  | e :: R, P, st, hE, hP, hI, hl => by
    have hle : st.last ≤ e.1 := by
      obtain ⟨q, hq, hq'⟩ := hl
      obtain ⟨o, rfl⟩ := List.getLast?_eq_some_iff.1 hq
      rw [hE, List.pairwise_append] at hs
      rw [hq']
      exact hs.2.2 q (by simp) e (by simp)
    exact jinv_all hs R (P ++ [e]) (jstep h st e) (by rw [hE]; simp) (by simp) (jinv_step hE hs hle hI) ⟨e, by simp, rfl⟩

/-- **The sweep over the ends of two lists of spans, in order, gives the canonical list of the integers for which the decision holds.** -/
theorem jfold_ok {h : Bool → Bool → Bool} (h0 : h false false = false) {a b : List Sp} (ha : ∀ p ∈ a, p.1 < p.2) (hb : ∀ p ∈ b, p.1 < p.2) {E : List En} (hp : E.Perm (evs 0 a ++ evs 1 b)) (hs : E.Pairwise (fun a b => a.1 ≤ b.1)) :
    SCan (jfold h E).out ∧ ∀ x, smem (jfold h E).out x ↔ h (decide (smem a x)) (decide (smem b x)) = true := by
  have hH : ∀ x, jH h E x = h (decide (smem a x)) (decide (smem b x)) := by
    intro x
    unfold jH
    have e0 : cnt 0 x E = cnt 0 x (evs 0 a) := by rw [cnt_perm 0 x hp, cnt_append, cnt_evs_other (by omega) x b]; omega
    have e1 : cnt 1 x E = cnt 1 x (evs 1 b) := by rw [cnt_perm 1 x hp, cnt_append, cnt_evs_other (by omega) x a]; omega
    rw [e0, e1]
    congr 1
    · exact decide_eq_decide.2 (cnt_evs 0 x a ha).2
    · exact decide_eq_decide.2 (cnt_evs 1 x b hb).2
  cases hE : E with
  | nil =>
    refine ⟨SCan.nil, fun x => ?_⟩
    rw [← hH, hE]
    constructor
    · exact fun g => (smem_nil g).elim
    · intro g
      simp [jH, cnt, h0] at g
  | cons e R =>
    have hI := jinv_all hs R [e] (jstep h js0 e) (by rw [hE]; rfl) (by simp) (jinv_first h0 hE hs) ⟨e, by simp, rfl⟩
    have hI' : JInv h E E (jfold h E) := by
      have : jfold h E = R.foldl (jstep h) (jstep h js0 e) := by rw [hE]; rfl
      rw [this]; exact hI
    rw [← hE]
    refine ⟨hI'.can, fun x => ?_⟩
    rw [hI'.mem, hH]
    constructor
    · exact fun g => g.2
    · intro g
      refine ⟨?_, g⟩
      rcases Int.lt_or_le x (jfold h E).last with hx | hx
      · exact hx
      · exfalso
        rw [← hH] at g
        unfold jH at g
        have z : ∀ e ∈ evs 0 a ++ evs 1 b, e.1 ≤ x := fun e he => by have := hI'.near e (hp.mem_iff.2 he); omega
        rw [cnt_perm 0 x hp, cnt_perm 1 x hp, cnt_append, cnt_append, cnt_evs_other (i := 1) (j := 0) (by omega) x b, cnt_evs_other (i := 0) (j := 1) (by omega) x a,
          cnt_evs_end 0 x a (fun e he => z e (by simp [he])), cnt_evs_end 1 x b (fun e he => z e (by simp [he]))] at g
        simp [h0] at g
end Go.Proofs.Ytamnaojheecopaa
