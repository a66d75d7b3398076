/- Texts laid together: MSpan, MRegion, MStr, MStrB, MCan, MStrC, MStrD, MStrE, MCuts, MBuild, Kit, RegA. Lemmas for the statements of this seat; no condition. -/
import Derived.Below
import Derived.Lib.SlicesCompact
import Derived.Test.YtikojiciilambaaGreatRows
import Derived.WalkKit
import Derived.WalkSpells
import Derived.WalkLawsBesides
import Derived.Deep.QuietTactic
import Derived.BigQuiet
import Derived.IntWalk
import Derived.Lib.Hide
import Derived.Deep.RegionHeld3
import Derived.Outline

/- Plain law: sets of integers as canonical lists of spans; what the sweep over the ends of spans gives. No Go in sight. -/
namespace Go.Proofs.YtikojiciilambaaGreat
set_option linter.unusedVariables false
set_option linter.unusedSimpArgs false
abbrev Sp := Int × Int
def smem (s : List Sp) (x : Int) : Prop := ∃ p ∈ s, p.1 ≤ x ∧ x < p.2
instance (s : List Sp) (x : Int) : Decidable (smem s x) := by unfold smem; infer_instance
def SCan (s : List Sp) : Prop := (∀ p ∈ s, p.1 < p.2) ∧ s.Pairwise (fun p q => p.2 < q.1)
instance (s : List Sp) : Decidable (SCan s) := by unfold SCan; infer_instance
theorem smem_nil {x : Int} : ¬ smem [] x := by simp [smem]
theorem smem_cons {p : Sp} {s : List Sp} {x : Int} : smem (p :: s) x ↔ (p.1 ≤ x ∧ x < p.2) ∨ smem s x := by simp [smem]
theorem smem_append {s t : List Sp} {x : Int} : smem (s ++ t) x ↔ smem s x ∨ smem t x := by
 simp only [smem, List.mem_append]
 constructor
 ·rintro ⟨p, hp | hp, h⟩
  ·exact .inl ⟨p, hp, h⟩
  ·exact .inr ⟨p, hp, h⟩
 ·rintro (⟨p, hp, h⟩ | ⟨p, hp, h⟩)
  ·exact ⟨p, .inl hp, h⟩
  ·exact ⟨p, .inr hp, h⟩
theorem SCan.nil : SCan [] := by simp [SCan]
theorem SCan.tail {p : Sp} {s : List Sp} (h : SCan (p :: s)) : SCan s := ⟨fun q hq => h.1 q (by simp [hq]), (List.pairwise_cons.1 h.2).2⟩
theorem SCan.head {p : Sp} {s : List Sp} (h : SCan (p :: s)) : p.1 < p.2 := h.1 p (by simp)
theorem SCan.gt {p : Sp} {s : List Sp} {x : Int} (h : SCan (p :: s)) (hx : smem s x) : p.2 < x := by
 obtain ⟨q, hq, h1, h2⟩ := hx
 have := (List.pairwise_cons.1 h.2).1 q hq
 omega
theorem SCan.snoc {s : List Sp} {p : Sp} : SCan (s ++ [p]) ↔ SCan s ∧ p.1 < p.2 ∧ ∀ q ∈ s, q.2 < p.1 := by
 unfold SCan
 rw [List.pairwise_append]
 constructor
 ·rintro ⟨h1, h2, _, h4⟩
  exact ⟨⟨fun q hq => h1 q (by simp [hq]), h2⟩, h1 p (by simp), fun q hq => h4 q hq p (by simp)⟩
 ·rintro ⟨⟨h1, h2⟩, h3, h4⟩
  refine ⟨?_, h2, by simp, ?_⟩
  ·intro q hq
   rcases List.mem_append.1 hq with h | h
   ·exact h1 q h
   ·simp at h; subst h; exact h3
  ·intro a ha b hb
   simp at hb; subst hb; exact h4 a ha
theorem SCan.ext : ∀ {s t : List Sp}, SCan s → SCan t → (∀ x, smem s x ↔ smem t x) → s = t
 | [], [], _, _, _ => rfl
 | [], q :: t, _, ht, h => by
  have := (h q.1).2 (smem_cons.2 (.inl ⟨by omega, ht.head⟩))
  exact (smem_nil this).elim
 | p :: s, [], hs, _, h => by
  have := (h p.1).1 (smem_cons.2 (.inl ⟨by omega, hs.head⟩))
  exact (smem_nil this).elim
 | p :: s, q :: t, hs, ht, h => by
  have ps := hs.head
  have qt := ht.head
  have e1 : p.1 = q.1 := by
   have a := (h p.1).1 (smem_cons.2 (.inl ⟨by omega, ps⟩))
   have b := (h q.1).2 (smem_cons.2 (.inl ⟨by omega, qt⟩))
   rcases smem_cons.1 a with a | a <;> rcases smem_cons.1 b with b | b
   ·omega
   ·have := hs.gt b; omega
   ·have := ht.gt a; omega
   ·have := hs.gt b; have := ht.gt a; omega
  have e2 : p.2 = q.2 := by
   rcases Int.lt_trichotomy p.2 q.2 with hl | hl | hl
   ·have := (h p.2).2 (smem_cons.2 (.inl ⟨by omega, hl⟩))
    rcases smem_cons.1 this with a | a
    ·omega
    ·have := hs.gt a; omega
   ·exact hl
   ·have := (h q.2).1 (smem_cons.2 (.inl ⟨by omega, hl⟩))
    rcases smem_cons.1 this with a | a
    ·omega
    ·have := ht.gt a; omega
  have e : p = q := Prod.ext e1 e2
  subst e
  have : s = t := SCan.ext hs.tail ht.tail fun x => by
   constructor
   ·intro hx
    have g := hs.gt hx
    rcases smem_cons.1 ((h x).1 (smem_cons.2 (.inr hx))) with a | a
    ·omega
    ·exact a
   ·intro hx
    have g := ht.gt hx
    rcases smem_cons.1 ((h x).2 (smem_cons.2 (.inr hx))) with a | a
    ·omega
    ·exact a
  rw [this]
def sext (out : List Sp) (last e : Int) : List Sp :=
 match out.getLast? with
 | some q => if q.2 = last then out.dropLast ++ [(q.1, e)] else out ++ [(last, e)]
 | none => out ++ [(last, e)]
theorem sext_ok {out : List Sp} {last e : Int} (h : SCan out) (hl : ∀ q ∈ out, q.2 ≤ last) (he : last < e) :
  SCan (sext out last e) ∧ (∀ q ∈ sext out last e, q.2 ≤ e) ∧ ∀ x, smem (sext out last e) x ↔ smem out x ∨ (last ≤ x ∧ x < e) := by
 unfold sext
 cases hg : out.getLast? with
 | none =>
  have : out = [] := List.getLast?_eq_none_iff.1 hg
  subst this
  refine ⟨by simp [SCan, he], by simp, fun x => ?_⟩
  simp [smem]
 | some q =>
  obtain ⟨o, rfl⟩ := List.getLast?_eq_some_iff.1 hg
  obtain ⟨h1, h2, h3⟩ := SCan.snoc.1 h
  have hq := hl q (by simp)
  simp only [List.dropLast_concat]
  by_cases hb : q.2 = last
  ·rw [if_pos hb]
   refine ⟨SCan.snoc.2 ⟨h1, by simp; omega, fun r hr => h3 r hr⟩, ?_, fun x => ?_⟩
   ·intro r hr
    rcases List.mem_append.1 hr with hr | hr
    ·have := hl r (by simp [hr]); omega
    ·simp at hr; subst hr; simp
   ·rw [smem_append, smem_append]
    simp only [smem_cons, smem_nil, or_false]
    constructor
    ·rintro (a | a)
     ·exact .inl (.inl a)
     ·by_cases hx : x < q.2
      ·exact .inl (.inr ⟨a.1, hx⟩)
      ·exact .inr ⟨by omega, a.2⟩
    ·rintro ((a | a) | a)
     ·exact .inl a
     ·exact .inr ⟨a.1, by omega⟩
     ·exact .inr ⟨by omega, a.2⟩
  ·rw [if_neg hb]
   refine ⟨SCan.snoc.2 ⟨h, he, fun r hr => ?_⟩, ?_, fun x => ?_⟩
   ·rcases List.mem_append.1 hr with hr' | hr'
    ·have := h3 r hr'; show r.2 < last; omega
    ·simp at hr'; subst hr'; show r.2 < last; omega
   ·intro r hr
    rcases List.mem_append.1 hr with hr | hr
    ·have := hl r hr; omega
    ·simp at hr; subst hr; simp
   ·rw [smem_append (t := [(last, e)])]
    simp only [smem_cons, smem_nil, or_false]
abbrev En := Int × Int × Int
def evs (i : Int) : List Sp → List En
 | [] => []
 | p :: s => (p.1, i, 1) :: (p.2, i, -1) :: evs i s
def cnt (i x : Int) : List En → Int
 | [] => 0
 | e :: r => (if e.2.1 = i ∧ e.1 ≤ x then e.2.2 else 0) + cnt i x r
theorem cnt_append (i x : Int) : ∀ (A B : List En), cnt i x (A ++ B) = cnt i x A + cnt i x B
 | [], B => by simp [cnt]
 | e :: A, B => by simp only [List.cons_append, cnt, cnt_append i x A B]; omega
theorem cnt_perm (i x : Int) {A B : List En} (h : A.Perm B) : cnt i x A = cnt i x B := by
 induction h with
 | nil => rfl
 | cons e _ ih => simp only [cnt, ih]
 | swap a b l => simp only [cnt]; omega
 | trans _ _ h1 h2 => exact h1.trans h2
theorem cnt_far (i x : Int) : ∀ (A : List En), (∀ e ∈ A, x < e.1) → cnt i x A = 0
 | [], _ => rfl
 | e :: A, h => by
  have h1 := h e (by simp)
  simp only [cnt, cnt_far i x A (fun e he => h e (by simp [he]))]
  rw [if_neg (by omega)]; rfl
theorem cnt_near (i x y : Int) (hxy : y ≤ x) : ∀ (A : List En), (∀ e ∈ A, e.1 ≤ y) → cnt i x A = cnt i y A
 | [], _ => rfl
 | e :: A, h => by
  have h1 := h e (by simp)
  simp only [cnt, cnt_near i x y hxy A (fun e he => h e (by simp [he]))]
  by_cases hi : e.2.1 = i
  ·rw [if_pos ⟨hi, by omega⟩, if_pos ⟨hi, h1⟩]
  ·rw [if_neg (fun g => hi g.1), if_neg (fun g => hi g.1)]
theorem cnt_evs_other {i j : Int} (hij : i ≠ j) (x : Int) : ∀ (s : List Sp), cnt j x (evs i s) = 0
 | [] => rfl
 | p :: s => by simp [evs, cnt, hij, cnt_evs_other hij x s]
theorem cnt_evs (i x : Int) : ∀ (s : List Sp), (∀ p ∈ s, p.1 < p.2) → 0 ≤ cnt i x (evs i s) ∧ (0 < cnt i x (evs i s) ↔ smem s x)
 | [], _ => by simp [evs, cnt, smem_nil]
 | p :: s, h => by
  have hp := h p (by simp)
  obtain ⟨h1, h2⟩ := cnt_evs i x s (fun q hq => h q (by simp [hq]))
  simp only [evs, cnt, true_and, smem_cons, ← h2]
  by_cases a : p.1 ≤ x <;> by_cases b : p.2 ≤ x <;> simp [a, b] <;> omega
theorem cnt_evs_end (i x : Int) : ∀ (s : List Sp), (∀ e ∈ evs i s, e.1 ≤ x) → cnt i x (evs i s) = 0
 | [], _ => rfl
 | p :: s, h => by
  have h1 : p.1 ≤ x := h (p.1, i, 1) (by simp [evs])
  have h2 : p.2 ≤ x := h (p.2, i, -1) (by simp [evs])
  have h3 := cnt_evs_end i x s (fun e he => h e (by simp [evs, he]))
  simp [evs, cnt, h1, h2, h3]
structure JS where
 o0 : Int
 o1 : Int
 out : List Sp
 last : Int
 inn : Bool
def js0 : JS := ⟨0, 0, [], 0, false⟩
def jclose (st : JS) (e : Int) : List Sp := if st.inn = true ∧ st.last ≠ e then sext st.out st.last e else st.out
def jstep (h : Bool → Bool → Bool) (st : JS) (e : En) : JS :=
 let o0 := if e.2.1 = 0 then st.o0 + e.2.2 else st.o0
 let o1 := if e.2.1 = 1 then st.o1 + e.2.2 else st.o1
 ⟨o0, o1, jclose st e.1, e.1, h (decide (0 < o0)) (decide (0 < o1))⟩
def jfold (h : Bool → Bool → Bool) (E : List En) : JS := E.foldl (jstep h) js0
def jH (h : Bool → Bool → Bool) (E : List En) (x : Int) : Bool := h (decide (0 < cnt 0 x E)) (decide (0 < cnt 1 x E))
structure JInv (h : Bool → Bool → Bool) (E P : List En) (st : JS) : Prop where
 can : SCan st.out
 ends : ∀ q ∈ st.out, q.2 ≤ st.last
 near : ∀ e ∈ P, e.1 ≤ st.last
 c0 : st.o0 = cnt 0 st.last P
 c1 : st.o1 = cnt 1 st.last P
 inn : st.inn = h (decide (0 < st.o0)) (decide (0 < st.o1))
 mem : ∀ x, smem st.out x ↔ x < st.last ∧ jH h E x = true
theorem jinv_step {h : Bool → Bool → Bool} {E P R : List En} {e : En} {st : JS} (hE : E = P ++ (e :: R)) (hs : E.Pairwise (fun a b => a.1 ≤ b.1)) (hle : st.last ≤ e.1) (hI : JInv h E P st) : JInv h E (P ++ [e]) (jstep h st e) := by
 have hR : ∀ r ∈ e :: R, e.1 ≤ r.1 := by
  rw [hE, List.pairwise_append] at hs
  intro r hr
  rcases List.mem_cons.1 hr with rfl | hr
  ·omega
  ·exact (List.pairwise_cons.1 hs.2.1).1 r hr
 have hmid : ∀ x, st.last ≤ x → x < e.1 → jH h E x = st.inn := by
  intro x h1 h2
  have k : ∀ i, cnt i x E = cnt i st.last P := fun i => by
   rw [hE, cnt_append, cnt_far i x (e :: R) (fun r hr => by have := hR r hr; omega), cnt_near i x st.last h1 P hI.near]; omega
  unfold jH
  rw [k, k, hI.inn, hI.c0, hI.c1]
 have hnear : ∀ r ∈ P ++ [e], r.1 ≤ e.1 := by
  intro r hr
  rcases List.mem_append.1 hr with hr | hr
  ·have := hI.near r hr; omega
  ·simp at hr; subst hr; omega
 have hc : ∀ i, cnt i e.1 (P ++ [e]) = cnt i st.last P + (if e.2.1 = i then e.2.2 else 0) := by
  intro i
  rw [cnt_append, cnt_near i e.1 st.last hle P hI.near]
  simp [cnt]
 have hcl : SCan (jclose st e.1) ∧ (∀ q ∈ jclose st e.1, q.2 ≤ e.1) ∧ ∀ x, smem (jclose st e.1) x ↔ x < e.1 ∧ jH h E x = true := by
  unfold jclose
  by_cases hb : st.inn = true ∧ st.last ≠ e.1
  ·rw [if_pos hb]
   obtain ⟨a1, a2, a3⟩ := sext_ok hI.can hI.ends (show st.last < e.1 by omega)
   refine ⟨a1, a2, fun x => ?_⟩
   rw [a3, hI.mem]
   constructor
   ·rintro (⟨b1, b2⟩ | ⟨b1, b2⟩)
    ·exact ⟨by omega, b2⟩
    ·exact ⟨b2, by rw [hmid x b1 b2]; exact hb.1⟩
   ·rintro ⟨b1, b2⟩
    by_cases b3 : x < st.last
    ·exact .inl ⟨b3, b2⟩
    ·exact .inr ⟨by omega, b1⟩
  ·rw [if_neg hb]
   refine ⟨hI.can, fun q hq => by have := hI.ends q hq; omega, fun x => ?_⟩
   rw [hI.mem]
   constructor
   ·rintro ⟨b1, b2⟩
    exact ⟨by omega, b2⟩
   ·rintro ⟨b1, b2⟩
    refine ⟨?_, b2⟩
    rcases Int.lt_or_le x st.last with b3 | b3
    ·exact b3
    ·exfalso
     rw [hmid x b3 b1] at b2
     exact hb ⟨b2, by omega⟩
 refine ⟨hcl.1, hcl.2.1, hnear, ?_, ?_, rfl, hcl.2.2⟩
 ·show (if e.2.1 = 0 then st.o0 + e.2.2 else st.o0) = cnt 0 e.1 (P ++ [e])
  rw [hc, hI.c0]; split <;> omega
 ·show (if e.2.1 = 1 then st.o1 + e.2.2 else st.o1) = cnt 1 e.1 (P ++ [e])
  rw [hc, hI.c1]; split <;> omega
theorem jinv_first {h : Bool → Bool → Bool} (h0 : h false false = false) {E R : List En} {e : En} (hE : E = e :: R) (hs : E.Pairwise (fun a b => a.1 ≤ b.1)) : JInv h E [e] (jstep h js0 e) := by
 have hR : ∀ r ∈ E, e.1 ≤ r.1 := by
  rw [hE] at hs ⊢
  intro r hr
  rcases List.mem_cons.1 hr with rfl | hr
  ·omega
  ·exact (List.pairwise_cons.1 hs).1 r hr
 refine ⟨?_, ?_, by simp [jstep], ?_, ?_, rfl, fun x => ?_⟩
 ·simp [jstep, jclose, js0, SCan.nil]
 ·simp [jstep, jclose, js0]
 ·simp [jstep, js0, cnt]
 ·simp [jstep, js0, cnt]
 ·simp only [jstep, jclose, js0, Bool.false_eq_true, false_and, if_false]
  constructor
  ·exact fun g => (smem_nil g).elim
  ·rintro ⟨b1, b2⟩
   exfalso
   unfold jH at b2
   rw [cnt_far 0 x E (fun r hr => by have := hR r hr; omega), cnt_far 1 x E (fun r hr => by have := hR r hr; omega)] at b2
   simp [h0] at b2
theorem jinv_all {h : Bool → Bool → Bool} {E : List En} (hs : E.Pairwise (fun a b => a.1 ≤ b.1)) : ∀ (R P : List En) (st : JS), E = P ++ R → P ≠ [] → JInv h E P st → (∃ e, P.getLast? = some e ∧ st.last = e.1) → JInv h E E (R.foldl (jstep h) st)
 | [], P, st, hE, _, hI, _ => by rw [List.append_nil] at hE; subst hE; exact hI
 | e :: R, P, st, hE, hP, hI, hl => by
  have hle : st.last ≤ e.1 := by
   obtain ⟨q, hq, hq'⟩ := hl
   obtain ⟨o, rfl⟩ := List.getLast?_eq_some_iff.1 hq
   rw [hE, List.pairwise_append] at hs
   rw [hq']
   exact hs.2.2 q (by simp) e (by simp)
  exact jinv_all hs R (P ++ [e]) (jstep h st e) (by rw [hE]; simp) (by simp) (jinv_step hE hs hle hI) ⟨e, by simp, rfl⟩
theorem jfold_ok {h : Bool → Bool → Bool} (h0 : h false false = false) {a b : List Sp} (ha : ∀ p ∈ a, p.1 < p.2) (hb : ∀ p ∈ b, p.1 < p.2) {E : List En} (hp : E.Perm (evs 0 a ++ evs 1 b)) (hs : E.Pairwise (fun a b => a.1 ≤ b.1)) :
  SCan (jfold h E).out ∧ ∀ x, smem (jfold h E).out x ↔ h (decide (smem a x)) (decide (smem b x)) = true := by
 have hH : ∀ x, jH h E x = h (decide (smem a x)) (decide (smem b x)) := by
  intro x
  unfold jH
  have e0 : cnt 0 x E = cnt 0 x (evs 0 a) := by rw [cnt_perm 0 x hp, cnt_append, cnt_evs_other (by omega) x b]; omega
  have e1 : cnt 1 x E = cnt 1 x (evs 1 b) := by rw [cnt_perm 1 x hp, cnt_append, cnt_evs_other (by omega) x a]; omega
  rw [e0, e1]
  congr 1
  ·exact decide_eq_decide.2 (cnt_evs 0 x a ha).2
  ·exact decide_eq_decide.2 (cnt_evs 1 x b hb).2
 cases hE : E with
 | nil =>
  refine ⟨SCan.nil, fun x => ?_⟩
  rw [← hH, hE]
  constructor
  ·exact fun g => (smem_nil g).elim
  ·intro g
   simp [jH, cnt, h0] at g
 | cons e R =>
  have hI := jinv_all hs R [e] (jstep h js0 e) (by rw [hE]; rfl) (by simp) (jinv_first h0 hE hs) ⟨e, by simp, rfl⟩
  have hI' : JInv h E E (jfold h E) := by
   have : jfold h E = R.foldl (jstep h) (jstep h js0 e) := by rw [hE]; rfl
   rw [this]; exact hI
  rw [← hE]
  refine ⟨hI'.can, fun x => ?_⟩
  rw [hI'.mem, hH]
  constructor
  ·exact fun g => g.2
  ·intro g
   refine ⟨?_, g⟩
   rcases Int.lt_or_le x (jfold h E).last with hx | hx
   ·exact hx
   ·exfalso
    rw [← hH] at g
    unfold jH at g
    have z : ∀ e ∈ evs 0 a ++ evs 1 b, e.1 ≤ x := fun e he => by have := hI'.near e (hp.mem_iff.2 he); omega
    rw [cnt_perm 0 x hp, cnt_perm 1 x hp, cnt_append, cnt_append, cnt_evs_other (i := 1) (j := 0) (by omega) x b, cnt_evs_other (i := 0) (j := 1) (by omega) x a,
     cnt_evs_end 0 x a (fun e he => z e (by simp [he])), cnt_evs_end 1 x b (fun e he => z e (by simp [he]))] at g
    simp [h0] at g
end Go.Proofs.YtikojiciilambaaGreat

/- Plain law: regions of the plane as canonical lists of rectangles; a canonical list is known by its points; the sweep over cuts. No Go in sight. -/
namespace Go.Proofs.YtikojiciilambaaGreat
set_option linter.unusedVariables false
set_option linter.unusedSimpArgs false
structure R4 where
 x0 : Int
 y0 : Int
 x1 : Int
 y1 : Int
deriving DecidableEq
def rin (r : R4) (x y : Int) : Prop := r.x0 ≤ x ∧ x < r.x1 ∧ r.y0 ≤ y ∧ y < r.y1
instance (r : R4) (x y : Int) : Decidable (rin r x y) := by unfold rin; infer_instance
def pmem (l : List R4) (x y : Int) : Prop := ∃ r ∈ l, rin r x y
instance (l : List R4) (x y : Int) : Decidable (pmem l x y) := by unfold pmem; infer_instance
theorem pmem_nil {x y : Int} : ¬ pmem [] x y := by simp [pmem]
theorem pmem_append {l m : List R4} {x y : Int} : pmem (l ++ m) x y ↔ pmem l x y ∨ pmem m x y := by
 simp only [pmem, List.mem_append]
 constructor
 ·rintro ⟨p, hp | hp, h⟩
  ·exact .inl ⟨p, hp, h⟩
  ·exact .inr ⟨p, hp, h⟩
 ·rintro (⟨p, hp, h⟩ | ⟨p, hp, h⟩)
  ·exact ⟨p, .inl hp, h⟩
  ·exact ⟨p, .inr hp, h⟩
structure Slab where
 f : Int
 t : Int
 s : List Sp
def Slab.has (a : Slab) (x y : Int) : Prop := a.f ≤ x ∧ x < a.t ∧ smem a.s y
def inS (S : List Slab) (x y : Int) : Prop := ∃ a ∈ S, a.has x y
def flat1 (a : Slab) : List R4 := a.s.map fun p => ⟨a.f, p.1, a.t, p.2⟩
def flat (S : List Slab) : List R4 := S.flatMap flat1
theorem pmem_flat1 {a : Slab} {x y : Int} : pmem (flat1 a) x y ↔ a.has x y := by
 unfold pmem flat1 Slab.has smem rin
 constructor
 ·rintro ⟨r, hr, h1, h2, h3, h4⟩
  obtain ⟨p, hp, rfl⟩ := List.mem_map.1 hr
  exact ⟨h1, h2, p, hp, h3, h4⟩
 ·rintro ⟨h1, h2, p, hp, h3, h4⟩
  exact ⟨_, List.mem_map.2 ⟨p, hp, rfl⟩, h1, h2, h3, h4⟩
theorem pmem_flat {S : List Slab} {x y : Int} : pmem (flat S) x y ↔ inS S x y := by
 induction S with
 | nil => simp [flat, pmem, inS]
 | cons a S ih =>
  have : flat (a :: S) = flat1 a ++ flat S := by simp [flat]
  rw [this, pmem_append, ih, pmem_flat1]
  simp [inS]
def okS (a : Slab) : Prop := a.f < a.t ∧ a.s ≠ [] ∧ SCan a.s
def Rl (a b : Slab) : Prop := a.t ≤ b.f ∧ (a.t = b.f → a.s ≠ b.s)
def SOK : List Slab → Prop
 | [] => True
 | [a] => okS a
 | a :: b :: r => okS a ∧ Rl a b ∧ SOK (b :: r)
theorem SOK.head {a : Slab} : ∀ {S : List Slab}, SOK (a :: S) → okS a
 | [], h => h
 | _ :: _, h => h.1
theorem SOK.tail {a : Slab} : ∀ {S : List Slab}, SOK (a :: S) → SOK S
 | [], _ => trivial
 | _ :: _, h => h.2.2
theorem SOK.after : ∀ {S : List Slab} {a : Slab}, SOK (a :: S) → ∀ b ∈ S, a.t ≤ b.f
 | c :: S, a, h, b, hb => by
  have h1 := h.2.1.1
  rcases List.mem_cons.1 hb with rfl | hb
  ·exact h1
  ·have h2 := SOK.after h.2.2 b hb
   have h3 := h.2.2.head.1
   omega
theorem SOK.all : ∀ {S : List Slab}, SOK S → ∀ a ∈ S, okS a
 | b :: S, h, a, ha => by
  rcases List.mem_cons.1 ha with rfl | ha
  ·exact h.head
  ·exact SOK.all h.tail a ha
theorem SOK.snoc {b : Slab} : ∀ {S : List Slab}, SOK (S ++ [b]) ↔ SOK S ∧ okS b ∧ ∀ a, S.getLast? = some a → Rl a b
 | [] => by simp [SOK]
 | [a] => by
  show SOK [a, b] ↔ _
  simp only [SOK, List.getLast?_singleton, Option.some.injEq]
  constructor
  ·rintro ⟨h1, h2, h3⟩
   exact ⟨h1, h3, fun c hc => hc ▸ h2⟩
  ·rintro ⟨h1, h2, h3⟩
   exact ⟨h1, h3 a rfl, h2⟩
 | a :: c :: S => by
  have ih := @SOK.snoc b (c :: S)
  show (okS a ∧ Rl a c ∧ SOK ((c :: S) ++ [b])) ↔ _
  rw [ih]
  simp only [SOK, List.getLast?_cons_cons]
  constructor
  ·rintro ⟨h1, h2, h3, h4, h5⟩
   exact ⟨⟨h1, h2, h3⟩, h4, h5⟩
  ·rintro ⟨⟨h1, h2, h3⟩, h4, h5⟩
   exact ⟨h1, h2, h3, h4, h5⟩
def cr : List Slab → Int → List Sp
 | [], _ => []
 | a :: S, x => if a.f ≤ x ∧ x < a.t then a.s else cr S x
theorem cr_far : ∀ {S : List Slab} {x : Int}, (∀ a ∈ S, x < a.f ∨ a.t ≤ x) → cr S x = []
 | [], _, _ => rfl
 | a :: S, x, h => by
  have := h a (by simp)
  simp only [cr]
  rw [if_neg (by omega)]
  exact cr_far fun b hb => h b (by simp [hb])
theorem cr_can : ∀ {S : List Slab} (x : Int), SOK S → SCan (cr S x)
 | [], _, _ => SCan.nil
 | a :: S, x, h => by
  simp only [cr]
  split
  ·exact h.head.2.2
  ·exact cr_can x h.tail
theorem inS_cr : ∀ {S : List Slab} {x y : Int}, SOK S → (inS S x y ↔ smem (cr S x) y)
 | [], x, y, _ => by simp [inS, cr, smem]
 | a :: S, x, y, h => by
  have ih := inS_cr (x := x) (y := y) h.tail
  have e : inS (a :: S) x y ↔ a.has x y ∨ inS S x y := by simp [inS]
  rw [e, ih]
  simp only [cr]
  by_cases hx : a.f ≤ x ∧ x < a.t
  ·rw [if_pos hx, cr_far (S := S) (fun b hb => .inl (by have := h.after b hb; omega))]
   simp only [smem_nil, or_false]
   exact ⟨fun g => g.2.2, fun g => ⟨hx.1, hx.2, g⟩⟩
  ·rw [if_neg hx]
   constructor
   ·rintro (g | g)
    ·exact (hx ⟨g.1, g.2.1⟩).elim
    ·exact g
   ·exact .inr
theorem cr_head {a : Slab} {S : List Slab} (h : SOK (a :: S)) {x : Int} (h1 : a.f ≤ x) (h2 : x < a.t) : cr (a :: S) x = a.s := by simp [cr, h1, h2]
theorem cr_before {a : Slab} {S : List Slab} (h : SOK (a :: S)) {x : Int} (h1 : x < a.f) : cr (a :: S) x = [] := by
 refine cr_far fun b hb => .inl ?_
 rcases List.mem_cons.1 hb with rfl | hb
 ·exact h1
 ·have := h.after b hb; have := h.head.1; omega
theorem cr_end {a : Slab} {S : List Slab} (h : SOK (a :: S)) : cr (a :: S) a.t ≠ a.s := by
 intro e
 simp only [cr] at e
 rw [if_neg (by omega)] at e
 cases S with
 | nil => exact h.head.2.1 e.symm
 | cons c S =>
  have hr := h.2.1
  by_cases hc : a.t = c.f
  ·rw [cr_head h.2.2 (by omega) (by have := h.2.2.head.1; omega)] at e
   exact hr.2 hc e.symm
  ·rw [cr_before h.2.2 (by have := hr.1; omega)] at e
   exact h.head.2.1 e.symm
theorem cr_ext : ∀ {S T : List Slab}, SOK S → SOK T → (∀ x, cr S x = cr T x) → S = T
 | [], [], _, _, _ => rfl
 | [], b :: T, _, ht, h => by
  have := h b.f
  rw [cr_head ht (by omega) ht.head.1] at this
  exact (ht.head.2.1 this.symm).elim
 | a :: S, [], hs, _, h => by
  have := h a.f
  rw [cr_head hs (by omega) hs.head.1] at this
  exact (hs.head.2.1 this).elim
 | a :: S, b :: T, hs, ht, h => by
  have hsa := hs.head
  have htb := ht.head
  have e1 : a.f = b.f := by
   rcases Int.lt_trichotomy a.f b.f with g | g | g
   ·have := h a.f
    rw [cr_head hs (by omega) hsa.1, cr_before ht g] at this
    exact (hsa.2.1 this).elim
   ·exact g
   ·have := h b.f
    rw [cr_head ht (by omega) htb.1, cr_before hs g] at this
    exact (htb.2.1 this.symm).elim
  have e2 : a.s = b.s := by
   have := h a.f
   rw [cr_head hs (by omega) hsa.1, cr_head ht (by omega) (by have := htb.1; omega)] at this
   exact this
  have e3 : a.t = b.t := by
   rcases Int.lt_trichotomy a.t b.t with g | g | g
   ·have := h a.t
    rw [cr_head ht (by have := hsa.1; omega) g] at this
    exact (cr_end hs (by rw [this, e2])).elim
   ·exact g
   ·have := h b.t
    rw [cr_head hs (by have := htb.1; omega) g] at this
    exact (cr_end ht (by rw [← this, e2])).elim
  have e : a = b := by
   cases a; cases b
   simp only at e1 e2 e3
   subst e1; subst e2; subst e3
   rfl
  subst e
  have : S = T := cr_ext hs.tail ht.tail fun x => by
   by_cases hx : x < a.t
   ·rw [cr_far (S := S) (fun b hb => .inl (by have := hs.after b hb; omega)), cr_far (S := T) (fun b hb => .inl (by have := ht.after b hb; omega))]
   ·have := h x
    simp only [cr] at this
    rwa [if_neg (by omega), if_neg (by omega)] at this
  rw [this]
def RCan (l : List R4) : Prop := ∃ S, SOK S ∧ l = flat S
theorem RCan.nil : RCan [] := ⟨[], trivial, rfl⟩
theorem RCan.ext {l m : List R4} (hl : RCan l) (hm : RCan m) (h : ∀ x y, pmem l x y ↔ pmem m x y) : l = m := by
 obtain ⟨S, hS, rfl⟩ := hl
 obtain ⟨T, hT, rfl⟩ := hm
 have : S = T := cr_ext hS hT fun x => SCan.ext (cr_can x hS) (cr_can x hT) fun y => by
  rw [← inS_cr hS, ← inS_cr hT, ← pmem_flat, ← pmem_flat]
  exact h x y
 rw [this]
def addS (S : List Slab) (f t : Int) (s : List Sp) : List Slab :=
 if s = [] then S else
 match S.getLast? with
 | some a => if a.t = f ∧ a.s = s then S.dropLast ++ [⟨a.f, t, s⟩] else S ++ [⟨f, t, s⟩]
 | none => [⟨f, t, s⟩]
theorem inS_append {S T : List Slab} {x y : Int} : inS (S ++ T) x y ↔ inS S x y ∨ inS T x y := by
 simp only [inS, List.mem_append]
 constructor
 ·rintro ⟨p, hp | hp, h⟩
  ·exact .inl ⟨p, hp, h⟩
  ·exact .inr ⟨p, hp, h⟩
 ·rintro (⟨p, hp, h⟩ | ⟨p, hp, h⟩)
  ·exact ⟨p, .inl hp, h⟩
  ·exact ⟨p, .inr hp, h⟩
theorem inS_one {a : Slab} {x y : Int} : inS [a] x y ↔ a.has x y := by simp [inS]
theorem addS_ok {S : List Slab} {f t : Int} {s : List Sp} (h : SOK S) (hf : ∀ a ∈ S, a.t ≤ f) (hft : f < t) (hs : SCan s) :
  SOK (addS S f t s) ∧ (∀ a ∈ addS S f t s, a.t ≤ t) ∧ ∀ x y, inS (addS S f t s) x y ↔ inS S x y ∨ (f ≤ x ∧ x < t ∧ smem s y) := by
 unfold addS
 by_cases h0 : s = []
 ·rw [if_pos h0]
  subst h0
  refine ⟨h, fun a ha => by have := hf a ha; omega, fun x y => ?_⟩
  simp [smem_nil]
 rw [if_neg h0]
 cases hg : S.getLast? with
 | none =>
  have : S = [] := List.getLast?_eq_none_iff.1 hg
  subst this
  refine ⟨⟨hft, h0, hs⟩, by simp, fun x y => ?_⟩
  simp only [inS_one, Slab.has]
  simp [inS]
 | some a =>
  obtain ⟨o, rfl⟩ := List.getLast?_eq_some_iff.1 hg
  obtain ⟨h1, h2, h3⟩ := SOK.snoc.1 h
  have ha := hf a (by simp)
  simp only [List.dropLast_concat]
  by_cases hb : a.t = f ∧ a.s = s
  ·rw [if_pos hb]
   obtain ⟨hb1, rfl⟩ := hb
   refine ⟨SOK.snoc.2 ⟨h1, ⟨by have := h2.1; show a.f < t; omega, h2.2.1, h2.2.2⟩, fun c hc => h3 c hc⟩, ?_, fun x y => ?_⟩
   ·intro b hb
    rcases List.mem_append.1 hb with hb | hb
    ·have := hf b (by simp [hb]); omega
    ·simp at hb; subst hb; simp
   ·rw [inS_append, inS_append, inS_one, inS_one]
    simp only [Slab.has]
    constructor
    ·rintro (g | g)
     ·exact .inl (.inl g)
     ·by_cases hx : x < a.t
      ·exact .inl (.inr ⟨g.1, hx, g.2.2⟩)
      ·exact .inr ⟨by omega, g.2.1, g.2.2⟩
    ·rintro ((g | g) | g)
     ·exact .inl g
     ·exact .inr ⟨g.1, by omega, g.2.2⟩
     ·exact .inr ⟨by have := h2.1; omega, g.2.1, g.2.2⟩
  ·rw [if_neg hb]
   refine ⟨SOK.snoc.2 ⟨h, ⟨hft, h0, hs⟩, fun c hc => ?_⟩, ?_, fun x y => ?_⟩
   ·rw [List.getLast?_concat] at hc
    simp only [Option.some.injEq] at hc
    subst hc
    exact ⟨ha, fun e1 e2 => hb ⟨e1, e2⟩⟩
   ·intro b hb
    rcases List.mem_append.1 hb with hb | hb
    ·have := hf b hb; omega
    ·simp at hb; subst hb; simp
   ·rw [inS_append (S := o ++ [a]), inS_one (a := ⟨f, t, s⟩)]
    rfl
def sweep (g : Int → List Sp) : List Slab → List Int → List Slab
 | acc, c :: d :: r => sweep g (addS acc c d (g c)) (d :: r)
 | acc, _ => acc
theorem sweep_from {g : Int → List Sp} {H : Int → Int → Prop} {cs : List Int} (hs : cs.Pairwise (· < ·)) (hg : ∀ c ∈ cs, SCan (g c))
    (hH : ∀ c d x y, c ∈ cs → d ∈ cs → c < d → (∀ e ∈ cs, e ≤ c ∨ d ≤ e) → c ≤ x → x < d → (H x y ↔ smem (g c) y)) (hhi : ∀ x y, (∀ c ∈ cs, c ≤ x) → ¬ H x y) :
    ∀ (r : List Int) (A : List Int) (c : Int) (acc : List Slab), cs = A ++ c :: r → SOK acc → (∀ a ∈ acc, a.t ≤ c) → (∀ x y, inS acc x y ↔ x < c ∧ H x y) →
      SOK (sweep g acc (c :: r)) ∧ ∀ x y, inS (sweep g acc (c :: r)) x y ↔ H x y
  | [], A, c, acc, hcs, h1, h2, h3 => by
    refine ⟨h1, fun x y => ?_⟩
    show inS acc x y ↔ _
    rw [h3]
    constructor
    · exact fun q => q.2
    · intro q
      refine ⟨?_, q⟩
      rcases Int.lt_or_le x c with hx | hx
      · exact hx
      · exfalso
        refine hhi x y (fun e he => ?_) q
        rw [hcs] at he hs
        rcases List.mem_append.1 he with he | he
        · have := (List.pairwise_append.1 hs).2.2 e he c (by simp); omega
        · simp at he; omega
  | d :: r, A, c, acc, hcs, h1, h2, h3 => by
    have hc : c ∈ cs := by rw [hcs]; simp
    have hd : d ∈ cs := by rw [hcs]; simp
    have hs' := hs
    rw [hcs, List.pairwise_append] at hs'
    have hcd : c < d := (List.pairwise_cons.1 hs'.2.1).1 d (by simp)
    have hgap : ∀ e ∈ cs, e ≤ c ∨ d ≤ e := by
      intro e he
      rw [hcs] at he
      rcases List.mem_append.1 he with he | he
      · have := hs'.2.2 e he c (by simp); omega
      · rcases List.mem_cons.1 he with rfl | he
        · omega
        · rcases List.mem_cons.1 he with rfl | he
          · omega
          · have := (List.pairwise_cons.1 (List.pairwise_cons.1 hs'.2.1).2).1 e he; omega
    obtain ⟨a1, a2, a3⟩ := addS_ok h1 h2 hcd (hg c hc)
    refine sweep_from hs hg hH hhi r (A ++ [c]) d _ (by rw [hcs]; simp) a1 a2 fun x y => ?_
    rw [a3, h3]
    constructor
    · rintro (⟨q1, q2⟩ | ⟨q1, q2, q3⟩)
      · exact ⟨by omega, q2⟩
      · exact ⟨q2, (hH c d x y hc hd hcd hgap q1 q2).2 q3⟩
    · rintro ⟨q1, q2⟩
      by_cases hx : x < c
      · exact .inl ⟨hx, q2⟩
      · exact .inr ⟨by omega, q1, (hH c d x y hc hd hcd hgap (by omega) q1).1 q2⟩
theorem sweep_ok {g : Int → List Sp} {H : Int → Int → Prop} {cs : List Int} (hs : cs.Pairwise (· < ·)) (hg : ∀ c ∈ cs, SCan (g c))
    (hH : ∀ c d x y, c ∈ cs → d ∈ cs → c < d → (∀ e ∈ cs, e ≤ c ∨ d ≤ e) → c ≤ x → x < d → (H x y ↔ smem (g c) y)) (hhi : ∀ x y, (∀ c ∈ cs, c ≤ x) → ¬ H x y) (hlo : ∀ x y, (∀ c ∈ cs, x < c) → ¬ H x y) :
    RCan (flat (sweep g [] cs)) ∧ ∀ x y, pmem (flat (sweep g [] cs)) x y ↔ H x y := by
  cases cs with
  | nil =>
    refine ⟨⟨[], trivial, rfl⟩, fun x y => ?_⟩
    have := hhi x y (by simp)
    simp [sweep, flat, pmem, this]
  | cons c r =>
    obtain ⟨h1, h2⟩ := sweep_from hs hg hH hhi r [] c [] rfl trivial (by simp) (fun x y => by
      constructor
      · rintro ⟨a, ha, _⟩
        simp at ha
      · rintro ⟨q1, q2⟩
        exfalso
        refine hlo x y (fun e he => ?_) q2
        rcases List.mem_cons.1 he with rfl | he
        · exact q1
        · have := (List.pairwise_cons.1 hs).1 e he; omega)
    exact ⟨⟨_, h1, rfl⟩, fun x y => by rw [pmem_flat]; exact h2 x y⟩
def crossL (l : List R4) (c : Int) : List Sp := (l.filter fun r => decide (r.x0 ≤ c) && decide (c < r.x1)).map fun r => (r.y0, r.y1)
theorem smem_crossL {l : List R4} {x y : Int} : smem (crossL l x) y ↔ pmem l x y := by
 unfold smem crossL pmem rin
 constructor
 ·rintro ⟨p, hp, h1, h2⟩
  obtain ⟨r, hr, rfl⟩ := List.mem_map.1 hp
  obtain ⟨hr1, hr2⟩ := List.mem_filter.1 hr
  simp at hr2
  exact ⟨r, hr1, hr2.1, hr2.2, h1, h2⟩
 ·rintro ⟨r, hr, h1, h2, h3, h4⟩
  exact ⟨(r.y0, r.y1), List.mem_map.2 ⟨r, List.mem_filter.2 ⟨hr, by simp [h1, h2]⟩, rfl⟩, h3, h4⟩
def wf4 (r : R4) : Prop := r.x0 < r.x1 ∧ r.y0 < r.y1
theorem crossL_wf {l : List R4} (h : ∀ r ∈ l, wf4 r) (c : Int) : ∀ p ∈ crossL l c, p.1 < p.2 := by
 intro p hp
 obtain ⟨r, hr, rfl⟩ := List.mem_map.1 hp
 exact (h r (List.mem_filter.1 hr).1).2
def cutsL (l : List R4) : List Int := l.flatMap fun r => [r.x0, r.x1]
theorem mem_cutsL {l : List R4} {r : R4} (h : r ∈ l) : r.x0 ∈ cutsL l ∧ r.x1 ∈ cutsL l := by
 unfold cutsL
 exact ⟨List.mem_flatMap.2 ⟨r, h, by simp⟩, List.mem_flatMap.2 ⟨r, h, by simp⟩⟩
theorem crossL_same {l : List R4} {cs : List Int} (hcs : ∀ c ∈ cutsL l, c ∈ cs) {c d x : Int} (hgap : ∀ e ∈ cs, e ≤ c ∨ d ≤ e) (h1 : c ≤ x) (h2 : x < d) : crossL l x = crossL l c := by
 unfold crossL
 congr 1
 refine List.filter_congr fun r hr => ?_
 obtain ⟨m0, m1⟩ := mem_cutsL hr
 have g0 := hgap _ (hcs _ m0)
 have g1 := hgap _ (hcs _ m1)
 rw [Bool.eq_iff_iff]
 simp only [Bool.and_eq_true, decide_eq_true_eq]
 omega
theorem crossL_hi {l : List R4} {cs : List Int} (hcs : ∀ c ∈ cutsL l, c ∈ cs) {x y : Int} (h : ∀ c ∈ cs, c ≤ x) : ¬ pmem l x y := by
 rintro ⟨r, hr, h1, h2, _⟩
 have := h _ (hcs _ (mem_cutsL hr).2); omega
theorem crossL_lo {l : List R4} {cs : List Int} (hcs : ∀ c ∈ cutsL l, c ∈ cs) {x y : Int} (h : ∀ c ∈ cs, x < c) : ¬ pmem l x y := by
 rintro ⟨r, hr, h1, h2, _⟩
 have := h _ (hcs _ (mem_cutsL hr).1); omega
theorem sweep_join {h : Bool → Bool → Bool} (h0 : h false false = false) {a b : List R4} {cs : List Int} {g : Int → List Sp} (hs : cs.Pairwise (· < ·))
    (ha : ∀ c ∈ cutsL a, c ∈ cs) (hb : ∀ c ∈ cutsL b, c ∈ cs) (hg : ∀ c ∈ cs, SCan (g c) ∧ ∀ y, smem (g c) y ↔ h (decide (smem (crossL a c) y)) (decide (smem (crossL b c) y)) = true) :
    RCan (flat (sweep g [] cs)) ∧ ∀ x y, pmem (flat (sweep g [] cs)) x y ↔ h (decide (pmem a x y)) (decide (pmem b x y)) = true := by
  refine sweep_ok (H := fun x y => h (decide (pmem a x y)) (decide (pmem b x y)) = true) hs (fun c hc => (hg c hc).1) ?_ ?_ ?_
  · intro c d x y hc hd hcd hgap h1 h2
    rw [(hg c hc).2 y, ← crossL_same ha hgap h1 h2, ← crossL_same hb hgap h1 h2]
    have e1 : decide (pmem a x y) = decide (smem (crossL a x) y) := decide_eq_decide.2 smem_crossL.symm
    have e2 : decide (pmem b x y) = decide (smem (crossL b x) y) := decide_eq_decide.2 smem_crossL.symm
    rw [e1, e2]
  · intro x y hx
    rw [decide_eq_false (crossL_hi ha hx), decide_eq_false (crossL_hi hb hx), h0]
    exact Bool.false_ne_true
  · intro x y hx
    rw [decide_eq_false (crossL_lo ha hx), decide_eq_false (crossL_lo hb hx), h0]
    exact Bool.false_ne_true
def ins (e : En) : List En → List En
 | [] => [e]
 | a :: l => if e.1 ≤ a.1 then e :: a :: l else a :: ins e l
def isort : List En → List En
 | [] => []
 | e :: l => ins e (isort l)
theorem ins_perm (e : En) : ∀ (l : List En), (ins e l).Perm (e :: l)
 | [] => .refl _
 | a :: l => by
  simp only [ins]
  split
  ·exact .refl _
  ·exact ((ins_perm e l).cons a).trans (.swap e a l)
theorem isort_perm : ∀ (l : List En), (isort l).Perm l
 | [] => .refl _
 | e :: l => (ins_perm e _).trans ((isort_perm l).cons e)
theorem ins_sorted (e : En) : ∀ (l : List En), l.Pairwise (fun a b => a.1 ≤ b.1) → (ins e l).Pairwise (fun a b => a.1 ≤ b.1)
 | [], _ => by simp [ins]
 | a :: l, h => by
  obtain ⟨h1, h2⟩ := List.pairwise_cons.1 h
  simp only [ins]
  split
  ·rename_i he
   refine List.pairwise_cons.2 ⟨fun b hb => ?_, h⟩
   rcases List.mem_cons.1 hb with rfl | hb
   ·exact he
   ·have := h1 b hb; omega
  ·rename_i he
   refine List.pairwise_cons.2 ⟨fun b hb => ?_, ins_sorted e l h2⟩
   rcases List.mem_cons.1 ((ins_perm e l).mem_iff.1 hb) with rfl | hb
   ·omega
   ·exact h1 b hb
theorem isort_sorted : ∀ (l : List En), (isort l).Pairwise (fun a b => a.1 ≤ b.1)
 | [] => by simp [isort]
 | e :: l => ins_sorted e _ (isort_sorted l)
def sjoin (h : Bool → Bool → Bool) (a b : List Sp) : List Sp := (jfold h (isort (evs 0 a ++ evs 1 b))).out
theorem sjoin_ok {h : Bool → Bool → Bool} (h0 : h false false = false) {a b : List Sp} (ha : ∀ p ∈ a, p.1 < p.2) (hb : ∀ p ∈ b, p.1 < p.2) :
  SCan (sjoin h a b) ∧ ∀ x, smem (sjoin h a b) x ↔ h (decide (smem a x)) (decide (smem b x)) = true :=
 jfold_ok h0 ha hb (isort_perm _) (isort_sorted _)
theorem sjoin_eq {h : Bool → Bool → Bool} (h0 : h false false = false) {a b s : List Sp} (ha : ∀ p ∈ a, p.1 < p.2) (hb : ∀ p ∈ b, p.1 < p.2) (hs : SCan s) (hm : ∀ x, smem s x ↔ h (decide (smem a x)) (decide (smem b x)) = true) : s = sjoin h a b :=
 hs.ext (sjoin_ok h0 ha hb).1 fun x => by rw [hm, (sjoin_ok h0 ha hb).2]
def insI (c : Int) : List Int → List Int
 | [] => [c]
 | a :: l => if c < a then c :: a :: l else if c = a then a :: l else a :: insI c l
def isortI : List Int → List Int
 | [] => []
 | e :: l => insI e (isortI l)
theorem mem_insI (c x : Int) : ∀ (l : List Int), x ∈ insI c l ↔ x = c ∨ x ∈ l
 | [] => by simp [insI]
 | a :: l => by
  simp only [insI]
  split
  ·simp
  ·split
   ·rename_i h; subst h; simp
   ·simp only [List.mem_cons, mem_insI c x l]
    constructor
    ·rintro (h | h | h)
     ·exact .inr (.inl h)
     ·exact .inl h
     ·exact .inr (.inr h)
    ·rintro (h | h | h)
     ·exact .inr (.inl h)
     ·exact .inl h
     ·exact .inr (.inr h)
theorem mem_isortI (x : Int) : ∀ (l : List Int), x ∈ isortI l ↔ x ∈ l
 | [] => .rfl
 | e :: l => by simp only [isortI, mem_insI, mem_isortI x l, List.mem_cons]
theorem insI_sorted (c : Int) : ∀ (l : List Int), l.Pairwise (· < ·) → (insI c l).Pairwise (· < ·)
  | [], _ => by simp [insI]
  | a :: l, h => by
    obtain ⟨h1, h2⟩ := List.pairwise_cons.1 h
    simp only [insI]
    split
    · rename_i he
      refine List.pairwise_cons.2 ⟨fun b hb => ?_, h⟩
      rcases List.mem_cons.1 hb with rfl | hb
      · exact he
      · have := h1 b hb; omega
    · split
      · exact h
      · refine List.pairwise_cons.2 ⟨fun b hb => ?_, insI_sorted c l h2⟩
        rcases (mem_insI c b l).1 hb with rfl | hb
        · omega
        · exact h1 b hb
theorem isortI_sorted : ∀ (l : List Int), (isortI l).Pairwise (· < ·)
  | [] => by simp [isortI]
  | e :: l => insI_sorted e _ (isortI_sorted l)
def rjoin (h : Bool → Bool → Bool) (a b : List R4) : List R4 := flat (sweep (fun c => sjoin h (crossL a c) (crossL b c)) [] (isortI (cutsL a ++ cutsL b)))
theorem rjoin_ok {h : Bool → Bool → Bool} (h0 : h false false = false) {a b : List R4} (ha : ∀ r ∈ a, wf4 r) (hb : ∀ r ∈ b, wf4 r) :
  RCan (rjoin h a b) ∧ ∀ x y, pmem (rjoin h a b) x y ↔ h (decide (pmem a x y)) (decide (pmem b x y)) = true :=
 sweep_join h0 (isortI_sorted _) (fun c hc => (mem_isortI c _).2 (by simp [hc])) (fun c hc => (mem_isortI c _).2 (by simp [hc]))
  fun c _ => sjoin_ok h0 (crossL_wf ha c) (crossL_wf hb c)
theorem rjoin_eq {h : Bool → Bool → Bool} (h0 : h false false = false) {a b s : List R4} (ha : ∀ r ∈ a, wf4 r) (hb : ∀ r ∈ b, wf4 r) (hs : RCan s) (hm : ∀ x y, pmem s x y ↔ h (decide (pmem a x y)) (decide (pmem b x y)) = true) : s = rjoin h a b :=
 hs.ext (rjoin_ok h0 ha hb).1 fun x y => by rw [hm, (rjoin_ok h0 ha hb).2]
end Go.Proofs.YtikojiciilambaaGreat

/- Plain: networks of segments along the axes: unit lines, nodes, edges; the edges to the left and down are those to the right and up. No Go in sight. -/
namespace Go.Proofs.YtikojiciilambaaGreat
set_option linter.unusedVariables false
set_option linter.unusedSimpArgs false
abbrev Pt := Int × Int
structure Sg where
 ax : Int
 ay : Int
 cx : Int
 cy : Int
deriving DecidableEq
def finS (x : Int) : Prop := -1000000 ≤ x ∧ x ≤ 1000000
instance (x : Int) : Decidable (finS x) := by unfold finS; infer_instance
def okSg (s : Sg) : Prop := (finS s.ax ∧ finS s.ay ∧ finS s.cx ∧ finS s.cy) ∧ ((s.ax = s.cx) ↔ ¬ (s.ay = s.cy))
instance (s : Sg) : Decidable (okSg s) := by unfold okSg; infer_instance
def rowSp (l : List Sg) (y : Int) : List Sp := (l.filter fun s => decide (s.ay = s.cy) && decide (s.ay = y)).map fun s => (min s.ax s.cx, max s.ax s.cx)
def colSp (l : List Sg) (x : Int) : List Sp := (l.filter fun s => !decide (s.ay = s.cy) && decide (s.ax = x)).map fun s => (min s.ay s.cy, max s.ay s.cy)
def htB (l : List Sg) (x y : Int) : Bool := decide (smem (rowSp l y) x)
def vtB (l : List Sg) (x y : Int) : Bool := decide (smem (colSp l x) y)
def nodeG (h v : Int → Int → Bool) (p : Pt) : Bool := !((h p.1 p.2 == h (p.1 - 1) p.2) && (v p.1 p.2 == v p.1 (p.2 - 1)) && !(h p.1 p.2 && v p.1 p.2))
def ptLt (a b : Pt) : Prop := a.1 < b.1 ∨ a.1 = b.1 ∧ a.2 < b.2
instance (a b : Pt) : Decidable (ptLt a b) := by unfold ptLt; infer_instance
def xsOf (l : List Sg) : List Int := l.flatMap fun s => [s.ax, s.cx]
def ysOf (l : List Sg) : List Int := l.flatMap fun s => [s.ay, s.cy]
def nodesF (l : List Sg) : List Pt := ((isortI (xsOf l)).flatMap fun x => (isortI (ysOf l)).map fun y => (x, y)).filter (nodeG (htB l) (vtB l))
theorem row_mem {l : List Sg} {x y : Int} : htB l x y = true ↔ ∃ s ∈ l, s.ay = s.cy ∧ s.ay = y ∧ min s.ax s.cx ≤ x ∧ x < max s.ax s.cx := by
 unfold htB
 rw [decide_eq_true_eq]
 unfold smem rowSp
 constructor
 ·rintro ⟨p, hp, h1, h2⟩
  obtain ⟨s, hs, rfl⟩ := List.mem_map.1 hp
  rw [List.mem_filter] at hs
  simp only [Bool.and_eq_true, decide_eq_true_eq] at hs
  exact ⟨s, hs.1, hs.2.1, hs.2.2, h1, h2⟩
 ·rintro ⟨s, hs, h1, h2, h3, h4⟩
  exact ⟨_, List.mem_map.2 ⟨s, List.mem_filter.2 ⟨hs, by simp [h1, h2]; omega⟩, rfl⟩, h3, h4⟩
theorem col_mem {l : List Sg} {x y : Int} : vtB l x y = true ↔ ∃ s ∈ l, ¬ s.ay = s.cy ∧ s.ax = x ∧ min s.ay s.cy ≤ y ∧ y < max s.ay s.cy := by
 unfold vtB
 rw [decide_eq_true_eq]
 unfold smem colSp
 constructor
 ·rintro ⟨p, hp, h1, h2⟩
  obtain ⟨s, hs, rfl⟩ := List.mem_map.1 hp
  rw [List.mem_filter] at hs
  simp only [Bool.and_eq_true, Bool.not_eq_true', decide_eq_false_iff_not, decide_eq_true_eq] at hs
  exact ⟨s, hs.1, hs.2.1, hs.2.2, h1, h2⟩
 ·rintro ⟨s, hs, h1, h2, h3, h4⟩
  exact ⟨_, List.mem_map.2 ⟨s, List.mem_filter.2 ⟨hs, by simp [h1, h2]⟩, rfl⟩, h3, h4⟩
theorem ptLt_trans {a b c : Pt} (h1 : ptLt a b) (h2 : ptLt b c) : ptLt a c := by unfold ptLt at *; omega
theorem ptLt_irrefl (a : Pt) : ¬ ptLt a a := by unfold ptLt; omega
theorem ptLt_tri (a b : Pt) : ptLt a b ∨ a = b ∨ ptLt b a := by
 obtain ⟨a1, a2⟩ := a
 obtain ⟨b1, b2⟩ := b
 unfold ptLt
 simp only [Prod.mk.injEq]
 omega
theorem sorted_ext {α : Type} {R : α → α → Prop} (hi : ∀ a, ¬ R a a) (ht : ∀ a b c, R a b → R b c → R a c) : ∀ {l m : List α}, l.Pairwise R → m.Pairwise R → (∀ x, x ∈ l ↔ x ∈ m) → l = m
 | [], [], _, _, _ => rfl
 | [], b :: m, _, _, h => absurd ((h b).2 (by simp)) (by simp)
 | a :: l, [], _, _, h => absurd ((h a).1 (by simp)) (by simp)
 | a :: l, b :: m, h1, h2, h => by
  obtain ⟨p1, p2⟩ := List.pairwise_cons.1 h1
  obtain ⟨q1, q2⟩ := List.pairwise_cons.1 h2
  have hab : a = b := by
   rcases List.mem_cons.1 ((h a).1 (by simp)) with e | e
   ·exact e
   ·rcases List.mem_cons.1 ((h b).2 (by simp)) with e2 | e2
    ·exact e2.symm
    ·exact absurd (ht _ _ _ (q1 a e) (p1 b e2)) (hi b)
  subst hab
  rw [sorted_ext hi ht p2 q2 fun x => ?_]
  have hx := h x
  simp only [List.mem_cons] at hx
  constructor
  ·intro hm
   rcases hx.1 (.inr hm) with e | e
   ·subst e; exact absurd (p1 x hm) (hi x)
   ·exact e
  ·intro hm
   rcases hx.2 (.inr hm) with e | e
   ·subst e; exact absurd (q1 x hm) (hi x)
   ·exact e
theorem node_in {l : List Sg} (hv : ∀ s ∈ l, okSg s) {x y : Int} (h : nodeG (htB l) (vtB l) (x, y) = true) : x ∈ xsOf l ∧ y ∈ ysOf l ∧ ((∃ s ∈ l, (s.ax = x ∧ s.ay = y) ∨ (s.cx = x ∧ s.cy = y)) ∨ ∃ s ∈ l, ∃ t ∈ l, s.ax = x ∧ t.ay = y) := by
  have mx : ∀ s ∈ l, s.ax ∈ xsOf l ∧ s.cx ∈ xsOf l := fun s hs => ⟨List.mem_flatMap.2 ⟨s, hs, by simp⟩, List.mem_flatMap.2 ⟨s, hs, by simp⟩⟩
  have my : ∀ s ∈ l, s.ay ∈ ysOf l ∧ s.cy ∈ ysOf l := fun s hs => ⟨List.mem_flatMap.2 ⟨s, hs, by simp⟩, List.mem_flatMap.2 ⟨s, hs, by simp⟩⟩
  -- the ends of a row's line
  have rowE : ∀ s ∈ l, s.ay = s.cy → s.ay = y → (s.ax = x ∨ s.cx = x) → x ∈ xsOf l ∧ y ∈ ysOf l ∧ ((∃ s ∈ l, (s.ax = x ∧ s.ay = y) ∨ (s.cx = x ∧ s.cy = y)) ∨ ∃ s ∈ l, ∃ t ∈ l, s.ax = x ∧ t.ay = y) := fun s hs e1 e2 e3 => by
    rcases e3 with e3 | e3
    · exact ⟨e3 ▸ (mx s hs).1, e2 ▸ (my s hs).1, .inl ⟨s, hs, .inl ⟨e3, e2⟩⟩⟩
    · exact ⟨e3 ▸ (mx s hs).2, e2 ▸ (my s hs).1, .inl ⟨s, hs, .inr ⟨e3, e1 ▸ e2⟩⟩⟩
  have colE : ∀ s ∈ l, ¬ s.ay = s.cy → s.ax = x → (s.ay = y ∨ s.cy = y) → x ∈ xsOf l ∧ y ∈ ysOf l ∧ ((∃ s ∈ l, (s.ax = x ∧ s.ay = y) ∨ (s.cx = x ∧ s.cy = y)) ∨ ∃ s ∈ l, ∃ t ∈ l, s.ax = x ∧ t.ay = y) := fun s hs e1 e2 e3 => by
    have e4 : s.ax = s.cx := (hv s hs).2.2 e1
    rcases e3 with e3 | e3
    · exact ⟨e2 ▸ (mx s hs).1, e3 ▸ (my s hs).1, .inl ⟨s, hs, .inl ⟨e2, e3⟩⟩⟩
    · exact ⟨e2 ▸ (mx s hs).1, e3 ▸ (my s hs).2, .inl ⟨s, hs, .inr ⟨e4 ▸ e2, e3⟩⟩⟩
  unfold nodeG at h
  simp only at h
  cases a0 : htB l x y <;> cases a2 : htB l (x - 1) y <;> cases a1 : vtB l x y <;> cases a3 : vtB l x (y - 1) <;> rw [a0, a1, a2, a3] at h <;> (first | (exact absurd h (by decide)) | skip)
  all_goals first
    | (obtain ⟨s, hs, b1, b2, b3, b4⟩ := row_mem.1 a0
       have hno : ¬ (min s.ax s.cx ≤ x - 1 ∧ x - 1 < max s.ax s.cx) := fun hh => by
         rw [row_mem.2 ⟨s, hs, b1, b2, hh.1, hh.2⟩] at a2; exact Bool.noConfusion a2
       exact rowE s hs b1 b2 (by omega))
    | (obtain ⟨s, hs, b1, b2, b3, b4⟩ := row_mem.1 a2
       have hno : ¬ (min s.ax s.cx ≤ x ∧ x < max s.ax s.cx) := fun hh => by
         rw [row_mem.2 ⟨s, hs, b1, b2, hh.1, hh.2⟩] at a0; exact Bool.noConfusion a0
       exact rowE s hs b1 b2 (by omega))
    | (obtain ⟨s, hs, b1, b2, b3, b4⟩ := col_mem.1 a1
       have hno : ¬ (min s.ay s.cy ≤ y - 1 ∧ y - 1 < max s.ay s.cy) := fun hh => by
         rw [col_mem.2 ⟨s, hs, b1, b2, hh.1, hh.2⟩] at a3; exact Bool.noConfusion a3
       exact colE s hs b1 b2 (by omega))
    | (obtain ⟨s, hs, b1, b2, b3, b4⟩ := col_mem.1 a3
       have hno : ¬ (min s.ay s.cy ≤ y ∧ y < max s.ay s.cy) := fun hh => by
         rw [col_mem.2 ⟨s, hs, b1, b2, hh.1, hh.2⟩] at a1; exact Bool.noConfusion a1
       exact colE s hs b1 b2 (by omega))
    | (obtain ⟨s, hs, b1, b2, b3, b4⟩ := row_mem.1 a0
       obtain ⟨t, ht, c1, c2, c3, c4⟩ := col_mem.1 a1
       exact ⟨c2 ▸ (mx t ht).1, b2 ▸ (my s hs).1, .inr ⟨t, ht, s, hs, c2, b2⟩⟩)
theorem nodesF_ok {l : List Sg} (hv : ∀ s ∈ l, okSg s) : (nodesF l).Pairwise ptLt ∧ ∀ p, p ∈ nodesF l ↔ nodeG (htB l) (vtB l) p = true := by
 constructor
 ·unfold nodesF
  refine List.Pairwise.filter _ ?_
  rw [List.pairwise_flatMap]
  refine ⟨fun x _ => ?_, ?_⟩
  ·rw [List.pairwise_map]
   exact (isortI_sorted _).imp fun h => .inr ⟨rfl, h⟩
  ·refine (isortI_sorted _).imp fun {a b} h p hp q hq => ?_
   obtain ⟨_, _, rfl⟩ := List.mem_map.1 hp
   obtain ⟨_, _, rfl⟩ := List.mem_map.1 hq
   exact .inl h
 ·intro p
  unfold nodesF
  rw [List.mem_filter]
  refine ⟨fun h => h.2, fun h => ⟨?_, h⟩⟩
  obtain ⟨x, y⟩ := p
  obtain ⟨h1, h2, _⟩ := node_in hv h
  exact List.mem_flatMap.2 ⟨x, (mem_isortI _ _).2 h1, List.mem_map.2 ⟨y, (mem_isortI _ _).2 h2, rfl⟩⟩
theorem row_far {l : List Sg} (hv : ∀ s ∈ l, okSg s) {x y : Int} (h : x < -1000000 ∨ 1000000 ≤ x) : htB l x y = false := by
 cases e : htB l x y
 ·rfl
 ·obtain ⟨s, hs, _, _, h3, h4⟩ := row_mem.1 e
  obtain ⟨⟨⟨_, _⟩, ⟨_, _⟩, ⟨_, _⟩, _, _⟩, _⟩ := hv s hs
  omega
theorem col_far {l : List Sg} (hv : ∀ s ∈ l, okSg s) {x y : Int} (h : y < -1000000 ∨ 1000000 ≤ y) : vtB l x y = false := by
 cases e : vtB l x y
 ·rfl
 ·obtain ⟨s, hs, _, _, h3, h4⟩ := col_mem.1 e
  obtain ⟨⟨⟨_, _⟩, ⟨_, _⟩, ⟨_, _⟩, _, _⟩, _⟩ := hv s hs
  omega
theorem node_no {h v : Int → Int → Bool} {x y : Int} (hn : nodeG h v (x, y) = false) : h x y = h (x - 1) y ∧ v x y = v x (y - 1) := by
 unfold nodeG at hn
 simp only [Bool.not_eq_false', Bool.and_eq_true, beq_iff_eq] at hn
 exact hn.1
theorem row_on {h v : Int → Int → Bool} {y x0 : Int} : ∀ (n : Nat), (∀ x, x0 < x → x ≤ x0 + n → nodeG h v (x, y) = false) → h (x0 + n) y = h x0 y
 | 0, _ => by rw [show x0 + ((0 : Nat) : Int) = x0 by omega]
 | n + 1, hn => by
  have ih := row_on n fun x a b => hn x a (by omega)
  have := (node_no (hn (x0 + ((n + 1 : Nat) : Int)) (by omega) (by omega))).1
  rw [show x0 + ((n + 1 : Nat) : Int) - 1 = x0 + n by omega] at this
  rw [this, ih]
theorem col_on {h v : Int → Int → Bool} {x y0 : Int} : ∀ (n : Nat), (∀ y, y0 < y → y ≤ y0 + n → nodeG h v (x, y) = false) → v x (y0 + n) = v x y0
 | 0, _ => by rw [show y0 + ((0 : Nat) : Int) = y0 by omega]
 | n + 1, hn => by
  have ih := col_on n fun x a b => hn x a (by omega)
  have := (node_no (hn (y0 + ((n + 1 : Nat) : Int)) (by omega) (by omega))).2
  rw [show y0 + ((n + 1 : Nat) : Int) - 1 = y0 + n by omega] at this
  rw [this, ih]
theorem row_to {h v : Int → Int → Bool} {y x0 x1 : Int} (hle : x0 ≤ x1) (hn : ∀ x, x0 < x → x ≤ x1 → nodeG h v (x, y) = false) : h x1 y = h x0 y := by
 have := row_on (h := h) (v := v) (y := y) (x0 := x0) (x1 - x0).toNat fun x a b => hn x a (by omega)
 rwa [show x0 + ((x1 - x0).toNat : Int) = x1 by omega] at this
theorem col_to {h v : Int → Int → Bool} {x y0 y1 : Int} (hle : y0 ≤ y1) (hn : ∀ y, y0 < y → y ≤ y1 → nodeG h v (x, y) = false) : v x y1 = v x y0 := by
 have := col_on (h := h) (v := v) (x := x) (y0 := y0) (y1 - y0).toNat fun x a b => hn x a (by omega)
 rwa [show y0 + ((y1 - y0).toNat : Int) = y1 by omega] at this
end Go.Proofs.YtikojiciilambaaGreat

/- Plain: the edges of a network: to the right and up, from each node on; the same as to the left and down, sorted. -/
namespace Go.Proofs.YtikojiciilambaaGreat
set_option linter.unusedVariables false
set_option linter.unusedSimpArgs false
abbrev Ed := Nat × Nat
def nd (N : List Pt) (i : Nat) : Pt := N.getD i (0, 0)
def upO (N : List Pt) (a : Nat) : Option Nat := (List.range N.length).find? fun b => decide (a < b) && decide ((nd N b).1 = (nd N a).1)
def rtO (N : List Pt) (a : Nat) : Option Nat := (List.range N.length).find? fun b => decide (a < b) && decide ((nd N b).2 = (nd N a).2)
def upE (v : Int → Int → Bool) (N : List Pt) (a : Nat) : List Ed := if v (nd N a).1 (nd N a).2 = true then (upO N a).toList.map fun b => (a, b) else []
def rtE (h : Int → Int → Bool) (N : List Pt) (a : Nat) : List Ed := if h (nd N a).1 (nd N a).2 = true then (rtO N a).toList.map fun b => (a, b) else []
def edgesG (h v : Int → Int → Bool) (N : List Pt) : List Ed := (List.range N.length).flatMap fun a => upE v N a ++ rtE h N a
def lastG (f : Pt → Int) (N : List Pt) : Nat → Int → Nat
 | 0, _ => 0
 | i + 1, y => if f (nd N i) = y then i else lastG f N i y
def ltE (h : Int → Int → Bool) (N : List Pt) (i : Nat) : List Ed := if h ((nd N i).1 - 1) (nd N i).2 = true then [(lastG Prod.snd N i (nd N i).2, i)] else []
def dnE (v : Int → Int → Bool) (N : List Pt) (i : Nat) : List Ed := if v (nd N i).1 ((nd N i).2 - 1) = true then [(lastG Prod.fst N i (nd N i).1, i)] else []
def codeG (h v : Int → Int → Bool) (N : List Pt) : List Ed := (List.range N.length).flatMap fun i => ltE h N i ++ dnE v N i
def edLt (a b : Ed) : Prop := a.1 < b.1 ∨ a.1 = b.1 ∧ a.2 < b.2
instance (a b : Ed) : Decidable (edLt a b) := by unfold edLt; infer_instance
theorem edLt_irrefl (a : Ed) : ¬ edLt a a := by unfold edLt; omega
structure NetOK (h v : Int → Int → Bool) (N : List Pt) : Prop where
 srt : N.Pairwise ptLt
 mem : ∀ p, p ∈ N ↔ nodeG h v p = true
 rowF : ∀ x y, (x < -1000000 ∨ 1000000 ≤ x) → h x y = false
 colF : ∀ x y, (y < -1000000 ∨ 1000000 ≤ y) → v x y = false
theorem nd_mem {N : List Pt} {i : Nat} (h : i < N.length) : nd N i ∈ N := by
 unfold nd
 rw [List.getD_eq_getElem?_getD, List.getElem?_eq_getElem h, Option.getD_some]
 exact List.getElem_mem h
theorem nd_of_mem {N : List Pt} {p : Pt} (h : p ∈ N) : ∃ i, i < N.length ∧ nd N i = p := by
 obtain ⟨i, hi, rfl⟩ := List.getElem_of_mem h
 exact ⟨i, hi, by unfold nd; rw [List.getD_eq_getElem?_getD, List.getElem?_eq_getElem hi, Option.getD_some]⟩
theorem nd_lt {N : List Pt} (hs : N.Pairwise ptLt) {i j : Nat} (hj : j < N.length) (hij : i < j) : ptLt (nd N i) (nd N j) := by
 have := List.pairwise_iff_getElem.1 hs i j (by omega) hj hij
 unfold nd
 rw [List.getD_eq_getElem?_getD, List.getD_eq_getElem?_getD, List.getElem?_eq_getElem hj, List.getElem?_eq_getElem (by omega), Option.getD_some, Option.getD_some]
 exact this
theorem nd_ord {N : List Pt} (hs : N.Pairwise ptLt) {i j : Nat} (hi : i < N.length) (hj : j < N.length) (h : ptLt (nd N i) (nd N j)) : i < j := by
 rcases Nat.lt_trichotomy i j with e | e | e
 ·exact e
 ·subst e; exact absurd h (ptLt_irrefl _)
 ·exact absurd (ptLt_trans h (nd_lt hs hi e)) (ptLt_irrefl _)
theorem find_range {n : Nat} {p : Nat → Bool} {b : Nat} : (List.range n).find? p = some b ↔ b < n ∧ p b = true ∧ ∀ c, c < b → p c = false := by
 induction n with
 | zero => simp
 | succ n ih =>
  rw [List.range_succ, List.find?_append]
  cases hf : (List.range n).find? p with
  | some d =>
   rw [hf] at ih
   simp only [Option.some_or, Option.some.injEq] at ih ⊢
   constructor
   ·intro e
    obtain ⟨h1, h2, h3⟩ := ih.1 e
    exact ⟨by omega, h2, h3⟩
   ·rintro ⟨h1, h2, h3⟩
    have hd : d < n ∧ p d = true := ⟨List.mem_range.1 (List.mem_of_find?_eq_some hf), List.find?_some hf⟩
    by_cases e : b < n
    ·exact ih.2 ⟨e, h2, h3⟩
    ·have := h3 d (by omega)
     rw [hd.2] at this
     cases this
  | none =>
   have hno : ∀ c, c < n → p c = false := fun c hc => by
    have := List.find?_eq_none.1 hf c (List.mem_range.2 hc)
    simpa using this
   simp only [Option.none_or]
   by_cases hp : p n = true
   ·rw [List.find?_cons_of_pos hp]
    simp only [Option.some.injEq]
    constructor
    ·rintro rfl
     exact ⟨by omega, hp, hno⟩
    ·rintro ⟨h1, h2, h3⟩
     by_cases e : b < n
     ·rw [hno b e] at h2; cases h2
     ·omega
   ·rw [List.find?_cons_of_neg hp]
    simp only [List.find?_nil, reduceCtorEq, false_iff]
    rintro ⟨h1, h2, h3⟩
    by_cases e : b < n
    ·rw [hno b e] at h2; cases h2
    ·obtain rfl : b = n := by omega
     exact hp h2
def nxt (f : Pt → Int) (N : List Pt) (a b : Nat) : Prop := a < b ∧ b < N.length ∧ f (nd N b) = f (nd N a) ∧ ∀ c, a < c → c < b → f (nd N c) ≠ f (nd N a)
theorem upO_iff {N : List Pt} {a b : Nat} : upO N a = some b ↔ nxt Prod.fst N a b := by
 unfold upO nxt
 rw [find_range]
 simp only [Bool.and_eq_true, decide_eq_true_eq, Bool.and_eq_false_iff, decide_eq_false_iff_not]
 constructor
 ·rintro ⟨h1, ⟨h2, h3⟩, h4⟩
  exact ⟨h2, h1, h3, fun c c1 c2 => (h4 c c2).resolve_left fun hh => hh c1⟩
 ·rintro ⟨h1, h2, h3, h4⟩
  refine ⟨h2, ⟨h1, h3⟩, fun c hc => ?_⟩
  by_cases e : a < c
  ·exact .inr (h4 c e hc)
  ·exact .inl e
theorem rtO_iff {N : List Pt} {a b : Nat} : rtO N a = some b ↔ nxt Prod.snd N a b := by
 unfold rtO nxt
 rw [find_range]
 simp only [Bool.and_eq_true, decide_eq_true_eq, Bool.and_eq_false_iff, decide_eq_false_iff_not]
 constructor
 ·rintro ⟨h1, ⟨h2, h3⟩, h4⟩
  exact ⟨h2, h1, h3, fun c c1 c2 => (h4 c c2).resolve_left fun hh => hh c1⟩
 ·rintro ⟨h1, h2, h3, h4⟩
  refine ⟨h2, ⟨h1, h3⟩, fun c hc => ?_⟩
  by_cases e : a < c
  ·exact .inr (h4 c e hc)
  ·exact .inl e
theorem last_of_nxt {f : Pt → Int} {N : List Pt} {a b : Nat} (h : nxt f N a b) : lastG f N b (f (nd N b)) = a := by
 obtain ⟨h1, h2, h3, h4⟩ := h
 have key : ∀ i, a < i → i ≤ b → lastG f N i (f (nd N b)) = a := by
  intro i
  induction i with
  | zero => intro h; omega
  | succ i ih =>
   intro q1 q2
   simp only [lastG]
   by_cases e : i = a
   ·subst e; rw [if_pos h3.symm]
   ·have := h4 i (by omega) (by omega)
    rw [if_neg (by rw [h3]; exact this)]
    exact ih (by omega) (by omega)
 exact key b h1 (Nat.le_refl _)
theorem nxt_of_last {f : Pt → Int} {N : List Pt} {b : Nat} (hb : b < N.length) (hex : ∃ a, a < b ∧ f (nd N a) = f (nd N b)) : nxt f N (lastG f N b (f (nd N b))) b := by
 have key : ∀ i, i ≤ b → (∃ a, a < i ∧ f (nd N a) = f (nd N b)) → lastG f N i (f (nd N b)) < i ∧ f (nd N (lastG f N i (f (nd N b)))) = f (nd N b) ∧ ∀ c, lastG f N i (f (nd N b)) < c → c < i → f (nd N c) ≠ f (nd N b) := by
  intro i
  induction i with
  | zero => rintro _ ⟨a, h, _⟩; omega
  | succ i ih =>
   rintro hi ⟨a, ha, hf⟩
   simp only [lastG]
   by_cases e : f (nd N i) = f (nd N b)
   ·rw [if_pos e]
    exact ⟨by omega, e, fun c c1 c2 => by omega⟩
   ·rw [if_neg e]
    have hai : a ≠ i := fun h => e (h ▸ hf)
    obtain ⟨k1, k2, k3⟩ := ih (by omega) ⟨a, by omega, hf⟩
    refine ⟨by omega, k2, fun c c1 c2 => ?_⟩
    by_cases ec : c = i
    ·subst ec; exact e
    ·exact k3 c c1 (by omega)
 obtain ⟨k1, k2, k3⟩ := key b (Nat.le_refl _) hex
 exact ⟨k1, hb, k2.symm, fun c c1 c2 => by rw [k2]; exact k3 c c1 c2⟩
section
variable {h v : Int → Int → Bool} {N : List Pt} (H : NetOK h v N)
include H
theorem NetOK.row_nodes {a b : Nat} (hn : nxt Prod.snd N a b) : (nd N a).1 < (nd N b).1 ∧ ∀ x, (nd N a).1 < x → x < (nd N b).1 → nodeG h v (x, (nd N a).2) = false := by
 obtain ⟨h1, h2, h3, h4⟩ := hn
 have hlt := nd_lt H.srt h2 h1
 refine ⟨by unfold ptLt at hlt; omega, fun x x1 x2 => ?_⟩
 cases e : nodeG h v (x, (nd N a).2)
 ·rfl
 ·obtain ⟨c, hc, hce⟩ := nd_of_mem ((H.mem _).2 e)
  have c1 := nd_ord H.srt (i := a) (j := c) (by omega) hc (by rw [hce]; exact .inl x1)
  have c2 := nd_ord H.srt (i := c) (j := b) hc h2 (by rw [hce]; exact .inl x2)
  exact absurd (by rw [hce]) (h4 c c1 c2)
theorem NetOK.col_nodes {a b : Nat} (hn : nxt Prod.fst N a b) : (nd N a).2 < (nd N b).2 ∧ ∀ y, (nd N a).2 < y → y < (nd N b).2 → nodeG h v ((nd N a).1, y) = false := by
 obtain ⟨h1, h2, h3, h4⟩ := hn
 have hlt := nd_lt H.srt h2 h1
 refine ⟨by unfold ptLt at hlt; omega, fun y y1 y2 => ?_⟩
 cases e : nodeG h v ((nd N a).1, y)
 ·rfl
 ·obtain ⟨c, hc, hce⟩ := nd_of_mem ((H.mem _).2 e)
  have c1 := nd_ord H.srt (i := a) (j := c) (by omega) hc (by rw [hce]; exact .inr ⟨rfl, y1⟩)
  have c2 := nd_ord H.srt (i := c) (j := b) hc h2 (by rw [hce]; exact .inr ⟨h3.symm, y2⟩)
  exact absurd (by rw [hce]) (h4 c c1 c2)
theorem NetOK.row_line {a b : Nat} (hn : nxt Prod.snd N a b) {x : Int} (h1 : (nd N a).1 ≤ x) (h2 : x < (nd N b).1) : h x (nd N a).2 = h (nd N a).1 (nd N a).2 :=
 row_to (v := v) h1 fun z z1 z2 => (H.row_nodes hn).2 z z1 (by omega)
theorem NetOK.col_line {a b : Nat} (hn : nxt Prod.fst N a b) {y : Int} (h1 : (nd N a).2 ≤ y) (h2 : y < (nd N b).2) : v (nd N a).1 y = v (nd N a).1 (nd N a).2 :=
 col_to (h := h) h1 fun z z1 z2 => (H.col_nodes hn).2 z z1 (by omega)
theorem NetOK.row_right {x y : Int} (hx : h x y = true) : ∃ b, b < N.length ∧ x < (nd N b).1 ∧ (nd N b).2 = y := Classical.byContradiction fun hno => by
 have := row_to (h := h) (v := v) (y := y) (x0 := x) (x1 := max x 1000000) (by omega) fun z z1 z2 => by
  cases e : nodeG h v (z, y)
  ·rfl
  ·obtain ⟨c, hc, hce⟩ := nd_of_mem ((H.mem _).2 e)
   exact absurd ⟨c, hc, by rw [hce]; exact z1, by rw [hce]⟩ hno
 rw [hx, H.rowF _ _ (by omega)] at this
 cases this
theorem NetOK.row_left {x y : Int} (hx : h x y = true) : ∃ a, a < N.length ∧ (nd N a).1 ≤ x ∧ (nd N a).2 = y := Classical.byContradiction fun hno => by
 have := row_to (h := h) (v := v) (y := y) (x0 := min x (-1000001)) (x1 := x) (by omega) fun z z1 z2 => by
  cases e : nodeG h v (z, y)
  ·rfl
  ·obtain ⟨c, hc, hce⟩ := nd_of_mem ((H.mem _).2 e)
   exact absurd ⟨c, hc, by rw [hce]; exact z2, by rw [hce]⟩ hno
 rw [hx, H.rowF _ _ (by omega)] at this
 cases this
theorem NetOK.col_right {x y : Int} (hx : v x y = true) : ∃ b, b < N.length ∧ y < (nd N b).2 ∧ (nd N b).1 = x := Classical.byContradiction fun hno => by
 have := col_to (h := h) (v := v) (x := x) (y0 := y) (y1 := max y 1000000) (by omega) fun z z1 z2 => by
  cases e : nodeG h v (x, z)
  ·rfl
  ·obtain ⟨c, hc, hce⟩ := nd_of_mem ((H.mem _).2 e)
   exact absurd ⟨c, hc, by rw [hce]; exact z1, by rw [hce]⟩ hno
 rw [hx, H.colF _ _ (by omega)] at this
 cases this
theorem NetOK.col_left {x y : Int} (hx : v x y = true) : ∃ a, a < N.length ∧ (nd N a).2 ≤ y ∧ (nd N a).1 = x := Classical.byContradiction fun hno => by
 have := col_to (h := h) (v := v) (x := x) (y0 := min y (-1000001)) (y1 := y) (by omega) fun z z1 z2 => by
  cases e : nodeG h v (x, z)
  ·rfl
  ·obtain ⟨c, hc, hce⟩ := nd_of_mem ((H.mem _).2 e)
   exact absurd ⟨c, hc, by rw [hce]; exact z2, by rw [hce]⟩ hno
 rw [hx, H.colF _ _ (by omega)] at this
 cases this
omit H in
theorem least_nat {P : Nat → Prop} {a : Nat} (h : P a) : ∃ b, P b ∧ ∀ c, c < b → ¬ P c := by
 induction a using Nat.strongRecOn with
 | ind a ih =>
  by_cases e : ∃ c, c < a ∧ P c
  ·obtain ⟨c, c1, c2⟩ := e
   exact ih c c1 c2
  ·exact ⟨a, h, fun c c1 c2 => e ⟨c, c1, c2⟩⟩
theorem NetOK.ord_row {i j : Nat} (hi : i < N.length) (hj : j < N.length) (hy : (nd N i).2 = (nd N j).2) : i < j ↔ (nd N i).1 < (nd N j).1 :=
 ⟨fun h => by have := nd_lt H.srt hj h; unfold ptLt at this; omega, fun h => nd_ord H.srt hi hj (.inl h)⟩
theorem NetOK.ord_col {i j : Nat} (hi : i < N.length) (hj : j < N.length) (hx : (nd N i).1 = (nd N j).1) : i < j ↔ (nd N i).2 < (nd N j).2 :=
 ⟨fun h => by have := nd_lt H.srt hj h; unfold ptLt at this; omega, fun h => nd_ord H.srt hi hj (.inr ⟨hx, h⟩)⟩
omit H in
theorem mem_rtE {a : Nat} {e : Ed} : e ∈ rtE h N a ↔ h (nd N a).1 (nd N a).2 = true ∧ e.1 = a ∧ nxt Prod.snd N a e.2 := by
 unfold rtE
 split
 ·rename_i hh
  simp only [List.mem_map, Option.mem_toList, Option.mem_def, rtO_iff]
  constructor
  ·rintro ⟨b, hb, rfl⟩; exact ⟨hh, rfl, hb⟩
  ·rintro ⟨_, h1, h2⟩; exact ⟨e.2, h2, Prod.ext h1.symm rfl⟩
 ·rename_i hh
  simp [hh]
omit H in
theorem mem_upE {a : Nat} {e : Ed} : e ∈ upE v N a ↔ v (nd N a).1 (nd N a).2 = true ∧ e.1 = a ∧ nxt Prod.fst N a e.2 := by
 unfold upE
 split
 ·rename_i hh
  simp only [List.mem_map, Option.mem_toList, Option.mem_def, upO_iff]
  constructor
  ·rintro ⟨b, hb, rfl⟩; exact ⟨hh, rfl, hb⟩
  ·rintro ⟨_, h1, h2⟩; exact ⟨e.2, h2, Prod.ext h1.symm rfl⟩
 ·rename_i hh
  simp [hh]
omit H in
theorem mem_edges {e : Ed} : e ∈ edgesG h v N ↔ (v (nd N e.1).1 (nd N e.1).2 = true ∧ nxt Prod.fst N e.1 e.2) ∨ (h (nd N e.1).1 (nd N e.1).2 = true ∧ nxt Prod.snd N e.1 e.2) := by
 unfold edgesG
 rw [List.mem_flatMap]
 constructor
 ·rintro ⟨a, _, ha⟩
  rcases List.mem_append.1 ha with ha | ha
  ·obtain ⟨h1, rfl, h3⟩ := mem_upE.1 ha
   exact .inl ⟨h1, h3⟩
  ·obtain ⟨h1, rfl, h3⟩ := mem_rtE.1 ha
   exact .inr ⟨h1, h3⟩
 ·rintro (⟨h1, h2⟩ | ⟨h1, h2⟩)
  ·exact ⟨e.1, List.mem_range.2 (Nat.lt_trans h2.1 h2.2.1), List.mem_append.2 (.inl (mem_upE.2 ⟨h1, rfl, h2⟩))⟩
  ·exact ⟨e.1, List.mem_range.2 (Nat.lt_trans h2.1 h2.2.1), List.mem_append.2 (.inr (mem_rtE.2 ⟨h1, rfl, h2⟩))⟩
theorem NetOK.edges_srt : (edgesG h v N).Pairwise edLt := by
 unfold edgesG
 rw [List.pairwise_flatMap]
 constructor
 ·intro a _
  rw [List.pairwise_append]
  refine ⟨?_, ?_, fun p hp q hq => ?_⟩
  ·unfold upE
   split
   ·cases upO N a <;> simp
   ·simp
  ·unfold rtE
   split
   ·cases rtO N a <;> simp
   ·simp
  ·obtain ⟨_, p1, p2⟩ := mem_upE.1 hp
   obtain ⟨_, q1, q2⟩ := mem_rtE.1 hq
   refine .inr ⟨by omega, ?_⟩
   have c := H.col_nodes p2
   have r := H.row_nodes q2
   refine nd_ord H.srt p2.2.1 q2.2.1 (.inl ?_)
   have := p2.2.2.1
   omega
 ·rw [List.pairwise_iff_getElem]
  intro i j hi hj hij p hp q hq
  simp only [List.getElem_range] at hp hq
  have hp1 : p.1 = i := by
   rcases List.mem_append.1 hp with hp | hp
   ·exact (mem_upE.1 hp).2.1
   ·exact (mem_rtE.1 hp).2.1
  have hq1 : q.1 = j := by
   rcases List.mem_append.1 hq with hq | hq
   ·exact (mem_upE.1 hq).2.1
   ·exact (mem_rtE.1 hq).2.1
  exact .inl (by omega)
theorem NetOK.left_iff {b : Nat} (hb : b < N.length) (a : Nat) : (h ((nd N b).1 - 1) (nd N b).2 = true ∧ a = lastG Prod.snd N b (nd N b).2) ↔ (h (nd N a).1 (nd N a).2 = true ∧ nxt Prod.snd N a b) := by
 constructor
 ·rintro ⟨h1, rfl⟩
  obtain ⟨c, c1, c2, c3⟩ := H.row_left h1
  have hn := nxt_of_last (f := Prod.snd) hb ⟨c, (H.ord_row c1 hb c3).2 (by omega), c3⟩
  refine ⟨?_, hn⟩
  have := H.row_nodes hn
  have h2 := H.row_line hn (x := (nd N b).1 - 1) (by omega) (by omega)
  rw [← h2, ← hn.2.2.1]
  exact h1
 ·rintro ⟨h1, hn⟩
  have := H.row_nodes hn
  have h2 := H.row_line hn (x := (nd N b).1 - 1) (by omega) (by omega)
  rw [h1, ← hn.2.2.1] at h2
  exact ⟨h2, (last_of_nxt hn).symm⟩
theorem NetOK.down_iff {b : Nat} (hb : b < N.length) (a : Nat) : (v (nd N b).1 ((nd N b).2 - 1) = true ∧ a = lastG Prod.fst N b (nd N b).1) ↔ (v (nd N a).1 (nd N a).2 = true ∧ nxt Prod.fst N a b) := by
 constructor
 ·rintro ⟨h1, rfl⟩
  obtain ⟨c, c1, c2, c3⟩ := H.col_left h1
  have hn := nxt_of_last (f := Prod.fst) hb ⟨c, (H.ord_col c1 hb c3).2 (by omega), c3⟩
  refine ⟨?_, hn⟩
  have := H.col_nodes hn
  have h2 := H.col_line hn (y := (nd N b).2 - 1) (by omega) (by omega)
  rw [← h2, ← hn.2.2.1]
  exact h1
 ·rintro ⟨h1, hn⟩
  have := H.col_nodes hn
  have h2 := H.col_line hn (y := (nd N b).2 - 1) (by omega) (by omega)
  rw [h1, ← hn.2.2.1] at h2
  exact ⟨h2, (last_of_nxt hn).symm⟩
theorem NetOK.mem_code {e : Ed} : e ∈ codeG h v N ↔ e ∈ edgesG h v N := by
 rw [mem_edges]
 unfold codeG
 rw [List.mem_flatMap]
 constructor
 ·rintro ⟨i, hi, he⟩
  have hi' := List.mem_range.1 hi
  rcases List.mem_append.1 he with he | he
  ·unfold ltE at he
   split at he
   ·rename_i hh
    obtain rfl := List.mem_singleton.1 he
    exact .inr ((H.left_iff hi' _).1 ⟨hh, rfl⟩)
   ·simp at he
  ·unfold dnE at he
   split at he
   ·rename_i hh
    obtain rfl := List.mem_singleton.1 he
    exact .inl ((H.down_iff hi' _).1 ⟨hh, rfl⟩)
   ·simp at he
 ·rintro (he | he)
  ·have hb := he.2.2.1
   obtain ⟨h1, h2⟩ := (H.down_iff hb _).2 he
   refine ⟨e.2, List.mem_range.2 hb, List.mem_append.2 (.inr ?_)⟩
   unfold dnE
   rw [if_pos h1, List.mem_singleton]
   exact Prod.ext h2 rfl
  ·have hb := he.2.2.1
   obtain ⟨h1, h2⟩ := (H.left_iff hb _).2 he
   refine ⟨e.2, List.mem_range.2 hb, List.mem_append.2 (.inl ?_)⟩
   unfold ltE
   rw [if_pos h1, List.mem_singleton]
   exact Prod.ext h2 rfl
theorem NetOK.code_nodup : (codeG h v N).Nodup := by
 unfold codeG List.Nodup
 rw [List.pairwise_flatMap]
 constructor
 ·intro i hi
  have hi' := List.mem_range.1 hi
  rw [List.pairwise_append]
  refine ⟨?_, ?_, fun p hp q hq => ?_⟩
  ·unfold ltE; split <;> simp
  ·unfold dnE; split <;> simp
  ·unfold ltE at hp
   unfold dnE at hq
   split at hp
   ·rename_i hh
    split at hq
    ·rename_i hk
     obtain rfl := List.mem_singleton.1 hp
     obtain rfl := List.mem_singleton.1 hq
     intro e
     injection e with e1 _
     have n1 := ((H.left_iff hi' _).1 ⟨hh, rfl⟩).2
     have n2 := ((H.down_iff hi' _).1 ⟨hk, rfl⟩).2
     rw [e1] at n1
     have a1 := (H.row_nodes n1).1
     have a2 := n2.2.2.1
     omega
    ·simp at hq
   ·simp at hp
 ·rw [List.pairwise_iff_getElem]
  intro i j hi hj hij p hp q hq
  simp only [List.getElem_range] at hp hq
  have hp1 : p.2 = i := by
   rcases List.mem_append.1 hp with hp | hp
   ·unfold ltE at hp; split at hp
    ·rw [List.mem_singleton.1 hp]
    ·simp at hp
   ·unfold dnE at hp; split at hp
    ·rw [List.mem_singleton.1 hp]
    ·simp at hp
  have hq1 : q.2 = j := by
   rcases List.mem_append.1 hq with hq | hq
   ·unfold ltE at hq; split at hq
    ·rw [List.mem_singleton.1 hq]
    ·simp at hq
   ·unfold dnE at hq; split at hq
    ·rw [List.mem_singleton.1 hq]
    ·simp at hq
  intro e
  rw [e] at hp1
  omega
theorem NetOK.code_perm : (codeG h v N).Perm (edgesG h v N) := by
 refine (List.perm_ext_iff_of_nodup H.code_nodup ?_).2 fun e => H.mem_code
 refine H.edges_srt.imp ?_
 intro a b hab e
 subst e
 exact edLt_irrefl _ hab
end
end Go.Proofs.YtikojiciilambaaGreat

/- Plain: how many rectangles a canonical list may have. -/
namespace Go.Proofs.YtikojiciilambaaGreat
set_option linter.unusedVariables false
set_option linter.unusedSimpArgs false
theorem nodup_len {α : Type} [DecidableEq α] : ∀ {l m : List α}, l.Nodup → (∀ x ∈ l, x ∈ m) → l.length ≤ m.length
 | [], m, _, _ => Nat.zero_le _
 | a :: l, m, hn, h => by
  obtain ⟨h1, h2⟩ := List.nodup_cons.1 hn
  have ha := h a (by simp)
  have ih := nodup_len (m := m.erase a) h2 fun x hx => (List.mem_erase_of_ne (fun e => h1 (by rw [← e]; exact hx))).2 (h x (List.mem_cons_of_mem _ hx))
  rw [List.length_erase_of_mem ha] at ih
  have : 0 < m.length := List.length_pos_of_mem ha
  simp only [List.length_cons]
  omega
end Go.Proofs.YtikojiciilambaaGreat

/- Plain: the network of segments; drawing its edges gives the same lines, and the same network; how many nodes and edges there are. -/
namespace Go.Proofs.YtikojiciilambaaGreat
set_option linter.unusedVariables false
set_option linter.unusedSimpArgs false
abbrev edgesF (l : List Sg) : List Ed := edgesG (htB l) (vtB l) (nodesF l)
def sgOf (N : List Pt) (e : Ed) : Sg := ⟨(nd N e.1).1, (nd N e.1).2, (nd N e.2).1, (nd N e.2).2⟩
def drawnL (N : List Pt) (E : List Ed) : List Sg := E.map (sgOf N)
theorem net_ok {l : List Sg} (hv : ∀ s ∈ l, okSg s) : NetOK (htB l) (vtB l) (nodesF l) :=
 ⟨(nodesF_ok hv).1, (nodesF_ok hv).2, fun x y h => row_far hv h, fun x y h => col_far hv h⟩
theorem node_fin {l : List Sg} (hv : ∀ s ∈ l, okSg s) {i : Nat} (h : i < (nodesF l).length) : finS (nd (nodesF l) i).1 ∧ finS (nd (nodesF l) i).2 := by
 obtain ⟨h1, h2, _⟩ := node_in hv (x := (nd (nodesF l) i).1) (y := (nd (nodesF l) i).2) (((nodesF_ok hv).2 _).1 (nd_mem h))
 obtain ⟨s, hs, h1⟩ := List.mem_flatMap.1 h1
 obtain ⟨t, ht, h2⟩ := List.mem_flatMap.1 h2
 obtain ⟨⟨s1, s2, s3, s4⟩, _⟩ := hv s hs
 obtain ⟨⟨t1, t2, t3, t4⟩, _⟩ := hv t ht
 simp only [List.mem_cons, List.not_mem_nil, or_false] at h1 h2
 refine ⟨?_, ?_⟩
 ·rcases h1 with h1 | h1 <;> rw [h1] <;> assumption
 ·rcases h2 with h2 | h2 <;> rw [h2] <;> assumption
section
variable {h v : Int → Int → Bool} {N : List Pt} (H : NetOK h v N)
include H
theorem NetOK.edge_two {e : Ed} (he : e ∈ edgesG h v N) : e.1 < e.2 ∧ e.2 < N.length ∧ (((nd N e.1).1 = (nd N e.2).1 ∧ (nd N e.1).2 < (nd N e.2).2 ∧ v (nd N e.1).1 (nd N e.1).2 = true ∧ nxt Prod.fst N e.1 e.2) ∨ ((nd N e.1).2 = (nd N e.2).2 ∧ (nd N e.1).1 < (nd N e.2).1 ∧ h (nd N e.1).1 (nd N e.1).2 = true ∧ nxt Prod.snd N e.1 e.2)) := by
 rcases mem_edges.1 he with ⟨h1, h2⟩ | ⟨h1, h2⟩
 ·exact ⟨h2.1, h2.2.1, .inl ⟨h2.2.2.1.symm, (H.col_nodes h2).1, h1, h2⟩⟩
 ·exact ⟨h2.1, h2.2.1, .inr ⟨h2.2.2.1.symm, (H.row_nodes h2).1, h1, h2⟩⟩
theorem NetOK.drawn_row (x y : Int) : htB (drawnL N (edgesG h v N)) x y = h x y := by
 rw [Bool.eq_iff_iff, row_mem]
 constructor
 ·rintro ⟨s, hs, e1, e2, e3, e4⟩
  obtain ⟨e, he, rfl⟩ := List.mem_map.1 hs
  obtain ⟨_, _, k | ⟨k1, k2, k3, k4⟩⟩ := H.edge_two he
  ·have : (nd N e.1).2 = (nd N e.2).2 := e1
   omega
  ·have e3' : min (nd N e.1).1 (nd N e.2).1 ≤ x := e3
   have e4' : x < max (nd N e.1).1 (nd N e.2).1 := e4
   have e2' : (nd N e.1).2 = y := e2
   have := H.row_line k4 (x := x) (by omega) (by omega)
   rw [← e2', this]
   exact k3
 ·intro hx
  obtain ⟨c, c1, c2, c3⟩ := H.row_right hx
  -- the last node up to x
  obtain ⟨b, ⟨b1, b2, b3⟩, b4⟩ := least_nat (P := fun b => b < N.length ∧ x < (nd N b).1 ∧ (nd N b).2 = y) (a := c) ⟨c1, c2, c3⟩
  obtain ⟨a0, a1, a2, a3⟩ := H.row_left hx
  have hab0 := (H.ord_row a1 b1 (by rw [a3, b3])).2 (by omega)
  have hn := nxt_of_last (f := Prod.snd) b1 ⟨a0, hab0, by rw [a3, b3]⟩
  generalize lastG Prod.snd N b (nd N b).2 = a at hn
  have hy : (nd N a).2 = y := by rw [← hn.2.2.1]; exact b3
  have hax : (nd N a).1 ≤ x := by
   by_cases e : (nd N a).1 ≤ x
   ·exact e
   ·exact absurd ⟨Nat.lt_trans hn.1 hn.2.1, by omega, hy⟩ (b4 a hn.1)
  have hl := H.row_line hn hax b2
  rw [hy] at hl
  refine ⟨sgOf N (a, b), List.mem_map.2 ⟨(a, b), mem_edges.2 (.inr ⟨?_, hn⟩), rfl⟩, hn.2.2.1.symm, hy, ?_, ?_⟩
  ·show h (nd N a).1 (nd N a).2 = true
   rw [hy, ← hl]
   exact hx
  ·show min (nd N a).1 (nd N b).1 ≤ x
   omega
  ·show x < max (nd N a).1 (nd N b).1
   omega
theorem NetOK.drawn_col (x y : Int) : vtB (drawnL N (edgesG h v N)) x y = v x y := by
 rw [Bool.eq_iff_iff, col_mem]
 constructor
 ·rintro ⟨s, hs, e1, e2, e3, e4⟩
  obtain ⟨e, he, rfl⟩ := List.mem_map.1 hs
  obtain ⟨_, _, ⟨k1, k2, k3, k4⟩ | k⟩ := H.edge_two he
  ·have e3' : min (nd N e.1).2 (nd N e.2).2 ≤ y := e3
   have e4' : y < max (nd N e.1).2 (nd N e.2).2 := e4
   have e2' : (nd N e.1).1 = x := e2
   have := H.col_line k4 (y := y) (by omega) (by omega)
   rw [← e2', this]
   exact k3
  ·exact absurd k.1 e1
 ·intro hx
  obtain ⟨c, c1, c2, c3⟩ := H.col_right hx
  obtain ⟨b, ⟨b1, b2, b3⟩, b4⟩ := least_nat (P := fun b => b < N.length ∧ y < (nd N b).2 ∧ (nd N b).1 = x) (a := c) ⟨c1, c2, c3⟩
  obtain ⟨a0, a1, a2, a3⟩ := H.col_left hx
  have hab0 := (H.ord_col a1 b1 (by rw [a3, b3])).2 (by omega)
  have hn := nxt_of_last (f := Prod.fst) b1 ⟨a0, hab0, by rw [a3, b3]⟩
  generalize lastG Prod.fst N b (nd N b).1 = a at hn
  have hy : (nd N a).1 = x := by rw [← hn.2.2.1]; exact b3
  have hax : (nd N a).2 ≤ y := by
   by_cases e : (nd N a).2 ≤ y
   ·exact e
   ·exact absurd ⟨Nat.lt_trans hn.1 hn.2.1, by omega, hy⟩ (b4 a hn.1)
  have hl := H.col_line hn hax b2
  rw [hy] at hl
  have hcn := (H.col_nodes hn).1
  refine ⟨sgOf N (a, b), List.mem_map.2 ⟨(a, b), mem_edges.2 (.inl ⟨?_, hn⟩), rfl⟩, ?_, hy, ?_, ?_⟩
  ·show v (nd N a).1 (nd N a).2 = true
   rw [hy, ← hl]
   exact hx
  ·show ¬ (nd N a).2 = (nd N b).2
   omega
  ·show min (nd N a).2 (nd N b).2 ≤ y
   omega
  ·show y < max (nd N a).2 (nd N b).2
   omega
end
theorem len_flat {α β : Type} (f : α → List β) (k : Nat) : ∀ {l : List α}, (∀ a ∈ l, (f a).length ≤ k) → (l.flatMap f).length ≤ l.length * k
 | [], _ => by simp
 | a :: l, h => by
  have h1 := h a (by simp)
  have h2 := len_flat f k (l := l) fun b hb => h b (by simp [hb])
  rw [List.flatMap_cons, List.length_append, List.length_cons, Nat.succ_mul]
  omega
theorem nodes_len {l : List Sg} (hv : ∀ s ∈ l, okSg s) : (nodesF l).length ≤ l.length * 2 + l.length * l.length := by
 obtain ⟨h1, h2⟩ := nodesF_ok hv
 have hnd : (nodesF l).Nodup := h1.imp (by
  intro a b hab e
  subst e
  exact ptLt_irrefl _ hab)
 have hle := nodup_len hnd (m := (l.flatMap fun s => [(s.ax, s.ay), (s.cx, s.cy)]) ++ l.flatMap fun s => l.map fun t => (s.ax, t.ay)) fun p hp => by
  obtain ⟨x, y⟩ := p
  obtain ⟨_, _, ⟨s, hs, ⟨rfl, rfl⟩ | ⟨rfl, rfl⟩⟩ | ⟨s, hs, t, ht, rfl, rfl⟩⟩ := node_in hv ((h2 _).1 hp)
  ·exact List.mem_append.2 (.inl (List.mem_flatMap.2 ⟨s, hs, by simp⟩))
  ·exact List.mem_append.2 (.inl (List.mem_flatMap.2 ⟨s, hs, by simp⟩))
  ·exact List.mem_append.2 (.inr (List.mem_flatMap.2 ⟨s, hs, List.mem_map.2 ⟨t, ht, rfl⟩⟩))
 rw [List.length_append] at hle
 have e1 := len_flat (fun s : Sg => [((s.ax, s.ay) : Pt), (s.cx, s.cy)]) 2 (l := l) fun a _ => by simp
 have e2 := len_flat (fun s : Sg => l.map fun t => ((s.ax, t.ay) : Pt)) l.length (l := l) fun a _ => by simp
 omega
theorem edges_len (h v : Int → Int → Bool) (N : List Pt) : (edgesG h v N).length ≤ N.length * 2 := by
 have := len_flat (fun a => upE v N a ++ rtE h N a) 2 (l := List.range N.length) fun a _ => by
  rw [List.length_append]
  have e1 : (upE v N a).length ≤ 1 := by
   unfold upE
   split
   ·cases upO N a <;> simp
   ·simp
  have e2 : (rtE h N a).length ≤ 1 := by
   unfold rtE
   split
   ·cases rtO N a <;> simp
   ·simp
  omega
 rwa [List.length_range] at this
end Go.Proofs.YtikojiciilambaaGreat

/- Plain: the parts of a network: labels that are joined edge by edge; as many labels as nodes that are the first ones of their part. -/
namespace Go.Proofs.YtikojiciilambaaGreat
set_option linter.unusedVariables false
set_option linter.unusedSimpArgs false
def lb (L : List Nat) (i : Nat) : Nat := L.getD i 0
def joinLb (L : List Nat) (a b : Nat) : List Nat := L.map fun x => if x = b then a else x
def compS (st : List Nat × Nat) (e : Ed) : List Nat × Nat := if lb st.1 e.1 = lb st.1 e.2 then st else (joinLb st.1 (lb st.1 e.1) (lb st.1 e.2), st.2 - 1)
def compF (n : Nat) (E : List Ed) : List Nat × Nat := E.foldl compS (List.range n, n)
def rootB (L : List Nat) (i : Nat) : Bool := decide (lb L i = i)
def firstB (L : List Nat) (i : Nat) : Bool := (List.range i).all fun j => decide (lb L j ≠ lb L i)
structure CompOK (n : Nat) (L : List Nat) (m : Nat) : Prop where
 len : L.length = n
 lt : ∀ i, i < n → lb L i < n
 idem : ∀ i, i < n → lb L (lb L i) = lb L i
 cnt : m = (List.range n).countP (rootB L)
theorem lb_join {L : List Nat} {a b i : Nat} (h : i < L.length) : lb (joinLb L a b) i = if lb L i = b then a else lb L i := by
 unfold lb joinLb
 rw [List.getD_eq_getElem?_getD, List.getD_eq_getElem?_getD, List.getElem?_map, List.getElem?_eq_getElem h]
 rfl
theorem countP_one {n r : Nat} {p q : Nat → Bool} (hr : r < n) (hp : p r = true) (hq : q r = false) (h : ∀ i, i < n → i ≠ r → q i = p i) : (List.range n).countP p = (List.range n).countP q + 1 := by
 induction n with
 | zero => omega
 | succ n ih =>
  rw [List.range_succ, List.countP_append, List.countP_append, List.countP_singleton, List.countP_singleton]
  by_cases e : r = n
  ·subst e
   rw [hp, hq, List.countP_congr (q := q) fun i hi => by rw [h i (by have := List.mem_range.1 hi; omega) (by have := List.mem_range.1 hi; omega)]]
   simp
  ·rw [ih (by omega) fun i hi => h i (by omega), h n (by omega) (fun x => e x.symm)]
   omega
theorem CompOK.start (n : Nat) : CompOK n (List.range n) n := by
 have hl : ∀ i, i < n → lb (List.range n) i = i := fun i hi => by
  unfold lb
  rw [List.getD_eq_getElem?_getD, List.getElem?_range hi]
  rfl
 refine ⟨List.length_range, fun i hi => by rw [hl i hi]; exact hi, fun i hi => by rw [hl i hi, hl i hi], ?_⟩
 rw [List.countP_eq_length.2 fun i hi => ?_, List.length_range]
 have := hl i (List.mem_range.1 hi)
 unfold rootB
 exact decide_eq_true this
theorem CompOK.step {n : Nat} {st : List Nat × Nat} (h : CompOK n st.1 st.2) {e : Ed} (h1 : e.1 < n) (h2 : e.2 < n) : CompOK n (compS st e).1 (compS st e).2 := by
 unfold compS
 split
 ·exact h
 ·rename_i hne
  have hj : ∀ i, i < n → lb (joinLb st.1 (lb st.1 e.1) (lb st.1 e.2)) i = if lb st.1 i = lb st.1 e.2 then lb st.1 e.1 else lb st.1 i := fun i hi => lb_join (by rw [h.len]; exact hi)
  have a1 := h.lt _ h1
  have a2 := h.lt _ h2
  have i1 := h.idem _ h1
  have i2 := h.idem _ h2
  refine ⟨by unfold joinLb; rw [List.length_map]; exact h.len, fun i hi => ?_, fun i hi => ?_, ?_⟩
  ·simp only [hj i hi]
   split
   ·exact a1
   ·exact h.lt i hi
  ·simp only [hj i hi]
   split
   ·rw [hj _ a1, if_neg (by rw [i1]; exact hne), i1]
   ·rename_i hno
    rw [hj _ (h.lt i hi), h.idem i hi, if_neg hno]
  ·have := countP_one (n := n) (r := lb st.1 e.2) (p := rootB st.1) (q := rootB (joinLb st.1 (lb st.1 e.1) (lb st.1 e.2))) a2 (by unfold rootB; rw [i2]; simp)
    (by unfold rootB; rw [hj _ a2, i2, if_pos rfl]; exact decide_eq_false hne) fun i hi hir => by
     unfold rootB
     rw [hj i hi]
     split
     ·rename_i he
      have f1 : ¬ lb st.1 i = i := by rw [he]; exact fun x => hir x.symm
      have f2 : ¬ lb st.1 e.1 = i := fun x => by
       rw [← x, i1] at he
       exact hne he
      rw [decide_eq_false f1, decide_eq_false f2]
     ·rfl
   have hc := h.cnt
   show st.2 - 1 = (List.range n).countP (rootB (joinLb st.1 (lb st.1 e.1) (lb st.1 e.2)))
   rw [hc, this]
   rfl
theorem comp_from {n : Nat} : ∀ (E : List Ed) (st : List Nat × Nat), CompOK n st.1 st.2 → (∀ e ∈ E, e.1 < n ∧ e.2 < n) → CompOK n (E.foldl compS st).1 (E.foldl compS st).2
 | [], st, h, _ => h
 | e :: E, st, h, hE => comp_from E (compS st e) (h.step (hE e (by simp)).1 (hE e (by simp)).2) fun x hx => hE x (by simp [hx])
theorem comp_ok {n : Nat} {E : List Ed} (hE : ∀ e ∈ E, e.1 < n ∧ e.2 < n) : CompOK n (compF n E).1 (compF n E).2 := comp_from E _ (CompOK.start n) hE
theorem step_same {n : Nat} {st : List Nat × Nat} (h : CompOK n st.1 st.2) {e : Ed} (h1 : e.1 < n) (h2 : e.2 < n) : lb (compS st e).1 e.1 = lb (compS st e).1 e.2 ∧ ∀ i j, i < n → j < n → lb st.1 i = lb st.1 j → lb (compS st e).1 i = lb (compS st e).1 j := by
 unfold compS
 split
 ·rename_i he
  exact ⟨he, fun i j _ _ hh => hh⟩
 ·rename_i hne
  have hj : ∀ i, i < n → lb (joinLb st.1 (lb st.1 e.1) (lb st.1 e.2)) i = if lb st.1 i = lb st.1 e.2 then lb st.1 e.1 else lb st.1 i := fun i hi => lb_join (by rw [h.len]; exact hi)
  refine ⟨?_, fun i j hi hj' hh => ?_⟩
  ·rw [hj _ h1, hj _ h2, if_pos rfl, if_neg hne]
  ·rw [hj i hi, hj j hj', hh]
theorem comp_same_from {n : Nat} : ∀ (E : List Ed) (st : List Nat × Nat), CompOK n st.1 st.2 → (∀ e ∈ E, e.1 < n ∧ e.2 < n) → (∀ e ∈ E, lb (E.foldl compS st).1 e.1 = lb (E.foldl compS st).1 e.2) ∧ ∀ i j, i < n → j < n → lb st.1 i = lb st.1 j → lb (E.foldl compS st).1 i = lb (E.foldl compS st).1 j
 | [], st, h, _ => ⟨fun e he => by simp at he, fun i j _ _ hh => hh⟩
 | e :: E, st, h, hE => by
  obtain ⟨b1, b2⟩ := hE e (by simp)
  obtain ⟨c1, c2⟩ := step_same h b1 b2
  obtain ⟨d1, d2⟩ := comp_same_from E (compS st e) (h.step b1 b2) fun x hx => hE x (by simp [hx])
  refine ⟨fun x hx => ?_, fun i j hi hj hh => d2 i j hi hj (c2 i j hi hj hh)⟩
  rcases List.mem_cons.1 hx with rfl | hx
  ·exact d2 _ _ b1 b2 c1
  ·exact d1 x hx
theorem comp_same {n : Nat} {E : List Ed} (hE : ∀ e ∈ E, e.1 < n ∧ e.2 < n) : ∀ e ∈ E, lb (compF n E).1 e.1 = lb (compF n E).1 e.2 := (comp_same_from E _ (CompOK.start n) hE).1
theorem comp_min_from {n : Nat} (S : Nat → Prop) : ∀ (E : List Ed) (st : List Nat × Nat), CompOK n st.1 st.2 → (∀ e ∈ E, e.1 < n ∧ e.2 < n) → (∀ e ∈ E, S e.1 ↔ S e.2) → (∀ i j, i < n → j < n → lb st.1 i = lb st.1 j → (S i ↔ S j)) → ∀ i j, i < n → j < n → lb (E.foldl compS st).1 i = lb (E.foldl compS st).1 j → (S i ↔ S j)
 | [], st, h, _, _, hS => hS
 | e :: E, st, h, hE, hk, hS => by
  obtain ⟨b1, b2⟩ := hE e (by simp)
  refine comp_min_from S E (compS st e) (h.step b1 b2) (fun x hx => hE x (by simp [hx])) (fun x hx => hk x (by simp [hx])) fun i j hi hj hh => ?_
  have hke := hk e (by simp)
  unfold compS at hh
  split at hh
  ·exact hS i j hi hj hh
  ·rw [lb_join (by rw [h.len]; exact hi), lb_join (by rw [h.len]; exact hj)] at hh
   split at hh
   ·rename_i q1
    split at hh
    ·rename_i q2
     exact hS i j hi hj (by rw [q1, q2])
    ·exact (hS i e.2 hi b2 q1).trans (hke.symm.trans (hS e.1 j b1 hj hh))
   ·split at hh
    ·rename_i q2
     exact (hS i e.1 hi b1 hh).trans (hke.trans (hS e.2 j b2 hj q2.symm))
    ·exact hS i j hi hj hh
theorem comp_min {n : Nat} {E : List Ed} (hE : ∀ e ∈ E, e.1 < n ∧ e.2 < n) (S : Nat → Prop) (hk : ∀ e ∈ E, S e.1 ↔ S e.2) {i j : Nat} (hi : i < n) (hj : j < n) (h : lb (compF n E).1 i = lb (compF n E).1 j) : S i ↔ S j := by
 refine comp_min_from S E _ (CompOK.start n) hE hk (fun a b ha hb hh => ?_) i j hi hj h
 unfold lb at hh
 rw [List.getD_eq_getElem?_getD, List.getD_eq_getElem?_getD, List.getElem?_range ha, List.getElem?_range hb] at hh
 have : a = b := hh
 rw [this]
theorem countP_inj {n m : Nat} {p q : Nat → Bool} (f : Nat → Nat) (hf : ∀ i, i < n → p i = true → f i < m ∧ q (f i) = true) (hi : ∀ i j, i < n → j < n → p i = true → p j = true → f i = f j → i = j) : (List.range n).countP p ≤ (List.range m).countP q := by
 rw [List.countP_eq_length_filter, List.countP_eq_length_filter, ← List.length_map (f := f)]
 refine nodup_len ?_ fun x hx => ?_
 ·rw [List.Nodup, List.pairwise_map]
  have hp : ((List.range n).filter p).Pairwise fun a b => (a ≠ b ∧ a ∈ (List.range n).filter p) ∧ b ∈ (List.range n).filter p := by
   rw [List.pairwise_iff_getElem]
   intro i j hi hj hij
   refine ⟨⟨?_, List.getElem_mem hi⟩, List.getElem_mem hj⟩
   have hnd : ((List.range n).filter p).Nodup := List.Pairwise.filter _ List.nodup_range
   exact List.pairwise_iff_getElem.1 hnd i j hi hj hij
  refine hp.imp ?_
  rintro a b ⟨⟨hab, ha⟩, hb⟩ e
  obtain ⟨a1, a2⟩ := List.mem_filter.1 ha
  obtain ⟨b1, b2⟩ := List.mem_filter.1 hb
  exact hab (hi a b (List.mem_range.1 a1) (List.mem_range.1 b1) a2 b2 e)
 ·obtain ⟨i, hi', rfl⟩ := List.mem_map.1 hx
  obtain ⟨a1, a2⟩ := List.mem_filter.1 hi'
  obtain ⟨c1, c2⟩ := hf i (List.mem_range.1 a1) a2
  exact List.mem_filter.2 ⟨List.mem_range.2 c1, c2⟩
theorem first_iff {L : List Nat} {i : Nat} : firstB L i = true ↔ ∀ j, j < i → lb L j ≠ lb L i := by
 unfold firstB
 simp [List.all_eq_true]
theorem first_count {n m : Nat} {L : List Nat} (h : CompOK n L m) : (List.range n).countP (firstB L) = m := by
 rw [h.cnt]
 refine Nat.le_antisymm (countP_inj (lb L) (fun i hi _ => ⟨h.lt i hi, by unfold rootB; rw [h.idem i hi]; simp⟩) fun i j hi hj pi pj e => ?_) ?_
 ·rcases Nat.lt_trichotomy i j with g | g | g
  ·exact absurd e (first_iff.1 pj i g)
  ·exact g
  ·exact absurd e.symm (first_iff.1 pi j g)
 ·have hex : ∀ r, r < n → ∃ b, (b < n ∧ lb L b = lb L r) ∧ ∀ c, c < b → ¬ (c < n ∧ lb L c = lb L r) := fun r hr => least_nat (P := fun b => b < n ∧ lb L b = lb L r) (a := r) ⟨hr, rfl⟩
  refine countP_inj (fun r => if hr : r < n then Classical.choose (hex r hr) else 0) (fun r hr _ => ?_) fun r s hr hs pr ps e => ?_
  ·rw [dif_pos hr]
   obtain ⟨⟨k1, k2⟩, k3⟩ := Classical.choose_spec (hex r hr)
   refine ⟨k1, first_iff.2 fun c hc e => k3 c hc ⟨by omega, by rw [e, k2]⟩⟩
  ·simp only [dif_pos hr, dif_pos hs] at e
   obtain ⟨⟨_, k2⟩, _⟩ := Classical.choose_spec (hex r hr)
   obtain ⟨⟨_, g2⟩, _⟩ := Classical.choose_spec (hex s hs)
   rw [e, g2] at k2
   unfold rootB at pr ps
   rw [decide_eq_true_eq] at pr ps
   rw [pr, ps] at k2
   exact k2.symm
theorem comp_bd {n : Nat} : ∀ (E : List Ed) (st : List Nat × Nat), st.2 ≤ (E.foldl compS st).2 + E.length ∧ (E.foldl compS st).2 ≤ st.2
 | [], st => ⟨Nat.le_refl _, Nat.le_refl _⟩
 | e :: E, st => by
  have ih := comp_bd (n := n) E (compS st e)
  have h1 : (compS st e).2 ≤ st.2 ∧ st.2 ≤ (compS st e).2 + 1 := by
   unfold compS
   split
   ·omega
   ·simp only; omega
  simp only [List.foldl_cons, List.length_cons]
  omega
theorem parts_bd (n : Nat) (E : List Ed) : n ≤ (compF n E).2 + E.length ∧ (compF n E).2 ≤ n := comp_bd (n := n) E (List.range n, n)
theorem parts_pos {n : Nat} {E : List Ed} (hE : ∀ e ∈ E, e.1 < n ∧ e.2 < n) (hn : 0 < n) : 0 < (compF n E).2 := by
 have h := comp_ok hE
 rw [h.cnt, List.countP_pos_iff]
 exact ⟨_, List.mem_range.2 (h.lt 0 hn), by unfold rootB; rw [h.idem 0 hn]; simp⟩
end Go.Proofs.YtikojiciilambaaGreat

/- Plain: the nodes as the ends of canonical lines and the places where lines cross; checks of a network; its segments. -/
namespace Go.Proofs.YtikojiciilambaaGreat
set_option linter.unusedVariables false
set_option linter.unusedSimpArgs false
theorem can_low {s : List Sp} (h : SCan s) {x : Int} : (smem s x ∧ ¬ smem s (x - 1)) ↔ ∃ p ∈ s, p.1 = x := by
 constructor
 ·rintro ⟨⟨p, hp, h1, h2⟩, hno⟩
  refine ⟨p, hp, ?_⟩
  by_cases e : p.1 = x
  ·exact e
  ·exact absurd ⟨p, hp, by omega, by omega⟩ hno
 ·rintro ⟨p, hp, rfl⟩
  refine ⟨⟨p, hp, Int.le_refl _, h.1 p hp⟩, ?_⟩
  rintro ⟨q, hq, q1, q2⟩
  obtain ⟨i, hi, rfl⟩ := List.getElem_of_mem hp
  obtain ⟨j, hj, rfl⟩ := List.getElem_of_mem hq
  have hpw := List.pairwise_iff_getElem.1 h.2
  rcases Nat.lt_trichotomy i j with e | e | e
  ·have := hpw i j hi hj e
   have := h.1 _ (List.getElem_mem hi)
   omega
  ·subst e; omega
  ·have := hpw j i hj hi e
   omega
theorem can_high {s : List Sp} (h : SCan s) {x : Int} : (¬ smem s x ∧ smem s (x - 1)) ↔ ∃ p ∈ s, p.2 = x := by
 constructor
 ·rintro ⟨hno, ⟨p, hp, h1, h2⟩⟩
  refine ⟨p, hp, ?_⟩
  by_cases e : p.2 = x
  ·exact e
  ·exact absurd ⟨p, hp, by omega, by omega⟩ hno
 ·rintro ⟨p, hp, rfl⟩
  have hw := h.1 p hp
  refine ⟨?_, ⟨p, hp, by omega, by omega⟩⟩
  rintro ⟨q, hq, q1, q2⟩
  obtain ⟨i, hi, rfl⟩ := List.getElem_of_mem hp
  obtain ⟨j, hj, rfl⟩ := List.getElem_of_mem hq
  have hpw := List.pairwise_iff_getElem.1 h.2
  rcases Nat.lt_trichotomy i j with e | e | e
  ·have := hpw i j hi hj e
   omega
  ·subst e; omega
  ·have := hpw j i hj hi e
   omega
theorem can_mid {s : List Sp} (h : SCan s) {x : Int} : (smem s x ∧ smem s (x - 1)) ↔ ∃ p ∈ s, p.1 < x ∧ x < p.2 := by
 constructor
 ·rintro ⟨⟨p, hp, h1, h2⟩, hx⟩
  refine ⟨p, hp, ?_, h2⟩
  by_cases e : p.1 = x
  ·exact absurd hx ((can_low h).2 ⟨p, hp, e⟩).2
  ·omega
 ·rintro ⟨p, hp, h1, h2⟩
  exact ⟨⟨p, hp, by omega, h2⟩, ⟨p, hp, by omega, by omega⟩⟩
structure Lines (l : List Sg) (R C : Int → List Sp) : Prop where
 rc : ∀ y, SCan (R y)
 rm : ∀ x y, smem (R y) x ↔ htB l x y = true
 cc : ∀ x, SCan (C x)
 cm : ∀ x y, smem (C x) y ↔ vtB l x y = true
def foundP (l : List Sg) (R C : Int → List Sp) (p : Pt) : Prop :=
 ((∃ s ∈ R p.2, s.1 = p.1 ∨ s.2 = p.1) ∧ nodeG (htB l) (vtB l) p = true) ∨ (∃ s ∈ R p.2, s.1 < p.1 ∧ p.1 < s.2 ∧ (vtB l p.1 p.2 = true ∨ vtB l p.1 (p.2 - 1) = true)) ∨ ((∃ s ∈ C p.1, s.1 = p.2 ∨ s.2 = p.2) ∧ nodeG (htB l) (vtB l) p = true)
theorem found_mid {l : List Sg} {R C : Int → List Sp} (H : Lines l R C) {x y : Int} {s : Sp} (hs : s ∈ R y) (h1 : s.1 < x) (h2 : x < s.2) : nodeG (htB l) (vtB l) (x, y) = (vtB l x y || vtB l x (y - 1)) := by
 obtain ⟨m1, m2⟩ := (can_mid (H.rc y)).2 ⟨s, hs, h1, h2⟩
 rw [H.rm] at m1 m2
 unfold nodeG
 simp only [m1, m2]
 cases vtB l x y <;> cases vtB l x (y - 1) <;> rfl
theorem found_iff {l : List Sg} {R C : Int → List Sp} (H : Lines l R C) (p : Pt) : foundP l R C p ↔ nodeG (htB l) (vtB l) p = true := by
 obtain ⟨x, y⟩ := p
 constructor
 ·rintro (h | ⟨s, hs, h1, h2, h3⟩ | h)
  ·exact h.2
  ·rw [found_mid H hs h1 h2]
   rcases h3 with h3 | h3 <;> simp only at h3 <;> rw [h3] <;> simp
  ·exact h.2
 ·intro h
  by_cases a0 : smem (R y) x <;> by_cases a2 : smem (R y) (x - 1)
  ·obtain ⟨s, hs, h1, h2⟩ := (can_mid (H.rc y)).1 ⟨a0, a2⟩
   refine .inr (.inl ⟨s, hs, h1, h2, ?_⟩)
   rw [found_mid H hs h1 h2] at h
   simpa using h
  ·obtain ⟨s, hs, h1⟩ := (can_low (H.rc y)).1 ⟨a0, a2⟩
   exact .inl ⟨⟨s, hs, .inl h1⟩, h⟩
  ·obtain ⟨s, hs, h1⟩ := (can_high (H.rc y)).1 ⟨a0, a2⟩
   exact .inl ⟨⟨s, hs, .inr h1⟩, h⟩
  ·refine .inr (.inr ⟨?_, h⟩)
   have b0 : htB l x y = false := by rw [← Bool.not_eq_true, ← H.rm]; exact a0
   have b2 : htB l (x - 1) y = false := by rw [← Bool.not_eq_true, ← H.rm]; exact a2
   unfold nodeG at h
   simp only [b0, b2] at h
   by_cases a1 : smem (C x) y <;> by_cases a3 : smem (C x) (y - 1)
   ·rw [(H.cm x y).1 a1, (H.cm x (y - 1)).1 a3] at h
    exact absurd h (by decide)
   ·obtain ⟨s, hs, h1⟩ := (can_low (H.cc x)).1 ⟨a1, a3⟩
    exact ⟨s, hs, .inl h1⟩
   ·obtain ⟨s, hs, h1⟩ := (can_high (H.cc x)).1 ⟨a1, a3⟩
    exact ⟨s, hs, .inr h1⟩
   ·rw [H.cm, Bool.not_eq_true] at a1 a3
    rw [a1, a3] at h
    exact absurd h (by decide)
abbrev Ei := Int × Int
def edI (E : List Ed) : List Ei := E.map fun e => ((e.1 : Int), (e.2 : Int))
def sgI (N : List Pt) (e : Ei) : Sg := ⟨(nd N e.1.toNat).1, (nd N e.1.toNat).2, (nd N e.2.toNat).1, (nd N e.2.toNat).2⟩
def okEi (N : List Pt) (e : Ei) : Prop := (0 ≤ e.1 ∧ e.1 < N.length ∧ 0 ≤ e.2 ∧ e.2 < N.length) ∧ okSg (sgI N e)
instance (N : List Pt) (e : Ei) : Decidable (okEi N e) := by unfold okEi; infer_instance
def segsI (N : List Pt) (E : List Ei) : List Sg := E.map (sgI N)
def chkN (N : List Pt) (E : List Ei) : Int := if 400 < N.length ∨ 800 < E.length then 4 else if ¬ (∀ e ∈ E, okEi N e) then 8 else if (nodesF (segsI N E)).length ≤ 400 ∧ nodesF (segsI N E) = N ∧ edI (edgesF (segsI N E)) = E then 0 else 8
theorem chkN_ok {N : List Pt} {E : List Ei} (h : chkN N E = 0) : N.length ≤ 400 ∧ E.length ≤ 800 ∧ (∀ e ∈ E, okEi N e) ∧ nodesF (segsI N E) = N ∧ edI (edgesF (segsI N E)) = E := by
 unfold chkN at h
 split at h
 ·simp at h
 ·split at h
  ·simp at h
  ·rename_i h1 h2
   split at h
   ·rename_i h3
    refine ⟨by omega, by omega, Classical.not_not.1 h2, h3.2.1, h3.2.2⟩
   ·simp at h
theorem segs_ok {N : List Pt} {E : List Ei} (h : ∀ e ∈ E, okEi N e) : ∀ s ∈ segsI N E, okSg s := by
 intro s hs
 obtain ⟨e, he, rfl⟩ := List.mem_map.1 hs
 exact (h e he).2
end Go.Proofs.YtikojiciilambaaGreat

/- Plain law: the cuts: sorted, without repetitions; and the pairs of neighbours. -/
namespace Go.Proofs.YtikojiciilambaaGreat
open Go.Lib
set_option linter.unusedVariables false
set_option linter.unusedSimpArgs false
theorem compact_up (d : Array Int) (hd : ∀ i j, i < j → j < d.size → d[i]! ≤ d[j]!) : ∀ m, m ≤ d.size → (compactUpTo d m).Pairwise (· < ·) ∧ (∀ x, x ∈ compactUpTo d m ↔ ∃ j, j < m ∧ d[j]! = x)
  | 0, _ => by simp [compactUpTo]
  | m + 1, hm => by
    obtain ⟨h1, h2⟩ := compact_up d hd m (by omega)
    rw [compactUpTo_succ]
    by_cases hk : keeps d m = true
    · rw [if_pos hk]
      refine ⟨?_, fun x => ?_⟩
      · rw [List.pairwise_append]
        refine ⟨h1, by simp, fun a ha b hb => ?_⟩
        simp at hb; subst hb
        obtain ⟨j, hj, rfl⟩ := (h2 a).1 ha
        simp only [keeps, decide_eq_true_eq] at hk
        rcases hk with hk | hk
        · omega
        · have e1 : d[j]! ≤ d[m - 1]! := by
            by_cases e : j = m - 1
            · rw [e]; exact Int.le_refl _
            · exact hd j (m - 1) (by omega) (by omega)
          have e2 := hd (m - 1) m (by omega) (by omega)
          omega
      · rw [List.mem_append, h2]
        simp only [List.mem_singleton]
        constructor
        · rintro (⟨j, hj, e⟩ | e)
          · exact ⟨j, by omega, e⟩
          · exact ⟨m, by omega, e.symm⟩
        · rintro ⟨j, hj, e⟩
          by_cases hjm : j = m
          · subst hjm; exact .inr e.symm
          · exact .inl ⟨j, by omega, e⟩
    · rw [if_neg hk]
      simp only [List.append_nil]
      refine ⟨h1, fun x => ?_⟩
      rw [h2]
      have hk' : ¬ (m = 0 ∨ d[m]! ≠ d[m - 1]!) := by simpa [keeps] using hk
      have hm0 : m ≠ 0 := fun e => hk' (.inl e)
      have he : d[m]! = d[m - 1]! := Classical.byContradiction fun e => hk' (.inr e)
      constructor
      · rintro ⟨j, hj, e⟩
        exact ⟨j, by omega, e⟩
      · rintro ⟨j, hj, e⟩
        by_cases hjm : j = m
        · subst hjm; exact ⟨j - 1, by omega, by rw [← he]; exact e⟩
        · exact ⟨j, by omega, e⟩
def cutsOf (xs : List Int) : List Int := compact (xs.mergeSort fun x y => decide (x ≤ y))
theorem cutsOf_ok (xs : List Int) : (cutsOf xs).Pairwise (· < ·) ∧ ∀ x, x ∈ cutsOf xs ↔ x ∈ xs := by
  have hs : (xs.mergeSort fun x y => decide (x ≤ y)).Pairwise (fun a b => a ≤ b) := by
    have := List.pairwise_mergeSort (le := fun (x y : Int) => decide (x ≤ y)) (fun a b c h1 h2 => by simp at *; omega) (fun a b => by simp; omega) xs
    simpa using this
  have hm := fun x => (List.mergeSort_perm xs fun x y => decide (x ≤ y)).mem_iff (a := x)
  unfold cutsOf
  generalize xs.mergeSort (fun x y => decide (x ≤ y)) = zs at hs hm
  have hd : ∀ i j, i < j → j < zs.toArray.size → zs.toArray[i]! ≤ zs.toArray[j]! := by
    intro i j hij hj
    have hj' : j < zs.length := by simpa using hj
    have := List.pairwise_iff_getElem.1 hs i j (by omega) hj' hij
    rw [getElem!_pos _ i (by simp; omega), getElem!_pos _ j hj]
    simpa using this
  obtain ⟨h1, h2⟩ := compact_up zs.toArray hd zs.length (by simp)
  refine ⟨h1, fun x => ?_⟩
  rw [← hm, show compact zs = compactUpTo zs.toArray zs.length from rfl, h2]
  constructor
  · rintro ⟨j, hj, rfl⟩
    rw [getElem!_pos _ j (by simpa using hj)]
    simp
  · intro hx
    obtain ⟨j, hj, e⟩ := List.getElem_of_mem hx
    exact ⟨j, hj, by rw [getElem!_pos _ j (by simpa using hj)]; simpa using e⟩
theorem cutsOf_len (xs : List Int) : (cutsOf xs).length ≤ xs.length := by
 unfold cutsOf
 have h1 : (xs.mergeSort fun x y => decide (x ≤ y)).length = xs.length := List.length_mergeSort xs
 generalize xs.mergeSort (fun x y => decide (x ≤ y)) = zs at h1
 have : (compact zs).length ≤ zs.length := by
  unfold compact compactUpTo
  rw [List.length_map]
  refine Nat.le_trans (List.length_filter_le _ _) (by simp)
 omega
def prs : List Int → List (Int × Int)
 | c :: d :: r => (c, d) :: prs (d :: r)
 | _ => []
theorem prs_len : ∀ (l : List Int), (prs l).length = l.length - 1
 | [] => rfl
 | [_] => rfl
 | c :: d :: r => by simp [prs, prs_len (d :: r)]
theorem prs_get : ∀ (l : List Int) (i : Nat) (x y : Int), l[i]? = some x → l[i + 1]? = some y → (prs l)[i]? = some (x, y)
 | [], i, x, y, h, _ => by simp at h
 | [c], i, x, y, _, h => by simp at h
 | c :: d :: r, 0, x, y, h1, h2 => by
  simp at h1 h2
  simp [prs, h1, h2]
 | c :: d :: r, i + 1, x, y, h1, h2 => by
  have := prs_get (d :: r) i x y (by simpa using h1) (by simpa using h2)
  simpa [prs] using this
theorem sweep_prs (g : Int → List Sp) : ∀ (l : List Int) (acc : List Slab), sweep g acc l = (prs l).foldl (fun S p => addS S p.1 p.2 (g p.1)) acc
 | [], acc => rfl
 | [_], acc => rfl
 | c :: d :: r, acc => by
  show sweep g (addS acc c d (g c)) (d :: r) = _
  rw [sweep_prs g (d :: r)]
  rfl
end Go.Proofs.YtikojiciilambaaGreat

/- Plain law: the builder's state beside the list of slabs. -/
namespace Go.Proofs.YtikojiciilambaaGreat
set_option linter.unusedVariables false
set_option linter.unusedSimpArgs false
def BInv (S : List Slab) (last : List Sp) (first : Nat) (e : Int) : Prop :=
 (last = [] ∧ ∀ a, S.getLast? = some a → a.t < e) ∨ (last ≠ [] ∧ ∃ S0 f0, S = S0 ++ [⟨f0, e, last⟩] ∧ first = (flat S0).length)
theorem flat_append (S T : List Slab) : flat (S ++ T) = flat S ++ flat T := by simp [flat]
theorem flat_one (a : Slab) : flat [a] = flat1 a := by simp [flat]
theorem BInv.start : BInv [] [] 0 0 := .inl ⟨rfl, by simp⟩
theorem BInv.join {S : List Slab} {last s : List Sp} {first : Nat} {e f t : Int} (h : BInv S last first e) (hs : s ≠ []) (he : e = f) (hl : last = s) :
  ∃ S0 f0, S = S0 ++ [⟨f0, e, last⟩] ∧ first = (flat S0).length ∧ addS S f t s = S0 ++ [⟨f0, t, s⟩] ∧ BInv (addS S f t s) s first t := by
 subst hl
 rcases h with ⟨h1, _⟩ | ⟨h1, S0, f0, h2, h3⟩
 ·exact absurd h1 hs
 ·have : addS S f t last = S0 ++ [⟨f0, t, last⟩] := by
   unfold addS
   rw [if_neg hs, h2]
   simp [he]
  exact ⟨S0, f0, h2, h3, this, .inr ⟨hs, S0, f0, this, h3⟩⟩
theorem BInv.push {S : List Slab} {last s : List Sp} {first : Nat} {e f t : Int} (h : BInv S last first e) (hef : S = [] ∨ e ≤ f) (hft : f < t) (hn : ¬ (s ≠ [] ∧ e = f ∧ last = s)) :
  flat (addS S f t s) = flat S ++ s.map (fun p => ⟨f, p.1, t, p.2⟩) ∧ BInv (addS S f t s) s (flat S).length t := by
 by_cases hs : s = []
 ·subst hs
  have : addS S f t [] = S := by simp [addS]
  rw [this]
  refine ⟨by simp, .inl ⟨rfl, fun a ha => ?_⟩⟩
  rcases hef with rfl | hef
  ·simp at ha
  ·rcases h with ⟨_, h2⟩ | ⟨_, S0, f0, h2, _⟩
   ·have := h2 a ha; omega
   ·rw [h2] at ha
    simp at ha
    subst ha
    show e < t
    omega
 ·have key : addS S f t s = S ++ [⟨f, t, s⟩] := by
   unfold addS
   rw [if_neg hs]
   cases hg : S.getLast? with
   | none =>
    have : S = [] := List.getLast?_eq_none_iff.1 hg
    subst this; rfl
   | some a =>
    show (if a.t = f ∧ a.s = s then _ else _) = _
    rw [if_neg]
    rintro ⟨g1, g2⟩
    rcases h with ⟨_, h2⟩ | ⟨_, S0, f0, h2, _⟩
    ·have := h2 a hg
     rcases hef with rfl | hef
     ·simp at hg
     ·omega
    ·rw [h2] at hg
     simp at hg
     subst hg
     exact hn ⟨hs, g1, g2⟩
  refine ⟨by rw [key, flat_append, flat_one]; rfl, .inr ⟨hs, S, f, key, rfl⟩⟩
end Go.Proofs.YtikojiciilambaaGreat

/- Small words that every walk of this seat uses. -/
namespace Go.Proofs.YtikojiciilambaaGreat
open Go.RowKit
set_option linter.unusedVariables false
set_option linter.unusedSimpArgs false
theorem bcell {W w1 : World} (hb : Below W.heap.size W w1) : (∀ b o, b < W.heap.size → w1.cell? ⟨b, o, none⟩ = W.cell? ⟨b, o, none⟩) ∧ (∀ b o, b < W.heap.size → w1.frozen? ⟨b, o, none⟩ = W.frozen? ⟨b, o, none⟩) :=
 ⟨fun b o h => hb.cell (p := ⟨b, o, none⟩) h, fun b o h => hb.frozen (p := ⟨b, o, none⟩) h⟩
theorem ret_eq {a b : Value} (h : a = b) : Ending.returned a = .returned b := by rw [h]
theorem int_eq {k : IntKind} {a b : Int} (h : a = b) : Value.int k a = Value.int k b := by rw [h]
theorem bool_eq {a b : Bool} (h : a = b) : Value.bool a = Value.bool b := by rw [h]
theorem hide {p : Prop} (h : p) : Hid p := h
structure Above (w : World) where
 get : World
 keeps : Below w.heap.size w get
instance {w : World} : Nonempty (Above w) := ⟨⟨w, Below.refl _ _⟩⟩
theorem above_cell {w : World} (x : Above w) {b : Nat} (o : Nat) (h : b < w.heap.size) : x.get.cell? ⟨b, o, none⟩ = w.cell? ⟨b, o, none⟩ := x.keeps.cell (p := ⟨b, o, none⟩) h
theorem wp_hab {P : Program} {c : Code} {Q : Exit → Act → World → Prop} {a : Act} {W : World} (h : (∀ (x : Above W) (b o : Nat), b < W.heap.size → x.get.cell? ⟨b, o, none⟩ = W.cell? ⟨b, o, none⟩) → c.wp P Q a W) : c.wp P Q a W :=
 h fun x _ o hb => above_cell x o hb
theorem wp_name {P : Program} {c : Code} {Q : Exit → Act → World → Prop} {a : Act} {W : World} (h : ∀ w, w = W → c.wp P Q a w) : c.wp P Q a W := h W rfl
theorem wp_region_above {P : Program} {id : Nat} {Q : Exit → Act → World → Prop} {a : Act} {w : World} {l : List Oper} (hm : P.follows .mixedOrders = true) (hB : Region.lexB .any l.toArray = true)
  (h : wpQuiet P l.toArray (fun w' => ∃ x : Above w, w' = x.get) (fun a' => ∀ w', (∃ x : Above w, w' = x.get) → Q .normal a' w') l a) : (Code.region id l.toArray true).wp P Q a w :=
 wp_region_quiet (C := fun w' => ∃ x : Above w, w' = x.get) hm hB ⟨⟨w.drew, (Below.refl _ _).drew⟩, rfl⟩ (by simpa using h)
theorem above_ends {w : World} {Q : World → Prop} (h : ∀ w', Below w.heap.size w w' → Q w') : ∀ w', (∃ x : Above w, w' = x.get) → Q w' := fun w' ⟨x, hx⟩ => h w' (hx ▸ x.keeps)
theorem above_of {P : Program} {f : FuncId} {args : Array Value} {w : World} {x : Above w} {v : Value}
  (h : Calls P f args x.get fun e w' => e = .returned v ∧ Below x.get.heap.size x.get w') : Calls P f args x.get fun e w'' => e = .returned v ∧ ∃ y : Above w, w'' = y.get :=
 h.mono fun _ w'' ⟨he, hb⟩ => ⟨he, ⟨w'', x.keeps.trans (hb.mono x.keeps.size)⟩, rfl⟩
theorem above_same {P : Program} {f : FuncId} {args : Array Value} {w : World} {x : Above w} {v : Value}
  (h : Calls P f args x.get fun e w' => e = .returned v ∧ x.get = w') : Calls P f args x.get fun e w'' => e = .returned v ∧ ∃ y : Above w, w'' = y.get :=
 h.mono fun _ _ ⟨he, hb⟩ => ⟨he, x, hb.symm⟩
end Go.Proofs.YtikojiciilambaaGreat

/- The walks of region's small functions. -/
namespace Go.Proofs.YtikojiciilambaaGreat
open Go.RowKit
set_option linter.unusedVariables false
set_option linter.unusedSimpArgs false
def encR (r : R4) : List Value := [.int .i64 r.x0, .int .i64 r.y0, .int .i64 r.x1, .int .i64 r.y1]
def encS (p : Sp) : List Value := [.int .i64 p.1, .int .i64 p.2]
def encE (e : En) : List Value := [.int .i64 e.1, .int .i64 e.2.1, .int .i64 e.2.2]
def fineP (x : Int) : Prop := -1000000 ≤ x ∧ x ≤ 1000000
def valid4 (r : R4) : Prop := r.x0 < r.x1 ∧ r.y0 < r.y1 ∧ fineP r.x0 ∧ fineP r.x1 ∧ fineP r.y0 ∧ fineP r.y1
instance (r : R4) : Decidable (valid4 r) := by unfold valid4 fineP; infer_instance
def validS (p : Sp) : Prop := p.1 < p.2 ∧ -1000000 ≤ p.1 ∧ p.2 ≤ 1000000
instance (p : Sp) : Decidable (validS p) := by unfold validS; infer_instance
set_option maxHeartbeats 1000000 in
theorem valid_any (r : R4) (w : World) :
  Calls Tryz.prog 80 #[.agg (encR r).toArray] w fun e w' => e = .returned (.bool (decide (valid4 r))) ∧ Below w.heap.size w w' := by
 obtain ⟨a, b, c, d⟩ := r
 show Calls Tryz.prog 80 #[.agg #[.int .i64 a, .int .i64 b, .int .i64 c, .int .i64 d]] w _
 go_enter Tryz.func80, Tryz.ntmps80
 go_wp2
 all_goals
  go_ret
  refine ⟨ret_eq (bool_eq ?_), (Below.refl _ _).alloc (Nat.le_refl _) _⟩
  first
   | exact (decide_eq_false (by simp only [valid4, fineP]; omega)).symm
   | exact (decide_eq_true (by simp only [valid4, fineP]; omega)).symm
   | exact decide_eq_decide.2 (by simp only [valid4, fineP]; omega)
set_option maxHeartbeats 1000000 in
theorem validS_any (p : Sp) (w : World) :
  Calls Tryz.prog 147 #[.agg (encS p).toArray] w fun e w' => e = .returned (.bool (decide (validS p))) ∧ Below w.heap.size w w' := by
 obtain ⟨a, b⟩ := p
 show Calls Tryz.prog 147 #[.agg #[.int .i64 a, .int .i64 b]] w _
 go_enter Tryz.func147, Tryz.ntmps147
 go_wp2
 all_goals
  go_ret
  refine ⟨ret_eq (bool_eq ?_), (Below.refl _ _).alloc (Nat.le_refl _) _⟩
  first
   | exact (decide_eq_false (by simp only [validS]; omega)).symm
   | exact (decide_eq_true (by simp only [validS]; omega)).symm
   | exact decide_eq_decide.2 (by simp only [validS]; omega)
end Go.Proofs.YtikojiciilambaaGreat
