/- Plain law: regions of the plane as canonical lists of rectangles; a canonical list is known by its points; the sweep over cuts. No Go in sight. -/
import Derived.Test.YtamnaojheecopaaMSpan
namespace Go.Proofs.Ytamnaojheecopaa
set_option linter.unusedVariables false
set_option linter.unusedSimpArgs false

structure R4 where
  x0 : Int
  y0 : Int
  x1 : Int
  y1 : Int
deriving DecidableEq
def rin (r : R4) (x y : Int) : Prop := r.x0 ≤ x ∧ x < r.x1 ∧ r.y0 ≤ y ∧ y < r.y1
instance (r : R4) (x y : Int) : Decidable (rin r x y) := by unfold rin; infer_instance
def pmem (l : List R4) (x y : Int) : Prop := ∃ r ∈ l, rin r x y
instance (l : List R4) (x y : Int) : Decidable (pmem l x y) := by unfold pmem; infer_instance
theorem pmem_nil {x y : Int} : ¬ pmem [] x y := by simp [pmem]
theorem pmem_cons {r : R4} {l : List R4} {x y : Int} : pmem (r :: l) x y ↔ rin r x y ∨ pmem l x y := by simp [pmem]
theorem pmem_append {l m : List R4} {x y : Int} : pmem (l ++ m) x y ↔ pmem l x y ∨ pmem m x y := by
  simp only [pmem, List.mem_append]
  constructor
  · rintro ⟨p, hp | hp, h⟩
    · exact .inl ⟨p, hp, h⟩
    · exact .inr ⟨p, hp, h⟩
  · rintro (⟨p, hp, h⟩ | ⟨p, hp, h⟩)
    · exact ⟨p, .inl hp, h⟩
    · exact ⟨p, .inr hp, h⟩

/-- A slab: from f to t, with a cross-section. -/
structure Slab where
  f : Int
  t : Int
  s : List Sp
def Slab.has (a : Slab) (x y : Int) : Prop := a.f ≤ x ∧ x < a.t ∧ smem a.s y
def inS (S : List Slab) (x y : Int) : Prop := ∃ a ∈ S, a.has x y
def flat1 (a : Slab) : List R4 := a.s.map fun p => ⟨a.f, p.1, a.t, p.2⟩
def flat (S : List Slab) : List R4 := S.flatMap flat1
theorem pmem_flat1 {a : Slab} {x y : Int} : pmem (flat1 a) x y ↔ a.has x y := by
  unfold pmem flat1 Slab.has smem rin
  constructor
  · rintro ⟨r, hr, h1, h2, h3, h4⟩
    obtain ⟨p, hp, rfl⟩ := List.mem_map.1 hr
    exact ⟨h1, h2, p, hp, h3, h4⟩
  · rintro ⟨h1, h2, p, hp, h3, h4⟩
    exact ⟨_, List.mem_map.2 ⟨p, hp, rfl⟩, h1, h2, h3, h4⟩
theorem pmem_flat {S : List Slab} {x y : Int} : pmem (flat S) x y ↔ inS S x y := by
  induction S with
  | nil => simp [flat, pmem, inS]
  | cons a S ih =>
    have : flat (a :: S) = flat1 a ++ flat S := by simp [flat]
    rw [this, pmem_append, ih, pmem_flat1]
    simp [inS]

def okS (a : Slab) : Prop := a.f < a.t ∧ a.s ≠ [] ∧ SCan a.s
def Rl (a b : Slab) : Prop := a.t ≤ b.f ∧ (a.t = b.f → a.s ≠ b.s)
def SOK : List Slab → Prop
  | [] => True
  | [a] => okS a
  | a :: b :: r => okS a ∧ Rl a b ∧ SOK (b :: r)
theorem SOK.head {a : Slab} : ∀ {S : List Slab}, SOK (a :: S) → okS a
  | [], h => h
  | _ :: _, h => h.1
theorem SOK.tail {a : Slab} : ∀ {S : List Slab}, SOK (a :: S) → SOK S
  | [], _ => trivial
  | _ :: _, h => h.2.2
theorem SOK.after : ∀ {S : List Slab} {a : Slab}, SOK (a :: S) → ∀ b ∈ S, a.t ≤ b.f
  | c :: S, a, h, b, hb => by
    have h1 := h.2.1.1
    rcases List.mem_cons.1 hb with rfl | hb
    · exact h1
    · have h2 := SOK.after h.2.2 b hb
      have h3 := h.2.2.head.1
      omega
theorem SOK.all : ∀ {S : List Slab}, SOK S → ∀ a ∈ S, okS a
  | b :: S, h, a, ha => by
    rcases List.mem_cons.1 ha with rfl | ha
    · exact h.head
    · exact SOK.all h.tail a ha
theorem SOK.snoc {b : Slab} : ∀ {S : List Slab}, SOK (S ++ [b]) ↔ SOK S ∧ okS b ∧ ∀ a, S.getLast? = some a → Rl a b
  | [] => by simp [SOK]
  | [a] => by
    show SOK [a, b] ↔ _
    simp only [SOK, List.getLast?_singleton, Option.some.injEq]
    constructor
    · rintro ⟨h1, h2, h3⟩
      exact ⟨h1, h3, fun c hc => hc ▸ h2⟩
    · rintro ⟨h1, h2, h3⟩
      exact ⟨h1, h3 a rfl, h2⟩
  | a :: c :: S => by
    have ih := @SOK.snoc b (c :: S)
    show (okS a ∧ Rl a c ∧ SOK ((c :: S) ++ [b])) ↔ _
    rw [ih]
    simp only [SOK, List.getLast?_cons_cons]
    constructor
    · rintro ⟨h1, h2, h3, h4, h5⟩
      exact ⟨⟨h1, h2, h3⟩, h4, h5⟩
    · rintro ⟨⟨h1, h2, h3⟩, h4, h5⟩
      exact ⟨h1, h2, h3, h4, h5⟩

/-- The cross-section at x. -/
def cr : List Slab → Int → List Sp
  | [], _ => []
  | a :: S, x => if a.f ≤ x ∧ x < a.t then a.s else cr S x
theorem cr_far : ∀ {S : List Slab} {x : Int}, (∀ a ∈ S, x < a.f ∨ a.t ≤ x) → cr S x = []
  | [], _, _ => rfl
  | a :: S, x, h => by
    have := h a (by simp)
    simp only [cr]
    rw [if_neg (by omega)]
    exact cr_far fun b hb => h b (by simp [hb])
theorem cr_can : ∀ {S : List Slab} (x : Int), SOK S → SCan (cr S x)
  | [], _, _ => SCan.nil
  | a :: S, x, h => by
    simp only [cr]
    split
    · exact h.head.2.2
    · exact cr_can x h.tail
theorem inS_cr : ∀ {S : List Slab} {x y : Int}, SOK S → (inS S x y ↔ smem (cr S x) y)
  | [], x, y, _ => by simp [inS, cr, smem]
  | a :: S, x, y, h => by
    have ih := inS_cr (x := x) (y := y) h.tail
    have e : inS (a :: S) x y ↔ a.has x y ∨ inS S x y := by simp [inS]
    rw [e, ih]
    simp only [cr]
    by_cases hx : a.f ≤ x ∧ x < a.t
    · rw [if_pos hx, cr_far (S := S) (fun b hb => .inl (by have := h.after b hb; omega))]
      simp only [smem_nil, or_false]
      exact ⟨fun g => g.2.2, fun g => ⟨hx.1, hx.2, g⟩⟩
    · rw [if_neg hx]
      constructor
      · rintro (g | g)
        · exact (hx ⟨g.1, g.2.1⟩).elim
        · exact g
      · exact .inr
theorem cr_head {a : Slab} {S : List Slab} (h : SOK (a :: S)) {x : Int} (h1 : a.f ≤ x) (h2 : x < a.t) : cr (a :: S) x = a.s := by simp [cr, h1, h2]
theorem cr_before {a : Slab} {S : List Slab} (h : SOK (a :: S)) {x : Int} (h1 : x < a.f) : cr (a :: S) x = [] := by
  refine cr_far fun b hb => .inl ?_
  rcases List.mem_cons.1 hb with rfl | hb
  · exact h1
  · have := h.after b hb; have := h.head.1; omega
theorem cr_end {a : Slab} {S : List Slab} (h : SOK (a :: S)) : cr (a :: S) a.t ≠ a.s := by
  intro e
  simp only [cr] at e
  rw [if_neg (by omega)] at e
  cases S with
  | nil => exact h.head.2.1 e.symm
  | cons c S =>
    have hr := h.2.1
    by_cases hc : a.t = c.f
    · rw [cr_head h.2.2 (by omega) (by have := h.2.2.head.1; omega)] at e
      exact hr.2 hc e.symm
    · rw [cr_before h.2.2 (by have := hr.1; omega)] at e
      exact h.head.2.1 e.symm
theorem cr_ext : ∀ {S T : List Slab}, SOK S → SOK T → (∀ x, cr S x = cr T x) → S = T
  | [], [], _, _, _ => rfl
  | [], b :: T, _, ht, h => by
    have := h b.f
    rw [cr_head ht (by omega) ht.head.1] at this
    exact (ht.head.2.1 this.symm).elim
  | a :: S, [], hs, _, h => by
    have := h a.f
    rw [cr_head hs (by omega) hs.head.1] at this
    exact (hs.head.2.1 this).elim
  | a :: S, b :: T, hs, ht, h => by
    have hsa := hs.head
    have htb := ht.head
    have e1 : a.f = b.f := by
      rcases Int.lt_trichotomy a.f b.f with g | g | g
      · have := h a.f
        rw [cr_head hs (by omega) hsa.1, cr_before ht g] at this
        exact (hsa.2.1 this).elim
      · exact g
      · have := h b.f
        rw [cr_head ht (by omega) htb.1, cr_before hs g] at this
        exact (htb.2.1 this.symm).elim
    have e2 : a.s = b.s := by
      have := h a.f
      rw [cr_head hs (by omega) hsa.1, cr_head ht (by omega) (by have := htb.1; omega)] at this
      exact this
    have e3 : a.t = b.t := by
      rcases Int.lt_trichotomy a.t b.t with g | g | g
      · have := h a.t
        rw [cr_head ht (by have := hsa.1; omega) g] at this
        exact (cr_end hs (by rw [this, e2])).elim
      · exact g
      · have := h b.t
        rw [cr_head hs (by have := htb.1; omega) g] at this
        exact (cr_end ht (by rw [← this, e2])).elim
    have e : a = b := by
      cases a; cases b
      simp only at e1 e2 e3
      subst e1; subst e2; subst e3
      rfl
    subst e
    have : S = T := cr_ext hs.tail ht.tail fun x => by
      by_cases hx : x < a.t
      · rw [cr_far (S := S) (fun b hb => .inl (by have := hs.after b hb; omega)), cr_far (S := T) (fun b hb => .inl (by have := ht.after b hb; omega))]
      · have := h x
        simp only [cr] at this
        rwa [if_neg (by omega), if_neg (by omega)] at this
    rw [this]

/-- Canonical lists of rectangles. -/
def RCan (l : List R4) : Prop := ∃ S, SOK S ∧ l = flat S
theorem RCan.nil : RCan [] := ⟨[], trivial, rfl⟩
/-- **A canonical list of rectangles is known by its points.** -/
theorem RCan.ext {l m : List R4} (hl : RCan l) (hm : RCan m) (h : ∀ x y, pmem l x y ↔ pmem m x y) : l = m := by
  obtain ⟨S, hS, rfl⟩ := hl
  obtain ⟨T, hT, rfl⟩ := hm
  have : S = T := cr_ext hS hT fun x => SCan.ext (cr_can x hS) (cr_can x hT) fun y => by
    rw [← inS_cr hS, ← inS_cr hT, ← pmem_flat, ← pmem_flat]
    exact h x y
  rw [this]

/-! ### Slabs from the least x on, joined where they fit -/
def addS (S : List Slab) (f t : Int) (s : List Sp) : List Slab :=
  if s = [] then S else
  match S.getLast? with
  | some a => if a.t = f ∧ a.s = s then S.dropLast ++ [⟨a.f, t, s⟩] else S ++ [⟨f, t, s⟩]
  | none => [⟨f, t, s⟩]
theorem inS_append {S T : List Slab} {x y : Int} : inS (S ++ T) x y ↔ inS S x y ∨ inS T x y := by
  simp only [inS, List.mem_append]
  constructor
  · rintro ⟨p, hp | hp, h⟩
    · exact .inl ⟨p, hp, h⟩
    · exact .inr ⟨p, hp, h⟩
  · rintro (⟨p, hp, h⟩ | ⟨p, hp, h⟩)
    · exact ⟨p, .inl hp, h⟩
    · exact ⟨p, .inr hp, h⟩
theorem inS_one {a : Slab} {x y : Int} : inS [a] x y ↔ a.has x y := by simp [inS]
theorem addS_ok {S : List Slab} {f t : Int} {s : List Sp} (h : SOK S) (hf : ∀ a ∈ S, a.t ≤ f) (hft : f < t) (hs : SCan s) :
    SOK (addS S f t s) ∧ (∀ a ∈ addS S f t s, a.t ≤ t) ∧ ∀ x y, inS (addS S f t s) x y ↔ inS S x y ∨ (f ≤ x ∧ x < t ∧ smem s y) := by
  unfold addS
  by_cases h0 : s = []
  · rw [if_pos h0]
    subst h0
    refine ⟨h, fun a ha => by have := hf a ha; omega, fun x y => ?_⟩
    simp [smem_nil]
  rw [if_neg h0]
  cases hg : S.getLast? with
  | none =>
    have : S = [] := List.getLast?_eq_none_iff.1 hg
    subst this
    refine ⟨⟨hft, h0, hs⟩, by simp, fun x y => ?_⟩
    simp only [inS_one, Slab.has]
    simp [inS]
  | some a =>
    obtain ⟨o, rfl⟩ := List.getLast?_eq_some_iff.1 hg
    obtain ⟨h1, h2, h3⟩ := SOK.snoc.1 h
    have ha := hf a (by simp)
    simp only [List.dropLast_concat]
    by_cases hb : a.t = f ∧ a.s = s
    · rw [if_pos hb]
      obtain ⟨hb1, rfl⟩ := hb
      refine ⟨SOK.snoc.2 ⟨h1, ⟨by have := h2.1; show a.f < t; omega, h2.2.1, h2.2.2⟩, fun c hc => h3 c hc⟩, ?_, fun x y => ?_⟩
      · intro b hb
        rcases List.mem_append.1 hb with hb | hb
        · have := hf b (by simp [hb]); omega
        · simp at hb; subst hb; simp
      · rw [inS_append, inS_append, inS_one, inS_one]
        simp only [Slab.has]
        constructor
        · rintro (g | g)
          · exact .inl (.inl g)
          · by_cases hx : x < a.t
            · exact .inl (.inr ⟨g.1, hx, g.2.2⟩)
            · exact .inr ⟨by omega, g.2.1, g.2.2⟩
        · rintro ((g | g) | g)
          · exact .inl g
          · exact .inr ⟨g.1, by omega, g.2.2⟩
          · exact .inr ⟨by have := h2.1; omega, g.2.1, g.2.2⟩
    · rw [if_neg hb]
      refine ⟨SOK.snoc.2 ⟨h, ⟨hft, h0, hs⟩, fun c hc => ?_⟩, ?_, fun x y => ?_⟩
      · rw [List.getLast?_concat] at hc
        simp only [Option.some.injEq] at hc
        subst hc
        exact ⟨ha, fun e1 e2 => hb ⟨e1, e2⟩⟩
      · intro b hb
        rcases List.mem_append.1 hb with hb | hb
        · have := hf b hb; omega
        · simp at hb; subst hb; simp
      · rw [inS_append (S := o ++ [a]), inS_one (a := ⟨f, t, s⟩)]
        rfl

/-- The sweep over cuts, g telling the cross-section from a cut on. -/
def sweep (g : Int → List Sp) : List Slab → List Int → List Slab
  | acc, c :: d :: r => sweep g (addS acc c d (g c)) (d :: r)
  | acc, _ => acc
theorem sweep_from {g : Int → List Sp} {H : Int → Int → Prop} {cs : List Int} (hs : cs.Pairwise (· < ·)) (hg : ∀ c ∈ cs, SCan (g c))
    (hH : ∀ c d x y, c ∈ cs → d ∈ cs → c < d → (∀ e ∈ cs, e ≤ c ∨ d ≤ e) → c ≤ x → x < d → (H x y ↔ smem (g c) y)) (hhi : ∀ x y, (∀ c ∈ cs, c ≤ x) → ¬ H x y) :
    ∀ (r : List Int) (A : List Int) (c : Int) (acc : List Slab), cs = A ++ c :: r → SOK acc → (∀ a ∈ acc, a.t ≤ c) → (∀ x y, inS acc x y ↔ x < c ∧ H x y) →
      SOK (sweep g acc (c :: r)) ∧ ∀ x y, inS (sweep g acc (c :: r)) x y ↔ H x y
  | [], A, c, acc, hcs, h1, h2, h3 => by
    refine ⟨h1, fun x y => ?_⟩
    show inS acc x y ↔ _
    rw [h3]
    constructor
    · exact fun q => q.2
    · intro q
      refine ⟨?_, q⟩
      rcases Int.lt_or_le x c with hx | hx
      · exact hx
      · exfalso
        refine hhi x y (fun e he => ?_) q
        rw [hcs] at he hs
        rcases List.mem_append.1 he with he | he
        · have := (List.pairwise_append.1 hs).2.2 e he c (by simp); omega
        · simp at he; omega
  | d :: r, A, c, acc, hcs, h1, h2, h3 => by
    have hc : c ∈ cs := by rw [hcs]; simp
    have hd : d ∈ cs := by rw [hcs]; simp
    have hs' := hs
    rw [hcs, List.pairwise_append] at hs'
    have hcd : c < d := (List.pairwise_cons.1 hs'.2.1).1 d (by simp)
    have hgap : ∀ e ∈ cs, e ≤ c ∨ d ≤ e := by
      intro e he
      rw [hcs] at he
      rcases List.mem_append.1 he with he | he
      · have := hs'.2.2 e he c (by simp); omega
      · rcases List.mem_cons.1 he with rfl | he
        · omega
        · rcases List.mem_cons.1 he with rfl | he
          · omega
          · have := (List.pairwise_cons.1 (List.pairwise_cons.1 hs'.2.1).2).1 e he; omega
    obtain ⟨a1, a2, a3⟩ := addS_ok h1 h2 hcd (hg c hc)
    refine sweep_from hs hg hH hhi r (A ++ [c]) d _ (by rw [hcs]; simp) a1 a2 fun x y => ?_
    rw [a3, h3]
    constructor
    · rintro (⟨q1, q2⟩ | ⟨q1, q2, q3⟩)
      · exact ⟨by omega, q2⟩
      · exact ⟨q2, (hH c d x y hc hd hcd hgap q1 q2).2 q3⟩
    · rintro ⟨q1, q2⟩
      by_cases hx : x < c
      · exact .inl ⟨hx, q2⟩
      · exact .inr ⟨by omega, q1, (hH c d x y hc hd hcd hgap (by omega) q1).1 q2⟩
theorem sweep_ok {g : Int → List Sp} {H : Int → Int → Prop} {cs : List Int} (hs : cs.Pairwise (· < ·)) (hg : ∀ c ∈ cs, SCan (g c))
    (hH : ∀ c d x y, c ∈ cs → d ∈ cs → c < d → (∀ e ∈ cs, e ≤ c ∨ d ≤ e) → c ≤ x → x < d → (H x y ↔ smem (g c) y)) (hhi : ∀ x y, (∀ c ∈ cs, c ≤ x) → ¬ H x y) (hlo : ∀ x y, (∀ c ∈ cs, x < c) → ¬ H x y) :
    RCan (flat (sweep g [] cs)) ∧ ∀ x y, pmem (flat (sweep g [] cs)) x y ↔ H x y := by
  cases cs with
  | nil =>
    refine ⟨⟨[], trivial, rfl⟩, fun x y => ?_⟩
    have := hhi x y (by simp)
    simp [sweep, flat, pmem, this]
  | cons c r =>
    obtain ⟨h1, h2⟩ := sweep_from hs hg hH hhi r [] c [] rfl trivial (by simp) (fun x y => by
      constructor
      · rintro ⟨a, ha, _⟩
        simp at ha
      · rintro ⟨q1, q2⟩
        exfalso
        refine hlo x y (fun e he => ?_) q2
        rcases List.mem_cons.1 he with rfl | he
        · exact q1
        · have := (List.pairwise_cons.1 hs).1 e he; omega)
    exact ⟨⟨_, h1, rfl⟩, fun x y => by rw [pmem_flat]; exact h2 x y⟩

/-! ### Two lists of rectangles, joined by a decision -/
def crossL (l : List R4) (c : Int) : List Sp := (l.filter fun r => decide (r.x0 ≤ c) && decide (c < r.x1)).map fun r => (r.y0, r.y1)
theorem smem_crossL {l : List R4} {x y : Int} : smem (crossL l x) y ↔ pmem l x y := by
  unfold smem crossL pmem rin
  constructor
  · rintro ⟨p, hp, h1, h2⟩
    obtain ⟨r, hr, rfl⟩ := List.mem_map.1 hp
    obtain ⟨hr1, hr2⟩ := List.mem_filter.1 hr
    simp at hr2
    exact ⟨r, hr1, hr2.1, hr2.2, h1, h2⟩
  · rintro ⟨r, hr, h1, h2, h3, h4⟩
    exact ⟨(r.y0, r.y1), List.mem_map.2 ⟨r, List.mem_filter.2 ⟨hr, by simp [h1, h2]⟩, rfl⟩, h3, h4⟩
def wf4 (r : R4) : Prop := r.x0 < r.x1 ∧ r.y0 < r.y1
theorem crossL_wf {l : List R4} (h : ∀ r ∈ l, wf4 r) (c : Int) : ∀ p ∈ crossL l c, p.1 < p.2 := by
  intro p hp
  obtain ⟨r, hr, rfl⟩ := List.mem_map.1 hp
  exact (h r (List.mem_filter.1 hr).1).2
/-- xs of the rectangles, as the cuts are gathered. -/
def cutsL (l : List R4) : List Int := l.flatMap fun r => [r.x0, r.x1]
theorem mem_cutsL {l : List R4} {r : R4} (h : r ∈ l) : r.x0 ∈ cutsL l ∧ r.x1 ∈ cutsL l := by
  unfold cutsL
  exact ⟨List.mem_flatMap.2 ⟨r, h, by simp⟩, List.mem_flatMap.2 ⟨r, h, by simp⟩⟩
theorem crossL_same {l : List R4} {cs : List Int} (hcs : ∀ c ∈ cutsL l, c ∈ cs) {c d x : Int} (hgap : ∀ e ∈ cs, e ≤ c ∨ d ≤ e) (h1 : c ≤ x) (h2 : x < d) : crossL l x = crossL l c := by
  unfold crossL
  congr 1
  refine List.filter_congr fun r hr => ?_
  obtain ⟨m0, m1⟩ := mem_cutsL hr
  have g0 := hgap _ (hcs _ m0)
  have g1 := hgap _ (hcs _ m1)
  rw [Bool.eq_iff_iff]
  simp only [Bool.and_eq_true, decide_eq_true_eq]
  omega
theorem crossL_hi {l : List R4} {cs : List Int} (hcs : ∀ c ∈ cutsL l, c ∈ cs) {x y : Int} (h : ∀ c ∈ cs, c ≤ x) : ¬ pmem l x y := by
  rintro ⟨r, hr, h1, h2, _⟩
  have := h _ (hcs _ (mem_cutsL hr).2); omega
theorem crossL_lo {l : List R4} {cs : List Int} (hcs : ∀ c ∈ cutsL l, c ∈ cs) {x y : Int} (h : ∀ c ∈ cs, x < c) : ¬ pmem l x y := by
  rintro ⟨r, hr, h1, h2, _⟩
  have := h _ (hcs _ (mem_cutsL hr).1); omega

/-- **Whatever strictly increasing cuts hold all xs, and whatever canonical cross-sections have the points of the joined set: the sweep's list is canonical and has them.** -/
theorem sweep_join {h : Bool → Bool → Bool} (h0 : h false false = false) {a b : List R4} {cs : List Int} {g : Int → List Sp} (hs : cs.Pairwise (· < ·))
    (ha : ∀ c ∈ cutsL a, c ∈ cs) (hb : ∀ c ∈ cutsL b, c ∈ cs) (hg : ∀ c ∈ cs, SCan (g c) ∧ ∀ y, smem (g c) y ↔ h (decide (smem (crossL a c) y)) (decide (smem (crossL b c) y)) = true) :
    RCan (flat (sweep g [] cs)) ∧ ∀ x y, pmem (flat (sweep g [] cs)) x y ↔ h (decide (pmem a x y)) (decide (pmem b x y)) = true := by
  refine sweep_ok (H := fun x y => h (decide (pmem a x y)) (decide (pmem b x y)) = true) hs (fun c hc => (hg c hc).1) ?_ ?_ ?_
  · intro c d x y hc hd hcd hgap h1 h2
    rw [(hg c hc).2 y, ← crossL_same ha hgap h1 h2, ← crossL_same hb hgap h1 h2]
    have e1 : decide (pmem a x y) = decide (smem (crossL a x) y) := decide_eq_decide.2 smem_crossL.symm
    have e2 : decide (pmem b x y) = decide (smem (crossL b x) y) := decide_eq_decide.2 smem_crossL.symm
    rw [e1, e2]
  · intro x y hx
    rw [decide_eq_false (crossL_hi ha hx), decide_eq_false (crossL_hi hb hx), h0]
    exact Bool.false_ne_true
  · intro x y hx
    rw [decide_eq_false (crossL_lo ha hx), decide_eq_false (crossL_lo hb hx), h0]
    exact Bool.false_ne_true

/-! ### The joined list as a function -/
def ins (e : En) : List En → List En
  | [] => [e]
  | a :: l => if e.1 ≤ a.1 then e :: a :: l else a :: ins e l
def isort : List En → List En
  | [] => []
  | e :: l => ins e (isort l)
theorem ins_perm (e : En) : ∀ (l : List En), (ins e l).Perm (e :: l)
  | [] => .refl _
  | a :: l => by
    simp only [ins]
    split
    · exact .refl _
    · exact ((ins_perm e l).cons a).trans (.swap e a l)
theorem isort_perm : ∀ (l : List En), (isort l).Perm l
  | [] => .refl _
  | e :: l => (ins_perm e _).trans ((isort_perm l).cons e)
theorem ins_sorted (e : En) : ∀ (l : List En), l.Pairwise (fun a b => a.1 ≤ b.1) → (ins e l).Pairwise (fun a b => a.1 ≤ b.1)
  | [], _ => by simp [ins]
  | a :: l, h => by
    obtain ⟨h1, h2⟩ := List.pairwise_cons.1 h
    simp only [ins]
    split
    · rename_i he
      refine List.pairwise_cons.2 ⟨fun b hb => ?_, h⟩
      rcases List.mem_cons.1 hb with rfl | hb
      · exact he
      · have := h1 b hb; omega
    · rename_i he
      refine List.pairwise_cons.2 ⟨fun b hb => ?_, ins_sorted e l h2⟩
      rcases List.mem_cons.1 ((ins_perm e l).mem_iff.1 hb) with rfl | hb
      · omega
      · exact h1 b hb
theorem isort_sorted : ∀ (l : List En), (isort l).Pairwise (fun a b => a.1 ≤ b.1)
  | [] => by simp [isort]
  | e :: l => ins_sorted e _ (isort_sorted l)
/-- The canonical list of the integers for which the decision about two lists of spans holds. -/
def sjoin (h : Bool → Bool → Bool) (a b : List Sp) : List Sp := (jfold h (isort (evs 0 a ++ evs 1 b))).out
theorem sjoin_ok {h : Bool → Bool → Bool} (h0 : h false false = false) {a b : List Sp} (ha : ∀ p ∈ a, p.1 < p.2) (hb : ∀ p ∈ b, p.1 < p.2) :
    SCan (sjoin h a b) ∧ ∀ x, smem (sjoin h a b) x ↔ h (decide (smem a x)) (decide (smem b x)) = true :=
  jfold_ok h0 ha hb (isort_perm _) (isort_sorted _)
theorem sjoin_eq {h : Bool → Bool → Bool} (h0 : h false false = false) {a b s : List Sp} (ha : ∀ p ∈ a, p.1 < p.2) (hb : ∀ p ∈ b, p.1 < p.2) (hs : SCan s) (hm : ∀ x, smem s x ↔ h (decide (smem a x)) (decide (smem b x)) = true) : s = sjoin h a b :=
  hs.ext (sjoin_ok h0 ha hb).1 fun x => by rw [hm, (sjoin_ok h0 ha hb).2]

def insI (c : Int) : List Int → List Int
  | [] => [c]
  | a :: l => if c < a then c :: a :: l else if c = a then a :: l else a :: insI c l
def isortI : List Int → List Int
  | [] => []
  | e :: l => insI e (isortI l)
theorem mem_insI (c x : Int) : ∀ (l : List Int), x ∈ insI c l ↔ x = c ∨ x ∈ l
  | [] => by simp [insI]
  | a :: l => by
    simp only [insI]
    split
    · simp
    · split
      · rename_i h; subst h; simp
      · simp only [List.mem_cons, mem_insI c x l]
        constructor
        · rintro (h | h | h)
          · exact .inr (.inl h)
          · exact .inl h
          · exact .inr (.inr h)
        · rintro (h | h | h)
          · exact .inr (.inl h)
          · exact .inl h
          · exact .inr (.inr h)
theorem mem_isortI (x : Int) : ∀ (l : List Int), x ∈ isortI l ↔ x ∈ l
  | [] => .rfl
  | e :: l => by simp only [isortI, mem_insI, mem_isortI x l, List.mem_cons]
theorem insI_sorted (c : Int) : ∀ (l : List Int), l.Pairwise (· < ·) → (insI c l).Pairwise (· < ·)
  | [], _ => by simp [insI]
  | a :: l, h => by
    obtain ⟨h1, h2⟩ := List.pairwise_cons.1 h
    simp only [insI]
    split
    · rename_i he
      refine List.pairwise_cons.2 ⟨fun b hb => ?_, h⟩
      rcases List.mem_cons.1 hb with rfl | hb
      · exact he
      · have := h1 b hb; omega
    · split
      · exact h
      · refine List.pairwise_cons.2 ⟨fun b hb => ?_, insI_sorted c l h2⟩
        rcases (mem_insI c b l).1 hb with rfl | hb
        · omega
        · exact h1 b hb
theorem isortI_sorted : ∀ (l : List Int), (isortI l).Pairwise (· < ·)
  | [] => by simp [isortI]
  | e :: l => insI_sorted e _ (isortI_sorted l)

/-- Two lists of rectangles joined by a decision, in canonical form. -/
def rjoin (h : Bool → Bool → Bool) (a b : List R4) : List R4 := flat (sweep (fun c => sjoin h (crossL a c) (crossL b c)) [] (isortI (cutsL a ++ cutsL b)))
theorem rjoin_ok {h : Bool → Bool → Bool} (h0 : h false false = false) {a b : List R4} (ha : ∀ r ∈ a, wf4 r) (hb : ∀ r ∈ b, wf4 r) :
    RCan (rjoin h a b) ∧ ∀ x y, pmem (rjoin h a b) x y ↔ h (decide (pmem a x y)) (decide (pmem b x y)) = true :=
  sweep_join h0 (isortI_sorted _) (fun c hc => (mem_isortI c _).2 (by simp [hc])) (fun c hc => (mem_isortI c _).2 (by simp [hc]))
    fun c _ => sjoin_ok h0 (crossL_wf ha c) (crossL_wf hb c)
theorem rjoin_eq {h : Bool → Bool → Bool} (h0 : h false false = false) {a b s : List R4} (ha : ∀ r ∈ a, wf4 r) (hb : ∀ r ∈ b, wf4 r) (hs : RCan s) (hm : ∀ x y, pmem s x y ↔ h (decide (pmem a x y)) (decide (pmem b x y)) = true) : s = rjoin h a b :=
  hs.ext (rjoin_ok h0 ha hb).1 fun x y => by rw [hm, (rjoin_ok h0 ha hb).2]
end Go.Proofs.Ytamnaojheecopaa
