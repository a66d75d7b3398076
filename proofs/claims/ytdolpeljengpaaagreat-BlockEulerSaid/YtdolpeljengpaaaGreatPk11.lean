/- Texts laid together: MEulA, MJoin, MWhole, MBeside, MBesB, MBlkF, MEulB, MEulC, MEulD, MEulE. Lemmas for the statements of this seat; no condition. -/
import Derived.Test.YtdolpeljengpaaaGreatPk2
import Derived.Test.YtdolpeljengpaaaGreatPk10
import Derived.Test.YtdolpeljengpaaaGreatPk9
import Derived.Test.YtdolpeljengpaaaGreatPk4

/- Plain: a graph on the lattice and its faces: a set of unit lines has one face more than loops. -/
namespace Go.Proofs.YtdolpeljengpaaaGreat
set_option linter.unusedVariables false
set_option linter.unusedSimpArgs false

/-! ### The count -/
theorem comp_snoc (n : Nat) (L : List Ed) (x : Ed) : compF n (L ++ [x]) = compS (compF n L) x := by
  unfold compF
  rw [List.foldl_append]
  rfl
theorem compS_same {st : List Nat × Nat} {e : Ed} (h : lb st.1 e.1 = lb st.1 e.2) : (compS st e).2 = st.2 := by
  unfold compS
  rw [if_pos h]
theorem compS_new {st : List Nat × Nat} {e : Ed} (h : ¬ lb st.1 e.1 = lb st.1 e.2) : (compS st e).2 = st.2 - 1 := by
  unfold compS
  rw [if_neg h]
/-- If each edge joins two parts of the one graph or two of the other one, and there are only as many edges as that takes, each does exactly one of the two. -/
theorem euler_count {α : Type} {n m : Nat} (p1 p2 : α → Ed) {es : List α} (hn : 0 < n) (hm : 0 < m) (hK : n + m = es.length + 2)
    (b1 : ∀ e ∈ es, (p1 e).1 < n ∧ (p1 e).2 < n) (b2 : ∀ e ∈ es, (p2 e).1 < m ∧ (p2 e).2 < m)
    (hA : ∀ A e B, es = A ++ e :: B → lb (compF n (A.map p1)).1 (p1 e).1 = lb (compF n (A.map p1)).1 (p1 e).2 → lb (compF m (B.map p2).reverse).1 (p2 e).1 ≠ lb (compF m (B.map p2).reverse).1 (p2 e).2)
    {A B : List α} (h : es = A ++ B) : (compF m (B.map p2).reverse).2 + n = (compF n (A.map p1)).2 + A.length + 1 := by
  obtain ⟨C, hC⟩ : ∃ C : List α → Nat, ∀ A, C A = (compF n (A.map p1)).2 := ⟨_, fun _ => rfl⟩
  obtain ⟨F, hF⟩ : ∃ F : List α → Nat, ∀ B, F B = (compF m (B.map p2).reverse).2 := ⟨_, fun _ => rfl⟩
  have cpos : ∀ A : List α, (∀ e ∈ A, e ∈ es) → 0 < C A := fun A hs => by
    rw [hC]
    refine parts_pos (fun e he => ?_) hn
    obtain ⟨g, hg, rfl⟩ := List.mem_map.1 he
    exact b1 g (hs g hg)
  have fpos : ∀ B : List α, (∀ e ∈ B, e ∈ es) → 0 < F B := fun B hs => by
    rw [hF]
    refine parts_pos (fun e he => ?_) hm
    obtain ⟨g, hg, rfl⟩ := List.mem_map.1 (List.mem_reverse.1 he)
    exact b2 g (hs g hg)
  have step : ∀ A e B, es = A ++ e :: B → F (e :: B) + C (A ++ [e]) + 1 ≤ F B + C A := by
    intro A e B he
    have hc := cpos A fun x hx => by rw [he]; simp [hx]
    have hf := fpos B fun x hx => by rw [he]; simp [hx]
    have eC : C (A ++ [e]) = (compS (compF n (A.map p1)) (p1 e)).2 := by rw [hC, List.map_append]; exact congrArg Prod.snd (comp_snoc n _ _)
    have eF : F (e :: B) = (compS (compF m (B.map p2).reverse) (p2 e)).2 := by rw [hF, List.map_cons, List.reverse_cons]; exact congrArg Prod.snd (comp_snoc m _ _)
    have hA' := hA A e B he
    rw [hC] at hc
    rw [hF] at hf
    rw [eC, eF, hC A, hF B]
    by_cases h1 : lb (compF n (A.map p1)).1 (p1 e).1 = lb (compF n (A.map p1)).1 (p1 e).2
    · rw [compS_same h1, compS_new (hA' h1)]
      omega
    · rw [compS_new h1]
      by_cases h2 : lb (compF m (B.map p2).reverse).1 (p2 e).1 = lb (compF m (B.map p2).reverse).1 (p2 e).2
      · rw [compS_same h2]; omega
      · rw [compS_new h2]; omega
  have cn : C [] = n := by rw [hC]; rfl
  have fm : F [] = m := by rw [hF]; rfl
  have lower : ∀ k A B, A.length = k → es = A ++ B → C A + A.length + 1 ≤ F B + n := by
    intro k
    induction k with
    | zero =>
      intro A B hk he
      have hAn : A = [] := List.length_eq_zero_iff.1 hk
      subst hAn
      have hf := fpos B fun x hx => by rw [he]; simp [hx]
      rw [cn]
      simp
      omega
    | succ k ih =>
      intro A B hk he
      rcases List.eq_nil_or_concat A with rfl | ⟨A', e, rfl⟩
      · simp at hk
      · rw [List.concat_eq_append] at he hk ⊢
        rw [List.length_append] at hk
        simp at hk
        have he2 : es = A' ++ e :: B := by rw [he]; simp
        have h1 := ih A' (e :: B) hk he2
        have h2 := step A' e B he2
        rw [List.length_append]
        simp
        omega
  have upper : ∀ (B A : List α), es = A ++ B → F B + B.length + 1 ≤ C A + m := by
    intro B
    induction B with
    | nil =>
      intro A he
      have hc := cpos A fun x hx => by rw [he]; simp [hx]
      rw [fm]
      simp
      omega
    | cons e B ih =>
      intro A he
      have h1 := ih (A ++ [e]) (by rw [he]; simp)
      have h2 := step A e B he
      simp only [List.length_cons]
      omega
  have h1 := lower _ A B rfl h
  have h2 := upper B A h
  have h3 : es.length = A.length + B.length := by rw [h, List.length_append]
  rw [← hC, ← hF]
  omega

/-! ### The lattice -/
def pid (x y : Int) : Nat := ((x + 100) * 201 + (y + 100)).toNat
def ptX (i : Nat) : Int := ((i / 201 : Nat) : Int) - 100
def ptY (i : Nat) : Int := ((i % 201 : Nat) : Int) - 100
def fid (x y : Int) : Nat := if -100 ≤ x ∧ x ≤ 99 ∧ -100 ≤ y ∧ y ≤ 99 then ((x + 100) * 200 + (y + 100)).toNat else 40000
/-- A unit line from (x, y) on: to the right, or upwards. -/
structure Ge where
  k : Bool
  x : Int
  y : Int
deriving DecidableEq
def okGe (g : Ge) : Prop := (-100 ≤ g.x ∧ -100 ≤ g.y) ∧ (g.k = true → g.x ≤ 100 ∧ g.y ≤ 99) ∧ (g.k = false → g.x ≤ 99 ∧ g.y ≤ 100)
def prE (g : Ge) : Ed := (pid g.x g.y, if g.k then pid g.x (g.y + 1) else pid (g.x + 1) g.y)
def duE (g : Ge) : Ed := (if g.k then fid (g.x - 1) g.y else fid g.x (g.y - 1), fid g.x g.y)
theorem pid_lt {x y : Int} (hx : -100 ≤ x ∧ x ≤ 100) (hy : -100 ≤ y ∧ y ≤ 100) : pid x y < 40401 ∧ ptX (pid x y) = x ∧ ptY (pid x y) = y := by
  unfold ptX ptY pid
  omega
theorem fid_lt (x y : Int) : fid x y < 40001 := by
  unfold fid
  split <;> omega
theorem prE_lt {g : Ge} (h : okGe g) : (prE g).1 < 40401 ∧ (prE g).2 < 40401 := by
  obtain ⟨⟨h1, h2⟩, h3, h4⟩ := h
  unfold prE
  cases hk : g.k
  · have := h4 hk
    exact ⟨(pid_lt (by omega) (by omega)).1, by simp only [Bool.false_eq_true, if_false]; exact (pid_lt (by omega) (by omega)).1⟩
  · have := h3 hk
    exact ⟨(pid_lt (by omega) (by omega)).1, by simp only [if_true]; exact (pid_lt (by omega) (by omega)).1⟩
theorem duE_lt (g : Ge) : (duE g).1 < 40001 ∧ (duE g).2 < 40001 := by
  unfold duE
  refine ⟨?_, fid_lt _ _⟩
  show (if _ then _ else _) < _
  split <;> exact fid_lt _ _
/-- The other end. -/
def eX (g : Ge) : Int := if g.k then g.x else g.x + 1
def eY (g : Ge) : Int := if g.k then g.y + 1 else g.y
theorem prE_pt {g : Ge} (h : okGe g) : (ptX (prE g).1 = g.x ∧ ptY (prE g).1 = g.y) ∧ ptX (prE g).2 = eX g ∧ ptY (prE g).2 = eY g := by
  obtain ⟨⟨h1, h2⟩, h3, h4⟩ := h
  unfold prE eX eY
  cases hk : g.k
  · have := h4 hk
    exact ⟨(pid_lt (by omega) (by omega)).2, by simp only [Bool.false_eq_true, if_false]; exact (pid_lt (by omega) (by omega)).2⟩
  · have := h3 hk
    exact ⟨(pid_lt (by omega) (by omega)).2, by simp only [if_true]; exact (pid_lt (by omega) (by omega)).2⟩

/-! ### Chains modulo 2 -/
def dl (a b x y : Int) : Bool := decide (x = a ∧ y = b)
def bdZ (zh zv : Int → Int → Bool) (x y : Int) : Bool := Bool.xor (Bool.xor (zh x y) (zh (x - 1) y)) (Bool.xor (zv x y) (zv x (y - 1)))
structure SupZ (A : List Ge) (zh zv : Int → Int → Bool) : Prop where
  h : ∀ x y, zh x y = true → (⟨false, x, y⟩ : Ge) ∈ A
  v : ∀ x y, zv x y = true → (⟨true, x, y⟩ : Ge) ∈ A
def addH (zh : Int → Int → Bool) (g : Ge) (x y : Int) : Bool := Bool.xor (zh x y) (!g.k && dl g.x g.y x y)
def addV (zv : Int → Int → Bool) (g : Ge) (x y : Int) : Bool := Bool.xor (zv x y) (g.k && dl g.x g.y x y)
theorem SupZ.add {A : List Ge} {zh zv : Int → Int → Bool} (hs : SupZ A zh zv) {g : Ge} (hg : g ∈ A) : SupZ A (addH zh g) (addV zv g) := by
  obtain ⟨k, a, b⟩ := g
  refine ⟨fun x y h => ?_, fun x y h => ?_⟩
  · unfold addH dl at h
    by_cases h1 : zh x y = true
    · exact hs.h x y h1
    · have h1 : zh x y = false := by simpa using h1
      rw [h1] at h
      simp at h
      obtain ⟨rfl, rfl, rfl⟩ := h
      exact hg
  · unfold addV dl at h
    by_cases h1 : zv x y = true
    · exact hs.v x y h1
    · have h1 : zv x y = false := by simpa using h1
      rw [h1] at h
      simp at h
      obtain ⟨rfl, rfl, rfl⟩ := h
      exact hg
theorem dl_left (a b x y : Int) : dl a b (x - 1) y = dl (a + 1) b x y := by
  unfold dl
  exact decide_eq_decide.2 (by omega)
theorem dl_down (a b x y : Int) : dl a b x (y - 1) = dl a (b + 1) x y := by
  unfold dl
  exact decide_eq_decide.2 (by omega)
theorem bd_add (zh zv : Int → Int → Bool) (g : Ge) (x y : Int) : bdZ (addH zh g) (addV zv g) x y = Bool.xor (bdZ zh zv x y) (Bool.xor (dl g.x g.y x y) (dl (eX g) (eY g) x y)) := by
  obtain ⟨k, a, b⟩ := g
  unfold bdZ addH addV eX eY
  cases k
  · simp only [Bool.not_false, Bool.true_and, Bool.false_and, Bool.false_eq_true, if_false, dl_left]
    generalize zh x y = p1
    generalize zh (x - 1) y = p2
    generalize zv x y = p3
    generalize zv x (y - 1) = p4
    generalize dl a b x y = p5
    generalize dl (a + 1) b x y = p6
    revert p1 p2 p3 p4 p5 p6
    decide
  · simp only [Bool.not_true, Bool.true_and, Bool.false_and, if_true, dl_down]
    generalize zh x y = p1
    generalize zh (x - 1) y = p2
    generalize zv x y = p3
    generalize zv x (y - 1) = p4
    generalize dl a b x y = p5
    generalize dl a (b + 1) x y = p6
    revert p1 p2 p3 p4 p5 p6
    decide
/-- A chain within A from (a, b) to point number i. -/
def ChZ (A : List Ge) (a b : Int) (i : Nat) : Prop := ∃ zh zv, SupZ A zh zv ∧ ∀ x y, bdZ zh zv x y = Bool.xor (dl a b x y) (dl (ptX i) (ptY i) x y)
theorem ch_edge {A : List Ge} (hok : ∀ g ∈ A, okGe g) {a b : Int} {g : Ge} (hg : g ∈ A) : ChZ A a b (prE g).1 ↔ ChZ A a b (prE g).2 := by
  obtain ⟨⟨e1, e2⟩, e3, e4⟩ := prE_pt (hok g hg)
  unfold ChZ
  rw [e1, e2, e3, e4]
  constructor
  · rintro ⟨zh, zv, hs, hb⟩
    refine ⟨_, _, hs.add hg, fun x y => ?_⟩
    rw [bd_add, hb]
    generalize dl a b x y = p1
    generalize dl g.x g.y x y = p2
    generalize dl (eX g) (eY g) x y = p3
    revert p1 p2 p3
    decide
  · rintro ⟨zh, zv, hs, hb⟩
    refine ⟨_, _, hs.add hg, fun x y => ?_⟩
    rw [bd_add, hb]
    generalize dl a b x y = p1
    generalize dl g.x g.y x y = p2
    generalize dl (eX g) (eY g) x y = p3
    revert p1 p2 p3
    decide
theorem ch_conn {n : Nat} (hn : n = 40401) {A : List Ge} (hok : ∀ g ∈ A, okGe g) {e : Ge} (he : okGe e) (h : lb (compF n (A.map prE)).1 (prE e).1 = lb (compF n (A.map prE)).1 (prE e).2) :
    ∃ zh zv, SupZ A zh zv ∧ ∀ x y, bdZ zh zv x y = Bool.xor (dl e.x e.y x y) (dl (eX e) (eY e) x y) := by
  obtain ⟨l1, l2⟩ := prE_lt he
  obtain ⟨⟨e1, e2⟩, e3, e4⟩ := prE_pt he
  have hE : ∀ f ∈ A.map prE, f.1 < n ∧ f.2 < n := fun f hf => by
    obtain ⟨g, hg, rfl⟩ := List.mem_map.1 hf
    rw [hn]
    exact prE_lt (hok g hg)
  have h0 : ChZ A e.x e.y (prE e).1 := ⟨fun _ _ => false, fun _ _ => false, ⟨fun _ _ h => by simp at h, fun _ _ h => by simp at h⟩, fun x y => by
    rw [e1, e2]
    unfold bdZ
    cases dl e.x e.y x y <;> rfl⟩
  have h1 := (comp_min hE (ChZ A e.x e.y) (fun f hf => by
    obtain ⟨g, hg, rfl⟩ := List.mem_map.1 hf
    exact ch_edge hok hg) (by rw [hn]; exact l1) (by rw [hn]; exact l2) h).1 h0
  unfold ChZ at h1
  rwa [e3, e4] at h1

/-! ### A closed chain colours the faces -/
def parN (f : Nat → Bool) : Nat → Bool
  | 0 => false
  | n + 1 => Bool.xor (parN f n) (f n)
def colZ (zv : Int → Int → Bool) (x y : Int) : Bool := parN (fun k => zv ((k : Int) - 100) y) (x + 101).toNat
theorem par_no {f : Nat → Bool} : ∀ n, (∀ k, k < n → f k = false) → parN f n = false
  | 0, _ => rfl
  | n + 1, h => by
    show Bool.xor (parN f n) (f n) = false
    rw [par_no n fun k hk => h k (by omega), h n (by omega)]
    rfl
theorem col_v (zv : Int → Int → Bool) {x y : Int} (hx : -100 ≤ x) : colZ zv x y = Bool.xor (colZ zv (x - 1) y) (zv x y) := by
  unfold colZ
  rw [show (x + 101).toNat = (x - 1 + 101).toNat + 1 by omega]
  show Bool.xor _ (zv ((((x - 1 + 101).toNat : Nat) : Int) - 100) y) = _
  rw [show (((x - 1 + 101).toNat : Nat) : Int) - 100 = x by omega]
structure Cyc (zh zv : Int → Int → Bool) : Prop where
  cl : ∀ x y, bdZ zh zv x y = false
  h : ∀ x y, zh x y = true → (-100 ≤ x ∧ x ≤ 99) ∧ -100 ≤ y ∧ y ≤ 100
  v : ∀ x y, zv x y = true → (-100 ≤ x ∧ x ≤ 100) ∧ -100 ≤ y ∧ y ≤ 99
theorem Cyc.hf {zh zv : Int → Int → Bool} (H : Cyc zh zv) {x y : Int} (h : ¬ ((-100 ≤ x ∧ x ≤ 99) ∧ -100 ≤ y ∧ y ≤ 100)) : zh x y = false := by
  cases hz : zh x y
  · rfl
  · exact absurd (H.h x y hz) h
theorem Cyc.vf {zh zv : Int → Int → Bool} (H : Cyc zh zv) {x y : Int} (h : ¬ ((-100 ≤ x ∧ x ≤ 100) ∧ -100 ≤ y ∧ y ≤ 99)) : zv x y = false := by
  cases hz : zv x y
  · rfl
  · exact absurd (H.v x y hz) h
theorem Cyc.two {zh zv : Int → Int → Bool} (H : Cyc zh zv) (y : Int) : ∀ n : Nat, Bool.xor (parN (fun k => zv ((k : Int) - 100) y) n) (parN (fun k => zv ((k : Int) - 100) (y - 1)) n) = zh ((n : Int) - 101) y
  | 0 => by
    rw [H.hf (x := ((0 : Nat) : Int) - 101) (y := y) (by omega)]
    rfl
  | n + 1 => by
    have ih := H.two y n
    have hb := H.cl ((n : Int) - 100) y
    unfold bdZ at hb
    rw [show (n : Int) - 100 - 1 = (n : Int) - 101 by omega] at hb
    show Bool.xor (Bool.xor (parN (fun k => zv ((k : Int) - 100) y) n) (zv ((n : Int) - 100) y)) (Bool.xor (parN (fun k => zv ((k : Int) - 100) (y - 1)) n) (zv ((n : Int) - 100) (y - 1))) = _
    rw [show ((n + 1 : Nat) : Int) - 101 = (n : Int) - 100 by omega]
    revert ih hb
    generalize parN (fun k => zv ((k : Int) - 100) y) n = p1
    generalize parN (fun k => zv ((k : Int) - 100) (y - 1)) n = p2
    generalize zh ((n : Int) - 101) y = p3
    generalize zh ((n : Int) - 100) y = p4
    generalize zv ((n : Int) - 100) y = p5
    generalize zv ((n : Int) - 100) (y - 1) = p6
    revert p1 p2 p3 p4 p5 p6
    decide
theorem Cyc.col_h {zh zv : Int → Int → Bool} (H : Cyc zh zv) {x y : Int} (hx : -101 ≤ x) : colZ zv x y = Bool.xor (colZ zv x (y - 1)) (zh x y) := by
  have := H.two y (x + 101).toNat
  rw [show (((x + 101).toNat : Nat) : Int) - 101 = x by omega] at this
  unfold colZ
  revert this
  generalize parN (fun k => zv ((k : Int) - 100) y) (x + 101).toNat = p1
  generalize parN (fun k => zv ((k : Int) - 100) (y - 1)) (x + 101).toNat = p2
  generalize zh x y = p3
  revert p1 p2 p3
  decide
theorem Cyc.col_row {zh zv : Int → Int → Bool} (H : Cyc zh zv) {x y : Int} (hy : y < -100 ∨ 99 < y) : colZ zv x y = false := par_no _ fun k _ => H.vf (by omega)
theorem Cyc.col_end {zh zv : Int → Int → Bool} (H : Cyc zh zv) : ∀ n : Nat, colZ zv 100 ((n : Int) - 101) = false
  | 0 => H.col_row (by omega)
  | n + 1 => by
    rw [H.col_h (by omega), show ((n + 1 : Nat) : Int) - 101 - 1 = (n : Int) - 101 by omega, H.col_end n, H.hf (by omega)]
    rfl
/-- The colour of face number f. -/
def cidZ (zv : Int → Int → Bool) (f : Nat) : Bool := if f < 40000 then colZ zv (((f / 200 : Nat) : Int) - 100) (((f % 200 : Nat) : Int) - 100) else false
theorem Cyc.cid {zh zv : Int → Int → Bool} (H : Cyc zh zv) {x y : Int} (hx : -101 ≤ x ∧ x ≤ 100) : cidZ zv (fid x y) = colZ zv x y := by
  unfold cidZ fid
  by_cases h : -100 ≤ x ∧ x ≤ 99 ∧ -100 ≤ y ∧ y ≤ 99
  · rw [if_pos h, if_pos (by omega)]
    congr 1 <;> omega
  · rw [if_neg h, if_neg (by omega)]
    symm
    by_cases h1 : y < -100 ∨ 99 < y
    · exact H.col_row h1
    · by_cases h2 : x = -101
      · subst h2
        rfl
      · have hx1 : x = 100 := by omega
        subst hx1
        have := H.col_end (y + 101).toNat
        rwa [show (((y + 101).toNat : Nat) : Int) - 101 = y by omega] at this
theorem Cyc.beside {zh zv : Int → Int → Bool} (H : Cyc zh zv) {g : Ge} (hg : okGe g) : cidZ zv (duE g).2 = Bool.xor (cidZ zv (duE g).1) (if g.k then zv g.x g.y else zh g.x g.y) := by
  obtain ⟨⟨h1, h2⟩, h3, h4⟩ := hg
  unfold duE
  cases hk : g.k
  · have := h4 hk
    simp only [Bool.false_eq_true, if_false]
    rw [H.cid (by omega), H.cid (by omega), H.col_h (by omega)]
  · have := h3 hk
    simp only [if_true]
    rw [H.cid (by omega), H.cid (by omega), col_v zv (by omega)]
/-- **An edge whose ends are joined already parts the faces beside it.** -/
theorem edge_parts {n m : Nat} (hn : n = 40401) (hm : m = 40001) {gs A B : List Ge} {e : Ge} (hnd : gs.Nodup) (hok : ∀ g ∈ gs, okGe g) (hgs : gs = A ++ e :: B) (h : lb (compF n (A.map prE)).1 (prE e).1 = lb (compF n (A.map prE)).1 (prE e).2) :
    lb (compF m (B.map duE).reverse).1 (duE e).1 ≠ lb (compF m (B.map duE).reverse).1 (duE e).2 := by
  have okA : ∀ g ∈ A, okGe g := fun g hg => hok g (by rw [hgs]; simp [hg])
  have okB : ∀ g ∈ B, okGe g := fun g hg => hok g (by rw [hgs]; simp [hg])
  have oke : okGe e := hok e (by rw [hgs]; simp)
  rw [hgs] at hnd
  obtain ⟨nA, nB, nAB⟩ := List.nodup_append.1 hnd
  have neA : e ∉ A := fun h => nAB e h e (by simp) rfl
  have neB : e ∉ B := (List.nodup_cons.1 nB).1
  have nBA : ∀ g ∈ B, g ∉ A := fun g hg h => nAB g h g (by simp [hg]) rfl
  obtain ⟨zh, zv, hs, hb⟩ := ch_conn hn okA oke h
  have hs2 : SupZ (e :: A) (addH zh e) (addV zv e) := (SupZ.add ⟨fun x y h => List.mem_cons_of_mem _ (hs.h x y h), fun x y h => List.mem_cons_of_mem _ (hs.v x y h)⟩ List.mem_cons_self)
  have hall : ∀ g ∈ e :: A, okGe g := fun g hg => by
    rcases List.mem_cons.1 hg with rfl | hg
    · exact oke
    · exact okA g hg
  have H : Cyc (addH zh e) (addV zv e) := by
    refine ⟨fun x y => ?_, fun x y hz => ?_, fun x y hz => ?_⟩
    · rw [bd_add, hb]
      generalize dl e.x e.y x y = p1
      generalize dl (eX e) (eY e) x y = p2
      revert p1 p2
      decide
    · obtain ⟨⟨h1, h2⟩, _, h4⟩ := hall _ (hs2.h x y hz)
      have := h4 rfl
      simp only at h1 h2 this
      omega
    · obtain ⟨⟨h1, h2⟩, h3, _⟩ := hall _ (hs2.v x y hz)
      have := h3 rfl
      simp only at h1 h2 this
      omega
  have hzg : ∀ g : Ge, g ∉ e :: A → (if g.k then addV zv e g.x g.y else addH zh e g.x g.y) = false := by
    rintro ⟨k, a, b⟩ hg
    cases k
    · show addH zh e a b = false
      cases hz : addH zh e a b
      · rfl
      · exact absurd (hs2.h a b hz) hg
    · show addV zv e a b = false
      cases hz : addV zv e a b
      · rfl
      · exact absurd (hs2.v a b hz) hg
  have hze : (if e.k then addV zv e e.x e.y else addH zh e e.x e.y) = true := by
    have ht : dl e.x e.y e.x e.y = true := by unfold dl; simp
    cases hk : e.k
    · simp only [Bool.false_eq_true, if_false]
      unfold addH
      have : zh e.x e.y = false := by
        cases hz : zh e.x e.y
        · rfl
        · have := hs.h _ _ hz
          rw [← hk] at this
          exact absurd this neA
      rw [this, hk, ht]
      rfl
    · simp only [if_true]
      unfold addV
      have : zv e.x e.y = false := by
        cases hz : zv e.x e.y
        · rfl
        · have := hs.v _ _ hz
          rw [← hk] at this
          exact absurd this neA
      rw [this, hk, ht]
      rfl
  intro hl
  have hE : ∀ f ∈ (B.map duE).reverse, f.1 < m ∧ f.2 < m := fun f hf => by
    obtain ⟨g, hg, rfl⟩ := List.mem_map.1 (List.mem_reverse.1 hf)
    rw [hm]
    exact duE_lt g
  have hiff := comp_min hE (fun f => cidZ (addV zv e) f = true) (fun f hf => by
    obtain ⟨g, hg, rfl⟩ := List.mem_map.1 (List.mem_reverse.1 hf)
    have h1 := H.beside (okB g hg)
    rw [hzg g (fun h => by
      rcases List.mem_cons.1 h with rfl | h
      · exact neB hg
      · exact nBA g hg h), Bool.xor_false] at h1
    rw [h1]) (by rw [hm]; exact (duE_lt e).1) (by rw [hm]; exact (duE_lt e).2) hl
  have h1 := H.beside oke
  rw [hze, Bool.xor_true] at h1
  rw [h1] at hiff
  simp at hiff
/-! ### All unit lines -/
def hGe (i : Nat) : Ge := ⟨false, ((i / 201 : Nat) : Int) - 100, ((i % 201 : Nat) : Int) - 100⟩
def vGe (i : Nat) : Ge := ⟨true, ((i / 200 : Nat) : Int) - 100, ((i % 200 : Nat) : Int) - 100⟩
def allGe (n : Nat) : List Ge := (List.range n).map hGe ++ (List.range n).map vGe
theorem all_ok {n : Nat} (hn : n = 40200) : ∀ g ∈ allGe n, okGe g := by
  intro g hg
  rcases List.mem_append.1 hg with hg | hg
  · obtain ⟨i, hi, rfl⟩ := List.mem_map.1 hg
    rw [List.mem_range] at hi
    unfold okGe hGe
    simp
    omega
  · obtain ⟨i, hi, rfl⟩ := List.mem_map.1 hg
    rw [List.mem_range] at hi
    unfold okGe vGe
    simp
    omega
theorem all_mem {n : Nat} (hn : n = 40200) {g : Ge} (h : okGe g) : g ∈ allGe n := by
  obtain ⟨k, x, y⟩ := g
  obtain ⟨⟨h1, h2⟩, h3, h4⟩ := h
  simp only at h1 h2 h3 h4
  unfold allGe
  rw [List.mem_append]
  cases k
  · obtain ⟨h5, h6⟩ := h4 rfl
    left
    refine List.mem_map.2 ⟨((x + 100) * 201 + (y + 100)).toNat, List.mem_range.2 (by omega), ?_⟩
    unfold hGe
    congr 1 <;> omega
  · obtain ⟨h5, h6⟩ := h3 rfl
    right
    refine List.mem_map.2 ⟨((x + 100) * 200 + (y + 100)).toNat, List.mem_range.2 (by omega), ?_⟩
    unfold vGe
    congr 1 <;> omega
theorem all_nodup (n : Nat) : (allGe n).Nodup := by
  unfold allGe
  refine List.nodup_append.2 ⟨?_, ?_, fun a ha b hb e => ?_⟩
  · rw [List.Nodup, List.pairwise_map]
    refine List.nodup_range.imp fun {a b} hab e => hab ?_
    unfold hGe at e
    injection e with _ e1 e2
    omega
  · rw [List.Nodup, List.pairwise_map]
    refine List.nodup_range.imp fun {a b} hab e => hab ?_
    unfold vGe at e
    injection e with _ e1 e2
    omega
  · obtain ⟨i, _, rfl⟩ := List.mem_map.1 ha
    obtain ⟨j, _, rfl⟩ := List.mem_map.1 hb
    unfold hGe vGe at e
    injection e with e0
    cases e0
/-- **As many faces as there are loops, and one.** -/
theorem grid_euler {n m q : Nat} (hn : n = 40401) (hm : m = 40001) (hq : q = 40200) (p : Ge → Bool) :
    (compF m (((allGe q).filter fun g => !p g).map duE).reverse).2 + n = (compF n (((allGe q).filter p).map prE)).2 + ((allGe q).filter p).length + 1 := by
  have hmem : ∀ g ∈ (allGe q).filter p ++ (allGe q).filter (fun g => !p g), g ∈ allGe q := fun g hg => by
    rcases List.mem_append.1 hg with hg | hg
    · exact (List.mem_filter.1 hg).1
    · exact (List.mem_filter.1 hg).1
  have hok : ∀ g ∈ (allGe q).filter p ++ (allGe q).filter (fun g => !p g), okGe g := fun g hg => all_ok hq g (hmem g hg)
  have hnd : ((allGe q).filter p ++ (allGe q).filter (fun g => !p g)).Nodup := by
    refine List.nodup_append.2 ⟨List.Pairwise.filter _ (all_nodup q), List.Pairwise.filter _ (all_nodup q), fun a ha b hb e => ?_⟩
    subst e
    have h1 := (List.mem_filter.1 ha).2
    have h2 := (List.mem_filter.1 hb).2
    rw [h1] at h2
    cases h2
  have hlen : ((allGe q).filter p ++ (allGe q).filter (fun g => !p g)).length = 80400 := by
    rw [List.length_append, ← List.countP_eq_length_filter, ← List.countP_eq_length_filter]
    have h1 := List.length_eq_countP_add_countP p (l := allGe q)
    have h2 : (allGe q).length = 80400 := by unfold allGe; simp; omega
    have h3 : List.countP (fun a => decide ¬p a = true) (allGe q) = List.countP (fun g => !p g) (allGe q) := List.countP_congr fun g _ => by simp
    omega
  exact euler_count prE duE (by omega) (by omega) (by rw [hlen]; omega) (fun e he => by rw [hn]; exact prE_lt (hok e he)) (fun e he => by rw [hm]; exact duE_lt e)
    (fun A e B he hl => edge_parts hn hm hnd hok he hl) rfl
end Go.Proofs.YtdolpeljengpaaaGreat

/- Plain: what a join is; areas of regions. -/
namespace Go.Proofs.YtdolpeljengpaaaGreat
open Go.RowKit
set_option linter.unusedVariables false
set_option linter.unusedSimpArgs false

theorem join_is {h : Bool → Bool → Bool} (h0 : h false false = false) {a b c : List R4} (ha : checkF a = 0) (hb : checkF b = 0) (hc : checkF c = 0) (hp : ∀ x y, pmem c x y ↔ h (decide (pmem a x y)) (decide (pmem b x y)) = true) : joinF h a b = (c, 0) := by
  have e : rjoin h a b = c := (rjoin_eq h0 (check_wf ha) (check_wf hb) (check_rcan hc) hp).symm
  rw [joinF_ok ha hb, e, if_neg (by have := (checkF_ok hc).1; omega)]
theorem check_nil : checkF [] = 0 := by kernel_rfl
end Go.Proofs.YtdolpeljengpaaaGreat

/- Plain law: components are disjoint, do not touch, cannot be divided, and are the region together. -/
namespace Go.Proofs.YtdolpeljengpaaaGreat
set_option linter.unusedVariables false
set_option linter.unusedSimpArgs false

/-- Two points differ by 1 in one coordinate alone. -/
def nb (x y u v : Int) : Prop := (u = x + 1 ∧ v = y) ∨ (u = x - 1 ∧ v = y) ∨ (u = x ∧ v = y + 1) ∨ (u = x ∧ v = y - 1)
/-- A way from point to point within a set. -/
inductive PW (S : Int → Int → Prop) (x y : Int) : Int → Int → Prop where
  | refl : PW S x y x y
  | step {u v u' v' : Int} : PW S x y u v → S u' v' → nb u v u' v' → PW S x y u' v'
theorem PW.trans {S : Int → Int → Prop} {x y u v a b : Int} (h : PW S x y u v) (g : PW S u v a b) : PW S x y a b := by
  induction g with
  | refl => exact h
  | step _ s n ih => exact ih.step s n
/-- Within a rectangle each point is reached. -/
theorem rect_way {S : Int → Int → Prop} {r : R4} (hS : ∀ x y, rin r x y → S x y) {x y : Int} (h1 : rin r x y) : ∀ (n : Nat) (u v : Int), rin r u v → (u - x).natAbs + (v - y).natAbs = n → PW S x y u v := by
  intro n
  induction n with
  | zero =>
    intro u v h2 he
    have e1 : u = x := by omega
    have e2 : v = y := by omega
    subst e1; subst e2
    exact .refl
  | succ n ih =>
    intro u v h2 he
    simp only [rin] at h1 h2
    by_cases c1 : x < u
    · exact (ih (u - 1) v (by simp only [rin]; omega) (by omega)).step (hS u v (by simp only [rin]; omega)) (.inl ⟨by omega, rfl⟩)
    by_cases c2 : u < x
    · exact (ih (u + 1) v (by simp only [rin]; omega) (by omega)).step (hS u v (by simp only [rin]; omega)) (.inr (.inl ⟨by omega, rfl⟩))
    by_cases c3 : y < v
    · exact (ih u (v - 1) (by simp only [rin]; omega) (by omega)).step (hS u v (by simp only [rin]; omega)) (.inr (.inr (.inl ⟨rfl, by omega⟩)))
    · exact (ih u (v + 1) (by simp only [rin]; omega) (by omega)).step (hS u v (by simp only [rin]; omega)) (.inr (.inr (.inr ⟨rfl, by omega⟩)))
theorem bsd_iff {a b : R4} : bsd a b = true ↔ (min a.x1 b.x1 - max a.x0 b.x0 = 0 ∧ 0 < min a.y1 b.y1 - max a.y0 b.y0) ∨ (0 < min a.x1 b.x1 - max a.x0 b.x0 ∧ min a.y1 b.y1 - max a.y0 b.y0 = 0) := by
  unfold bsd
  simp only [Bool.or_eq_true, Bool.and_eq_true, decide_eq_true_eq]
/-- Rectangles side by side have points side by side. -/
theorem bsd_points {a b : R4} (ha : wf4 a) (hb : wf4 b) (h : bsd a b = true) : ∃ x y u v, rin a x y ∧ rin b u v ∧ nb x y u v := by
  rw [bsd_iff] at h
  obtain ⟨a1, a2⟩ := ha
  obtain ⟨b1, b2⟩ := hb
  rcases h with ⟨h1, h2⟩ | ⟨h1, h2⟩
  · by_cases c : a.x1 = b.x0
    · exact ⟨a.x1 - 1, max a.y0 b.y0, b.x0, max a.y0 b.y0, by simp only [rin]; omega, by simp only [rin]; omega, .inl ⟨by omega, rfl⟩⟩
    · exact ⟨a.x0, max a.y0 b.y0, b.x1 - 1, max a.y0 b.y0, by simp only [rin]; omega, by simp only [rin]; omega, .inr (.inl ⟨by omega, rfl⟩)⟩
  · by_cases c : a.y1 = b.y0
    · exact ⟨max a.x0 b.x0, a.y1 - 1, max a.x0 b.x0, b.y0, by simp only [rin]; omega, by simp only [rin]; omega, .inr (.inr (.inl ⟨rfl, by omega⟩))⟩
    · exact ⟨max a.x0 b.x0, a.y0, max a.x0 b.x0, b.y1 - 1, by simp only [rin]; omega, by simp only [rin]; omega, .inr (.inr (.inr ⟨rfl, by omega⟩))⟩
theorem nb_bsd {a b : R4} (hab : apart4 a b) {x y u v : Int} (h1 : rin a x y) (h2 : rin b u v) (hn : nb x y u v) : bsd a b = true := by
  rw [bsd_iff]
  have k := hab (max a.x0 b.x0) (max a.y0 b.y0)
  simp only [rin] at h1 h2 k
  unfold nb at hn
  rcases hn with hn | hn | hn | hn
  · left; omega
  · left; omega
  · right; omega
  · right; omega
theorem apart_at {l : List R4} (h : l.Pairwise apart4) {i j : Nat} {a b : R4} (hi : l[i]? = some a) (hj : l[j]? = some b) (hne : i ≠ j) : apart4 a b := by
  obtain ⟨h1, e1⟩ := List.getElem?_eq_some_iff.1 hi
  obtain ⟨h2, e2⟩ := List.getElem?_eq_some_iff.1 hj
  have P := List.pairwise_iff_getElem.1 h
  rcases Nat.lt_or_gt_of_ne hne with hlt | hlt
  · have := P i j h1 h2 hlt; rwa [e1, e2] at this
  · have := P j i h2 h1 hlt
    rw [e1, e2] at this
    exact fun x y ⟨p, q⟩ => this x y ⟨q, p⟩
theorem nb_conn {l : List R4} (h : l.Pairwise apart4) {i j : Nat} {a b : R4} (hi : l[i]? = some a) (hj : l[j]? = some b) {x y u v : Int} (h1 : rin a x y) (h2 : rin b u v) (hn : nb x y u v) : Conn l i j := by
  by_cases e : i = j
  · subst e; exact .refl
  · exact Conn.refl.step ⟨a, b, hi, hj, nb_bsd (apart_at h hi hj e) h1 h2 hn⟩
/-- A way of points gives a way of rectangles. -/
theorem way_conn {l : List R4} (h : l.Pairwise apart4) {x y u v : Int} (hw : PW (pmem l) x y u v) {i : Nat} {a : R4} (hi : l[i]? = some a) (h1 : rin a x y) : ∀ {j : Nat} {b : R4}, l[j]? = some b → rin b u v → Conn l i j := by
  have hsame : ∀ {p q : Nat} {s t : R4} {c d : Int}, l[p]? = some s → l[q]? = some t → rin s c d → rin t c d → p = q := fun hp hq hs ht => by
    by_cases e : ∀ p q : Nat, False
    · exact (e 0 0).elim
    · rename_i p q s t c d
      by_cases e : p = q
      · exact e
      · exact absurd ⟨hs, ht⟩ (apart_at h hp hq e c d)
  induction hw with
  | refl =>
    intro j b hj hb
    have := hsame hi hj h1 hb
    subst this
    exact .refl
  | step _ s n ih =>
    intro j b hj hb
    rename_i c d c' d' hw2
    have hcd : pmem l c d := by
      cases hw2 with
      | refl => exact ⟨a, List.mem_of_getElem? hi, h1⟩
      | step _ s2 _ => exact s2
    obtain ⟨t, ht, hr⟩ := hcd
    obtain ⟨k, hk, ek⟩ := List.getElem_of_mem ht
    have hk2 : l[k]? = some t := by rw [← ek]; exact List.getElem?_eq_getElem hk
    exact (ih hk2 hr).trans (nb_conn h hk2 hj hr hb n)
/-- The points of the component of i. -/
def CS (l : List R4) (i : Nat) (x y : Int) : Prop := ∃ k s, Conn l i k ∧ l[k]? = some s ∧ rin s x y
theorem conn_way {l : List R4} (hw : ∀ r ∈ l, wf4 r) {i0 : Nat} {i j : Nat} (h0 : Conn l i0 i) (h : Conn l i j) : ∀ {a b : R4} {x y u v : Int}, l[i]? = some a → l[j]? = some b → rin a x y → rin b u v → PW (CS l i0) x y u v := by
  induction h with
  | refl =>
    intro a b x y u v h1 h2 h3 h4
    rw [h1] at h2
    injection h2 with h2
    subst h2
    exact rect_way (fun p q hp => ⟨_, _, h0, h1, hp⟩) h3 _ u v h4 rfl
  | step hc ha ih =>
    intro a b x y u v h1 h2 h3 h4
    obtain ⟨s, t, g1, g2, g3⟩ := ha
    rw [h2] at g2
    injection g2 with g2
    subst g2
    obtain ⟨p, q, p', q', k1, k2, k3⟩ := bsd_points (hw _ (List.mem_of_getElem? g1)) (hw _ (List.mem_of_getElem? h2)) g3
    have hcj := h0.trans (hc.step ⟨_, _, g1, h2, g3⟩)
    exact ((ih h1 g1 h3 k1).step ⟨_, _, hcj, h2, k2⟩ k3).trans (rect_way (fun c d hp => ⟨_, _, hcj, h2, hp⟩) k2 _ u v h4 rfl)
/-! ### the parts -/
noncomputable def partJ (l : List R4) (m : Nat) : List R4 := rjoin hFst (compL l m) []
/-- A list of rectangles of a region, made a region. -/
theorem sub_check {l C : List R4} (h : checkF l = 0) (hC : C.Sublist l) : checkF (rjoin hFst C []) = 0 ∧ ∀ x y, pmem (rjoin hFst C []) x y ↔ pmem C x y := by
  have hw : ∀ r ∈ C, wf4 r := fun r hr => check_wf h r (hC.subset hr)
  obtain ⟨h1, h2⟩ := rjoin_ok (h := hFst) rfl hw (b := []) (by simp)
  have h3 : ∀ x y, pmem (rjoin hFst C []) x y ↔ pmem C x y := fun x y => by rw [h2]; simp [hFst]
  refine ⟨can_check h1 (sub_valid (can_wf h1) (fun r hr => (checkF_ok h).2.1 r (hC.subset hr)) fun x y => (h3 x y).1) ?_, h3⟩
  have := sub_count (check_rcan h) (check_wf h) hC
  have := hC.length_le
  have := (checkF_ok h).1
  omega
theorem partJ_pts {l : List R4} (h : checkF l = 0) (m : Nat) (x y : Int) : pmem (partJ l m) x y ↔ ∃ j s, mn l j = m ∧ l[j]? = some s ∧ rin s x y := by
  unfold partJ
  rw [(sub_check h (compL_sub l m)).2]
  unfold pmem
  constructor
  · rintro ⟨r, hr, hx⟩
    obtain ⟨j, h1, h2⟩ := mem_compL.1 hr
    exact ⟨j, r, h1, h2, hx⟩
  · rintro ⟨j, s, h1, h2, hx⟩
    exact ⟨s, mem_compL.2 ⟨j, h1, h2⟩, hx⟩
theorem partJ_check {l : List R4} (h : checkF l = 0) (m : Nat) : checkF (partJ l m) = 0 := (sub_check h (compL_sub l m)).1
/-- The first parts together: those of an index below n. -/
noncomputable def subU (l : List R4) (n : Nat) : List R4 := ((List.range l.length).filter fun j => decide (mn l j < n)).filterMap fun j => l[j]?
noncomputable def partU (l : List R4) (n : Nat) : List R4 := rjoin hFst (subU l n) []
theorem subU_sub (l : List R4) (n : Nat) : (subU l n).Sublist l := by
  have h := filterMap_at l
  have h2 : (subU l n).Sublist ((List.range l.length).filterMap (fun j => l[j]?)) := (List.filter_sublist).filterMap _
  rwa [h] at h2
theorem partU_check {l : List R4} (h : checkF l = 0) (n : Nat) : checkF (partU l n) = 0 := (sub_check h (subU_sub l n)).1
theorem partU_pts {l : List R4} (h : checkF l = 0) (n : Nat) (x y : Int) : pmem (partU l n) x y ↔ ∃ j s, mn l j < n ∧ l[j]? = some s ∧ rin s x y := by
  unfold partU
  rw [(sub_check h (subU_sub l n)).2]
  unfold pmem subU
  constructor
  · rintro ⟨r, hr, hx⟩
    obtain ⟨j, h1, h2⟩ := List.mem_filterMap.1 hr
    obtain ⟨_, h1⟩ := List.mem_filter.1 h1
    exact ⟨j, r, of_decide_eq_true h1, h2, hx⟩
  · rintro ⟨j, s, h1, h2, hx⟩
    exact ⟨s, List.mem_filterMap.2 ⟨j, List.mem_filter.2 ⟨List.mem_range.2 (List.getElem?_eq_some_iff.1 h2).1, decide_eq_true h1⟩, h2⟩, hx⟩
theorem partU_step {l : List R4} (h : checkF l = 0) {n m : Nat} (hn : n ≤ m) (hm : ∀ j, n ≤ j → j < m → mn l j ≠ j) : joinF hOr (partU l n) (partJ l m) = (partU l (m + 1), 0) :=
  join_is rfl (partU_check h n) (partJ_check h m) (partU_check h (m + 1)) fun x y => by
    rw [partU_pts h]
    have e : hOr (decide (pmem (partU l n) x y)) (decide (pmem (partJ l m) x y)) = true ↔ pmem (partU l n) x y ∨ pmem (partJ l m) x y := by simp [hOr]
    rw [e, partU_pts h, partJ_pts h]
    constructor
    · rintro ⟨j, s, h1, h2, h3⟩
      by_cases c : mn l j < n
      · exact .inl ⟨j, s, c, h2, h3⟩
      · by_cases c2 : mn l j = m
        · exact .inr ⟨j, s, c2, h2, h3⟩
        · exact absurd (mn_mn l j) (hm (mn l j) (by omega) (by omega))
    · rintro (⟨j, s, h1, h2, h3⟩ | ⟨j, s, h1, h2, h3⟩)
      · exact ⟨j, s, by omega, h2, h3⟩
      · exact ⟨j, s, by omega, h2, h3⟩
theorem partU_all {l : List R4} (h : checkF l = 0) {n : Nat} (hn : ∀ j, n ≤ j → j < l.length → mn l j ≠ j) : partU l n = l := by
  refine can_eq (partU_check h n) h fun x y => ?_
  rw [partU_pts h]
  unfold pmem
  constructor
  · rintro ⟨j, s, _, h2, h3⟩
    exact ⟨s, List.mem_of_getElem? h2, h3⟩
  · rintro ⟨s, hs, h3⟩
    obtain ⟨j, hj, e⟩ := List.getElem_of_mem hs
    refine ⟨j, s, ?_, by rw [← e]; exact List.getElem?_eq_getElem hj, h3⟩
    apply Classical.byContradiction
    intro c
    exact hn (mn l j) (by omega) (by have := mn_le l j; omega) (mn_mn l j)
theorem partU_zero {l : List R4} (h : checkF l = 0) : partU l 0 = [] := by
  refine can_eq (partU_check h 0) check_nil fun x y => ?_
  rw [partU_pts h]
  constructor
  · rintro ⟨_, _, h1, _⟩; omega
  · intro h1; exact absurd h1 pmem_nil
/-- The indexes of the parts. -/
noncomputable def ids (l : List R4) : List Nat := (List.range l.length).filter fun i => decide (mn l i = i)
theorem ids_parts (l : List R4) : partsF l = (ids l).map (partJ l) := rfl
theorem ids_sorted (l : List R4) : (ids l).Pairwise (· < ·) := List.Pairwise.sublist List.filter_sublist List.pairwise_lt_range
theorem mem_ids {l : List R4} {m : Nat} : m ∈ ids l ↔ m < l.length ∧ mn l m = m := by
  unfold ids
  rw [List.mem_filter, List.mem_range, decide_eq_true_eq]
/-- One more than the index of the part before, where the k-th one begins. -/
noncomputable def low (l : List R4) (k : Nat) : Nat := match (ids l)[k - 1]?, k with | some m, _ + 1 => m + 1 | _, _ => 0
/-- The first i parts are those below n. -/
def Cut (l : List R4) (i n : Nat) : Prop := (∀ a ∈ (ids l).take i, a < n) ∧ ∀ a ∈ (ids l).drop i, n ≤ a
theorem Cut.start (l : List R4) : Cut l 0 0 := ⟨by simp, fun a _ => Nat.zero_le a⟩
theorem Cut.next {l : List R4} {i n m : Nat} (h : Cut l i n) (hm : (ids l)[i]? = some m) : n ≤ m ∧ (∀ j, n ≤ j → j < m → mn l j ≠ j) ∧ Cut l (i + 1) (m + 1) := by
  obtain ⟨hi, e⟩ := List.getElem?_eq_some_iff.1 hm
  have hd : m ∈ (ids l).drop i := by
    rw [List.drop_eq_getElem_cons hi, e]
    exact List.mem_cons_self
  have hs := List.pairwise_iff_getElem.1 (ids_sorted l)
  have hmi : m ∈ ids l := by rw [← e]; exact List.getElem_mem hi
  have hnm := h.2 m hd
  refine ⟨hnm, fun j h1 h2 hj => ?_, fun a ha => ?_, fun a ha => ?_⟩
  · have hjm : j ∈ ids l := mem_ids.2 ⟨by have := (mem_ids.1 hmi).1; omega, hj⟩
    obtain ⟨k, hk, ek⟩ := List.getElem_of_mem hjm
    by_cases hki : k < i
    · have : j ∈ (ids l).take i := by
        rw [List.mem_take_iff_getElem]
        exact ⟨k, by omega, ek⟩
      have := h.1 j this
      omega
    · by_cases hki2 : k = i
      · subst hki2; omega
      · have := hs i k hi hk (by omega)
        omega
  · rw [List.take_succ_eq_append_getElem hi, List.mem_append] at ha
    rcases ha with ha | ha
    · have := h.1 a ha; omega
    · rw [List.mem_singleton, e] at ha; omega
  · obtain ⟨k, hk, ek⟩ := List.getElem_of_mem ha
    rw [List.getElem_drop] at ek
    have := hs i (i + 1 + k) hi (by rw [List.length_drop] at hk; omega) (by omega)
    omega
theorem Cut.done {l : List R4} {n : Nat} (h : Cut l (ids l).length n) : ∀ j, n ≤ j → j < l.length → mn l j ≠ j := fun j h1 h2 hj => by
  have := h.1 j (by rw [List.take_length]; exact mem_ids.2 ⟨h2, hj⟩)
  omega
end Go.Proofs.YtdolpeljengpaaaGreat

/- Plain: being along each other is the same both ways; the boundaries of two regions without a common point. -/
namespace Go.Proofs.YtdolpeljengpaaaGreat
set_option linter.unusedVariables false
set_option linter.unusedSimpArgs false

def halfA (m : Nat) (a b : List R4) : Int := vol (m + 1) (fun X Y => hit a b X Y (X - 1) Y)
/-- A frame around a region, less the region. -/
structure Rim (k : Int) (a oa : List R4) : Prop where
  small : ∀ x y, pmem a x y → -k ≤ x ∧ x < k ∧ -k ≤ y ∧ y < k
  mem : ∀ x y, pmem oa x y ↔ (-k - 2 ≤ x ∧ x < k + 2 ∧ -k - 2 ≤ y ∧ y < k + 2) ∧ ¬ pmem a x y
theorem Rim.fl {k : Int} {a oa : List R4} (h : Rim k a oa) : Rim k (a.map fl4) (oa.map fl4) :=
  ⟨fun x y hp => by
    have := h.small _ _ ((pmem_fl a x y).1 hp)
    omega, fun x y => by
    rw [pmem_fl, h.mem, pmem_fl]
    constructor
    · rintro ⟨h1, h2⟩
      exact ⟨by omega, h2⟩
    · rintro ⟨h1, h2⟩
      exact ⟨by omega, h2⟩⟩
theorem Rim.hit {k : Int} {a oa : List R4} (h : Rim k a oa) (X Y : Int) : hit a oa X Y (X - 1) Y = one a X Y * (1 - one a (X - 1) Y) + one a (X - 1) Y * (1 - one a X Y) := by
  have e : ∀ x y, (-k - 2 ≤ x ∧ x < k + 2 ∧ -k - 2 ≤ y ∧ y < k + 2) → one oa x y = 1 - one a x y := fun x y hx => by
    by_cases hp : pmem a x y
    · rw [show one oa x y = 0 from ind_f fun hh => ((h.mem _ _).1 hh).2 hp, show one a x y = 1 from ind_t hp]; rfl
    · rw [show one oa x y = 1 from ind_t ((h.mem _ _).2 ⟨hx, hp⟩), show one a x y = 0 from ind_f hp]; rfl
  have z : ∀ x y, ¬ pmem a x y → one a x y = 0 := fun x y hx => ind_f hx
  unfold Go.Proofs.YtdolpeljengpaaaGreat.hit hitZ
  by_cases h1 : pmem a X Y
  · have hs := h.small _ _ h1
    rw [e X Y (by omega), e (X - 1) Y (by omega)]
    rcases one_01 a X Y with h1 | h1 <;> rcases one_01 a (X - 1) Y with h3 | h3 <;> rw [h1, h3] <;> rfl
  · by_cases h2 : pmem a (X - 1) Y
    · have hs := h.small _ _ h2
      rw [e X Y (by omega), e (X - 1) Y (by omega)]
      rcases one_01 a X Y with h1 | h1 <;> rcases one_01 a (X - 1) Y with h3 | h3 <;> rw [h1, h3] <;> rfl
    · rw [z _ _ h1, z _ _ h2]
      simp
end Go.Proofs.YtdolpeljengpaaaGreat

/- Plain: the regions of BlockBeside's law: joins of regions, frames around them. -/
namespace Go.Proofs.YtdolpeljengpaaaGreat
set_option linter.unusedVariables false
set_option linter.unusedSimpArgs false

theorem can_oneB {r : R4} (h : wf4 r) : RCan [r] := ⟨[⟨r.x0, r.x1, [(r.y0, r.y1)]⟩], ⟨h.1, by simp, by simp [SCan]; exact h.2⟩, by simp [flat, flat1]⟩
/-- What a join of two regions is. -/
theorem joinTwo {h : Bool → Bool → Bool} (h0 : h false false = false) {a b : List R4} (ha : checkF a = 0) (hb : checkF b = 0) :
    joinF h a b = ([], 4) ∨ ∃ R, joinF h a b = (R, 0) ∧ checkF R = 0 ∧ R.length ≤ 400 ∧ ∀ x y, pmem R x y ↔ h (decide (pmem a x y)) (decide (pmem b x y)) = true := by
  rw [joinF_ok ha hb]
  by_cases hl : 400 < (rjoin h a b).length
  · rw [if_pos hl]; exact .inl rfl
  · rw [if_neg hl]
    exact .inr ⟨_, rfl, join_check h0 ha hb (by omega), by omega, join_pts h0 ha hb⟩
theorem joinZero {h : Bool → Bool → Bool} (h0 : h false false = false) {a b R : List R4} (ha : checkF a = 0) (hb : checkF b = 0) (he : joinF h a b = (R, 0)) : checkF R = 0 ∧ R.length ≤ 400 ∧ ∀ x y, pmem R x y ↔ h (decide (pmem a x y)) (decide (pmem b x y)) = true := by
  rcases joinTwo h0 ha hb with e | ⟨R', e, h1, h2, h3⟩
  · rw [he] at e; injection e with _ e; cases e
  · rw [he] at e; injection e with e _; subst e; exact ⟨h1, h2, h3⟩
theorem orP {a b : List R4} {x y : Int} : hOr (decide (pmem a x y)) (decide (pmem b x y)) = true ↔ pmem a x y ∨ pmem b x y := by simp [hOr]
theorem andP {a b : List R4} {x y : Int} : hAnd (decide (pmem a x y)) (decide (pmem b x y)) = true ↔ pmem a x y ∧ pmem b x y := by simp [hAnd]
theorem subP {a b : List R4} {x y : Int} : hSub (decide (pmem a x y)) (decide (pmem b x y)) = true ↔ pmem a x y ∧ ¬ pmem b x y := by simp [hSub]
theorem pmem_one {r : R4} {x y : Int} : pmem [r] x y ↔ rin r x y := by simp [pmem]
def small35 (l : List R4) : Bool := l.all fun r => decide (-1000 ≤ r.x0) && decide (-1000 ≤ r.y0) && decide (r.x1 ≤ 1000) && decide (r.y1 ≤ 1000)
def frm35 : List R4 := [⟨-1002, -1002, 1002, 1002⟩]
end Go.Proofs.YtdolpeljengpaaaGreat

/- Plain: the blocks of a piece of land and the streets on it: disjoint, and the land together. -/
namespace Go.Proofs.YtdolpeljengpaaaGreat
open Go.RowKit
set_option linter.unusedVariables false
set_option linter.unusedSimpArgs false

/-- What has been laid together: the streets' part and the first parts of the rest. -/
structure FillI (O R A : List R4) (n : Nat) : Prop where
  chk : checkF A = 0
  pts : ∀ x y, pmem A x y ↔ pmem O x y ∨ pmem (partU R n) x y
/-- The land, the streets, what they share, what is left. -/
structure FillH (P S O R : List R4) : Prop where
  p : checkF P = 0
  s : checkF S = 0
  o : joinF hAnd P S = (O, 0)
  r : joinF hSub P S = (R, 0)
section
variable {P S O R A : List R4} {n q : Nat}
theorem FillH.ochk (h : FillH P S O R) : checkF O = 0 := (joinZero rfl h.p h.s h.o).1
theorem FillH.rchk (h : FillH P S O R) : checkF R = 0 := (joinZero rfl h.p h.s h.r).1
theorem FillH.opts (h : FillH P S O R) (x y : Int) : pmem O x y ↔ pmem P x y ∧ pmem S x y := ((joinZero rfl h.p h.s h.o).2.2 x y).trans andP
theorem FillH.rpts (h : FillH P S O R) (x y : Int) : pmem R x y ↔ pmem P x y ∧ ¬ pmem S x y := ((joinZero rfl h.p h.s h.r).2.2 x y).trans subP
theorem FillH.start (h : FillH P S O R) : FillI O R O 0 := ⟨h.ochk, fun x y => by rw [partU_zero h.rchk]; simp [pmem_nil]⟩
theorem part_in (h : FillH P S O R) {x y : Int} (hp : pmem (partJ R q) x y) : pmem R x y := by
  obtain ⟨j, s, _, h2, h3⟩ := (partJ_pts h.rchk q x y).1 hp
  exact ⟨s, List.mem_of_getElem? h2, h3⟩
theorem FillI.next (h : FillH P S O R) (hA : FillI O R A n) (hn : n ≤ q) (hb : ∀ j, n ≤ j → j < q → mn R j ≠ j) :
    joinF hOr A (partJ R q) = ([], 4) ∨ ∃ A', joinF hOr A (partJ R q) = (A', 0) ∧ FillI O R A' (q + 1) ∧ areaS A' = areaS A + areaS (partJ R q) := by
  have kj := partJ_check h.rchk q
  rcases joinTwo (h := hOr) rfl hA.chk kj with e | ⟨A', e, k, _, hp⟩
  · exact .inl e
  · have hp2 : ∀ x y, pmem A' x y ↔ pmem A x y ∨ pmem (partJ R q) x y := fun x y => (hp x y).trans orP
    refine .inr ⟨A', e, ⟨k, fun x y => ?_⟩, ?_⟩
    · have hs := (joinZero rfl (partU_check h.rchk n) kj (partU_step h.rchk hn hb)).2.2 x y
      rw [hp2, hA.pts, hs, orP, or_assoc]
    · have hsum := area_sum hA.chk kj k check_nil hp2 (fun x y => by
        constructor
        · intro e; exact absurd e pmem_nil
        · rintro ⟨h1, h2⟩
          exfalso
          rcases (hA.pts x y).1 h1 with h1 | h1
          · exact ((h.rpts x y).1 (part_in h h2)).2 ((h.opts x y).1 h1).2
          · obtain ⟨j, s, a1, a2, a3⟩ := (partU_pts h.rchk n x y).1 h1
            obtain ⟨i, t, b1, b2, b3⟩ := (partJ_pts h.rchk q x y).1 h2
            by_cases e : j = i
            · subst e; omega
            · exact apart_at (check_rcan h.rchk).apart a2 b2 e x y ⟨a3, b3⟩)
      have h0 : areaS [] = 0 := rfl
      omega
theorem FillI.done (h : FillH P S O R) (hA : FillI O R A n) (hn : ∀ j, n ≤ j → j < R.length → mn R j ≠ j) : A = P := by
  refine can_eq hA.chk h.p fun x y => ?_
  rw [hA.pts, partU_all h.rchk hn, h.opts, h.rpts]
  by_cases hs : pmem S x y <;> simp [hs]
end
/-- The streets of a few segments. -/
theorem node_near {l : List Sg} (hv : ∀ s ∈ l, okSg s) (h : ∀ s ∈ l, near35 s) {p : Pt} (hp : p ∈ nodesF l) : (-100 ≤ p.1 ∧ p.1 ≤ 100) ∧ -100 ≤ p.2 ∧ p.2 ≤ 100 := by
  obtain ⟨x, y⟩ := p
  obtain ⟨h1, h2, _⟩ := node_in hv ((nodesF_ok hv).2 _ |>.1 hp)
  unfold xsOf at h1
  unfold ysOf at h2
  obtain ⟨s, hs, h1⟩ := List.mem_flatMap.1 h1
  obtain ⟨t, ht, h2⟩ := List.mem_flatMap.1 h2
  obtain ⟨_, a1, a2, a3, a4⟩ := h s hs
  obtain ⟨_, b1, b2, b3, b4⟩ := h t ht
  simp only [List.mem_cons, List.not_mem_nil, or_false] at h1 h2
  simp only
  constructor
  · rcases h1 with rfl | rfl <;> omega
  · rcases h2 with rfl | rfl <;> omega
end Go.Proofs.YtdolpeljengpaaaGreat

/- Plain: a network, four times as large: the same nodes and edges. And: what a network has, counted by the points of a lattice. -/
namespace Go.Proofs.YtdolpeljengpaaaGreat
set_option linter.unusedVariables false
set_option linter.unusedSimpArgs false

/-! ### Four times as large -/
def x4 (s : Sg) : Sg := ⟨4 * s.ax, 4 * s.ay, 4 * s.cx, 4 * s.cy⟩
def x4p (p : Pt) : Pt := (4 * p.1, 4 * p.2)
theorem ht_x4 (l : List Sg) (x y : Int) : htB (l.map x4) x y = (decide (y % 4 = 0) && htB l (x / 4) (y / 4)) := by
  rw [Bool.eq_iff_iff, Bool.and_eq_true, decide_eq_true_eq, row_mem, row_mem]
  constructor
  · rintro ⟨s, hs, h1, h2, h3, h4⟩
    obtain ⟨q, hq, rfl⟩ := List.mem_map.1 hs
    unfold x4 at h1 h2 h3 h4
    simp only at h1 h2 h3 h4
    exact ⟨by omega, q, hq, by omega, by omega, by omega, by omega⟩
  · rintro ⟨h0, q, hq, h1, h2, h3, h4⟩
    refine ⟨x4 q, List.mem_map_of_mem hq, ?_⟩
    unfold x4
    simp only
    omega
theorem vt_x4 (l : List Sg) (x y : Int) : vtB (l.map x4) x y = (decide (x % 4 = 0) && vtB l (x / 4) (y / 4)) := by
  rw [Bool.eq_iff_iff, Bool.and_eq_true, decide_eq_true_eq, col_mem, col_mem]
  constructor
  · rintro ⟨s, hs, h1, h2, h3, h4⟩
    obtain ⟨q, hq, rfl⟩ := List.mem_map.1 hs
    unfold x4 at h1 h2 h3 h4
    simp only at h1 h2 h3 h4
    exact ⟨by omega, q, hq, by omega, by omega, by omega, by omega⟩
  · rintro ⟨h0, q, hq, h1, h2, h3, h4⟩
    refine ⟨x4 q, List.mem_map_of_mem hq, ?_⟩
    unfold x4
    simp only
    omega
theorem node_x4 (l : List Sg) (x y : Int) : nodeG (htB (l.map x4)) (vtB (l.map x4)) (x, y) = (decide (x % 4 = 0 ∧ y % 4 = 0) && nodeG (htB l) (vtB l) (x / 4, y / 4)) := by
  unfold nodeG
  simp only [ht_x4, vt_x4]
  by_cases hx : x % 4 = 0
  · by_cases hy : y % 4 = 0
    · rw [decide_eq_true hx, decide_eq_true hy, decide_eq_true (And.intro hx hy), show (x - 1) / 4 = x / 4 - 1 by omega, show (y - 1) / 4 = y / 4 - 1 by omega]
      simp only [Bool.true_and]
    · rw [decide_eq_true hx, decide_eq_false hy, decide_eq_false (fun h => hy h.2), show (y - 1) / 4 = y / 4 by omega]
      simp
  · by_cases hy : y % 4 = 0
    · rw [decide_eq_false hx, decide_eq_true hy, decide_eq_false (fun h => hx h.1), show (x - 1) / 4 = x / 4 by omega]
      simp
    · rw [decide_eq_false hx, decide_eq_false hy, decide_eq_false (fun h => hx h.1)]
      simp
theorem nodes_x4 {l : List Sg} (hl : ∀ s ∈ l, okSg s) (hm : ∀ s ∈ l.map x4, okSg s) : nodesF (l.map x4) = (nodesF l).map x4p := by
  obtain ⟨p1, p2⟩ := nodesF_ok hm
  obtain ⟨q1, q2⟩ := nodesF_ok hl
  refine sorted_ext ptLt_irrefl (fun _ _ _ => ptLt_trans) p1 ?_ fun p => ?_
  · rw [List.pairwise_map]
    exact q1.imp fun {x y} h => by unfold ptLt x4p at *; simp only; omega
  · obtain ⟨x, y⟩ := p
    rw [p2, node_x4, Bool.and_eq_true, decide_eq_true_eq, ← q2, List.mem_map]
    constructor
    · rintro ⟨⟨h1, h2⟩, h⟩
      exact ⟨_, h, Prod.ext (by show 4 * (x / 4) = x; omega) (by show 4 * (y / 4) = y; omega)⟩
    · rintro ⟨⟨a, b⟩, hq, e⟩
      unfold x4p at e
      simp only [Prod.mk.injEq] at e
      obtain ⟨rfl, rfl⟩ := e
      refine ⟨by omega, ?_⟩
      rw [show 4 * a / 4 = a by omega, show 4 * b / 4 = b by omega]
      exact hq
theorem nd_x4 (N : List Pt) {i : Nat} (h : i < N.length) : nd (N.map x4p) i = x4p (nd N i) := by
  unfold nd
  rw [List.getD_eq_getElem?_getD, List.getD_eq_getElem?_getD, List.getElem?_map, List.getElem?_eq_getElem h]
  rfl
theorem nxt_x4 (N : List Pt) {f : Pt → Int} (hf : ∀ p, f (x4p p) = 4 * f p) {i j : Nat} : nxt f (N.map x4p) i j ↔ nxt f N i j := by
  unfold nxt
  rw [List.length_map]
  constructor
  · rintro ⟨h1, h2, h3, h4⟩
    rw [nd_x4 N h2, nd_x4 N (by omega), hf, hf] at h3
    refine ⟨h1, h2, by omega, fun c c1 c2 => ?_⟩
    have := h4 c c1 c2
    rw [nd_x4 N (by omega), nd_x4 N (by omega), hf, hf] at this
    omega
  · rintro ⟨h1, h2, h3, h4⟩
    refine ⟨h1, h2, ?_, fun c c1 c2 => ?_⟩
    · rw [nd_x4 N h2, nd_x4 N (by omega), hf, hf]; omega
    · have := h4 c c1 c2
      rw [nd_x4 N (by omega), nd_x4 N (by omega), hf, hf]
      omega
theorem edges_x4 {l : List Sg} (hl : ∀ s ∈ l, okSg s) (hm : ∀ s ∈ l.map x4, okSg s) : edgesF (l.map x4) = edgesF l := by
  have H := net_ok hl
  have M := net_ok hm
  refine sorted_ext edLt_irrefl (fun _ _ _ => edLt_trans) M.edges_srt H.edges_srt fun e => ?_
  rw [mem_edges, mem_edges, nodes_x4 hl hm, nxt_x4 (f := Prod.fst) _ (fun p => rfl), nxt_x4 (f := Prod.snd) _ (fun p => rfl)]
  have key : e.1 < (nodesF l).length → (vtB (l.map x4) (nd ((nodesF l).map x4p) e.1).1 (nd ((nodesF l).map x4p) e.1).2 = vtB l (nd (nodesF l) e.1).1 (nd (nodesF l) e.1).2) ∧ (htB (l.map x4) (nd ((nodesF l).map x4p) e.1).1 (nd ((nodesF l).map x4p) e.1).2 = htB l (nd (nodesF l) e.1).1 (nd (nodesF l) e.1).2) := fun he => by
    rw [nd_x4 _ he, ht_x4, vt_x4]
    generalize nd (nodesF l) e.1 = p
    obtain ⟨x, y⟩ := p
    unfold x4p
    simp only
    rw [show 4 * x / 4 = x by omega, show 4 * y / 4 = y by omega, decide_eq_true (show 4 * x % 4 = 0 by omega), decide_eq_true (show 4 * y % 4 = 0 by omega)]
    exact ⟨Bool.true_and _, Bool.true_and _⟩
  constructor
  · rintro (⟨h1, h2⟩ | ⟨h1, h2⟩)
    · rw [(key (Nat.lt_trans h2.1 h2.2.1)).1] at h1
      exact .inl ⟨h1, h2⟩
    · rw [(key (Nat.lt_trans h2.1 h2.2.1)).2] at h1
      exact .inr ⟨h1, h2⟩
  · rintro (⟨h1, h2⟩ | ⟨h1, h2⟩)
    · exact .inl ⟨by rw [(key (Nat.lt_trans h2.1 h2.2.1)).1]; exact h1, h2⟩
    · exact .inr ⟨by rw [(key (Nat.lt_trans h2.1 h2.2.1)).2]; exact h1, h2⟩
theorem parts_x4 {l : List Sg} (hl : ∀ s ∈ l, okSg s) (hm : ∀ s ∈ l.map x4, okSg s) : partsN (l.map x4) = partsN l := by
  show (compF (nodesF (l.map x4)).length (edgesF (l.map x4))).2 = _
  rw [edges_x4 hl hm, nodes_x4 hl hm, List.length_map]
theorem lop_x4 {l : List Sg} (hl : ∀ s ∈ l, okSg s) (hm : ∀ s ∈ l.map x4, okSg s) : lopN (l.map x4) = lopN l := by
  unfold lopN
  rw [edges_x4 hl hm, parts_x4 hl hm, nodes_x4 hl hm, List.length_map]
theorem ok_x4 {s : Sg} (h : near35 s) : okSg (x4 s) := by
  unfold near35 okSg finS at h
  unfold okSg finS x4
  simp only
  omega

/-! ### Counting -/
theorem countP_split {α : Type} (p q : α → Bool) : ∀ L : List α, L.countP p = L.countP (fun x => p x && q x) + L.countP (fun x => p x && !q x)
  | [] => rfl
  | a :: L => by
    have ih := countP_split p q L
    simp only [List.countP_cons]
    cases p a <;> cases q a <;> simp <;> omega
theorem countP_plus {α : Type} {p q r : α → Bool} : ∀ {L : List α}, (∀ x ∈ L, (p x = true → q x = false ∧ r x = true) ∧ (p x = false → q x = r x)) → L.countP p + L.countP q = L.countP r
  | [], _ => rfl
  | a :: L, h => by
    have ih := countP_plus (L := L) fun x hx => h x (by simp [hx])
    obtain ⟨h1, h2⟩ := h a (by simp)
    simp only [List.countP_cons]
    cases hp : p a
    · rw [h2 hp]; cases r a <;> simp <;> omega
    · obtain ⟨h3, h4⟩ := h1 hp
      rw [h3, h4]; simp; omega
theorem countP_more {p : Nat → Bool} {n : Nat} : ∀ k : Nat, (∀ i, n ≤ i → i < n + k → p i = false) → (List.range (n + k)).countP p = (List.range n).countP p
  | 0, _ => rfl
  | k + 1, h => by
    rw [← Nat.add_assoc, List.range_succ, List.countP_append, countP_more k fun i h1 h2 => h i h1 (by omega), List.countP_singleton, h (n + k) (by omega) (by omega)]
    simp
theorem first_of (L : List Nat) (i : Nat) : ∃ k, k ≤ i ∧ firstB L k = true ∧ lb L k = lb L i := by
  induction i using Nat.strongRecOn with
  | ind i ih =>
    by_cases h : ∃ j, j < i ∧ lb L j = lb L i
    · obtain ⟨j, h1, h2⟩ := h
      obtain ⟨k, h3, h4, h5⟩ := ih j h1
      exact ⟨k, by omega, h4, h5.trans h2⟩
    · exact ⟨i, Nat.le_refl _, first_iff.2 fun j hj e => h ⟨j, hj, e⟩, rfl⟩
theorem first_one {L : List Nat} {i j : Nat} (hi : firstB L i = true) (hj : firstB L j = true) (h : lb L i = lb L j) : i = j := by
  rcases Nat.lt_trichotomy i j with g | g | g
  · exact absurd h (first_iff.1 hj i g)
  · exact g
  · exact absurd h.symm (first_iff.1 hi j g)
theorem map_nd {β : Type} (N : List Pt) (g : Pt → β) : (List.range N.length).map (fun a => g (nd N a)) = N.map g := by
  refine List.ext_getElem (by simp) fun i h1 h2 => ?_
  simp only [List.getElem_map, List.getElem_range]
  unfold nd
  rw [List.getD_eq_getElem?_getD, List.getElem?_eq_getElem (by simpa using h2)]
  rfl
theorem flat_sum {α β : Type} (f : α → List β) : ∀ L : List α, (L.flatMap f).length = (L.map fun a => (f a).length).sum
  | [] => rfl
  | a :: L => by simp [List.flatMap_cons, flat_sum f L]
theorem sum_two {α : Type} (p q : α → Bool) : ∀ L : List α, (L.map fun a => (if p a then 1 else 0) + (if q a then 1 else 0)).sum = L.countP p + L.countP q
  | [] => rfl
  | a :: L => by
    simp only [List.map_cons, List.sum_cons, List.countP_cons, sum_two p q L]
    omega
/-- How many edges a network has: as many as its nodes have to the right and upwards. -/
theorem NetOK.edges_count {h v : Int → Int → Bool} {N : List Pt} (H : NetOK h v N) : (edgesG h v N).length = N.countP (fun p => v p.1 p.2) + N.countP (fun p => h p.1 p.2) := by
  rw [← sum_two, ← map_nd N (fun p => (if v p.1 p.2 then 1 else 0) + (if h p.1 p.2 then 1 else 0))]
  unfold edgesG
  rw [flat_sum]
  congr 1
  refine List.map_congr_left fun a ha => ?_
  have ha : a < N.length := List.mem_range.1 ha
  rw [List.length_append]
  have hnd : nodeG h v (nd N a) = true := (H.mem _).1 (nd_mem ha)
  congr 1
  · cases hv : v (nd N a).1 (nd N a).2
    · unfold upE
      rw [hv]
      rfl
    · obtain ⟨e, he, h1, h2⟩ := H.col_on hv
      have hx : e ∈ upE v N a := by
        have hne : nodeG h v ((nd N a).1, (nd N a).2) = true := hnd
        rcases H.on_node he h1 with e1 | e1 | e1
        · have hi := H.nd_inj ha (H.edges_lt e he).1 e1
          rw [mem_upE]
          have hm := mem_edges.1 he
          rcases hm with ⟨m1, m2⟩ | ⟨m1, m2⟩
          · rw [← hi] at m1 m2
            exact ⟨m1, hi.symm, m2⟩
          · exfalso
            have hs := m2.2.2.1
            unfold onE at h1 h2
            simp only at h1 h2
            rw [← hi] at h1 h2 hs
            have := H.edge_two he
            rw [← hi] at this
            omega
        · exfalso
          have hi := H.nd_inj ha (H.edges_lt e he).2 e1
          unfold onE at h1 h2
          simp only at h1 h2
          rw [← hi] at h1 h2
          omega
        · rw [hne] at e1; cases e1
      have hl : (upE v N a).length ≤ 1 := by
        unfold upE
        split
        · rw [List.length_map]; cases upO N a <;> simp
        · simp
      have := List.length_pos_of_mem hx
      simp only [if_true]
      omega
  · cases hv : h (nd N a).1 (nd N a).2
    · unfold rtE
      rw [hv]
      rfl
    · obtain ⟨e, he, h1, h2⟩ := H.row_on hv
      have hx : e ∈ rtE h N a := by
        have hne : nodeG h v ((nd N a).1, (nd N a).2) = true := hnd
        rcases H.on_node he h1 with e1 | e1 | e1
        · have hi := H.nd_inj ha (H.edges_lt e he).1 e1
          rw [mem_rtE]
          have hm := mem_edges.1 he
          rcases hm with ⟨m1, m2⟩ | ⟨m1, m2⟩
          · exfalso
            have hs := m2.2.2.1
            unfold onE at h1 h2
            simp only at h1 h2
            rw [← hi] at h1 h2 hs
            have := H.edge_two he
            rw [← hi] at this
            omega
          · rw [← hi] at m1 m2
            exact ⟨m1, hi.symm, m2⟩
        · exfalso
          have hi := H.nd_inj ha (H.edges_lt e he).2 e1
          unfold onE at h1 h2
          simp only at h1 h2
          rw [← hi] at h1 h2
          omega
        · rw [hne] at e1; cases e1
      have hl : (rtE h N a).length ≤ 1 := by
        unfold rtE
        split
        · rw [List.length_map]; cases rtO N a <;> simp
        · simp
      have := List.length_pos_of_mem hx
      simp only [if_true]
      omega
end Go.Proofs.YtdolpeljengpaaaGreat

/- Plain: the faces of a network: one more than its loops. -/
namespace Go.Proofs.YtdolpeljengpaaaGreat
set_option linter.unusedVariables false
set_option linter.unusedSimpArgs false

def presG (l : List Sg) (g : Ge) : Bool := if g.k then vtB l g.x g.y else htB l g.x g.y
def tchB (l : List Sg) (x y : Int) : Bool := (htB l x y || htB l (x - 1) y) || (vtB l x y || vtB l x (y - 1))
theorem ht_near {l : List Sg} (hn : ∀ s ∈ l, near35 s) {x y : Int} (h : htB l x y = true) : (-100 ≤ x ∧ x ≤ 99) ∧ -100 ≤ y ∧ y ≤ 100 := by
  obtain ⟨s, hs, h1, h2, h3, h4⟩ := row_mem.1 h
  obtain ⟨_, h5, h6, h7, h8⟩ := hn s hs
  omega
theorem vt_near {l : List Sg} (hn : ∀ s ∈ l, near35 s) {x y : Int} (h : vtB l x y = true) : (-100 ≤ x ∧ x ≤ 100) ∧ -100 ≤ y ∧ y ≤ 99 := by
  obtain ⟨s, hs, h1, h2, h3, h4⟩ := col_mem.1 h
  obtain ⟨_, h5, h6, h7, h8⟩ := hn s hs
  omega
theorem presG_near {l : List Sg} (hn : ∀ s ∈ l, near35 s) {g : Ge} (h : presG l g = true) : okGe g := by
  obtain ⟨k, x, y⟩ := g
  unfold presG at h
  unfold okGe
  cases k
  · have := ht_near hn (show htB l x y = true from h)
    exact ⟨⟨by show -100 ≤ x; omega, by show -100 ≤ y; omega⟩, fun h => (by cases h), fun _ => ⟨by show x ≤ 99; omega, by show y ≤ 100; omega⟩⟩
  · have := vt_near hn (show vtB l x y = true from h)
    exact ⟨⟨by show -100 ≤ x; omega, by show -100 ≤ y; omega⟩, fun _ => ⟨by show x ≤ 100; omega, by show y ≤ 99; omega⟩, fun h => by cases h⟩
theorem pid_pt {i : Nat} (h : i < 40401) : pid (ptX i) (ptY i) = i ∧ (-100 ≤ ptX i ∧ ptX i ≤ 100) ∧ -100 ≤ ptY i ∧ ptY i ≤ 100 := by
  unfold pid ptX ptY
  omega

section
variable {l : List Sg} (hn : ∀ s ∈ l, near35 s) {n q : Nat} (eN : n = 40401) (eQ : q = 40200) {LC : List Nat} {C : Nat} (hLC : compF n (((allGe q).filter (presG l)).map prE) = (LC, C))
include hn eN eQ hLC
omit hn hLC in
theorem lc_lt : ∀ e ∈ ((allGe q).filter (presG l)).map prE, e.1 < n ∧ e.2 < n := fun e he => by
  obtain ⟨g, hg, rfl⟩ := List.mem_map.1 he
  rw [eN]
  exact prE_lt (all_ok eQ g (List.mem_filter.1 hg).1)
omit hn in
theorem lc_ok : CompOK n LC C := by
  have := comp_ok (lc_lt (l := l) eN eQ)
  rwa [hLC] at this
theorem lc_ge {g : Ge} (h : presG l g = true) : lb LC (prE g).1 = lb LC (prE g).2 := by
  have := comp_same (lc_lt (l := l) eN eQ) (prE g) (List.mem_map_of_mem (List.mem_filter.2 ⟨all_mem eQ (presG_near hn h), h⟩))
  rwa [hLC] at this
theorem lc_row {x y : Int} (h : htB l x y = true) : lb LC (pid x y) = lb LC (pid (x + 1) y) := lc_ge hn eN eQ hLC (g := ⟨false, x, y⟩) h
theorem lc_col {x y : Int} (h : vtB l x y = true) : lb LC (pid x y) = lb LC (pid x (y + 1)) := lc_ge hn eN eQ hLC (g := ⟨true, x, y⟩) h
theorem lc_rows {y x0 : Int} : ∀ k : Nat, (∀ x, x0 ≤ x → x < x0 + k → htB l x y = true) → lb LC (pid x0 y) = lb LC (pid (x0 + k) y)
  | 0, _ => by rw [show x0 + ((0 : Nat) : Int) = x0 by omega]
  | k + 1, h => by
    rw [lc_rows k fun x h1 h2 => h x h1 (by omega), lc_row hn eN eQ hLC (h (x0 + k) (by omega) (by omega)), show x0 + (k : Int) + 1 = x0 + ((k + 1 : Nat) : Int) by omega]
theorem lc_cols {x y0 : Int} : ∀ k : Nat, (∀ y, y0 ≤ y → y < y0 + k → vtB l x y = true) → lb LC (pid x y0) = lb LC (pid x (y0 + k))
  | 0, _ => by rw [show y0 + ((0 : Nat) : Int) = y0 by omega]
  | k + 1, h => by
    rw [lc_cols k fun y h1 h2 => h y h1 (by omega), lc_col hn eN eQ hLC (h (y0 + k) (by omega) (by omega)), show y0 + (k : Int) + 1 = y0 + ((k + 1 : Nat) : Int) by omega]
/-- A point of an edge of the network is joined to the edge's first node. -/
theorem lc_edge {e : Ed} (he : e ∈ edgesF l) {p : Pt} (hp : onE (nodesF l) e p) : lb LC (pid (nd (nodesF l) e.1).1 (nd (nodesF l) e.1).2) = lb LC (pid p.1 p.2) := by
  have hv := near_ok hn
  have H := net_ok hv
  obtain ⟨h1, h2, h3⟩ := H.edge_two he
  rcases h3 with ⟨a1, a2, a3, a4⟩ | ⟨a1, a2, a3, a4⟩
  · have hline : ∀ y, (nd (nodesF l) e.1).2 ≤ y → y < (nd (nodesF l) e.2).2 → vtB l (nd (nodesF l) e.1).1 y = true := fun y y1 y2 => by
      rw [← H.drawn_col, col_mem]
      refine ⟨sgOf (nodesF l) e, List.mem_map_of_mem he, ?_, rfl, ?_, ?_⟩
      · show ¬ (nd (nodesF l) e.1).2 = (nd (nodesF l) e.2).2; omega
      · show min (nd (nodesF l) e.1).2 (nd (nodesF l) e.2).2 ≤ y; omega
      · show y < max (nd (nodesF l) e.1).2 (nd (nodesF l) e.2).2; omega
    have hp2 : p.1 = (nd (nodesF l) e.1).1 ∧ (nd (nodesF l) e.1).2 ≤ p.2 ∧ p.2 ≤ (nd (nodesF l) e.2).2 := by unfold onE at hp; omega
    rw [hp2.1]
    have := lc_cols hn eN eQ hLC (x := (nd (nodesF l) e.1).1) (y0 := (nd (nodesF l) e.1).2) (p.2 - (nd (nodesF l) e.1).2).toNat fun y y1 y2 => hline y y1 (by omega)
    rwa [show (nd (nodesF l) e.1).2 + (((p.2 - (nd (nodesF l) e.1).2).toNat : Nat) : Int) = p.2 by omega] at this
  · have hline : ∀ x, (nd (nodesF l) e.1).1 ≤ x → x < (nd (nodesF l) e.2).1 → htB l x (nd (nodesF l) e.1).2 = true := fun x x1 x2 => by
      rw [← H.drawn_row, row_mem]
      refine ⟨sgOf (nodesF l) e, List.mem_map_of_mem he, ?_, rfl, ?_, ?_⟩
      · show (nd (nodesF l) e.1).2 = (nd (nodesF l) e.2).2; omega
      · show min (nd (nodesF l) e.1).1 (nd (nodesF l) e.2).1 ≤ x; omega
      · show x < max (nd (nodesF l) e.1).1 (nd (nodesF l) e.2).1; omega
    have hp2 : p.2 = (nd (nodesF l) e.1).2 ∧ (nd (nodesF l) e.1).1 ≤ p.1 ∧ p.1 ≤ (nd (nodesF l) e.2).1 := by unfold onE at hp; omega
    rw [hp2.1]
    have := lc_rows hn eN eQ hLC (y := (nd (nodesF l) e.1).2) (x0 := (nd (nodesF l) e.1).1) (p.1 - (nd (nodesF l) e.1).1).toNat fun x x1 x2 => hline x x1 (by omega)
    rwa [show (nd (nodesF l) e.1).1 + (((p.1 - (nd (nodesF l) e.1).1).toNat : Nat) : Int) = p.1 by omega] at this
/-- Points of one part of the network are joined. -/
theorem lc_of_cls {c : Nat} {p r : Pt} (h1 : clsF l c p) (h2 : clsF l c r) : lb LC (pid p.1 p.2) = lb LC (pid r.1 r.2) := by
  have hv := near_ok hn
  have H := net_ok hv
  obtain ⟨e, he, hp, ec⟩ := h1
  obtain ⟨f, hf, hr, fc⟩ := h2
  rw [← lc_edge hn eN eQ hLC he hp, ← lc_edge hn eN eQ hLC hf hr]
  have hlt := fun e he => H.edges_lt e he
  have := (comp_min (n := (nodesF l).length) (E := edgesF l) hlt (fun k => lb LC (pid (nd (nodesF l) k).1 (nd (nodesF l) k).2) = lb LC (pid (nd (nodesF l) e.1).1 (nd (nodesF l) e.1).2)) (fun g hg => by
    have hon : onE (nodesF l) g (nd (nodesF l) g.2) := by
      have := (H.edge_two hg).2.2
      unfold onE
      omega
    rw [lc_edge hn eN eQ hLC hg hon]) (hlt e he).1 (hlt f hf).1 (ec.trans fc.symm)).1 rfl
  exact this.symm
/-- What is joined to a point of a part of the network is of that part. -/
theorem cls_of_lc {c i j : Nat} (hi : i < n) (hj : j < n) (h : lb LC i = lb LC j) : clsF l c (ptX i, ptY i) → clsF l c (ptX j, ptY j) := by
  have hv := near_ok hn
  have hh : lb (compF n (((allGe q).filter (presG l)).map prE)).1 i = lb (compF n (((allGe q).filter (presG l)).map prE)).1 j := by rw [hLC]; exact h
  refine (comp_min (lc_lt (l := l) eN eQ) (fun k => clsF l c (ptX k, ptY k)) (fun f hf => ?_) hi hj hh).1
  obtain ⟨g, hg, rfl⟩ := List.mem_map.1 hf
  obtain ⟨hg1, hg2⟩ := List.mem_filter.1 hg
  obtain ⟨⟨e1, e2⟩, e3, e4⟩ := prE_pt (all_ok eQ g hg1)
  rw [e1, e2, e3, e4]
  obtain ⟨k, x, y⟩ := g
  cases k
  · obtain ⟨c', c1, c2⟩ := cls_row hv (show htB l x y = true from hg2)
    constructor
    · intro h
      have := cls_one hv h c1
      subst this
      exact c2
    · intro h
      have := cls_one hv (show clsF l c (x + 1, y) from h) c2
      subst this
      exact c1
  · obtain ⟨c', c1, c2⟩ := cls_col hv (show vtB l x y = true from hg2)
    constructor
    · intro h
      have := cls_one hv h c1
      subst this
      exact c2
    · intro h
      have := cls_one hv (show clsF l c (x, y + 1) from h) c2
      subst this
      exact c1
omit eN eQ hLC in
theorem tch_cls {x y : Int} (h : tchB l x y = true) : ∃ c, clsF l c (x, y) := by
  have hv := near_ok hn
  unfold tchB at h
  simp only [Bool.or_eq_true] at h
  rcases h with (h | h) | h | h
  · obtain ⟨c, h1, _⟩ := cls_row hv h
    exact ⟨c, h1⟩
  · obtain ⟨c, _, h1⟩ := cls_row hv h
    rw [show x - 1 + 1 = x by omega] at h1
    exact ⟨c, h1⟩
  · obtain ⟨c, h1, _⟩ := cls_col hv h
    exact ⟨c, h1⟩
  · obtain ⟨c, _, h1⟩ := cls_col hv h
    rw [show y - 1 + 1 = y by omega] at h1
    exact ⟨c, h1⟩
omit hn in
/-- A point without a line is joined to no other one. -/
theorem lc_alone {i j : Nat} (hi : i < n) (hj : j < n) (ht : tchB l (ptX i) (ptY i) = false) (h : lb LC j = lb LC i) : j = i := by
  have hh : lb (compF n (((allGe q).filter (presG l)).map prE)).1 j = lb (compF n (((allGe q).filter (presG l)).map prE)).1 i := by rw [hLC]; exact h
  refine (comp_min (lc_lt (l := l) eN eQ) (fun k => k = i) (fun f hf => ?_) hj hi hh).2 rfl
  obtain ⟨g, hg, rfl⟩ := List.mem_map.1 hf
  obtain ⟨hg1, hg2⟩ := List.mem_filter.1 hg
  obtain ⟨⟨e1, e2⟩, e3, e4⟩ := prE_pt (all_ok eQ g hg1)
  have n1 : ¬ (prE g).1 = i := fun e => by
    rw [← e, e1, e2] at ht
    unfold tchB at ht
    simp only [Bool.or_eq_false_iff] at ht
    unfold presG at hg2
    split at hg2
    · rw [ht.2.1] at hg2; cases hg2
    · rw [ht.1.1] at hg2; cases hg2
  have n2 : ¬ (prE g).2 = i := fun e => by
    rw [← e, e3, e4] at ht
    unfold tchB eX eY at ht
    simp only [Bool.or_eq_false_iff] at ht
    unfold presG at hg2
    split at hg2
    · rename_i hk
      have := ht.2.2
      rw [if_pos hk, if_pos hk, show g.y + 1 - 1 = g.y by omega, hg2] at this
      cases this
    · rename_i hk
      have := ht.1.2
      rw [if_neg hk, if_neg hk, show g.x + 1 - 1 = g.x by omega, hg2] at this
      cases this
  exact ⟨fun h => absurd h n1, fun h => absurd h n2⟩
theorem count_parts : C = partsN l + (List.range n).countP (fun i => !tchB l (ptX i) (ptY i)) := by
  have hv := near_ok hn
  have hC := lc_ok eN eQ hLC
  have H := net_ok hv
  have hP : CompOK (nodesF l).length (labF l) (partsN l) := comp_ok H.edges_lt
  rw [← first_count hC, countP_split (firstB LC) (fun i => tchB l (ptX i) (ptY i)) (List.range n)]
  have h1 : (List.range n).countP (fun i => firstB LC i && !tchB l (ptX i) (ptY i)) = (List.range n).countP (fun i => !tchB l (ptX i) (ptY i)) := by
    refine List.countP_congr fun i hi => ?_
    have hi : i < n := List.mem_range.1 hi
    cases ht : tchB l (ptX i) (ptY i)
    · have : firstB LC i = true := first_iff.2 fun j hj e => by
        have := lc_alone eN eQ hLC hi (by omega) ht e
        omega
      simp [this]
    · simp
  have h2 : (List.range n).countP (fun i => firstB LC i && tchB l (ptX i) (ptY i)) = partsN l := by
    rw [hP.cnt]
    have tc : ∀ i, i < n → tchB l (ptX i) (ptY i) = true → ∃ c, clsF l c (ptX i, ptY i) := fun i _ h => tch_cls hn h
    classical
    refine Nat.le_antisymm ?_ ?_
    · refine countP_inj (fun i => if h : ∃ c, clsF l c (ptX i, ptY i) then Classical.choose h else 0) (fun i hi h => ?_) fun i j hi hj pi pj e => ?_
      · simp only [Bool.and_eq_true] at h
        have hc := tc i hi h.2
        rw [dif_pos hc]
        have hcs := Classical.choose_spec hc
        obtain ⟨e, he, _, ec⟩ := id hcs
        have hlt := (H.edges_lt e he).1
        rw [← ec]
        exact ⟨hP.lt _ hlt, by unfold rootB; rw [hP.idem _ hlt]; simp⟩
      · simp only [Bool.and_eq_true] at pi pj
        have ci := tc i hi pi.2
        have cj := tc j hj pj.2
        have e' : Classical.choose ci = Classical.choose cj := by
          have := e
          rw [dif_pos ci, dif_pos cj] at this
          exact this
        have si := Classical.choose_spec ci
        have sj := Classical.choose_spec cj
        rw [e'] at si
        have := lc_of_cls hn eN eQ hLC si sj
        simp only at this
        rw [(pid_pt (by omega)).1, (pid_pt (by omega)).1] at this
        exact first_one pi.1 pj.1 this
    · have own : ∀ k, k < (nodesF l).length → rootB (labF l) k = true → clsF l k (nd (nodesF l) k) := fun k hk hr => by
        have := own_cls hv hk
        rw [show lb (labF l) k = k from of_decide_eq_true hr] at this
        exact this
      have bnd : ∀ k, k < (nodesF l).length → (-100 ≤ (nd (nodesF l) k).1 ∧ (nd (nodesF l) k).1 ≤ 100) ∧ -100 ≤ (nd (nodesF l) k).2 ∧ (nd (nodesF l) k).2 ≤ 100 := fun k hk => node_near hv hn (nd_mem hk)
      have fst : ∀ k, ∃ m, m ≤ pid (nd (nodesF l) k).1 (nd (nodesF l) k).2 ∧ firstB LC m = true ∧ lb LC m = lb LC (pid (nd (nodesF l) k).1 (nd (nodesF l) k).2) := fun k => first_of LC _
      refine countP_inj (fun k => Classical.choose (fst k)) (fun k hk hr => ?_) fun i j hi hj pi pj e => ?_
      · obtain ⟨s1, s2, s3⟩ := Classical.choose_spec (fst k)
        obtain ⟨b1, b2⟩ := bnd k hk
        obtain ⟨l1, l2, l3⟩ := pid_lt b1 b2
        have hlt : Classical.choose (fst k) < n := by omega
        refine ⟨hlt, ?_⟩
        rw [s2, Bool.true_and]
        cases ht : tchB l (ptX (Classical.choose (fst k))) (ptY (Classical.choose (fst k)))
        · exfalso
          have he := lc_alone eN eQ hLC hlt (by omega) ht s3.symm
          rw [← he, l2, l3] at ht
          have hno := (H.mem _).1 (nd_mem hk)
          have := node_line (show nodeG (htB l) (vtB l) ((nd (nodesF l) k).1, (nd (nodesF l) k).2) = true from hno)
          unfold tchB at ht
          simp only [Bool.or_eq_false_iff] at ht
          rw [ht.1.1, ht.1.2, ht.2.1, ht.2.2] at this
          simp at this
        · rfl
      · obtain ⟨s1, s2, s3⟩ := Classical.choose_spec (fst i)
        obtain ⟨t1, t2, t3⟩ := Classical.choose_spec (fst j)
        have hl : lb LC (pid (nd (nodesF l) i).1 (nd (nodesF l) i).2) = lb LC (pid (nd (nodesF l) j).1 (nd (nodesF l) j).2) := by rw [← s3, ← t3]; exact congrArg (lb LC) e
        obtain ⟨b1, b2⟩ := bnd i hi
        obtain ⟨b3, b4⟩ := bnd j hj
        obtain ⟨l1, l2, l3⟩ := pid_lt b1 b2
        obtain ⟨m1, m2, m3⟩ := pid_lt b3 b4
        have hc := cls_of_lc hn eN eQ hLC (c := i) (by omega) (by omega) hl (by rw [l2, l3]; exact own i hi pi)
        rw [m2, m3] at hc
        exact cls_one hv hc (own j hj pj)
  omega
end
/-! ### Unit lines and points -/
theorem count_lines {l : List Sg} (hn : ∀ s ∈ l, near35 s) {n q : Nat} (eN : n = 40401) (eQ : q = 40200) :
    ((allGe q).filter (presG l)).length = (List.range n).countP (fun i => htB l (ptX i) (ptY i)) + (List.range n).countP (fun i => vtB l (ptX i) (ptY i)) := by
  rw [← List.countP_eq_length_filter]
  unfold allGe
  rw [List.countP_append, List.countP_map, List.countP_map]
  congr 1
  · have h1 := countP_more (p := fun i => htB l (ptX i) (ptY i)) (n := q) 201 fun i h1 h2 => by
      cases hz : htB l (ptX i) (ptY i)
      · rfl
      · have := ht_near hn hz
        unfold ptX at this
        omega
    rw [show q + 201 = n by omega] at h1
    rw [h1]
    rfl
  · refine Nat.le_antisymm ?_ ?_
    · refine countP_inj (fun j => j / 200 * 201 + j % 200) (fun j hj h => ?_) fun i j hi hj _ _ e => by omega
      have h : vtB l (((j / 200 : Nat) : Int) - 100) (((j % 200 : Nat) : Int) - 100) = true := h
      refine ⟨by omega, ?_⟩
      unfold ptX ptY
      rw [show (j / 200 * 201 + j % 200) / 201 = j / 200 by omega, show (j / 200 * 201 + j % 200) % 201 = j % 200 by omega]
      exact h
    · refine countP_inj (fun i => i / 201 * 200 + i % 201) (fun i hi h => ?_) fun i j hi hj pi pj e => ?_
      · have hb := vt_near hn h
        unfold ptX ptY at hb
        refine ⟨by omega, ?_⟩
        show vtB l ((((i / 201 * 200 + i % 201) / 200 : Nat) : Int) - 100) ((((i / 201 * 200 + i % 201) % 200 : Nat) : Int) - 100) = true
        rw [show (i / 201 * 200 + i % 201) / 200 = i / 201 by omega, show (i / 201 * 200 + i % 201) % 200 = i % 201 by omega]
        exact h
      · have b1 := vt_near hn pi
        have b2 := vt_near hn pj
        unfold ptX ptY at b1 b2
        omega
theorem nodes_list {l : List Sg} (hn : ∀ s ∈ l, near35 s) {n : Nat} (eN : n = 40401) : nodesF l = ((List.range n).map fun i => (ptX i, ptY i)).filter (nodeG (htB l) (vtB l)) := by
  have hv := near_ok hn
  obtain ⟨p1, p2⟩ := nodesF_ok hv
  refine sorted_ext ptLt_irrefl (fun _ _ _ => ptLt_trans) p1 (List.Pairwise.filter _ ?_) fun p => ?_
  · rw [List.pairwise_map]
    refine List.pairwise_lt_range.imp fun {a b} hab => ?_
    unfold ptLt ptX ptY
    simp only
    omega
  · rw [p2, List.mem_filter]
    refine ⟨fun h => ⟨?_, h⟩, fun h => h.2⟩
    obtain ⟨b1, b2⟩ := node_near hv hn ((p2 p).2 h)
    obtain ⟨h1, h2, h3⟩ := pid_lt b1 b2
    exact List.mem_map.2 ⟨pid p.1 p.2, List.mem_range.2 (by omega), Prod.ext h2 h3⟩
theorem count_net {l : List Sg} (hn : ∀ s ∈ l, near35 s) {n q : Nat} (eN : n = 40401) (eQ : q = 40200) :
    ((allGe q).filter (presG l)).length + (nodesF l).length = (edgesF l).length + (List.range n).countP (fun i => tchB l (ptX i) (ptY i)) := by
  have hv := near_ok hn
  have H := net_ok hv
  have hE : (edgesF l).length = (nodesF l).countP (fun p => vtB l p.1 p.2) + (nodesF l).countP (fun p => htB l p.1 p.2) := H.edges_count
  have hN := nodes_list hn eN
  have cv : (nodesF l).countP (fun p => vtB l p.1 p.2) = (List.range n).countP (fun i => vtB l (ptX i) (ptY i) && nodeG (htB l) (vtB l) (ptX i, ptY i)) := by
    rw [hN, List.countP_filter, List.countP_map]
    rfl
  have ch : (nodesF l).countP (fun p => htB l p.1 p.2) = (List.range n).countP (fun i => htB l (ptX i) (ptY i) && nodeG (htB l) (vtB l) (ptX i, ptY i)) := by
    rw [hN, List.countP_filter, List.countP_map]
    rfl
  have cn : (nodesF l).length = (List.range n).countP (fun i => nodeG (htB l) (vtB l) (ptX i, ptY i)) := by
    rw [hN, ← List.countP_eq_length_filter, List.countP_map]
    rfl
  have sh := countP_split (fun i => htB l (ptX i) (ptY i)) (fun i => nodeG (htB l) (vtB l) (ptX i, ptY i)) (List.range n)
  have sv := countP_split (fun i => vtB l (ptX i) (ptY i)) (fun i => nodeG (htB l) (vtB l) (ptX i, ptY i)) (List.range n)
  have st := countP_split (fun i => tchB l (ptX i) (ptY i)) (fun i => nodeG (htB l) (vtB l) (ptX i, ptY i)) (List.range n)
  have tn : (List.range n).countP (fun i => tchB l (ptX i) (ptY i) && nodeG (htB l) (vtB l) (ptX i, ptY i)) = (List.range n).countP (fun i => nodeG (htB l) (vtB l) (ptX i, ptY i)) := by
    refine List.countP_congr fun i _ => ?_
    cases hg : nodeG (htB l) (vtB l) (ptX i, ptY i)
    · simp
    · have := node_line hg
      unfold tchB
      rcases this with h | h | h | h <;> simp [h]
  have pl := countP_plus (L := List.range n) (p := fun i => htB l (ptX i) (ptY i) && !nodeG (htB l) (vtB l) (ptX i, ptY i)) (q := fun i => vtB l (ptX i) (ptY i) && !nodeG (htB l) (vtB l) (ptX i, ptY i)) (r := fun i => tchB l (ptX i) (ptY i) && !nodeG (htB l) (vtB l) (ptX i, ptY i)) fun i _ => by
    cases hg : nodeG (htB l) (vtB l) (ptX i, ptY i)
    · unfold nodeG at hg
      unfold tchB
      revert hg
      generalize htB l (ptX i) (ptY i) = p1
      generalize vtB l (ptX i) (ptY i) = p2
      generalize htB l (ptX i - 1) (ptY i) = p3
      generalize vtB l (ptX i) (ptY i - 1) = p4
      revert p1 p2 p3 p4
      decide
    · simp
  rw [count_lines hn eN eQ, hE, cv, ch, cn]
  omega
/-- **The faces of a network.** -/
theorem net_euler {l : List Sg} (hn : ∀ s ∈ l, near35 s) {n m q : Nat} (eN : n = 40401) (eM : m = 40001) (eQ : q = 40200) :
    (((compF m (((allGe q).filter fun g => !presG l g).map duE).reverse).2 : Nat) : Int) = lopN l + 1 := by
  have h1 := grid_euler eN eM eQ (presG l)
  obtain ⟨LC, hL⟩ : ∃ LC, LC = (compF n (((allGe q).filter (presG l)).map prE)).1 := ⟨_, rfl⟩
  obtain ⟨C, hC⟩ : ∃ C, C = (compF n (((allGe q).filter (presG l)).map prE)).2 := ⟨_, rfl⟩
  have hc : compF n (((allGe q).filter (presG l)).map prE) = (LC, C) := by rw [hL, hC]
  have h2 := count_parts hn eN eQ hc
  have h3 := count_net hn eN eQ
  have h4 : n = (List.range n).countP (fun i => tchB l (ptX i) (ptY i)) + (List.range n).countP (fun i => !tchB l (ptX i) (ptY i)) := by
    have := countP_split (fun _ => true) (fun i => tchB l (ptX i) (ptY i)) (List.range n)
    simp only [Bool.true_and] at this
    rw [List.countP_true, List.length_range] at this
    exact this
  rw [← hC] at h1
  clear hL hC hc
  unfold lopN
  revert h1 h2 h3 h4
  generalize (compF m (((allGe q).filter fun g => !presG l g).map duE).reverse).2 = F
  generalize (List.range n).countP (fun i => tchB l (ptX i) (ptY i)) = T
  generalize (List.range n).countP (fun i => !tchB l (ptX i) (ptY i)) = U
  generalize ((allGe q).filter (presG l)).length = K
  generalize partsN l = P
  generalize (edgesF l).length = E
  generalize (nodesF l).length = N
  intro h1 h2 h3 h4
  omega
end Go.Proofs.YtdolpeljengpaaaGreat

/- Plain: the land without the streets of a network that is four times as large: it has one part more than the network has loops. -/
namespace Go.Proofs.YtdolpeljengpaaaGreat
open Go.RowKit
set_option linter.unusedVariables false
set_option linter.unusedSimpArgs false

/-- A coarse cell that lies on a segment. -/
def occ (l : List Sg) (i j : Int) : Prop := ∃ q ∈ l, (2 * min q.ax q.cx ≤ i ∧ i ≤ 2 * max q.ax q.cx) ∧ 2 * min q.ay q.cy ≤ j ∧ j ≤ 2 * max q.ay q.cy
theorem thick_occ (l : List Sg) (x y : Int) : pmem ((l.map x4).map (thickS 1)) x y ↔ occ l ((x + 1) / 2) ((y + 1) / 2) := by
  unfold pmem occ
  constructor
  · rintro ⟨r, hr, h⟩
    obtain ⟨s, hs, rfl⟩ := List.mem_map.1 hr
    obtain ⟨q, hq, rfl⟩ := List.mem_map.1 hs
    unfold rin thickS x4 at h
    simp only at h
    exact ⟨q, hq, by omega⟩
  · rintro ⟨q, hq, h⟩
    refine ⟨thickS 1 (x4 q), List.mem_map_of_mem (List.mem_map_of_mem hq), ?_⟩
    unfold rin thickS x4
    simp only
    omega
theorem occ_odd {l : List Sg} (hv : ∀ s ∈ l, okSg s) {x y : Int} : ¬ occ l (2 * x + 1) (2 * y + 1) := by
  rintro ⟨q, hq, h⟩
  have := hv q hq
  unfold okSg at this
  omega
theorem occ_row {l : List Sg} (hv : ∀ s ∈ l, okSg s) {x y : Int} (h : occ l (2 * x + 1) (2 * y)) : htB l x y = true := by
  obtain ⟨q, hq, h⟩ := h
  have := hv q hq
  unfold okSg at this
  exact row_mem.2 ⟨q, hq, by omega, by omega, by omega, by omega⟩
theorem occ_col {l : List Sg} (hv : ∀ s ∈ l, okSg s) {x y : Int} (h : occ l (2 * x) (2 * y + 1)) : vtB l x y = true := by
  obtain ⟨q, hq, h⟩ := h
  have := hv q hq
  unfold okSg at this
  exact col_mem.2 ⟨q, hq, by omega, by omega, by omega, by omega⟩
theorem row_occ {l : List Sg} (hv : ∀ s ∈ l, okSg s) {x y i : Int} (h : htB l x y = true) (hi : 2 * x ≤ i ∧ i ≤ 2 * x + 2) : occ l i (2 * y) := by
  obtain ⟨q, hq, h1, h2, h3, h4⟩ := row_mem.1 h
  exact ⟨q, hq, by omega⟩
theorem col_occ {l : List Sg} (hv : ∀ s ∈ l, okSg s) {x y j : Int} (h : vtB l x y = true) (hj : 2 * y ≤ j ∧ j ≤ 2 * y + 2) : occ l (2 * x) j := by
  obtain ⟨q, hq, h1, h2, h3, h4⟩ := col_mem.1 h
  have := hv q hq
  unfold okSg at this
  exact ⟨q, hq, by omega⟩
theorem occ_by {l : List Sg} {i j i' j' : Int} (h : ¬ occ l i j) (hi : i' = i ∨ (i % 2 = 0 ∧ i - 1 ≤ i' ∧ i' ≤ i + 1)) (hj : j' = j ∨ (j % 2 = 0 ∧ j - 1 ≤ j' ∧ j' ≤ j + 1)) : ¬ occ l i' j' := by
  rintro ⟨q, hq, h2⟩
  exact h ⟨q, hq, by omega⟩
theorem occ_far {l : List Sg} (hn : ∀ s ∈ l, near35 s) {i j : Int} (h : i < -200 ∨ 200 < i ∨ j < -200 ∨ 200 < j) : ¬ occ l i j := by
  rintro ⟨q, hq, h2⟩
  obtain ⟨_, h5, h6, h7, h8⟩ := hn q hq
  omega

/-! ### Ways -/
theorem PW.mem {S : Int → Int → Prop} {x y u v : Int} (h : PW S x y u v) (h0 : S x y) : S u v := by
  cases h with
  | refl => exact h0
  | step _ s _ => exact s
theorem nb.symm {x y u v : Int} (h : nb x y u v) : nb u v x y := by unfold nb at *; omega
theorem PW.symm {S : Int → Int → Prop} {x y u v : Int} (h : PW S x y u v) (h0 : S x y) : PW S u v x y := by
  induction h with
  | refl => exact .refl
  | step g s n ih => exact (PW.step .refl (g.mem h0) n.symm).trans ih
theorem PW.imp {S T : Int → Int → Prop} (hST : ∀ a b, S a b → T a b) {x y u v : Int} (h : PW S x y u v) : PW T x y u v := by
  induction h with
  | refl => exact .refl
  | step _ s n ih => exact ih.step (hST _ _ s) n
/-- Within a rectangle of the set. -/
theorem box_way {S : Int → Int → Prop} (a b c d : Int) (hS : ∀ x y, a ≤ x → x < c → b ≤ y → y < d → S x y) {x y u v : Int} (h1 : (a ≤ x ∧ x < c) ∧ b ≤ y ∧ y < d) (h2 : (a ≤ u ∧ u < c) ∧ b ≤ v ∧ v < d) : PW S x y u v :=
  rect_way (r := ⟨a, b, c, d⟩) (fun x y h => by unfold rin at h; simp only at h; exact hS x y h.1 h.2.1 h.2.2.1 h.2.2.2) (by unfold rin; simp only; omega) _ u v (by unfold rin; simp only; omega) rfl

/-! ### The rest of the land -/
structure Rest (l : List Sg) (S : Int → Int → Prop) : Prop where
  near : ∀ s ∈ l, near35 s
  pts : ∀ x y, S x y ↔ ((-402 ≤ x ∧ x < 402) ∧ -402 ≤ y ∧ y < 402) ∧ ¬ occ l ((x + 1) / 2) ((y + 1) / 2)
def psi (x y : Int) : Nat := fid ((x - 1) / 4) ((y - 1) / 4)
def chX (f : Nat) : Int := if f < 40000 then 4 * (((f / 200 : Nat) : Int) - 100) + 2 else -402
def chY (f : Nat) : Int := if f < 40000 then 4 * (((f % 200 : Nat) : Int) - 100) + 2 else -402
theorem ch_in {x y : Int} (h : -100 ≤ x ∧ x ≤ 99 ∧ -100 ≤ y ∧ y ≤ 99) : chX (fid x y) = 4 * x + 2 ∧ chY (fid x y) = 4 * y + 2 := by
  unfold chX chY fid
  rw [if_pos h, if_pos (by omega), if_pos (by omega)]
  omega
theorem ch_out {x y : Int} (h : ¬ (-100 ≤ x ∧ x ≤ 99 ∧ -100 ≤ y ∧ y ≤ 99)) : chX (fid x y) = -402 ∧ chY (fid x y) = -402 := by
  unfold chX chY fid
  rw [if_neg h, if_neg (by omega), if_neg (by omega)]
  exact ⟨rfl, rfl⟩
theorem psi_ch {f : Nat} (h : f < 40001) : psi (chX f) (chY f) = f := by
  unfold psi chX chY fid
  by_cases hf : f < 40000
  · rw [if_pos hf, if_pos hf, if_pos (by omega)]
    omega
  · rw [if_neg hf, if_neg hf, if_neg (by omega)]
    omega
section
variable {l : List Sg} {S : Int → Int → Prop} (H : Rest l S)
include H
theorem Rest.ch_mem (f : Nat) : S (chX f) (chY f) := by
  rw [H.pts]
  unfold chX chY
  by_cases hf : f < 40000
  · rw [if_pos hf, if_pos hf]
    refine ⟨by omega, ?_⟩
    have := @occ_odd l (near_ok H.near) (((f / 200 : Nat) : Int) - 100) (((f % 200 : Nat) : Int) - 100)
    rwa [show (4 * (((f / 200 : Nat) : Int) - 100) + 2 + 1) / 2 = 2 * (((f / 200 : Nat) : Int) - 100) + 1 by omega, show (4 * (((f % 200 : Nat) : Int) - 100) + 2 + 1) / 2 = 2 * (((f % 200 : Nat) : Int) - 100) + 1 by omega]
  · rw [if_neg hf, if_neg hf]
    exact ⟨by omega, occ_far H.near (by omega)⟩
theorem Rest.left {y : Int} (hy : -402 ≤ y ∧ y < 402) : PW S (-402) y (-402) (-402) :=
  box_way (-402) (-402) (-401) 402 (fun a b h1 h2 h3 h4 => (H.pts a b).2 ⟨by omega, occ_far H.near (by omega)⟩) (by omega) (by omega)
theorem Rest.low {x : Int} (hx : -402 ≤ x ∧ x < 402) : PW S x (-402) (-402) (-402) :=
  box_way (-402) (-402) 402 (-401) (fun a b h1 h2 h3 h4 => (H.pts a b).2 ⟨by omega, occ_far H.near (by omega)⟩) (by omega) (by omega)
theorem Rest.right {y : Int} (hy : -402 ≤ y ∧ y < 402) : PW S 401 y 401 (-402) :=
  box_way 401 (-402) 402 402 (fun a b h1 h2 h3 h4 => (H.pts a b).2 ⟨by omega, occ_far H.near (by omega)⟩) (by omega) (by omega)
theorem Rest.high {x : Int} (hx : -402 ≤ x ∧ x < 402) : PW S x 401 (-402) 401 :=
  box_way (-402) 401 402 402 (fun a b h1 h2 h3 h4 => (H.pts a b).2 ⟨by omega, occ_far H.near (by omega)⟩) (by omega) (by omega)
/-- Each cell is joined to that of its face. -/
theorem Rest.to_face {x y : Int} (h : S x y) : PW S x y (chX (psi x y)) (chY (psi x y)) := by
  obtain ⟨hl, ho⟩ := (H.pts x y).1 h
  by_cases hin : -100 ≤ (x - 1) / 4 ∧ (x - 1) / 4 ≤ 99 ∧ -100 ≤ (y - 1) / 4 ∧ (y - 1) / 4 ≤ 99
  · obtain ⟨e1, e2⟩ := ch_in hin
    unfold psi
    rw [e1, e2]
    refine box_way (4 * ((x - 1) / 4) + 1) (4 * ((y - 1) / 4) + 1) (max (x + 1) (4 * ((x - 1) / 4) + 3)) (max (y + 1) (4 * ((y - 1) / 4) + 3)) (fun a b h1 h2 h3 h4 => (H.pts a b).2 ⟨by omega, ?_⟩) (by omega) (by omega)
    by_cases ex : (x + 1) / 2 % 2 = 0
    · by_cases ey : (y + 1) / 2 % 2 = 0
      · exact occ_by ho (by omega) (by omega)
      · by_cases eb : (b + 1) / 2 = (y + 1) / 2
        · exact occ_by ho (by omega) (by omega)
        · exfalso; omega
    · by_cases ey : (y + 1) / 2 % 2 = 0
      · exact occ_by ho (by omega) (by omega)
      · exact occ_by ho (by omega) (by omega)
  · obtain ⟨e1, e2⟩ := ch_out hin
    unfold psi
    rw [e1, e2]
    by_cases c1 : (x - 1) / 4 < -100
    · refine PW.trans (box_way (-402) y (x + 1) (y + 1) (u := -402) (v := y) (fun a b h1 h2 h3 h4 => (H.pts a b).2 ⟨by omega, ?_⟩) (by omega) (by omega)) (H.left (by omega))
      have eb : b = y := by omega
      subst eb
      by_cases ea : (a + 1) / 2 < -200
      · exact occ_far H.near (by omega)
      · exact occ_by ho (by omega) (by omega)
    by_cases c2 : 99 < (x - 1) / 4
    · have ex : x = 401 := by omega
      subst ex
      exact (H.right (by omega)).trans (H.low (by omega))
    by_cases c3 : (y - 1) / 4 < -100
    · refine PW.trans (box_way x (-402) (x + 1) (y + 1) (u := x) (v := -402) (fun a b h1 h2 h3 h4 => (H.pts a b).2 ⟨by omega, ?_⟩) (by omega) (by omega)) (H.low (by omega))
      have ea : a = x := by omega
      subst ea
      by_cases eb : (b + 1) / 2 < -200
      · exact occ_far H.near (by omega)
      · exact occ_by ho (by omega) (by omega)
    · have ey : y = 401 := by omega
      subst ey
      exact (H.high (by omega)).trans (H.left (by omega))
/-- Faces beside a line that is not there are joined. -/
theorem Rest.across {g : Ge} (hg : okGe g) (hp : presG l g = false) : PW S (chX (duE g).1) (chY (duE g).1) (chX (duE g).2) (chY (duE g).2) := by
  have hv := near_ok H.near
  obtain ⟨k, x, y⟩ := g
  obtain ⟨⟨h1, h2⟩, h3, h4⟩ := hg
  simp only at h1 h2 h3 h4
  cases k
  · obtain ⟨h5, h6⟩ := h4 rfl
    have hno : ¬ occ l (2 * x + 1) (2 * y) := fun h => by
      have := occ_row hv h
      rw [show htB l x y = false from hp] at this
      cases this
    have hcell : ∀ a b, 4 * x + 2 ≤ a → a < 4 * x + 3 → max (4 * y - 2) (-402) ≤ b → b < min (4 * y + 3) 402 → S a b := fun a b a1 a2 b1 b2 => by
      rw [H.pts]
      refine ⟨by omega, ?_⟩
      rw [show (a + 1) / 2 = 2 * x + 1 by omega]
      exact occ_by hno (.inl rfl) (by omega)
    have hA := hcell (4 * x + 2) (max (4 * y - 2) (-402)) (by omega) (by omega) (by omega) (by omega)
    have hB := hcell (4 * x + 2) (min (4 * y + 2) 401) (by omega) (by omega) (by omega) (by omega)
    have hAB : PW S (4 * x + 2) (max (4 * y - 2) (-402)) (4 * x + 2) (min (4 * y + 2) 401) := box_way (4 * x + 2) (max (4 * y - 2) (-402)) (4 * x + 3) (min (4 * y + 3) 402) hcell (by omega) (by omega)
    have eA : psi (4 * x + 2) (max (4 * y - 2) (-402)) = fid x (y - 1) := by unfold psi; congr 1 <;> omega
    have eB : psi (4 * x + 2) (min (4 * y + 2) 401) = fid x y := by unfold psi; congr 1 <;> omega
    have wA := H.to_face hA
    have wB := H.to_face hB
    rw [eA] at wA
    rw [eB] at wB
    exact ((wA.symm hA).trans hAB).trans wB
  · obtain ⟨h5, h6⟩ := h3 rfl
    have hno : ¬ occ l (2 * x) (2 * y + 1) := fun h => by
      have := occ_col hv h
      rw [show vtB l x y = false from hp] at this
      cases this
    have hcell : ∀ a b, max (4 * x - 2) (-402) ≤ a → a < min (4 * x + 3) 402 → 4 * y + 2 ≤ b → b < 4 * y + 3 → S a b := fun a b a1 a2 b1 b2 => by
      rw [H.pts]
      refine ⟨by omega, ?_⟩
      rw [show (b + 1) / 2 = 2 * y + 1 by omega]
      exact occ_by hno (by omega) (.inl rfl)
    have hA := hcell (max (4 * x - 2) (-402)) (4 * y + 2) (by omega) (by omega) (by omega) (by omega)
    have hB := hcell (min (4 * x + 2) 401) (4 * y + 2) (by omega) (by omega) (by omega) (by omega)
    have hAB : PW S (max (4 * x - 2) (-402)) (4 * y + 2) (min (4 * x + 2) 401) (4 * y + 2) := box_way (max (4 * x - 2) (-402)) (4 * y + 2) (min (4 * x + 3) 402) (4 * y + 3) hcell (by omega) (by omega)
    have eA : psi (max (4 * x - 2) (-402)) (4 * y + 2) = fid (x - 1) y := by unfold psi; congr 1 <;> omega
    have eB : psi (min (4 * x + 2) 401) (4 * y + 2) = fid x y := by unfold psi; congr 1 <;> omega
    have wA := H.to_face hA
    have wB := H.to_face hB
    rw [eA] at wA
    rw [eB] at wB
    exact ((wA.symm hA).trans hAB).trans wB
end
section
variable {l : List Sg} {S : Int → Int → Prop} (H : Rest l S) {m q : Nat} (eM : m = 40001) (eQ : q = 40200) {LD : List Nat} (hLD : (compF m (((allGe q).filter fun g => !presG l g).map duE).reverse).1 = LD)
include H eM eQ hLD
omit H eQ hLD in
theorem ld_lt : ∀ f ∈ (((allGe q).filter fun g => !presG l g).map duE).reverse, f.1 < m ∧ f.2 < m := fun f hf => by
  obtain ⟨g, hg, rfl⟩ := List.mem_map.1 (List.mem_reverse.1 hf)
  rw [eM]
  exact duE_lt g
omit H in
theorem ld_ge {g : Ge} (hg : okGe g) (hp : presG l g = false) : lb LD (duE g).1 = lb LD (duE g).2 := by
  have := comp_same (ld_lt (l := l) (q := q) eM) (duE g) (List.mem_reverse.2 (List.mem_map_of_mem (List.mem_filter.2 ⟨all_mem eQ hg, by rw [hp]; rfl⟩)))
  rwa [hLD] at this
theorem ld_right {x y : Int} (h1 : S x y) (h2 : S (x + 1) y) : lb LD (psi x y) = lb LD (psi (x + 1) y) := by
  obtain ⟨k1, o1⟩ := (H.pts _ _).1 h1
  obtain ⟨k2, o2⟩ := (H.pts _ _).1 h2
  unfold psi
  by_cases hx : x % 4 = 0
  · rw [show (x - 1) / 4 = x / 4 - 1 by omega, show (x + 1 - 1) / 4 = x / 4 by omega]
    by_cases hy : -100 ≤ (y - 1) / 4 ∧ (y - 1) / 4 ≤ 99
    · refine ld_ge eM eQ hLD (g := ⟨true, x / 4, (y - 1) / 4⟩) ⟨⟨by show -100 ≤ x / 4; omega, by show -100 ≤ (y - 1) / 4; omega⟩, fun _ => ⟨by show x / 4 ≤ 100; omega, by show (y - 1) / 4 ≤ 99; omega⟩, fun h => by cases h⟩ ?_
      show vtB l (x / 4) ((y - 1) / 4) = false
      cases hv : vtB l (x / 4) ((y - 1) / 4)
      · rfl
      · exfalso
        refine o1 ?_
        rw [show (x + 1) / 2 = 2 * (x / 4) by omega]
        exact col_occ (near_ok H.near) hv (by omega)
    · congr 1
      unfold fid
      rw [if_neg (by omega), if_neg (by omega)]
  · rw [show (x + 1 - 1) / 4 = (x - 1) / 4 by omega]
theorem ld_up {x y : Int} (h1 : S x y) (h2 : S x (y + 1)) : lb LD (psi x y) = lb LD (psi x (y + 1)) := by
  obtain ⟨k1, o1⟩ := (H.pts _ _).1 h1
  obtain ⟨k2, o2⟩ := (H.pts _ _).1 h2
  unfold psi
  by_cases hy : y % 4 = 0
  · rw [show (y - 1) / 4 = y / 4 - 1 by omega, show (y + 1 - 1) / 4 = y / 4 by omega]
    by_cases hx : -100 ≤ (x - 1) / 4 ∧ (x - 1) / 4 ≤ 99
    · refine ld_ge eM eQ hLD (g := ⟨false, (x - 1) / 4, y / 4⟩) ⟨⟨by show -100 ≤ (x - 1) / 4; omega, by show -100 ≤ y / 4; omega⟩, fun h => (by cases h), fun _ => ⟨by show (x - 1) / 4 ≤ 99; omega, by show y / 4 ≤ 100; omega⟩⟩ ?_
      show htB l ((x - 1) / 4) (y / 4) = false
      cases hv : htB l ((x - 1) / 4) (y / 4)
      · rfl
      · exfalso
        refine o1 ?_
        rw [show (y + 1) / 2 = 2 * (y / 4) by omega]
        exact row_occ (near_ok H.near) hv (by omega)
    · congr 1
      unfold fid
      rw [if_neg (by omega), if_neg (by omega)]
  · rw [show (y + 1 - 1) / 4 = (y - 1) / 4 by omega]
theorem ld_nb {x y u v : Int} (h1 : S x y) (h2 : S u v) (hn : nb x y u v) : lb LD (psi x y) = lb LD (psi u v) := by
  rcases hn with ⟨rfl, rfl⟩ | ⟨rfl, rfl⟩ | ⟨rfl, rfl⟩ | ⟨rfl, rfl⟩
  · exact ld_right H eM eQ hLD h1 h2
  · have := ld_right H eM eQ hLD (x := x - 1) (y := v) h2 (by rw [show x - 1 + 1 = x by omega]; exact h1)
    rw [show x - 1 + 1 = x by omega] at this
    exact this.symm
  · exact ld_up H eM eQ hLD h1 h2
  · have := ld_up H eM eQ hLD (x := u) (y := y - 1) h2 (by rw [show y - 1 + 1 = y by omega]; exact h1)
    rw [show y - 1 + 1 = y by omega] at this
    exact this.symm
theorem ld_way {x y u v : Int} (h : PW S x y u v) (h0 : S x y) : lb LD (psi x y) = lb LD (psi u v) := by
  induction h with
  | refl => rfl
  | step g s n ih => exact ih.trans (ld_nb H eM eQ hLD (g.mem h0) s n)
theorem way_ld {x y u v : Int} (h1 : S x y) (h2 : S u v) (h : lb LD (psi x y) = lb LD (psi u v)) : PW S x y u v := by
  have hlt : ∀ a b, psi a b < m := fun a b => by rw [eM]; exact fid_lt _ _
  have hh : lb (compF m (((allGe q).filter fun g => !presG l g).map duE).reverse).1 (psi x y) = lb (compF m (((allGe q).filter fun g => !presG l g).map duE).reverse).1 (psi u v) := by rw [hLD]; exact h
  have := (comp_min (ld_lt (l := l) (q := q) eM) (fun f => PW S x y (chX f) (chY f)) (fun f hf => by
    obtain ⟨g, hg, rfl⟩ := List.mem_map.1 (List.mem_reverse.1 hf)
    obtain ⟨g1, g2⟩ := List.mem_filter.1 hg
    have hw := H.across (all_ok eQ g g1) (by simpa using g2)
    exact ⟨fun h => h.trans hw, fun h => h.trans (hw.symm (H.ch_mem _))⟩) (hlt x y) (hlt u v) hh).1 (H.to_face h1)
  exact this.trans ((H.to_face h2).symm h2)
end
/-- **The parts of the rest are the faces.** -/
theorem rest_parts {l : List Sg} {R : List R4} (hc : checkF R = 0) (H : Rest l (pmem R)) {m q : Nat} (eM : m = 40001) (eQ : q = 40200) :
    (partsF R).length = (compF m (((allGe q).filter fun g => !presG l g).map duE).reverse).2 := by
  obtain ⟨LD, hLD⟩ : ∃ LD, (compF m (((allGe q).filter fun g => !presG l g).map duE).reverse).1 = LD := ⟨_, rfl⟩
  have hok := comp_ok (ld_lt (l := l) (q := q) eM)
  have hap := (check_rcan hc).apart
  have hwf : ∀ r ∈ R, wf4 r := fun r hr => ⟨((checkF_ok hc).2.1 r hr).1, ((checkF_ok hc).2.1 r hr).2.1⟩
  rw [← first_count hok, hLD, ids_parts, List.length_map]
  unfold ids
  rw [← List.countP_eq_length_filter]
  have corner : ∀ i, i < R.length → ∃ r, R[i]? = some r ∧ rin r r.x0 r.y0 ∧ pmem R r.x0 r.y0 := fun i hi => by
    refine ⟨R[i], List.getElem?_eq_getElem hi, ?_⟩
    have := hwf R[i] (List.getElem_mem hi)
    unfold wf4 at this
    have hr : rin R[i] R[i].x0 R[i].y0 := by unfold rin; omega
    exact ⟨hr, R[i], List.getElem_mem hi, hr⟩
  have atf : ∀ f, ∃ (k : Nat) (r : R4), R[k]? = some r ∧ rin r (chX f) (chY f) := fun f => by
    obtain ⟨r, hr, hin⟩ := H.ch_mem f
    obtain ⟨k, hk⟩ := List.getElem?_of_mem hr
    exact ⟨k, r, hk, hin⟩
  refine Nat.le_antisymm ?_ ?_
  · have fst : ∀ i, ∃ k, (i < R.length → k ≤ psi (R.getD i ⟨0, 0, 0, 0⟩).x0 (R.getD i ⟨0, 0, 0, 0⟩).y0 ∧ firstB LD k = true ∧ lb LD k = lb LD (psi (R.getD i ⟨0, 0, 0, 0⟩).x0 (R.getD i ⟨0, 0, 0, 0⟩).y0)) := fun i => by
      obtain ⟨k, h⟩ := first_of LD (psi (R.getD i ⟨0, 0, 0, 0⟩).x0 (R.getD i ⟨0, 0, 0, 0⟩).y0)
      exact ⟨k, fun _ => h⟩
    refine countP_inj (fun i => Classical.choose (fst i)) (fun i hi _ => ?_) fun i j hi hj pi pj e => ?_
    · obtain ⟨h1, h2, _⟩ := Classical.choose_spec (fst i) hi
      have hq : psi (R.getD i ⟨0, 0, 0, 0⟩).x0 (R.getD i ⟨0, 0, 0, 0⟩).y0 < m := by rw [eM]; exact fid_lt _ _
      exact ⟨Nat.lt_of_le_of_lt h1 hq, h2⟩
    · obtain ⟨_, _, h3⟩ := Classical.choose_spec (fst i) hi
      obtain ⟨_, _, g3⟩ := Classical.choose_spec (fst j) hj
      have e' : Classical.choose (fst i) = Classical.choose (fst j) := e
      rw [e', g3] at h3
      obtain ⟨r, hr, r1, r2⟩ := corner i hi
      obtain ⟨s, hs, s1, s2⟩ := corner j hj
      have er : R.getD i ⟨0, 0, 0, 0⟩ = r := by rw [List.getD_eq_getElem?_getD, hr]; rfl
      have es : R.getD j ⟨0, 0, 0, 0⟩ = s := by rw [List.getD_eq_getElem?_getD, hs]; rfl
      rw [er, es] at h3
      have hw := way_ld H eM eQ hLD r2 s2 h3.symm
      have hcn := way_conn hap hw hr r1 hs s1
      have hm := mn_eq hcn
      rw [of_decide_eq_true pi, of_decide_eq_true pj] at hm
      exact hm
  · refine countP_inj (fun f => mn R (Classical.choose (atf f))) (fun f hf _ => ?_) fun f g hf hg pf pg e => ?_
    · obtain ⟨r, hr, _⟩ := Classical.choose_spec (atf f)
      have hk := (List.getElem?_eq_some_iff.1 hr).1
      exact ⟨Nat.lt_of_le_of_lt (mn_le R _) hk, decide_eq_true (mn_mn R _)⟩
    · obtain ⟨r, hr, r1⟩ := Classical.choose_spec (atf f)
      obtain ⟨s, hs, s1⟩ := Classical.choose_spec (atf g)
      have hcn := conn_of_mn (show mn R (Classical.choose (atf f)) = mn R (Classical.choose (atf g)) from e)
      have hw := (conn_way hwf .refl hcn hr hs r1 s1).imp (T := pmem R) fun a b ⟨k, t, _, ht, h⟩ => ⟨t, List.mem_of_getElem? ht, h⟩
      have := ld_way H eM eQ hLD hw (H.ch_mem f)
      rw [psi_ch (by omega), psi_ch (by omega)] at this
      exact first_one pf pg this
end Go.Proofs.YtdolpeljengpaaaGreat

/- Plain: a network that is four times as large: its land has one block more than it has loops. -/
namespace Go.Proofs.YtdolpeljengpaaaGreat
open Go.RowKit
set_option linter.unusedVariables false
set_option linter.unusedSimpArgs false

theorem x4_ok {l : List Sg} (h : ∀ s ∈ l, near35 s) : ∀ s ∈ l.map x4, okSg s := fun s hs => by
  obtain ⟨q, hq, rfl⟩ := List.mem_map.1 hs
  exact ok_x4 (h q hq)
theorem str_made4 {l : List Sg} (h : ∀ s ∈ l, near35 s) (h12 : l.length ≤ 12) : ∃ S, strF (nodesF (l.map x4)) (edI (edgesF (l.map x4))) 1 = (S, 0) ∧ checkF S = 0 ∧ ∀ x y, pmem S x y ↔ pmem ((l.map x4).map (thickS 1)) x y := by
  have hv0 := near_ok h
  have hv := x4_ok h
  have h12' : (l.map x4).length ≤ 12 := by rw [List.length_map]; exact h12
  have hN := nodes_x4 hv0 hv
  have hf := few35 hv h12'
  have hck := made_chk hv (by omega)
  have he := edges_len (htB (l.map x4)) (vtB (l.map x4)) (nodesF (l.map x4))
  have he2 : (edI (edgesF (l.map x4))).length ≤ 336 := by
    unfold edI
    rw [List.length_map]
    show (edgesG (htB (l.map x4)) (vtB (l.map x4)) (nodesF (l.map x4))).length ≤ 336
    omega
  have near : ∀ p ∈ nodesF (l.map x4), (-400 ≤ p.1 ∧ p.1 ≤ 400) ∧ -400 ≤ p.2 ∧ p.2 ≤ 400 := fun p hp => by
    rw [hN] at hp
    obtain ⟨q, hq, rfl⟩ := List.mem_map.1 hp
    have := node_near hv0 h hq
    unfold x4p
    simp only
    omega
  have hbd : ∀ s ∈ segsI (nodesF (l.map x4)) (edI (edgesF (l.map x4))), (-400 ≤ s.ax ∧ s.ax ≤ 400) ∧ (-400 ≤ s.ay ∧ s.ay ≤ 400) ∧ (-400 ≤ s.cx ∧ s.cx ≤ 400) ∧ (-400 ≤ s.cy ∧ s.cy ≤ 400) := fun s hs => by
    rw [segs_drawn] at hs
    obtain ⟨e, he, rfl⟩ := List.mem_map.1 hs
    obtain ⟨e1, e2, _⟩ := (net_ok hv).edge_two he
    have n1 := near _ (nd_mem (N := nodesF (l.map x4)) (i := e.1) (by omega))
    have n2 := near _ (nd_mem (N := nodesF (l.map x4)) (i := e.2) e2)
    unfold sgOf
    simp only
    exact ⟨n1.1, n1.2, n2.1, n2.2⟩
  have hfit : ∀ s ∈ segsI (nodesF (l.map x4)) (edI (edgesF (l.map x4))), fitR (thickS 1 s) := fun s hs => by
    have := hbd s hs
    unfold fitR thickS
    simp only
    omega
  have hval : ∀ r ∈ (segsI (nodesF (l.map x4)) (edI (edgesF (l.map x4)))).map (thickS 1), valid4 r := fun r hr => by
    obtain ⟨s, hs, rfl⟩ := List.mem_map.1 hr
    have := hbd s hs
    unfold thickS valid4 fineP
    simp only
    omega
  have hE : strF (nodesF (l.map x4)) (edI (edgesF (l.map x4))) 1 = makeF ((segsI (nodesF (l.map x4)) (edI (edgesF (l.map x4)))).map (thickS 1)) := by
    unfold strF
    rw [if_neg (fun x => x hck), if_neg (by omega), if_neg (by omega), if_neg (fun x => x hfit)]
  obtain ⟨c1, c2⟩ := rjoin_ok (h := hFst) rfl (a := (segsI (nodesF (l.map x4)) (edI (edgesF (l.map x4)))).map (thickS 1)) (fun r hr => ⟨(hval r hr).1, (hval r hr).2.1⟩) (b := []) (by simp)
  have hp : ∀ x y, pmem (rjoin hFst ((segsI (nodesF (l.map x4)) (edI (edgesF (l.map x4)))).map (thickS 1)) []) x y ↔ pmem ((l.map x4).map (thickS 1)) x y := fun x y => by
    rw [c2]
    have e0 : hFst (decide (pmem ((segsI (nodesF (l.map x4)) (edI (edgesF (l.map x4)))).map (thickS 1)) x y)) (decide (pmem [] x y)) = true ↔ pmem ((segsI (nodesF (l.map x4)) (edI (edgesF (l.map x4)))).map (thickS 1)) x y := by simp [hFst]
    rw [e0, segs_drawn]
    exact str_drawn hv (by omega) x y
  have hcnt := can_count_of c1 hp
  rw [List.length_map, List.length_map] at hcnt
  have h288 : 2 * l.length * l.length ≤ 2 * 12 * 12 := Nat.mul_le_mul (by omega) h12
  refine ⟨_, ?_, can_check c1 (sub_valid (can_wf c1) hval fun x y hx => by rw [c2] at hx; simpa [hFst] using hx) (by omega), hp⟩
  have hsl : ((segsI (nodesF (l.map x4)) (edI (edgesF (l.map x4)))).map (thickS 1)).length ≤ 336 := by
    unfold segsI
    rw [List.length_map, List.length_map]
    exact he2
  have hany : ((segsI (nodesF (l.map x4)) (edI (edgesF (l.map x4)))).map (thickS 1)).any (fun r => !decide (valid4 r)) = false := by
    rw [List.any_eq_false]
    intro r hr
    simp [hval r hr]
  rw [hE]
  unfold makeF
  rw [if_neg (by omega), if_neg (by rw [hany]; simp)]
  unfold madeF
  rw [if_neg (by omega)]
def land402 : List R4 := [⟨-402, -402, 402, 402⟩]
theorem land_402 : checkF land402 = 0 := by
  refine can_check (can_oneB (by unfold wf4; decide)) (fun r hr => ?_) (by decide)
  have hr := List.mem_singleton.1 hr
  subst hr
  unfold valid4 fineP
  decide
theorem rest_made4 {l : List Sg} (h : ∀ s ∈ l, near35 s) (h12 : l.length ≤ 12) {S : List R4} (hS : checkF S = 0) (hp : ∀ x y, pmem S x y ↔ pmem ((l.map x4).map (thickS 1)) x y) : ∃ R, joinF hSub land402 S = (R, 0) ∧ checkF R = 0 ∧ Rest l (pmem R) := by
  obtain ⟨A, eA⟩ : ∃ A, (l.map x4).map (thickS 1) = A := ⟨_, rfl⟩
  have hlA : A.length ≤ 12 := by rw [← eA, List.length_map, List.length_map]; exact h12
  obtain ⟨c1, c2⟩ := rjoin_ok (h := hSub) rfl (check_wf land_402) (check_wf hS)
  have hR : ∀ x y, pmem (rjoin hSub land402 S) x y ↔ ((-402 ≤ x ∧ x < 402) ∧ -402 ≤ y ∧ y < 402) ∧ ¬ pmem A x y := fun x y => by
    rw [c2, subP, hp, eA]
    unfold land402
    rw [pmem_one]
    unfold rin
    simp only
    constructor
    · rintro ⟨h1, h2⟩; exact ⟨by omega, h2⟩
    · rintro ⟨h1, h2⟩; exact ⟨by omega, h2⟩
  have hcnt := can_count c1 (xs := [-402, 402] ++ (A.map R4.x0 ++ A.map R4.x1)) (ys := [-402] ++ A.map R4.y1)
    (fun c ⟨y, hy⟩ => by
      rw [hR, hR] at hy
      refine Classical.byContradiction fun hno => hy ?_
      have n1 : c ≠ -402 := fun e => hno (by simp [e])
      have n2 : c ≠ 402 := fun e => hno (by simp [e])
      have n3 : ∀ r ∈ A, c ≠ r.x0 ∧ c ≠ r.x1 := fun r hr => ⟨fun e => hno (by
        refine List.mem_append_right _ (List.mem_append_left _ (List.mem_map.2 ⟨r, hr, e.symm⟩))), fun e => hno (by
        refine List.mem_append_right _ (List.mem_append_right _ (List.mem_map.2 ⟨r, hr, e.symm⟩)))⟩
      have hA : pmem A (c - 1) y ↔ pmem A c y := by
        constructor
        · rintro ⟨r, hr, hin⟩
          have := n3 r hr
          refine ⟨r, hr, ?_⟩
          unfold rin at hin ⊢
          omega
        · rintro ⟨r, hr, hin⟩
          have := n3 r hr
          refine ⟨r, hr, ?_⟩
          unfold rin at hin ⊢
          omega
      rw [hA]
      have : ((-402 ≤ c - 1 ∧ c - 1 < 402) ∧ -402 ≤ y ∧ y < 402) ↔ ((-402 ≤ c ∧ c < 402) ∧ -402 ≤ y ∧ y < 402) := by omega
      rw [this])
    (fun x c hno hp => by
      rw [hR] at hno hp
      obtain ⟨p1, p2⟩ := hp
      by_cases e : c = -402
      · simp [e]
      · have hA : pmem A x (c - 1) := Classical.byContradiction fun h => hno ⟨by omega, h⟩
        obtain ⟨r, hr, hin⟩ := hA
        refine List.mem_append_right _ (List.mem_map.2 ⟨r, hr, Classical.byContradiction fun e2 => p2 ⟨r, hr, ?_⟩⟩)
        unfold rin at hin ⊢
        omega)
  have hlen : (rjoin hSub land402 S).length ≤ 400 := by
    simp only [List.length_append, List.length_map, List.length_cons, List.length_nil] at hcnt
    have h2 : (0 + 1 + 1 + (A.length + A.length)) * (0 + 1 + A.length) ≤ 26 * 13 := Nat.mul_le_mul (by omega) (by omega)
    omega
  refine ⟨_, ?_, join_check rfl land_402 hS hlen, h, fun x y => ?_⟩
  · rw [joinF_ok land_402 hS, if_neg (by omega)]
  · rw [hR, ← eA, thick_occ]
/-- **The blocks of the land**: one more than there are loops. -/
theorem blocks_made4 {l : List Sg} (h : ∀ s ∈ l, near35 s) (h12 : l.length ≤ 12) : (blkF (nodesF (l.map x4)) (edI (edgesF (l.map x4))) 1 land402).2 = 0 ∧ (((blkF (nodesF (l.map x4)) (edI (edgesF (l.map x4))) 1 land402).1.length : Nat) : Int) = lopN l + 1 := by
  obtain ⟨S, e1, e2, e3⟩ := str_made4 h h12
  obtain ⟨R, r1, r2, r3⟩ := rest_made4 h h12 e2 e3
  have hb : blkF (nodesF (l.map x4)) (edI (edgesF (l.map x4))) 1 land402 = (partsF R, 0) := by
    unfold blkF
    rw [e1]
    simp only
    rw [if_neg (fun x => x rfl), r1]
    simp only
    rw [if_neg (fun x => x rfl)]
    unfold partsE
    rw [if_pos r2]
  rw [hb]
  refine ⟨rfl, ?_⟩
  obtain ⟨n, eN⟩ : ∃ n : Nat, n = 40401 := ⟨_, rfl⟩
  obtain ⟨m, eM⟩ : ∃ n : Nat, n = 40001 := ⟨_, rfl⟩
  obtain ⟨q, eQ⟩ : ∃ n : Nat, n = 40200 := ⟨_, rfl⟩
  have h1 := rest_parts r2 r3 eM eQ
  have h2 := net_euler h eN eM eQ
  show (((partsF R).length : Nat) : Int) = _
  rw [h1]
  exact h2
theorem lop_made4 {l : List Sg} (h : ∀ s ∈ l, near35 s) : lopN (l.map x4) = lopN l := lop_x4 (near_ok h) (x4_ok h)
end Go.Proofs.YtdolpeljengpaaaGreat
