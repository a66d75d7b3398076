/- Texts laid together: PartsM, PartsA, LawOP. Lemmas for the statements of this seat; no condition. -/
import Derived.Test.YtdfpbhlnlkjjlaaGreatPk14
import Derived.Maps.RangeWalk
import Derived.Maps.Ext
import Derived.Deep.QuietTactic
import Derived.BigQuiet
import Derived.StillTactics
import Derived.Deep.CutBlock

/- A map from indexes to rectangles: its words, and the laws at its operations; a component that grows. -/
namespace Go.Proofs.YtdfpbhlnlkjjlaaGreat
open Go.RowKit Go.Maps
set_option linter.unusedVariables false
set_option linter.unusedSimpArgs false
theorem lawI : Keyed Tryz.prog 3 := int_keyed Tryz.underlying3
def rectD (r : R4) : DataW Unit := .agg [.lit (.int .i64 r.x0), .lit (.int .i64 r.y0), .lit (.int .i64 r.x1), .lit (.int .i64 r.y1)]
def rectE (v : Value) : Option (DataW Unit × List MemPlace) :=
 match v with
 | .agg xs => match xs.toList with
  | [.int .i64 a, .int .i64 b, .int .i64 c, .int .i64 d] => some (rectD ⟨a, b, c, d⟩, [])
  | _ => none
 | _ => none
theorem rectE_mk4 (a b c d : Int) : rectE (.agg #[.int .i64 a, .int .i64 b, .int .i64 c, .int .i64 d]) = some (rectD ⟨a, b, c, d⟩, []) := rfl
theorem rectE_inv {v : Value} {y : DataW Unit × List MemPlace} (h : rectE v = some y) : ∃ r : R4, v = .agg #[.int .i64 r.x0, .int .i64 r.y0, .int .i64 r.x1, .int .i64 r.y1] ∧ y = (rectD r, []) := by
 unfold rectE at h
 split at h
 ·rename_i xs
  split at h
  ·rename_i a b c d e
   injection h with h
   refine ⟨⟨a, b, c, d⟩, ?_, h.symm⟩
   congr 1
   apply Array.toList_inj.1
   exact e
  ·cases h
 ·cases h
theorem rectD_inj {r s : R4} (h : rectD r = rectD s) : r = s := by
 unfold rectD at h
 simp only [DataW.agg.injEq, List.cons.injEq, DataW.lit.injEq, Lit.int.injEq, true_and, and_true] at h
 obtain ⟨h1, h2, h3, h4⟩ := h
 cases r; cases s
 simp_all
theorem zeroR (w : World) : (zeroValue 49).run Tryz.prog w = .ok (.agg #[.int .i64 0, .int .i64 0, .int .i64 0, .int .i64 0]) w := by kernel_rfl
abbrev ownsM (b n : Nat) (D : DataW Unit) (w : World) : Prop := w.ownsMap Tryz.prog 3 rectE b n D
def Mp (l : List R4) (S : Nat → Prop) (D : DataW Unit) : Prop :=
 (∀ kl, Maps.has D kl = true ↔ ∃ k, k < l.length ∧ S k ∧ kl = .int .i64 (k : Int)) ∧ ∀ (k : Nat) r, l[k]? = some r → S k → ∀ zd, D.atKey (.int .i64 (k : Int)) zd = rectD r
theorem key_ne {k j : Nat} (h : k ≠ j) : (Lit.int .i64 (k : Int)) ≠ .int .i64 (j : Int) := fun e => h (by injection e with _ e; omega)
theorem Mp.start (l : List R4) : Mp l (fun k => k < 0) (.map []) := by
 refine ⟨fun kl => ?_, fun k r _ h => absurd h (Nat.not_lt_zero _)⟩
 rw [has_eq]
 simp
theorem Mp.put {l : List R4} {D : DataW Unit} {m : Nat} {r : R4} (h : Mp l (fun k => k < m) D) (hD : IsMap D) (hr : l[m]? = some r) : Mp l (fun k => k < m + 1) (D.put (.int .i64 (m : Int)) (rectD r)) := by
 have hm := (List.getElem?_eq_some_iff.1 hr).1
 refine ⟨fun kl => ?_, fun k s hs hk zd => ?_⟩
 ·by_cases e : kl = .int .i64 (m : Int)
  ·subst e
   rw [has_put_same hD (show WideAt.IsKeyLit (.int .i64 (m : Int)) from trivial)]
   exact ⟨fun _ => ⟨m, hm, by omega, rfl⟩, fun _ => rfl⟩
  ·rw [has_put_other e, h.1]
   constructor
   ·rintro ⟨k, h1, h2, h3⟩
    exact ⟨k, h1, by omega, h3⟩
   ·rintro ⟨k, h1, h2, rfl⟩
    exact ⟨k, h1, by have : k ≠ m := fun e2 => e (by rw [e2]); omega, rfl⟩
 ·by_cases e : k = m
  ·subst e
   rw [hr] at hs
   injection hs with hs
   subst hs
   exact atKey_put_same hD (show WideAt.IsKeyLit (.int .i64 (k : Int)) from trivial) _ _
  ·rw [atKey_put_other (key_ne e)]
   exact h.2 k s hs (by omega) zd
theorem Mp.del {l : List R4} {S : Nat → Prop} {D : DataW Unit} {m : Nat} (h : Mp l S D) : Mp l (fun k => S k ∧ k ≠ m) (D.del (.int .i64 (m : Int))) := by
 refine ⟨fun kl => ?_, fun k s hs hk zd => ?_⟩
 ·by_cases e : kl = .int .i64 (m : Int)
  ·subst e
   rw [has_del_same]
   constructor
   ·intro h; cases h
   ·rintro ⟨k, h1, h2, h3⟩
    injection h3 with _ h3
    exact absurd (by omega) h2.2
  ·rw [has_del_other e, h.1]
   constructor
   ·rintro ⟨k, h1, h2, h3⟩
    exact ⟨k, h1, ⟨h2, fun e2 => e (by rw [h3, e2])⟩, h3⟩
   ·rintro ⟨k, h1, h2, h3⟩
    exact ⟨k, h1, h2.1, h3⟩
 ·rw [atKey_del_other (key_ne hk.2)]
  exact h.2 k s hs hk.1 zd
theorem Mp.iff {l : List R4} {S T : Nat → Prop} {D : DataW Unit} (h : Mp l S D) (e : ∀ k, k < l.length → (S k ↔ T k)) : Mp l T D := by
 refine ⟨fun kl => ?_, fun k r hr hk => h.2 k r hr ((e k (List.getElem?_eq_some_iff.1 hr).1).2 hk)⟩
 rw [h.1]
 constructor
 ·rintro ⟨k, h1, h2, h3⟩; exact ⟨k, h1, (e k h1).1 h2, h3⟩
 ·rintro ⟨k, h1, h2, h3⟩; exact ⟨k, h1, (e k h1).2 h2, h3⟩
theorem Mp.is {l : List R4} {S : Nat → Prop} {D : DataW Unit} (h : Mp l S D) {k : Nat} (hk : k < l.length) : Maps.has D (.int .i64 (k : Int)) = true ↔ S k := by
 rw [h.1]
 constructor
 ·rintro ⟨j, _, h2, h3⟩
  injection h3 with _ h3
  obtain rfl : k = j := by omega
  exact h2
 ·exact fun h => ⟨k, hk, h, rfl⟩
theorem own_map_apart {w : World} {B n bM k : Nat} {size : Nat} {e : TypeId} {v : Value} {xs : List Value} {D : DataW Unit} (h : w.ownsRow B e size v n xs) (hm : ownsM bM k D w) : v.ownBlock = none ∨ v.ownBlock ≠ some bM := by
 rcases h.2 with ⟨rfl, _⟩ | ⟨g, cap, cur, rfl, _, hg, _⟩
 ·exact .inl rfl
 ·right
  intro he
  obtain ⟨es, c, hb, _⟩ := hm
  have : g = bM := by simpa [Value.ownBlock] using he
  subst this
  rw [hg] at hb
  cases hb
section
variable {w : World} {ops : Array Oper} {rest : List Oper} {o : Oper} {a : Act} {Q : Exit → Act → World → Prop}
theorem wpList_look_rect (hg : o.guard = none) (m x : Operand) (hop : o.op = Op.lookup 76 m x true) (b n : Nat) (D : DataW Unit) (hm : a.eval m = .map (some b)) (hown : ownsM b n D w) (k : Int) (hx : a.eval x = .int .i64 k) (hk : -9223372036854775808 ≤ k ∧ k ≤ 9223372036854775807)
  (t : Bool) (ht : Maps.has D (.int .i64 k) = t) (hK : ∀ r : R4, wpList Tryz.prog ops Q rest (a.put o.dst (.tuple #[.agg #[.int .i64 r.x0, .int .i64 r.y0, .int .i64 r.x1, .int .i64 r.y1], .bool t])) w) : wpList Tryz.prog ops Q (o :: rest) a w :=
 wpList_lookup_own_ok w hg m x 76 hop 3 49 lawI Tryz.underlying76 rectE (zeroR w) (rectD ⟨0, 0, 0, 0⟩) [] rfl b n D hm hown (.int .i64 k) (.int .i64 k) hx (keyOf_int_mk Tryz.underlying3 (WalkArith.wf_i64 hk)) (fun v ps hv => by
  obtain ⟨r, rfl, _⟩ := rectE_inv hv
  rw [ht]
  exact hK r)
theorem wpList_next_rect (hg : o.guard = none) (it : Operand) (hop : o.op = Op.next it false) (b r n : Nat) (D : DataW Unit) (left : Lit → Bool) (cnt : Nat) (hit : a.eval it = .pointer (some ⟨r, 0, none⟩)) (h : w.ranges Tryz.prog 3 rectE b r n D left cnt) {l : List R4} {S : Nat → Prop} (hM : Mp l S D)
  (hDone : (∀ kl, left kl = false) → wpList Tryz.prog ops Q rest (a.put o.dst (.tuple #[.bool false])) w)
  (hMore : ∀ (k : Nat) (q0 q1 q2 q3 : Int) (w' : World) (cnt' : Nat), l[k]? = some ⟨q0, q1, q2, q3⟩ → S k → left (.int .i64 (k : Int)) = true → w'.ranges Tryz.prog 3 rectE b r n D (fun z => left z && !z.sameKey (.int .i64 (k : Int))) cnt' → cnt' < cnt →
   w.grownBy w' (some r) → w'.heap.size = w.heap.size → (Instr.entry (.pointer (some ⟨r, 0, none⟩))).run Tryz.prog w' = .ok (.tuple #[.int .i64 (k : Int), .agg #[.int .i64 q0, .int .i64 q1, .int .i64 q2, .int .i64 q3]]) w' → wpList Tryz.prog ops Q rest (a.put o.dst (.tuple #[.bool true, .int .i64 (k : Int), .agg #[.int .i64 q0, .int .i64 q1, .int .i64 q2, .int .i64 q3]])) w') :
  wpList Tryz.prog ops Q (o :: rest) a w :=
 wpList_next_ranges w hg it hop 3 lawI rectE (fun x : Int => .int .i64 x) (fun r : R4 => .agg #[.int .i64 r.x0, .int .i64 r.y0, .int .i64 r.x1, .int .i64 r.y1])
  (fun key kl hk => by obtain ⟨x, rfl, _⟩ := Maps.keyOf_int_inv Tryz.underlying3 hk; exact ⟨x, rfl⟩) (fun v y hv => by obtain ⟨r, rfl, _⟩ := rectE_inv hv; exact ⟨r, rfl⟩) b r n D left cnt hit h (fun _ hl => hDone hl)
  (fun x c kl y w' cnt' hkey hlk hv hat hrg hlt hgr hsz hen => by
   obtain ⟨x', e1, rfl, _⟩ := Maps.keyOf_int_inv Tryz.underlying3 hkey
   injection e1 with _ e1
   subst e1
   have hh := has_true_of_atKey (D := D) (k := .int .i64 x) hat
   obtain ⟨k, hk, hS, e2⟩ := (hM.1 _).1 hh
   injection e2 with _ e2
   subst e2
   obtain ⟨s, hs⟩ : ∃ s, l[k]? = some s := ⟨_, List.getElem?_eq_getElem hk⟩
   obtain ⟨r, e3, e4⟩ := rectE_inv hv
   have e5 := (hM.2 k s hs hS (rectD s)).symm.trans (hat (rectD s))
   rw [e4] at e5
   have e6 := rectD_inj e5
   subst e6
   obtain ⟨s0, s1, s2, s3⟩ := s
   obtain ⟨c0, c1, c2, c3⟩ := c
   simp only [Value.agg.injEq, Array.mk.injEq, List.cons.injEq, Value.int.injEq, true_and, and_true] at e3
   obtain ⟨rfl, rfl, rfl, rfl⟩ := e3
   exact hMore k _ _ _ _ w' cnt' hs hS hlk hrg hlt hgr hsz hen)
end
def Grow (l : List R4) (m : Nat) (P : List Nat) (kk : Nat) : Prop := (∀ p ∈ P, Conn l m p) ∧ m ∈ P ∧ ∀ i, i < kk → ∀ p, P[i]? = some p → ∀ n, adj l p n → n ∈ P
theorem Grow.start (l : List R4) (m : Nat) : Grow l m [m] 0 := ⟨fun p hp => by rw [List.mem_singleton] at hp; subst hp; exact .refl, List.mem_singleton.2 rfl, fun i h => absurd h (Nat.not_lt_zero _)⟩
theorem Grow.push {l : List R4} {m : Nat} {P : List Nat} {kk p n : Nat} (h : Grow l m P kk) (hkk : kk ≤ P.length) (hp : p ∈ P) (ha : adj l p n) : Grow l m (P ++ [n]) kk := by
 refine ⟨fun q hq => ?_, List.mem_append_left _ h.2.1, fun i hi q hq k hk => ?_⟩
 ·rcases List.mem_append.1 hq with hq | hq
  ·exact h.1 q hq
  ·rw [List.mem_singleton] at hq
   subst hq
   exact (h.1 p hp).step ha
 ·rw [List.getElem?_append_left (by omega)] at hq
  exact List.mem_append_left _ (h.2.2 i hi q hq k hk)
theorem Grow.next {l : List R4} {m : Nat} {P : List Nat} {kk p : Nat} (h : Grow l m P kk) (hp : P[kk]? = some p) (ha : ∀ n, adj l p n → n ∈ P) : Grow l m P (kk + 1) := by
 refine ⟨h.1, h.2.1, fun i hi q hq => ?_⟩
 by_cases e : i = kk
 ·subst e
  rw [hp] at hq
  injection hq with hq
  subst hq
  exact ha
 ·exact h.2.2 i (by omega) q hq
theorem Grow.all {l : List R4} {m : Nat} {P : List Nat} {kk : Nat} (h : Grow l m P kk) (hkk : P.length ≤ kk) {k : Nat} : k ∈ P ↔ Conn l m k := by
 refine ⟨h.1 k, fun c => ?_⟩
 induction c with
 | refl => exact h.2.1
 | step _ a ih =>
  obtain ⟨i, hi, e⟩ := List.getElem_of_mem ih
  exact h.2.2 i (by omega) _ (by rw [← e]; exact List.getElem?_eq_getElem hi) _ a
def left4 (l : List R4) (P : List Nat) : List R4 := P.filterMap fun k => l[k]?
theorem left4_snoc {l : List R4} {P : List Nat} {n : Nat} {r : R4} (h : l[n]? = some r) : left4 l (P ++ [n]) = left4 l P ++ [r] := by simp [left4, h]
theorem left4_at {l : List R4} {P : List Nat} (hP : ∀ p ∈ P, p < l.length) {i p : Nat} {r : R4} (hi : P[i]? = some p) (hr : l[p]? = some r) : (left4 l P)[i]? = some r := by
 unfold left4
 induction P generalizing i with
 | nil => simp at hi
 | cons q P ih =>
  have h1 := hP q (by simp)
  rw [List.filterMap_cons_some (List.getElem?_eq_getElem h1)]
  cases i with
  | zero =>
   have e : q = p := by simpa using hi
   subst e
   rw [List.getElem?_eq_getElem h1] at hr
   simpa using hr
  | succ i => exact ih (fun q hq => hP q (by simp [hq])) (by simpa using hi)
theorem left4_len {l : List R4} {P : List Nat} (hP : ∀ p ∈ P, p < l.length) : (left4 l P).length = P.length := by
 unfold left4
 induction P with
 | nil => rfl
 | cons p P ih =>
  have h1 := hP p (by simp)
  rw [List.filterMap_cons_some (List.getElem?_eq_getElem h1), List.length_cons, List.length_cons, ih (fun q hq => hP q (by simp [hq]))]
theorem grow_made {l : List R4} {m : Nat} {P : List Nat} {kk : Nat} (hc : RCan l) (hv : ∀ r ∈ l, wf4 r) (hl : l.length ≤ 400) (h : Grow l m P kk) (hkk : P.length ≤ kk) (hm : mn l m = m) : madeF (left4 l P) = (rjoin hFst (compL l m) [], 0) := by
 have hset : ∀ r, r ∈ left4 l P ↔ r ∈ compL l m := fun r => by
  rw [mem_compL]
  unfold left4
  rw [List.mem_filterMap]
  constructor
  ·rintro ⟨k, hk, hr⟩
   exact ⟨k, by rw [← mn_eq ((h.all hkk).1 hk), hm], hr⟩
  ·rintro ⟨k, hk, hr⟩
   exact ⟨k, (h.all hkk).2 (conn_of_mn (by rw [hm, hk])), hr⟩
 have hsub := compL_sub l m
 have e := rjoin_set (a := left4 l P) (b := compL l m) (fun r hr => hv r (hsub.subset ((hset r).1 hr))) (fun r hr => hv r (hsub.subset hr)) hset
 have hcnt := sub_count hc hv hsub
 have := hsub.length_le
 unfold madeF
 rw [e, if_neg (by omega)]
theorem grow_rest {l : List R4} {m : Nat} {P : List Nat} {kk : Nat} (h : Grow l m P kk) (hkk : P.length ≤ kk) (hm : mn l m = m) (k : Nat) : (m ≤ mn l k ∧ k ∉ P) ↔ m + 1 ≤ mn l k := by
 rw [h.all hkk]
 constructor
 ·rintro ⟨h1, h2⟩
  have : mn l k ≠ m := fun e => h2 (conn_of_mn (by rw [hm, e]))
  omega
 ·intro h1
  refine ⟨by omega, fun c => ?_⟩
  have := mn_eq c
  omega
theorem rest_skip {l : List R4} {m : Nat} (hm : mn l m ≠ m) (k : Nat) : m ≤ mn l k ↔ m + 1 ≤ mn l k := by
 constructor
 ·intro h
  have : mn l k ≠ m := fun e => hm (by rw [← e, mn_mn])
  omega
 ·intro h; omega
theorem below_grown {w w' : World} (h : Below w.heap.size w w') : w.grownBy w' none := ⟨h.os, h.tape, h.output, h.size, fun k hk _ => h.block k hk⟩
end Go.Proofs.YtdfpbhlnlkjjlaaGreat

/- region.Parts. -/
namespace Go.Proofs.YtdfpbhlnlkjjlaaGreat
open Go.RowKit Go.Maps
set_option linter.unusedVariables false
set_option linter.unusedSimpArgs false
theorem Regs.but {w a c : World} {vo : Value} {R : List (List R4)} {bM k : Nat} {D : DataW Unit} (h : Regs w vo R a) (hm : ownsM bM k D a) (hg : a.grownBy c (some bM)) (hb : w.heap.size ≤ bM) : Regs w vo R c := by
 obtain ⟨vs, h1, h2⟩ := h.o
 exact ⟨h.low.grown hg h.low.size (fun q hq => by cases hq; exact hb), vs, h1.kept hg (own_map_apart h1 hm), fun i r hr => by
  obtain ⟨v, h3, h4⟩ := h2 i r hr
  exact ⟨v, h3, h4.kept hg (own_map_apart h4 hm)⟩⟩
theorem own_ranges_apart {w : World} {B n bM rI k cnt : Nat} {size : Nat} {e : TypeId} {v : Value} {xs : List Value} {D : DataW Unit} {left : Lit → Bool} (h : w.ownsRow B e size v n xs) (hm : w.ranges Tryz.prog 3 rectE bM rI k D left cnt) : v.ownBlock = none ∨ v.ownBlock ≠ some rI := by
 rcases h.2 with ⟨rfl, _⟩ | ⟨g, cap, cur, rfl, _, hg, _⟩
 ·exact .inl rfl
 ·right
  intro he
  obtain ⟨es, c, s1, s2, s3, _, _, _, _, hb, _⟩ := hm
  have : g = rI := by simpa [Value.ownBlock] using he
  subst this
  rw [hg] at hb
  cases hb
theorem apart_ne {v : Value} {q : Nat} (h : v.ownBlock = none ∨ v.ownBlock ≠ some q) : some q ≠ v.ownBlock := by
 rcases h with h | h
 ·rw [h]; simp
 ·exact fun e => h e.symm
theorem box_cells {w : World} {B : Nat} (hB : w.heap.size = B) (a b c d : Value) (t : TypeId) : (w.alloc (.cells #[a, b, c, d] t)).cell? ⟨B, 0, none⟩ = some a ∧ (w.alloc (.cells #[a, b, c, d] t)).cell? ⟨B, 1, none⟩ = some b ∧ (w.alloc (.cells #[a, b, c, d] t)).cell? ⟨B, 2, none⟩ = some c ∧ (w.alloc (.cells #[a, b, c, d] t)).cell? ⟨B, 3, none⟩ = some d := by
 have h := news_new w [a, b, c, d] t B hB
 have h0 := h 0 a rfl
 have h1 := h 1 b rfl
 have h2 := h 2 c rfl
 have h3 := h 3 d rfl
 simp only [addr_add] at h0 h1 h2 h3
 exact ⟨h0, h1, h2, h3⟩
structure PS (l : List R4) (W : World) (bM m : Nat) (P : List Nat) (kk : Nat) (v : Value) (D : DataW Unit) (wi : World) : Prop where
 grow : Grow l m P kk
 mp : Mp l (fun k => m ≤ mn l k ∧ k ∉ P) D
 size : P.length + Maps.size D ≤ l.length
 row : wi.ownsRow W.heap.size 49 4 v P.length ((left4 l P).flatMap encR)
 same : W.grownBy wi (some bM)
theorem PS.lt {l : List R4} {W wi : World} {bM m kk : Nat} {P : List Nat} {v : Value} {D : DataW Unit} (h : PS l W bM m P kk v D wi) (hm : m < l.length) : ∀ p ∈ P, p < l.length := fun p hp => (h.grow.1 p hp).lt hm
def Off (l : List R4) (p : Nat) (D : DataW Unit) (left : Lit → Bool) : Prop := ∀ n, n < l.length → Maps.has D (.int .i64 (n : Int)) = true → left (.int .i64 (n : Int)) = false → ¬ adj l p n
theorem Off.start (l : List R4) (p : Nat) (D : DataW Unit) : Off l p D (Maps.has D) := fun n _ h1 h2 => by rw [h1] at h2; cases h2
theorem same_false {k n : Nat} (h : k ≠ n) : (Lit.int .i64 (n : Int)).sameKey (.int .i64 (k : Int)) = false := sameKey_ne (key_ne (Ne.symm h))
theorem Off.stay {l : List R4} {p k : Nat} {D : DataW Unit} {left : Lit → Bool} (h : Off l p D left) (hn : ¬ adj l p k) : Off l p D (fun z => left z && !z.sameKey (.int .i64 (k : Int))) := fun n hn1 h1 h2 => by
 by_cases e : k = n
 ·subst e; exact hn
 ·refine h n hn1 h1 ?_
  simpa [same_false e] using h2
theorem Off.strike {l : List R4} {p k : Nat} {D : DataW Unit} {left : Lit → Bool} (h : Off l p D left) : Off l p (D.del (.int .i64 (k : Int))) (fun z => left z && !z.sameKey (.int .i64 (k : Int))) := fun n hn1 h1 h2 => by
 by_cases e : k = n
 ·subst e; rw [has_del_same] at h1; cases h1
 ·rw [has_del_other (key_ne (Ne.symm e))] at h1
  refine h n hn1 h1 ?_
  simpa [same_false e] using h2
theorem Off.done {l : List R4} {W wi : World} {bM m kk : Nat} {P : List Nat} {v : Value} {D : DataW Unit} {p : Nat} {left : Lit → Bool} (h : PS l W bM m P kk v D wi) (hm : mn l m = m) (hp : P[kk]? = some p) (ho : Off l p D left) (hl : ∀ kl, left kl = false) : PS l W bM m P (kk + 1) v D wi := by
 refine ⟨h.grow.next hp fun n ha => ?_, h.mp, h.size, h.row, h.same⟩
 by_cases hn : n ∈ P
 ·exact hn
 ·obtain ⟨_, y, _, hy, _⟩ := id ha
  have hlt := (List.getElem?_eq_some_iff.1 hy).1
  have hc := (h.grow.1 p (List.mem_of_getElem? hp)).step ha
  have hmn := mn_eq hc
  exact absurd ha (ho n hlt ((h.mp.is hlt).2 ⟨by omega, hn⟩) (hl _))
set_option maxRecDepth 100000 in
set_option maxHeartbeats 4000000 in
theorem parts_any {w : World} {v : Value} {l : List R4} (hr : RdK encR 4 w w.heap.size v l) (hl : l.length ≤ 100000000) :
  Calls Tryz.prog 13 #[v] w fun e w' => RegsRet w.heap.size (partsE l) e w' ∧ Below w.heap.size w w' := by
 obtain ⟨i2, fi, fz0, fz1, fz2⟩ := info_parts infoRg
 obtain ⟨i3, ki, kz0, kz1, kz2⟩ := info_parts infoRc
 have hck := check_any hr hl
 have hmm := @run_makeMap Tryz.prog
 have hR := hide hr
 obtain ⟨A0, c0, hv, hc⟩ := id hr
 subst hv
 have HCK := hide hck
 have HRC := hide hc
 clear hck hr hc
 by_cases h0 : checkF l = 0
 ·obtain ⟨k1, k2, _⟩ := checkF_ok h0
  have HF : Hid (partsE l = (partsF l, 0)) := hide (if_pos h0)
  have HCAN := hide (check_rcan h0)
  have HV := hide k2
  rw [h0] at HCK
  clear k2 h0
  go_enter Tryz.func13, Tryz.ntmps13
  go_wp2_with (go_at_call 33; refine HCK.out.mono ?_; rintro e w1 ⟨rfl, hb1⟩)
  obtain ⟨bM, hbM⟩ : ∃ bM, bM = w1.heap.size := ⟨_, rfl⟩
  have hbw : w.heap.size ≤ bM := by rw [hbM]; exact hb1.size
  have hM0 : ownsM bM 0 (.map []) (w1.alloc (.map #[] 0)) := by rw [hbM]; exact World.ownsMap_made _ _ _ _
  have hB0 : Below w.heap.size w (w1.alloc (.map #[] 0)) := hb1.alloc hb1.size _
  rw [← hbM]
  have HM0 := hide hM0
  have HB0 := hide hB0
  have HP0 := hide (Mp.start l)
  clear hbM hb1 hM0 hB0 hmm
  go_loopw [27] (fun i wr => ∃ m : Nat, m ≤ l.length ∧ i = .int .i64 m ∧ ∃ D, Hid (ownsM bM m D wr) ∧ Hid (Mp l (fun k => k < m) D) ∧ Hid (Below w.heap.size w wr)) (fun i _ => l.length - (intOf i).toNat)
  case atStart => exact ⟨0, Nat.zero_le _, rfl, _, HM0, HP0, HB0⟩
  case round =>
   clear HM0 HP0 HB0
   obtain ⟨m, hm, rfl, D, HM, HP, HB⟩ := hrel
   by_cases hlt : m < l.length
   ·have mz : (m : Int) < (l.length : Int) := by omega
    obtain ⟨⟨p0, p1, p2, p3⟩, hp⟩ : ∃ p, l[m]? = some p := ⟨_, List.getElem?_eq_getElem hlt⟩
    obtain ⟨b, o, rfl, hbl, k⟩ := HRC.out (by intro e; rw [e] at hlt; simp at hlt)
    obtain ⟨d0, d1, d2, d3⟩ := rects_at k (fun q => HB.out.cell (p := ⟨b, q, none⟩) hbl) hp
    have hsz := HB.out.size
    have hbw2 : b < wr.heap.size := by omega
    have HPP := hide hp
    clear k hp
    go_wp2_with (at_mapUpdate; go_loud (refine wpList_mapUpdate_own _ rfl _ _ _ 76 rfl 3 49 lawI Tryz.underlying76 rectE bM m D rfl (World.ownsMap.alloc HM.out _) (by unfold maxLen; omega) _ _ _ rfl rfl (keyOf_int_mk Tryz.underlying3 (WalkArith.wf_i64 (by omega))) _ [] (rectE_mk4 p0 p1 p2 p3) ?_))
    intro w2 hown2 hgrow2
    have HM2 := hide hown2
    have HP2 := hide (HP.out.put HM.out.isMap HPP.out)
    have HB2 := hide ((HB.out.alloc hsz _).grown hgrow2 (by simp; omega) (fun q hq => by cases hq; exact hbw))
    clear hown2 hgrow2
    go_wp2
    go_roundw
    case rel => exact ⟨m + 1, by omega, by go_num, _, HM2, HP2, HB2⟩
    case measure => simp [intOf]; omega
   ·have mz : ¬ (m : Int) < (l.length : Int) := by omega
    obtain rfl : m = l.length := by omega
    have HP0 := hide (show Mp l (fun k => 0 ≤ mn l k) D from HP.out.iff fun k hk => ⟨fun _ => Nat.zero_le _, fun _ => hk⟩)
    have HM0 := HM
    have HB0 := HB
    clear HP HM HB mz
    go_wp2
    go_loopw [8, 38] (fun v i wr => ∃ m : Nat, m ≤ l.length ∧ i = .int .i64 m ∧ ∃ Ao no co, v = .slice Ao no co ∧ Hid (no = (partsP l m).length) ∧ Hid (Regs w (.slice Ao no co) (partsP l m) wr) ∧ ∃ D, Hid (ownsM bM l.length D wr) ∧ Hid (Mp l (fun k => m ≤ mn l k) D)) (fun _ i _ => l.length - (intOf i).toNat)
    case atStart => exact ⟨0, Nat.zero_le _, rfl, none, 0, 0, rfl, hide rfl, hide ⟨HB0.out, [], World.ownsRow_nil _ _ _ _, fun i r h => by simp [partsP] at h⟩, D, HM0, HP0⟩
    case round =>
     clear HP0 HM0 HB0
     obtain ⟨m, hm, rfl, Ao, no, co, rfl, HN, HRG, D, HM, HP⟩ := hrel
     by_cases hlt : m < l.length
     ·have mz : (m : Int) < (l.length : Int) := by omega
      obtain ⟨⟨p0, p1, p2, p3⟩, hp⟩ : ∃ p, l[m]? = some p := ⟨_, List.getElem?_eq_getElem hlt⟩
      obtain ⟨b, o, rfl, hbl, k⟩ := HRC.out (by intro e; rw [e] at hlt; simp at hlt)
      obtain ⟨d0, d1, d2, d3⟩ := rects_at k (fun q => HRG.out.low.cell (p := ⟨b, q, none⟩) hbl) hp
      have hsz := HRG.out.low.size
      have hbw2 : b < wr.heap.size := by omega
      have HPP := hide hp
      clear k hp
      by_cases hmn : mn l m = m
      ·have HAS := hide (show Maps.has D (.int .i64 (m : Int)) = true from (HP.out.is hlt).2 (by omega))
       have HMN := hide hmn
       clear hmn
       go_wp2_with (first
        | (at_lookup; go_loud (refine wpList_look_rect rfl _ _ rfl bM l.length D rfl (World.ownsMap.alloc HM.out _) (m : Int) rfl (by omega) true HAS.out ?_); intro rr; obtain ⟨rr0, rr1, rr2, rr3⟩ := rr)
        | (at_delete; go_loud (refine wpList_delete_own _ rfl _ _ 76 3 rfl 49 lawI Tryz.underlying76 rectE bM l.length D rfl (World.ownsMap.alloc (World.ownsMap.alloc HM.out _) _) _ _ rfl (keyOf_int_mk Tryz.underlying3 (WalkArith.wf_i64 (by omega))) ?_)))
       intro w4 hown4 hturn4
       have HM4 := hide hown4
       have hmlt := HM.out.lt
       obtain ⟨xb0, xb1, xb2, xb3⟩ := box_cells (w := wr) rfl (.int .i64 p0) (.int .i64 p1) (.int .i64 p2) (.int .i64 p3) 49
       have hxk : ∀ q, w4.cell? ⟨wr.heap.size, q, none⟩ = (wr.alloc (.cells #[.int .i64 p0, .int .i64 p1, .int .i64 p2, .int .i64 p3] 49)).cell? ⟨wr.heap.size, q, none⟩ := fun q =>
        (World.cell?_of_block (hturn4.grown.block wr.heap.size (by simp; omega) (by simp; omega))).trans (World.cell?_alloc_lt (wr.alloc _) _ ⟨wr.heap.size, q, none⟩ (by simp))
       have x0 := (hxk 0).trans xb0
       have x1 := (hxk 1).trans xb1
       have x2 := (hxk 2).trans xb2
       have x3 := (hxk 3).trans xb3
       have hs4 : wr.heap.size + 2 ≤ w4.heap.size := by have := hturn4.grown.size; simp at this; omega
       have HRG4 := hide (((HRG.out.below (((Below.refl _ _).alloc (Nat.le_refl _) _).alloc (by simp) _)).but (World.ownsMap.alloc (World.ownsMap.alloc HM.out _) _) hturn4.grown hbw))
       have hrow : (w4.alloc (.cells #[.int .i64 p0, .int .i64 p1, .int .i64 p2, .int .i64 p3] 49)).ownsRow w4.heap.size 49 4 (.slice (some ⟨w4.heap.size, 0, none⟩) 1 1) 1 (encR ⟨p0, p1, p2, p3⟩) :=
        ⟨rfl, .inr ⟨w4.heap.size, 1, _, rfl, Nat.le_refl _, World.alloc_heap_new _ _, Nat.le_refl _, by simp [maxLen], rfl, rfl⟩⟩
       have hl4 : left4 l [m] = [⟨p0, p1, p2, p3⟩] := by simp [left4, HPP.out]
       have HPS := hide (show PS l w4 bM m [m] 0 (.slice (some ⟨w4.heap.size, 0, none⟩) 1 1) (D.del (.int .i64 (m : Int))) (w4.alloc (.cells #[.int .i64 p0, .int .i64 p1, .int .i64 p2, .int .i64 p3] 49)) from by
        refine ⟨Grow.start l m, HP.out.del.iff (fun k _ => by simp), ?_, ?_, (World.grownBy_alloc _ _ _)⟩
        ·have h1 := size_del (k := .int .i64 (m : Int)) (HM.out.tidy lawI)
         rw [if_pos HAS.out] at h1
         have h2 := HM.out.size_le
         simp only [List.length_singleton]
         omega
        ·rw [hl4]
         simpa using hrow)
       have HM5 := hide (World.ownsMap.alloc HM4.out (.cells #[.int .i64 p0, .int .i64 p1, .int .i64 p2, .int .i64 p3] 49))
       have hbM4 : bM < w4.heap.size := HM4.out.lt
       clear hown4 hturn4 xb0 xb1 xb2 xb3 hxk hrow hl4 hmlt HM HP HAS HRG d0 d1 d2 d3
       go_wp2
       go_loopw [13, 14] (fun v q wi => ∃ (kk : Nat) (P : List Nat), kk ≤ P.length ∧ q = .int .i64 kk ∧ ∃ Ap cp, v = .slice Ap P.length cp ∧ ∃ D, Hid (ownsM bM l.length D wi) ∧ Hid (PS l w4 bM m P kk (.slice Ap P.length cp) D wi)) (fun _ q _ => l.length - (intOf q).toNat)
       case atStart => exact ⟨0, [m], by simp, rfl, _, _, rfl, _, HM5, HPS⟩
       case round =>
        clear HM5 HPS x0 x1 x2 x3
        obtain ⟨kk, P, hkP, rfl, Ap, cp, rfl, D, HM, HPS⟩ := hrel
        by_cases hkk : kk < P.length
        ·have kz : (kk : Int) < (P.length : Int) := by omega
         obtain ⟨p, hp⟩ : ∃ p, P[kk]? = some p := ⟨_, List.getElem?_eq_getElem hkk⟩
         have hpl := HPS.out.lt hlt p (List.mem_of_getElem? hp)
         have hkl : kk < l.length := by have := HPS.out.size; omega
         obtain ⟨⟨a0, a1, a2, a3⟩, ha⟩ : ∃ r, l[p]? = some r := ⟨_, List.getElem?_eq_getElem hpl⟩
         have HPK := hide hp
         have HPA := hide ha
         obtain ⟨rI, hrI⟩ : ∃ rI, rI = wr.heap.size := ⟨_, rfl⟩
         have hrI4 : w4.heap.size ≤ rI := by rw [hrI]; exact HPS.out.same.size
         clear hp ha
         go_wp2_with (at_range; go_loud (refine wpList_range_own _ rfl _ 76 rfl 3 49 lawI Tryz.underlying76 rectE bM l.length D rfl HM.out ?_); intro w0 hrg0 hg0 hs0)
         rw [← hrI] at hrg0 ⊢
         have HRR := hide hrg0
         have HPS0 := hide (show PS l w4 bM m P kk (.slice Ap P.length cp) D w0 from ⟨HPS.out.grow, HPS.out.mp, HPS.out.size, HPS.out.row.kept hg0 (Classical.em _), HPS.out.same.andThen hg0 (fun q hq => by cases hq)⟩)
         have HOF := hide (Off.start l p D)
         clear hrg0 hg0 hs0 hrI
         go_frame
         go_loopw [13] (fun v wi => ∃ P, Hid (P[kk]? = some p) ∧ kk < P.length ∧ ∃ Ap cp, v = .slice Ap P.length cp ∧ ∃ D left cnt, Hid (wi.ranges Tryz.prog 3 rectE bM rI l.length D left cnt) ∧ Hid (PS l w4 bM m P kk (.slice Ap P.length cp) D wi) ∧ Hid (Off l p D left)) (fun _ wi => wi.rangeLeft bM rI)
         case atStart => exact ⟨P, HPK, hkk, Ap, cp, rfl, D, _, _, HRR, HPS0, HOF⟩
         case round =>
          clear HRR HPS0 HOF HPS HM HPK kz
          obtain ⟨P, HPK, hkk, Ap, cp, rfl, D, left, cnt, HRR, HPS, HOF⟩ := hrel
          have kz : (kk : Int) < (P.length : Int) := by omega
          go_wp2_with (at_next; go_loud (refine wpList_next_rect rfl _ rfl bM rI l.length D left cnt rfl HRR.out HPS.out.mp ?_ ?_))
          ·intro hl0
           have HPS9 := hide (HOF.out.done HPS.out HMN.out HPK.out hl0)
           have HM9 := hide HRR.out.owns
           clear hl0
           go_wp2
           go_roundw
           case rel => exact ⟨kk + 1, P, by omega, by go_num, Ap, cp, rfl, D, HM9, HPS9⟩
           case measure => simp [intOf]; omega
          ·intro k q0 q1 q2 q3 w5 cnt5 hk hS1 hS2 hlk hrg5 hlt5 hg5 hs5 hen
           have HK := hide hk
           have HKS := hide (show m ≤ mn l k ∧ k ∉ P from ⟨hS1, hS2⟩)
           have hkl : k < l.length := (List.getElem?_eq_some_iff.1 hk).1
           have HKH := hide ((HPS.out.mp.is hkl).2 ⟨hS1, hS2⟩)
           have hap := own_ranges_apart HPS.out.row HRR.out
           have HPS5 := hide (show PS l w4 bM m P kk (.slice Ap P.length cp) D w5 from ⟨HPS.out.grow, HPS.out.mp, HPS.out.size, HPS.out.row.kept hg5 hap, HPS.out.same.andThen hg5 (fun q hq => by cases hq; exact .inl hrI4)⟩)
           have hpls := HPS5.out.lt hlt
           obtain ⟨g, cpg, hvg, hBg, hgg⟩ := HPS5.out.row.form (by omega)
           injection hvg with e1 _ e3
           subst e1; subst e3
           have hat := left4_at hpls HPK.out HPA.out
           have hgw : g < w5.heap.size := (HPS5.out.row.lt g rfl).2
           have hc5 : ∀ i u, (encR ⟨a0, a1, a2, a3⟩)[i]? = some u → w5.cell? ⟨g, kk * 4 + i, none⟩ = some u := fun i u hu => by
            have := (HPS5.out.row.cells (g := g) rfl) _ _ (flat_get (k := 4) (fun _ => rfl) _ kk _ i u hat hu)
            rwa [addr_add] at this
           have HC5 := hide hc5
           have HRG5 := hide hrg5
           have HLT5 := hide hlt5
           have HG5 := hide hg5
           have hva := HV.out _ (List.mem_of_getElem? HPA.out)
           have hvk := HV.out _ (List.mem_of_getElem? hk)
           have hbs := fun W => beside_any ⟨a0, a1, a2, a3⟩ ⟨q0, q1, q2, q3⟩ (valid_mid hva) (valid_mid hvk) W
           simp only [encR] at hbs
           have HADJ : Hid (bsd ⟨a0, a1, a2, a3⟩ ⟨q0, q1, q2, q3⟩ = true ↔ adj l p k) := hide (by
            constructor
            ·exact fun h => ⟨_, _, HPA.out, hk, h⟩
            ·rintro ⟨u, v, h1, h2, h3⟩
             rw [HPA.out] at h1; rw [hk] at h2
             injection h1 with h1; injection h2 with h2
             subst h1; subst h2
             exact h3)
           have hkz : (0 : Int) ≤ (kk : Int) := by omega
           have hk400 : k ≤ 400 := by omega
           clear hk hS1 hS2 hlk hrg5 hlt5 hg5 hs5 hap hpls hat hc5 hva hvk
           go_wp2
           refine wp_name fun w6 hw6 => ?_
           have hsz6 : w5.heap.size < w6.heap.size := by rw [hw6]; simp
           obtain ⟨b0, b1, b2, b3⟩ := box_cells (w := w5) rfl (.int .i64 q0) (.int .i64 q1) (.int .i64 q2) (.int .i64 q3) 49
           rw [← hw6] at b0 b1 b2 b3
           have c6 : ∀ i u, (encR ⟨a0, a1, a2, a3⟩)[i]? = some u → w6.cell? ⟨g, kk * 4 + i, none⟩ = some u := fun i u hu => by rw [hw6]; exact (World.cell?_alloc_lt w5 _ ⟨g, kk * 4 + i, none⟩ hgw).trans (HC5.out i u hu)
           have c0 : w6.cell? ⟨g, kk * 4, none⟩ = some (.int .i64 a0) := c6 0 _ rfl
           have c1 : w6.cell? ⟨g, kk * 4 + 1, none⟩ = some (.int .i64 a1) := c6 1 _ rfl
           have c2 : w6.cell? ⟨g, kk * 4 + 2, none⟩ = some (.int .i64 a2) := c6 2 _ rfl
           have c3 : w6.cell? ⟨g, kk * 4 + 3, none⟩ = some (.int .i64 a3) := c6 3 _ rfl
           have HRG6 := hide (show w6.ranges Tryz.prog 3 rectE bM rI l.length D (fun z => left z && !z.sameKey (.int .i64 (k : Int))) cnt5 by rw [hw6]; exact HRG5.out.alloc _)
           have HPS6 := hide (show PS l w4 bM m P kk (.slice (some ⟨g, 0, none⟩) P.length cp) D w6 by rw [hw6]; exact ⟨HPS5.out.grow, HPS5.out.mp, HPS5.out.size, World.ownsRow.alloc HPS5.out.row _, HPS5.out.same.andThen (World.grownBy_alloc _ _ none) (fun q hq => by cases hq)⟩)
           have hg6 : g < w6.heap.size := by omega
           clear hw6 c6
           cases hbd : bsd ⟨a0, a1, a2, a3⟩ ⟨q0, q1, q2, q3⟩ with
           | true =>
            rw [hbd] at hbs
            have HBS := hide hbs
            have HA := hide (HADJ.out.1 hbd)
            clear hbs hbd
            refine wp_hab fun hab => ?_
            refine wp_region_above (by kernel_rfl) (by kernel_rfl) ?_
            repeat (go_big_quiet_step ((go_at_call 42; exact above_of (HBS.out _))))
            refine wpQuiet_nil ?_
            refine above_ends fun w7 hb7 => ?_
            clear hab c0 c1 c2 c3
            have j0 := (hb7.cell (p := ⟨w5.heap.size, 0, none⟩) hsz6).trans b0
            have j1 := (hb7.cell (p := ⟨w5.heap.size, 1, none⟩) hsz6).trans b1
            have j2 := (hb7.cell (p := ⟨w5.heap.size, 2, none⟩) hsz6).trans b2
            have j3 := (hb7.cell (p := ⟨w5.heap.size, 3, none⟩) hsz6).trans b3
            have HRG7 := hide (HRG6.out.kept (below_grown hb7) (by simp) (by simp))
            have HPS7 := hide (show PS l w4 bM m P kk (.slice (some ⟨g, 0, none⟩) P.length cp) D w7 from ⟨HPS6.out.grow, HPS6.out.mp, HPS6.out.size, own_below HPS6.out.row hb7, HPS6.out.same.andThen (below_grown hb7) (fun q hq => by cases hq)⟩)
            have hs7 := hb7.size
            have hP4 : P.length ≤ 400 := by have := HPS7.out.size; omega
            have h47 := HPS7.out.same.size
            have HLL := hide (left4_snoc (P := P) HK.out)
            clear b0 b1 b2 b3 hb7
            go_wp2_with (first
             | (at_builtin; go_loud (refine wpList_append_lies _ rfl (.tmp 74) (.tmp 76) 22 rfl w4.heap.size 49 i3 (.agg #[.int .i64 0, .int .i64 0, .int .i64 0, .int .i64 0]) 4 32 Tryz.underlying22 ki kz0 kz1 kz2 rfl (by decide) _ P.length _ rfl (World.ownsRow.alloc HPS7.out.row _) ⟨w7.heap.size, 0, none⟩ 1 1 [.int .i64 q0, .int .i64 q1, .int .i64 q2, .int .i64 q3] rfl rfl (news_new w7 _ _ _ rfl) (ints_one rfl) (by omega) (by unfold maxLen; omega) (by omega) (by simp; omega) _ rfl ?_))
             | (at_delete; go_loud (refine wpList_delete_ranges _ rfl _ _ 76 3 rfl 49 lawI Tryz.underlying76 rectE bM rI l.length D _ _ rfl HRG9.out _ _ rfl (keyOf_int_mk Tryz.underlying3 (WalkArith.wf_i64 (by omega))) ?_)))
            intro g9 cap9 w9 hown9 hgrow9 _ _
            have hx9 : (left4 l P).flatMap encR ++ [.int .i64 q0, .int .i64 q1, .int .i64 q2, .int .i64 q3] = (left4 l (P ++ [k])).flatMap encR := by rw [HLL.out, List.flatMap_append]; rfl
            rw [hx9] at hown9
            have HO9 := hide hown9
            have HRG9 := hide ((HRG7.out.alloc (.cells #[.int .i64 q0, .int .i64 q1, .int .i64 q2, .int .i64 q3] 49)).kept hgrow9 (apart_ne (own_map_apart HPS7.out.row HRG7.out.owns)) (apart_ne (own_ranges_apart HPS7.out.row HRG7.out)))
            have HSM9 := hide ((HPS7.out.same.andThen (World.grownBy_alloc _ (.cells #[.int .i64 q0, .int .i64 q1, .int .i64 q2, .int .i64 q3] 49) none) (fun q hq => by cases hq)).andThen hgrow9 (fun q hq => .inl (HPS7.out.row.lt q hq).1))
            clear hown9 hgrow9 hx9 j0 j1 j2 j3
            go_wp2_with (at_delete; go_loud (refine wpList_delete_ranges _ rfl _ _ 76 3 rfl 49 lawI Tryz.underlying76 rectE bM rI l.length D _ _ rfl HRG9.out _ _ rfl (keyOf_int_mk Tryz.underlying3 (WalkArith.wf_i64 (by omega))) ?_))
            intro w10 cnt10 hrg10 hle10 hturn10
            have HRG10 := hide hrg10
            have HPS10 := hide (show PS l w4 bM m (P ++ [k]) kk (.slice (some ⟨g9, 0, none⟩) (P.length + 1) cap9) (D.del (.int .i64 (k : Int))) w10 from by
             refine ⟨HPS7.out.grow.push (Nat.le_of_lt hkk) (List.mem_of_getElem? HPK.out) HA.out, HPS7.out.mp.del.iff (fun n _ => by simp only [List.mem_append, List.mem_singleton, not_or, and_assoc]), ?_, ?_, HSM9.out.andThen hturn10.grown (fun q hq => .inr hq)⟩
             ·have h1 := size_del (k := .int .i64 (k : Int)) (HRG7.out.owns.tidy lawI)
              rw [if_pos HKH.out] at h1
              have h2 := HPS7.out.size
              simp only [List.length_append, List.length_singleton]
              omega
             ·rw [List.length_append]
              exact HO9.out.kept hturn10.grown (own_map_apart HO9.out HRG9.out.owns))
            have HOF10 := hide (HOF.out.strike (k := k))
            have HPK10 := hide (show (P ++ [k])[kk]? = some p by rw [List.getElem?_append_left hkk]; exact HPK.out)
            have hle := Nat.lt_of_le_of_lt hle10 HLT5.out
            have HLE := hide hle
            have e10 : P.length + 1 = (P ++ [k]).length := by simp
            have HE10 := hide e10
            clear hrg10 hle10 hturn10 hle e10
            go_wp2
            go_roundw
            case rel => exact ⟨P ++ [k], HPK10, by rw [← HE10.out]; omega, _, cap9, by rw [← HE10.out], _, _, cnt10, HRG10, by rw [← HE10.out]; exact HPS10, HOF10⟩
            case measure => rw [HRG10.out.left_eq, HRR.out.left_eq]; exact HLE.out
           | false =>
            rw [hbd] at hbs
            have HBS := hide hbs
            have HA := hide (fun h => Bool.false_ne_true (hbd.symm.trans (HADJ.out.2 h)))
            clear hbs hbd
            refine wp_hab fun hab => ?_
            refine wp_region_above (by kernel_rfl) (by kernel_rfl) ?_
            repeat (go_big_quiet_step ((go_at_call 42; exact above_of (HBS.out _))))
            refine wpQuiet_nil ?_
            refine above_ends fun w7 hb7 => ?_
            clear hab c0 c1 c2 c3 b0 b1 b2 b3
            have HRG7 := hide (HRG6.out.kept (below_grown hb7) (by simp) (by simp))
            have HPS7 := hide (show PS l w4 bM m P kk (.slice (some ⟨g, 0, none⟩) P.length cp) D w7 from ⟨HPS6.out.grow, HPS6.out.mp, HPS6.out.size, own_below HPS6.out.row hb7, HPS6.out.same.andThen (below_grown hb7) (fun q hq => by cases hq)⟩)
            have HOF7 := hide (HOF.out.stay HA.out)
            clear hb7
            go_wp2
            go_roundw
            case rel => exact ⟨P, HPK, hkk, _, cp, rfl, D, _, cnt5, HRG7, HPS7, HOF7⟩
            case measure => rw [HRG7.out.left_eq, HRR.out.left_eq]; exact HLT5.out
        ·have kz : ¬ (kk : Int) < (P.length : Int) := by omega
         have hpls := HPS.out.lt hlt
         have hlen := left4_len hpls
         have hP4 : P.length ≤ 400 := by have := HPS.out.size; omega
         have hvl : ∀ r ∈ left4 l P, valid4 r := fun r hr => by
          obtain ⟨i, _, hr⟩ := List.mem_filterMap.1 hr
          exact HV.out r (List.mem_of_getElem? hr)
         have hmd := made_any (w := wr) (own_rd (own_n HPS.out.row hlen.symm) (fun _ => rfl)) (by omega) hvl
         rw [grow_made HCAN.out (fun r hr => by have := HV.out r hr; exact ⟨this.1, this.2.1⟩) k1 HPS.out.grow (by omega) HMN.out] at hmd
         have HMD := hide hmd
         have HPI := hide (partsP_in HMN.out)
         have hJL := Nat.le_trans (sub_count HCAN.out (fun r hr => by have := HV.out r hr; exact ⟨this.1, this.2.1⟩) (compL_sub l m)) (compL_sub l m).length_le
         have HREST := hide (HPS.out.mp.iff fun k _ => grow_rest HPS.out.grow (by omega) HMN.out k)
         have HRGi := hide (HRG4.out.but HM4.out HPS.out.same hbw)
         generalize rjoin hFst (compL l m) [] = J at *
         clear hmd hvl hpls hlen
         obtain ⟨low, vs, g1, g2⟩ := HRGi.out
         have HLOW := hide low
         have HG1 := hide g1
         have HG2 := hide g2
         have hno : no ≤ 400 := by have := HN.out; have := partsP_len l m; omega
         have hlow := low.size
         clear low g1 g2
         go_wp2_with (first
          | (go_at_call 43; refine HMD.out.mono ?_; rintro e w5 ⟨⟨Aj, cj, rfl, ho⟩, hb5⟩; have HJ := hide (own_base ho hlow); have HB5 := hide hb5; clear ho hb5; have hs5 := HB5.out.size)
          | (at_builtin; go_loud (refine wpList_append_lies _ rfl (.tmp 85) (.tmp 87) 31 rfl w.heap.size 34 i2 (.slice none 0 0) 1 24 Tryz.underlying31 fi fz0 fz1 fz2 rfl (by decide) _ no _ rfl (World.ownsRow.alloc (own_below (own_n HG1.out HN.out.symm) HB5.out) _) ⟨w5.heap.size, 0, none⟩ 1 1 [.slice Aj J.length cj] rfl rfl (news_new w5 _ _ _ rfl) (by intro u hu; rw [List.mem_singleton] at hu; subst hu; rfl) (by omega) (by unfold maxLen; omega) (by omega) (by simp; omega) _ rfl ?_)))
         intro g9 cap9 w9 hown9 hgrow9 _ _
         have hpush := Regs.push (w := w) ((HLOW.out.trans (HB5.out.mono hlow)).alloc (Nat.le_trans hlow hs5) _) (World.ownsRow.alloc (own_below HG1.out HB5.out) _) (fun i r hi => by
          obtain ⟨v, q1, q2⟩ := HG2.out i r hi
          exact ⟨v, q1, World.ownsRow.alloc (own_below q2 HB5.out) _⟩) (World.ownsRow.alloc HJ.out _) hgrow9 (by rw [← HN.out]; exact hown9)
         rw [← HPI.out] at hpush
         have HRG9 := hide hpush
         have HN9 := hide (show no + 1 = (partsP l (m + 1)).length by rw [HPI.out, List.length_append, ← HN.out]; rfl)
         have hM5 := HM.out.kept (below_grown HB5.out) (by simp)
         have HM9 := hide ((World.ownsMap.alloc hM5 (.cells #[.slice Aj J.length cj] 34)).kept hgrow9 (apart_ne (own_map_apart (own_below HG1.out HB5.out) hM5)))
         clear hown9 hgrow9 hpush hM5
         go_wp2
         go_roundw
         case rel => exact ⟨m + 1, by omega, by go_num, _, _, cap9, rfl, HN9, HRG9, D, HM9, HREST⟩
         case measure => simp [intOf]; omega
      ·have HAS := hide (show Maps.has D (.int .i64 (m : Int)) = false from by
        rw [← Bool.not_eq_true, HP.out.is hlt]
        have := mn_le l m
        omega)
       have HPP2 := hide (partsP_out hmn)
       have HP2 := hide (HP.out.iff fun k _ => rest_skip hmn k)
       clear hmn
       rw [← HPP2.out] at HN HRG
       go_wp2_with (at_lookup; go_loud (refine wpList_look_rect rfl _ _ rfl bM l.length D rfl (World.ownsMap.alloc HM.out _) (m : Int) rfl (by omega) false HAS.out ?_); intro rr; obtain ⟨rr0, rr1, rr2, rr3⟩ := rr)
       have HRG2 := hide (HRG.out.below (((Below.refl _ _).alloc (Nat.le_refl _) (.cells #[.int .i64 p0, .int .i64 p1, .int .i64 p2, .int .i64 p3] 49)).alloc (by simp) (.cells #[.int .i64 rr0, .int .i64 rr1, .int .i64 rr2, .int .i64 rr3] 49)))
       have HM2 := hide (World.ownsMap.alloc (World.ownsMap.alloc HM.out (.cells #[.int .i64 p0, .int .i64 p1, .int .i64 p2, .int .i64 p3] 49)) (.cells #[.int .i64 rr0, .int .i64 rr1, .int .i64 rr2, .int .i64 rr3] 49))
       go_roundw
       case rel => exact ⟨m + 1, by omega, by go_num, Ao, no, co, rfl, HN, HRG2, D, HM2, HP2⟩
       case measure => simp [intOf]; omega
     ·have mz : ¬ (m : Int) < (l.length : Int) := by omega
      obtain rfl : m = l.length := by omega
      rw [partsP_all] at HN HRG
      go_wp2
      go_ret2
      obtain ⟨low, vs, h1, h2⟩ := HRG.out
      have hn := HN.out
      subst hn
      refine ⟨⟨Ao, co, vs, by rw [HF.out]; rfl, by rw [HF.out]; exact h1, ?_⟩, low⟩
      rw [HF.out]
      exact h2
 ·have HF : Hid (partsE l = ([], checkF l)) := hide (if_neg h0)
  generalize checkF l = ck at *
  have hne : (ck != 0) = true := by simpa using h0
  clear h0
  go_enter Tryz.func13, Tryz.ntmps13
  go_wp2_with (go_at_call 33; refine HCK.out.mono ?_; rintro e w1 ⟨rfl, hb1⟩)
  have HB1 := hide hb1
  clear hb1
  go_ret2
  exact ⟨⟨none, 0, [], by rw [HF.out]; rfl, by rw [HF.out]; exact World.ownsRow_nil _ _ _ _, fun i r hi => by rw [HF.out] at hi; simp at hi⟩, HB1.out⟩
end Go.Proofs.YtdfpbhlnlkjjlaaGreat

/- OutlineParts' walk. -/
namespace Go.Proofs.YtdfpbhlnlkjjlaaGreat
open Go.RowKit
set_option linter.unusedVariables false
set_option linter.unusedSimpArgs false
set_option maxRecDepth 100000 in
set_option maxHeartbeats 16000000 in
theorem oparts_walk {w : World} {v : Value} {l : List R4} (hr : RdK encR 4 w w.heap.size v l) (la : l.length ≤ maxLen) :
  Calls Tryz.prog 3 #[v] w fun e w' => e = .returned (.bool true) ∧ Below w.heap.size w w' := by
 have HR := hide hr
 obtain ⟨A0, c0, rfl, _⟩ := hr
 rename_i hrr
 clear hrr
 have K := hide (Below.refl w.heap.size w)
 have HLA := hide la
 clear la
 by_cases hf : l.length ≤ 60 ∧ checkF l = 0
 ·have HFT : Hid ((decide (l.length ≤ 60) && decide (checkF l = 0)) = true) := hide (by simp [hf])
  obtain ⟨hl6, hk⟩ := hf
  have HK := hide hk
  have HL6 := hide hl6
  clear hl6 hk
  go_enter Tryz.func3, Tryz.ntmps3
  go_wp2_with (fail)
  refine (alive13_any _).mono ?_
  rintro e v1 ⟨rfl, hb⟩
  replace K := hide (K.out.trans (hb.mono K.out.size))
  replace HR := hide ((HR.out.below hb).mono hb.size)
  clear hb
  go_wp2_with (fail)
  refine (fit13_any HR.out HLA.out).mono ?_
  rintro e v2 ⟨rfl, hb⟩
  rw [HFT.out]
  replace K := hide (K.out.trans (hb.mono K.out.size))
  replace HR := hide ((HR.out.below hb).mono hb.size)
  clear hb
  go_wp2_with (fail)
  refine (of_any HR.out HL6.out HK.out).mono ?_
  rintro e v3 ⟨A1, c1, L, vs, rfl, ho, hw, hv, hb⟩
  have HP := hide (RdPs.of_own hw hv)
  have HO := hide ho
  replace K := hide (K.out.trans (hb.mono K.out.size))
  replace HR := hide ((HR.out.below hb).mono hb.size)
  clear hb ho hw hv
  have hL6 : L.length ≤ 60 := by have := (out_cnt HK.out HO.out).1; have := HL6.out; omega
  have hz2 : ¬ (200 : Int) < (L.length : Int) := by omega
  clear hz2
  have GE := hide (fun (w : World) (v : Value) (h : RdK encR 4 w w.heap.size v l) => (euler_any h HL6.out HK.out).mono (R' := fun e w' => e = .returned (.tuple #[.int .i64 ((partsF l).length : Nat), .int .i64 ((L.length - (partsF l).length : Nat) : Int), .int .i64 0]) ∧ Below w.heap.size w w') (by
   rintro e w' ⟨⟨M, hM, rfl⟩, hb⟩
   have e := hM.ext HO.out
   subst e
   rw [(parts_all HK.out hM).1]
   exact ⟨rfl, hb⟩))
  have HPA := hide (parts_all HK.out HO.out)
  have HPN : Hid ((partsF l).length ≤ L.length) := hide (by rw [← HPA.out.1]; exact List.length_filter_le _ _)
  go_wp2_with (fail)
  refine (GE.out _ _ HR.out).mono ?_
  rintro e v4 ⟨rfl, hb⟩
  replace K := hide (K.out.trans (hb.mono K.out.size))
  replace HR := hide ((HR.out.below hb).mono hb.size)
  replace HP := hide ((HP.out.below hb).mono hb.size)
  clear hb GE
  have GP := hide (fun (w : World) (v : Value) (h : RdK encR 4 w w.heap.size v l) => (parts_any h (by have := HL6.out; omega)).mono (R' := fun e w' => (∃ A c, e = .returned (.tuple #[.slice A (partsF l).length c, .int .i64 0]) ∧ RdRR w' w'.heap.size (.slice A (partsF l).length c) (partsF l)) ∧ Below w.heap.size w w') (by
   rintro e w' ⟨hrg, hb⟩
   have he : partsE l = (partsF l, 0) := by unfold partsE; rw [if_pos HK.out]
   rw [he] at hrg
   exact ⟨hrg.rd, hb⟩))
  go_wp2_with (fail)
  refine (GP.out _ _ HR.out).mono ?_
  rintro e v5 ⟨⟨A2, c2, rfl, h2⟩, hb⟩
  have HRR := hide h2
  replace K := hide (K.out.trans (hb.mono K.out.size))
  replace HP := hide ((HP.out.below hb).mono hb.size)
  clear hb h2 HR GP
  obtain ⟨P, hP⟩ : ∃ P, partsF l = P := ⟨_, rfl⟩
  have HPO := hide (fun c hc => parts_out (c := c) HK.out hc)
  have HPL := hide (fun c hc => parts_len (c := c) HK.out hc)
  have hpn := HPN.out
  have hp6 : (partsF l).length ≤ 60 := Nat.le_trans (parts_num l) HL6.out
  rw [hP] at HPA HRR HPO HPL hpn hp6 ⊢
  clear hP HPN
  have w1 : IntKind.i64.wrap ((P.length : Int) + ((L.length - P.length : Nat) : Int)) = (L.length : Int) := by rw [IntWalk.i64_in _ (by omega)]; omega
  have z1 : ¬ (60 : Int) < (P.length : Int) := by omega
  go_wp2
  clear w1 z1
  go_loopw [11, 12] (fun s i wr => ∃ k n9 : Nat, k ≤ P.length ∧ s = .int .i64 (n9 : Int) ∧ i = .int .i64 (k : Int) ∧ Hid (((P.take k).map fun c => (outlR c).length).sum = n9) ∧ Hid (Below w.heap.size w wr) ∧ Hid (RdPs wr wr.heap.size (.slice A1 L.length c1) L) ∧ Hid (RdRR wr wr.heap.size (.slice A2 P.length c2) P)) (fun _ i _ => P.length - (intOf i).toNat)
  case atStart => exact ⟨0, 0, Nat.zero_le _, rfl, rfl, hide rfl, K, HP, HRR⟩
  case round =>
   clear K HP HRR
   obtain ⟨k, n9, hk, rfl, rfl, HS, K, HP, HRR⟩ := hrel
   by_cases hlt : k < P.length
   ·have kz : (k : Int) < (P.length : Int) := by omega
    have k0 : (0 : Int) ≤ (k : Int) := by omega
    obtain ⟨c, hc⟩ : ∃ c, P[k]? = some c := ⟨_, List.getElem?_eq_getElem hlt⟩
    obtain ⟨M, hM⟩ : ∃ M, outlR c = M := ⟨_, rfl⟩
    have hcm := List.mem_of_getElem? hc
    obtain ⟨hck, hco⟩ := HPO.out c hcm
    have hcl : c.length ≤ 60 := Nat.le_trans (HPL.out c hcm) HL6.out
    have HIN : Hid (∀ p ∈ M, p ∈ L) := hide (fun p hp => HPA.out.2.2 c hcm p (by rw [hM]; exact hp))
    have HS2 : Hid (((P.take (k + 1)).map fun c => (outlR c).length).sum = n9 + M.length) := hide (by rw [sumP_step hc, HS.out, hM])
    have hn9 : n9 + M.length ≤ 60 := by have h1 := sumP_le P (k + 1); have h2 := HS2.out; have h3 := HPA.out.2.1; omega
    rw [hM] at hco
    have HMC := hide (fun p hp => (chkO_ok (out_chk hck hco p hp)).1)
    have GO := hide (fun (w : World) (v : Value) (h : RdK encR 4 w w.heap.size v c) => of_is hco h hcl hck)
    obtain ⟨b, o, A3, c3, hA, hb, e0, hu⟩ := HRR.out.get hc
    have HU := hide hu
    clear hc hcm hck hco hcl hu hM HS
    subst hA
    go_wp2_with (fail)
    refine (GO.out _ _ HU.out).mono ?_
    rintro e w1 ⟨⟨A4, c4, rfl, h4⟩, hb4⟩
    have HQ := hide h4
    have K1 := hide (K.out.trans (hb4.mono K.out.size))
    have HP1 := hide ((HP.out.below hb4).mono hb4.size)
    have HRR1 := hide ((HRR.out.below hb4).mono hb4.size)
    clear hb4 h4 HU GO e0 hb K HP HRR
    go_wp2
    go_loopw [11, 15] (fun s i wr => ∃ m : Nat, m ≤ M.length ∧ s = .int .i64 ((n9 + m : Nat) : Int) ∧ i = .int .i64 (m : Int) ∧ Hid (Below w.heap.size w wr) ∧ Hid (RdPs wr wr.heap.size (.slice A1 L.length c1) L) ∧ Hid (RdRR wr wr.heap.size (.slice (some ⟨b, o, none⟩) P.length c2) P) ∧ Hid (RdPs wr wr.heap.size (.slice A4 M.length c4) M)) (fun _ i _ => M.length - (intOf i).toNat)
    case atStart => exact ⟨0, Nat.zero_le _, rfl, rfl, K1, HP1, HRR1, HQ⟩
    case round =>
     clear K1 HP1 HRR1 HQ
     obtain ⟨m, hm, rfl, rfl, K, HP, HRR, HQ⟩ := hrel
     by_cases hltm : m < M.length
     ·have mz : (m : Int) < (M.length : Int) := by omega
      have m0 : (0 : Int) ≤ (m : Int) := by omega
      obtain ⟨p, hp⟩ : ∃ p, M[m]? = some p := ⟨_, List.getElem?_eq_getElem hltm⟩
      have HPP := hide hp
      have hpL := HIN.out p (List.mem_of_getElem? hp)
      have HPM := hide hpL
      have HPC := hide (HMC.out p (List.mem_of_getElem? hp))
      clear hp hpL
      go_wp2
      go_loopw [16, 17] (fun bv i wr => ∃ (j : Nat) (bb : Bool), j ≤ L.length ∧ bv = .bool bb ∧ i = .int .i64 (j : Int) ∧ Hid (decide (p ∈ L.take j) = bb) ∧ Hid (Below w.heap.size w wr) ∧ Hid (RdPs wr wr.heap.size (.slice A1 L.length c1) L) ∧ Hid (RdRR wr wr.heap.size (.slice (some ⟨b, o, none⟩) P.length c2) P) ∧ Hid (RdPs wr wr.heap.size (.slice A4 M.length c4) M)) (fun _ i _ => L.length - (intOf i).toNat)
      case atStart => exact ⟨0, false, Nat.zero_le _, rfl, rfl, hide (by simp), K, HP, HRR, HQ⟩
      case round =>
       clear K HP HRR HQ
       obtain ⟨j, bb, hj, rfl, rfl, HBB, K, HP, HRR, HQ⟩ := hrel
       by_cases hltj : j < L.length
       ·have jz : (j : Int) < (L.length : Int) := by omega
        have j0 : (0 : Int) ≤ (j : Int) := by omega
        obtain ⟨q, hq⟩ : ∃ p, L[j]? = some p := ⟨_, List.getElem?_eq_getElem hltj⟩
        have HST := hide (mem_take_step (p := p) hq)
        rw [HBB.out] at HST
        cases bb
        ·obtain ⟨b1, o1, u1, hA, hb1, e0, hu1⟩ := HP.out.get hq
         subst hA
         obtain ⟨b4, o4, u4, hA, hb4, f0, hu4⟩ := HQ.out.get HPP.out
         subst hA
         have HSA : Hid (∀ y : Above wr, _) := hide (fun y : Above wr => above_of (x := y) (rLoop13_any (w := y.get) ((hu1.below y.keeps).mono y.keeps.size) ((hu4.below y.keeps).mono y.keeps.size) (by have := (chkO_ok (out_chk HK.out HO.out q (List.mem_of_getElem? hq))).1; omega) (Nat.le_refl _) (Nat.le_refl _)))
         obtain ⟨bc, hbc⟩ : ∃ z, decide (q = p) = z := ⟨_, rfl⟩
         rw [hbc] at HSA HST
         have HST2 : Hid (decide (p ∈ L.take (j + 1)) = bc) := hide (by rw [HST.out]; rfl)
         clear hq hu1 hu4 hbc HST HBB
         go_upto_region 23 with fail
         refine wp_hab fun hab => ?_
         refine wp_region_above (by kernel_rfl) (by kernel_rfl) ?_
         repeat (go_big_quiet_step ((first | (go_at_call 14; with_reducible exact HSA.out _))))
         refine wpQuiet_nil ?_
         refine above_ends fun w3 hb3 => ?_
         have K3 := hide (K.out.trans (hb3.mono K.out.size))
         have HP3 := hide ((HP.out.below hb3).mono hb3.size)
         have HRR3 := hide ((HRR.out.below hb3).mono hb3.size)
         have HQ3 := hide ((HQ.out.below hb3).mono hb3.size)
         clear hab e0 f0 hb1 hb4 hb3 HSA K HP HRR HQ
         go_wp2
         go_roundw
         case rel => exact ⟨j + 1, bc, hltj, rfl, by go_num, HST2, K3, HP3, HRR3, HQ3⟩
         case measure => simp [intOf]; omega
        ·have HST2 : Hid (decide (p ∈ L.take (j + 1)) = true) := hide (by rw [HST.out]; rfl)
         clear hq HST HBB
         go_upto_region 23 with fail
         refine wp_hab fun hab => ?_
         refine wp_region_above (by kernel_rfl) (by kernel_rfl) ?_
         repeat (go_big_quiet_step (fail))
         refine wpQuiet_nil ?_
         refine above_ends fun w3 hb3 => ?_
         have K3 := hide (K.out.trans (hb3.mono K.out.size))
         have HP3 := hide ((HP.out.below hb3).mono hb3.size)
         have HRR3 := hide ((HRR.out.below hb3).mono hb3.size)
         have HQ3 := hide ((HQ.out.below hb3).mono hb3.size)
         clear hab hb3 K HP HRR HQ
         go_wp2
         go_roundw
         case rel => exact ⟨j + 1, true, hltj, rfl, by go_num, HST2, K3, HP3, HRR3, HQ3⟩
         case measure => simp [intOf]; omega
       ·have jz : ¬ (j : Int) < (L.length : Int) := by omega
        have hbt : bb = true := by
         rw [← HBB.out, List.take_of_length_le (by omega)]
         exact decide_eq_true HPM.out
        subst hbt
        have wn : IntKind.i64.wrap (((n9 + m : Nat) : Int) + 1) = ((n9 + (m + 1) : Nat) : Int) := by rw [IntWalk.i64_in _ (by omega)]; omega
        clear HBB
        go_wp2
        go_roundw
        case rel => exact ⟨m + 1, hltm, by first | rfl | (simp; omega) | (congr 1; omega), by go_num, K, HP, HRR, HQ⟩
        case measure => simp [intOf]; omega
     ·have mz : ¬ (m : Int) < (M.length : Int) := by omega
      have HS3 : Hid (((P.take (k + 1)).map fun c => (outlR c).length).sum = n9 + m) := hide (by rw [HS2.out]; omega)
      go_wp2
      go_roundw
      case rel => exact ⟨k + 1, n9 + m, hlt, rfl, by go_num, HS3, K, HP, HRR⟩
      case measure => simp [intOf]; omega
   ·have kz : ¬ (k : Int) < (P.length : Int) := by omega
    have hn : n9 = L.length := by
     have h := HS.out
     rw [List.take_of_length_le (by omega)] at h
     rw [HPA.out.2.1, h]
    clear HS
    rw [hn]
    go_wp2
    go_ret
    exact ⟨rfl, K.out⟩
 ·have HFT : Hid ((decide (l.length ≤ 60) && decide (checkF l = 0)) = false) := hide (by
   cases h1 : decide (l.length ≤ 60) with
   | false => rfl
   | true =>
    cases h2 : decide (checkF l = 0) with
    | false => rfl
    | true => exact absurd ⟨of_decide_eq_true h1, of_decide_eq_true h2⟩ hf)
  clear hf
  go_enter Tryz.func3, Tryz.ntmps3
  go_wp2_with (fail)
  refine (alive13_any _).mono ?_
  rintro e v1 ⟨rfl, hb⟩
  replace K := hide (K.out.trans (hb.mono K.out.size))
  replace HR := hide ((HR.out.below hb).mono hb.size)
  clear hb
  go_wp2_with (fail)
  refine (fit13_any HR.out HLA.out).mono ?_
  rintro e v2 ⟨rfl, hb⟩
  rw [HFT.out]
  replace K := hide (K.out.trans (hb.mono K.out.size))
  clear hb HR
  go_wp2_with (fail)
  go_ret
  exact ⟨rfl, K.out⟩
end Go.Proofs.YtdfpbhlnlkjjlaaGreat
