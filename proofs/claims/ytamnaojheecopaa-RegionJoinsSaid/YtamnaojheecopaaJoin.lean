/- span.join: the sweep over the ends of two lists. -/
import Derived.Test.YtamnaojheecopaaEnds
import Derived.Test.YtamnaojheecopaaClose
import Derived.Test.YtamnaojheecopaaRange
import Derived.Laws.EntriesVeiled
import Derived.StillTactics
namespace Go.Proofs.Ytamnaojheecopaa
open Go.RowKit
set_option linter.unusedVariables false
set_option linter.unusedSimpArgs false
attribute [local go_sem] Oper.semAt_some

def ptr (b : Nat) : Value := .pointer (some ⟨b, 0, none⟩)
/-- The variables of join, between two rounds: the boxes N .. N + 5; the row of the result at or above B. -/
structure JW (N B : Nat) (fv : Value) (st : JS) (W : World) : Prop where
  fb : W.cell? ⟨N, 0, none⟩ = some fv
  o0 : W.cell? ⟨N + 1, 0, none⟩ = some (.int .i64 st.o0)
  o1 : W.cell? ⟨N + 1, 1, none⟩ = some (.int .i64 st.o1)
  f0 : W.frozen? ⟨N + 1, 0, none⟩ = false
  f1 : W.frozen? ⟨N + 1, 1, none⟩ = false
  out : ∃ vo, W.cell? ⟨N + 2, 0, none⟩ = some vo ∧ W.ownsRow B 78 2 vo st.out.length (st.out.flatMap encS)
  fo : W.frozen? ⟨N + 2, 0, none⟩ = false
  la : W.cell? ⟨N + 3, 0, none⟩ = some (.int .i64 st.last)
  fl : W.frozen? ⟨N + 3, 0, none⟩ = false
  inn : W.cell? ⟨N + 4, 0, none⟩ = some (.bool st.inn)
  fi : W.frozen? ⟨N + 4, 0, none⟩ = false
  cl : W.cell? ⟨N + 5, 0, none⟩ = some (.func (.func 90) #[] #[ptr (N + 4), ptr (N + 3), ptr (N + 2)])
  low : N + 6 ≤ B
  size : B ≤ W.heap.size

/-- What keeps the blocks of cells keeps it. -/
theorem JW.keep {N B : Nat} {fv : Value} {st : JS} {W W' : World} (h : JW N B fv st W) (hs : W.heap.size ≤ W'.heap.size) (hk : ∀ (k : Nat) (o : Obj), W.heap[k]? = some o → o.isCells = true → W'.heap[k]? = some o) : JW N B fv st W' := by
  have key : ∀ {b o v}, W.cell? ⟨b, o, none⟩ = some v → W'.heap[b]? = W.heap[b]? := fun {b o v} e => by
    obtain ⟨ob, h1, h2⟩ := cells_of_cell e
    exact (hk b ob h1 h2).trans h1.symm
  have hc : ∀ {b o v}, W.cell? ⟨b, o, none⟩ = some v → W'.cell? ⟨b, o, none⟩ = some v := fun {b o v} e => (World.cell?_of_block (w := W) (a := ⟨b, o, none⟩) (key e)).trans e
  have hf : ∀ {b o v}, W.cell? ⟨b, 0, none⟩ = some v → W.frozen? ⟨b, o, none⟩ = false → W'.frozen? ⟨b, o, none⟩ = false := fun {b o v} c e => (World.frozen?_of_block (w := W) (a := ⟨b, o, none⟩) (key c)).trans e
  obtain ⟨vo, ho, hr⟩ := h.out
  refine ⟨hc h.fb, hc h.o0, hc h.o1, hf h.o0 h.f0, hf h.o0 h.f1, ⟨vo, hc ho, ?_⟩, hf ho h.fo, hc h.la, hf h.la h.fl, hc h.inn, hf h.inn h.fi, hc h.cl, h.low, Nat.le_trans h.size hs⟩
  refine ⟨hr.1, ?_⟩
  rcases hr.2 with hn | ⟨g, cap, cur, rfl, hb, hg, rest⟩
  · exact .inl hn
  · exact .inr ⟨g, cap, cur, rfl, hb, hk g _ hg rfl, rest⟩
theorem JW.below {N B : Nat} {fv : Value} {st : JS} {W W' : World} (h : JW N B fv st W) (hb : Below W.heap.size W W') : JW N B fv st W' :=
  h.keep hb.size fun k o hk _ => (hb.block k (Array.getElem?_eq_some_iff.1 hk).1).trans hk
theorem sum_jfold (h : Bool → Bool → Bool) : ∀ (E : List En) (st : JS) (n : Int), (∀ e ∈ E, e.2.2 = 1 ∨ e.2.2 = -1) → -n ≤ st.o0 → st.o0 ≤ n → -n ≤ st.o1 → st.o1 ≤ n →
    -(n + E.length) ≤ (E.foldl (jstep h) st).o0 ∧ (E.foldl (jstep h) st).o0 ≤ n + E.length ∧ -(n + E.length) ≤ (E.foldl (jstep h) st).o1 ∧ (E.foldl (jstep h) st).o1 ≤ n + E.length
  | [], st, n, _, h1, h2, h3, h4 => by simp; omega
  | e :: E, st, n, hE, h1, h2, h3, h4 => by
    have he := hE e (by simp)
    have := sum_jfold h E (jstep h st e) (n + 1) (fun x hx => hE x (by simp [hx])) (by simp only [jstep]; split <;> omega) (by simp only [jstep]; split <;> omega) (by simp only [jstep]; split <;> omega) (by simp only [jstep]; split <;> omega)
    simp only [List.foldl_cons, List.length_cons, Int.natCast_add, Int.natCast_one]
    omega
theorem jfold_snoc (h : Bool → Bool → Bool) (P : List En) (e : En) : jfold h (P ++ [e]) = jstep h (jfold h P) e := by
  unfold jfold
  rw [List.foldl_append]; rfl
theorem jout_len (h : Bool → Bool → Bool) (P : List En) (st : JS) : (P.foldl (jstep h) st).out.length ≤ st.out.length + P.length := by
  induction P generalizing st with
  | nil => simp
  | cons e P ih =>
    have := ih (jstep h st e)
    have h2 : (jstep h st e).out.length ≤ st.out.length + 1 := by
      show (jclose st e.1).length ≤ _
      unfold jclose sext
      split
      · split
        · split
          · rename_i q hq _
            obtain ⟨o, ho⟩ := List.getLast?_eq_some_iff.1 hq
            rw [ho]; simp
          · simp
        · simp
      · omega
    simp only [List.foldl_cons, List.length_cons]
    omega
theorem JW.putObj {N B : Nat} {fv : Value} {st : JS} {W : World} (h : JW N B fv st W) {l : Nat} {o o' : Obj} (hl : W.heap[l]? = some o) (ho : o.isCells = false) : JW N B fv st (W.putObj l o') :=
  h.keep (by simp) fun k x hk hx => (World.putObj_heap_other (fun hkl => by subst hkl; rw [hl] at hk; injection hk with hk; subst hk; rw [ho] at hx; cases hx)).trans hk

theorem jw_fin {N B rb : Nat} {fv vo vo' : Value} {st st' : JS} {W0 A2 A3 A7 : World} {b0 : Nat} (J2 : JW N B fv st A2) (hb2 : Below N W0 A2) (hown : A2.ownsRow B 78 2 vo st.out.length (st.out.flatMap encS)) (ho : A2.cell? ⟨N + 2, 0, none⟩ = some vo)
    (U : Upd (N + 2) vo.ownBlock A2 A3) (p1 : A3.cell? ⟨N + 2, 0, none⟩ = some vo') (p2 : A3.frozen? ⟨N + 2, 0, none⟩ = false) (p3 : A3.ownsRow B 78 2 vo' st'.out.length (st'.out.flatMap encS))
    (E7 : A7.os = A3.os ∧ A7.tape = A3.tape ∧ A7.output = A3.output ∧ A7.heap.size = A3.heap.size) (C7 : ∀ k, k ≠ N + 1 → k ≠ N + 3 → k ≠ N + 4 → A7.heap[k]? = A3.heap[k]?) (F7 : ∀ p, A7.frozen? p = A3.frozen? p)
    (z0 : A7.cell? ⟨N + 1, 0, none⟩ = some (.int .i64 st'.o0)) (z1 : A7.cell? ⟨N + 1, 1, none⟩ = some (.int .i64 st'.o1)) (z3 : A7.cell? ⟨N + 3, 0, none⟩ = some (.int .i64 st'.last)) (z4 : A7.cell? ⟨N + 4, 0, none⟩ = some (.bool st'.inn))
    (h1 : N + 7 ≤ rb) (h2 : rb < B) : KeepsFrom B A2 A7 ∧ KpB rb A2 A7 ∧ JW N B fv st' A7 ∧ Below N W0 A7 := by
  have hlow := J2.low
  have hsz := J2.size
  have hrow : ∀ k, vo.ownBlock = some k → B ≤ k := fun k hk => (hown.lt k hk).1
  have hsame : ∀ k, k < A2.heap.size → k ≠ N + 1 → k ≠ N + 2 → k ≠ N + 3 → k ≠ N + 4 → vo.ownBlock ≠ some k → A7.heap[k]? = A2.heap[k]? := fun k a b c d e f => (C7 k b d e).trans (U.block k a c f)
  have hc : ∀ k o, k < B → k ≠ N + 1 → k ≠ N + 2 → k ≠ N + 3 → k ≠ N + 4 → A7.cell? ⟨k, o, none⟩ = A2.cell? ⟨k, o, none⟩ := fun k o a b c d e => World.cell?_of_block (w := A2) (a := ⟨k, o, none⟩) (hsame k (by omega) b c d e fun f => by have := hrow k f; omega)
  have hf : ∀ k o, k < B → k ≠ N + 2 → A7.frozen? ⟨k, o, none⟩ = A2.frozen? ⟨k, o, none⟩ := fun k o a b => (F7 _).trans (U.frozen (by omega) b fun f => by have := hrow k f; omega)
  refine ⟨⟨by rw [E7.2.2.2]; exact U.size, fun k o hk ho' hco => ?_⟩, fun o => hc rb o h2 (by omega) (by omega) (by omega) (by omega), ?_, ?_⟩
  · have hk2 := (Array.getElem?_eq_some_iff.1 ho').1
    have hnr : vo.ownBlock ≠ some k := by
      intro f
      rcases hown.2 with ⟨rfl, _⟩ | ⟨g, cap, cur, rfl, _, hg, _⟩
      · simp [Value.ownBlock] at f
      · simp [Value.ownBlock] at f
        subst f
        rw [hg] at ho'
        injection ho' with ho'
        subst ho'
        cases hco
    exact (hsame k hk2 (by omega) (by omega) (by omega) (by omega) hnr).trans ho'
  · refine ⟨(hc N 0 (by omega) (by omega) (by omega) (by omega) (by omega)).trans J2.fb, z0, z1, (hf _ _ (by omega) (by omega)).trans J2.f0, (hf _ _ (by omega) (by omega)).trans J2.f1, ⟨vo', ?_, ?_⟩, ?_, z3, (hf _ _ (by omega) (by omega)).trans J2.fl, z4, (hf _ _ (by omega) (by omega)).trans J2.fi, (hc (N + 5) 0 (by omega) (by omega) (by omega) (by omega) (by omega)).trans J2.cl, hlow, ?_⟩
    · exact (World.cell?_of_block (w := A3) (a := ⟨N + 2, 0, none⟩) (C7 (N + 2) (by omega) (by omega) (by omega))).trans p1
    · refine ⟨p3.1, ?_⟩
      rcases p3.2 with hn | ⟨g, cap, cur, hv, hg, hh, r⟩
      · exact .inl hn
      · exact .inr ⟨g, cap, cur, hv, hg, (C7 g (by omega) (by omega) (by omega)).trans hh, r⟩
    · exact (F7 _).trans p2
    · rw [E7.2.2.2]; exact Nat.le_trans hsz U.size
  · refine ⟨(E7.1.trans U.os).trans hb2.os, (E7.2.1.trans U.tape).trans hb2.tape, (E7.2.2.1.trans U.output).trans hb2.output, ?_, fun k hk => ?_⟩
    · rw [E7.2.2.2]; exact Nat.le_trans hb2.size U.size
    · exact (hsame k (by omega) (by omega) (by omega) (by omega) (by omega) fun f => by have := hrow k f; omega).trans (hb2.block k hk)
set_option maxRecDepth 100000 in
set_option maxHeartbeats 2000000 in
theorem join_any (a b : List Sp) (va vb : Value) (w : World) (g : Nat) (h : Bool → Bool → Bool) (eg : ∀ args w, (callFunc g args).run Try.prog w = .ok (.enter g args) w) (hg : ∀ (x y : Bool) (W : World), Calls Try.prog g #[.bool x, .bool y] W fun e w' => e = .returned (.bool (h x y)) ∧ W = w')
    (ra : RdK encS 2 w w.heap.size va a) (rb : RdK encS 2 w w.heap.size vb b) (na : a.length ≤ 100000000) (nb : b.length ≤ 100000000) (ba : ∀ p ∈ a, validS p) (bb : ∀ p ∈ b, validS p) :
    Calls Try.prog 82 #[va, vb, .func (.func g) #[] #[]] w fun e w' => ∃ (E : List En) (v : Value), e = .returned v ∧ E.Perm (evs 0 a ++ evs 1 b) ∧ E.Pairwise (fun a b => a.1 ≤ b.1) ∧ Below w.heap.size w w' ∧
      w'.ownsRow w.heap.size 78 2 v (jfold h E).out.length ((jfold h E).out.flatMap encS) := by
  obtain ⟨A0, c0, hva, hra⟩ := ra
  obtain ⟨A1, c1, hvb, hrb⟩ := rb
  subst hva; subst hvb
  have RA : Hid (RdK encS 2 w w.heap.size (.slice A0 a.length c0) a) := hide ⟨_, _, rfl, hra⟩
  have RB : Hid (RdK encS 2 w w.heap.size (.slice A1 b.length c1) b) := hide ⟨_, _, rfl, hrb⟩
  clear hra hrb
  refine (callsIn_wide (n := 0)).1 ?_
  refine callsIn_of_wp_marks Try.func82 rfl trivial ?_
  simp only [Try.ntmps82, List.size_toArray, List.length_cons, List.length_nil, Nat.reduceAdd, Nat.reduceSub, Array.replicate_succ, Array.replicate_zero, List.push_toArray, List.append_toArray, List.nil_append, List.cons_append]
  refine wpIn_wide.2 ?_
  go_wp2_with (fail)
  obtain ⟨w1, hw1⟩ : ∃ w1, w1 = ((((((w.alloc (Obj.cells #[Value.func (Fn.func g) #[] #[]] 105)).alloc (Obj.cells #[Value.int IntKind.i64 0, Value.int IntKind.i64 0] 118)).alloc (Obj.cells #[Value.slice none 0 0] 48)).alloc (Obj.cells #[Value.int IntKind.i64 0] 3)).alloc (Obj.cells #[Value.bool false] 4)).alloc
     (Obj.cells #[.func (.func 90) #[] #[ptr (w.heap.size + 1 + 1 + 1 + 1), ptr (w.heap.size + 1 + 1 + 1), ptr (w.heap.size + 1 + 1)]] 119)).alloc (.cells #[.slice A0 a.length c0, .slice A1 b.length c1] 48) := ⟨_, rfl⟩
  have hb1 : Below w.heap.size w w1 := by
    rw [hw1]
    exact (((((((Below.refl _ w).alloc (Nat.le_refl _) _).alloc (by simp) _).alloc (by simp; omega) _).alloc (by simp; omega) _).alloc (by simp; omega) _).alloc (by simp; omega) _).alloc (by simp; omega) _
  have hs1 : w1.heap.size = w.heap.size + 7 := by rw [hw1]; simp
  have hJ : ∀ (B : Nat) (W : World), Below w1.heap.size w1 W → w.heap.size + 6 ≤ B → B ≤ W.heap.size → JW w.heap.size B (.func (.func g) #[] #[]) js0 W := by
    intro B W hb hB1 hB2
    have hc : ∀ b o, b < w.heap.size + 7 → W.cell? ⟨b, o, none⟩ = w1.cell? ⟨b, o, none⟩ := fun b o h => hb.cell (p := ⟨b, o, none⟩) (by show b < _; omega)
    have hf : ∀ b o, b < w.heap.size + 7 → W.frozen? ⟨b, o, none⟩ = w1.frozen? ⟨b, o, none⟩ := fun b o h => hb.frozen (p := ⟨b, o, none⟩) (by show b < _; omega)
    refine ⟨?_, ?_, ?_, ?_, ?_, ⟨.slice none 0 0, ?_, World.ownsRow_nil _ _ _ _⟩, ?_, ?_, ?_, ?_, ?_, ?_, hB1, hB2⟩
    all_goals first
      | (refine (hc _ _ (by omega)).trans ?_; rw [hw1]; simp [go_sem, js0, ptr]; done)
      | (refine (hf _ _ (by omega)).trans ?_; rw [hw1]; simp [go_sem]; done)
  have hL0 : w1.cell? ⟨w.heap.size + 6, 0, none⟩ = some (.slice A0 a.length c0) := by rw [hw1]; simp [go_sem]
  have hL1 : w1.cell? ⟨w.heap.size + 6, 1, none⟩ = some (.slice A1 b.length c1) := by rw [hw1]; simp [go_sem]
  have hends := ends_loop a b (w.heap.size + 6) 2 (.slice A0 a.length c0) (.slice A1 b.length c1) w1 (by omega) hL0 hL1 ((RA.out.below hb1).mono (by omega)) ((RB.out.below hb1).mono (by omega)) na nb ba bb
  have HJ := hide hJ
  clear hJ hL0 hL1 RA RB
  simp only [ptr] at hw1
  rw [← hw1]
  clear hw1
  refine hends.mono ?_
  rintro e wE ⟨E, Bx, rw', rfl, hp, hs, hbE, hr1, hr2, hit⟩
  go_wp2_with (fail)
  have HW : Hid (Below w.heap.size w wE) := hide (hb1.trans (hbE.mono (by omega)))
  have hsE : w.heap.size + 7 ≤ wE.heap.size := by have := hbE.size; omega
  have hJ0 := HJ.out wE.heap.size wE hbE (by omega) (Nat.le_refl _)
  have hEl : E.length ≤ 400000000 := by rw [hp.length_eq, List.length_append, evs_length, evs_length]; omega
  have hby : ∀ e ∈ E, (e.2.1 = 0 ∨ e.2.1 = 1) ∧ (e.2.2 = 1 ∨ e.2.2 = -1) := by
    intro e he
    rcases List.mem_append.1 (hp.mem_iff.1 he) with h1 | h1
    · obtain ⟨_, _, _, q1, q2⟩ := evs_mem h1
      exact ⟨.inl q1, q2⟩
    · obtain ⟨_, _, _, q1, q2⟩ := evs_mem h1
      exact ⟨.inr q1, q2⟩
  have HP : Hid (E.Perm (evs 0 a ++ evs 1 b) ∧ E.Pairwise (fun a b => a.1 ≤ b.1)) := hide ⟨hp, hs⟩
  have HG := hide hg
  clear HJ hb1 hbE hp hs hg na nb ba bb
  refine (wpIn_wide (n := 0)).1 ?_
  refine wp_range rfl (enters_of Try.func113 (by kernel_rfl) rfl) hit (Below.refl _ _) (fun x args A hx => by rw [hx]; rfl) KpB.trans ?_
    (fun pre W => JW w.heap.size wE.heap.size (.func (.func g) #[] #[]) (jfold h pre) W ∧ Below w.heap.size w W) (fun _ _ => False) ?_ ?_ (fun _ _ _ _ _ h => h.elim) ⟨hJ0, HW.out⟩ ?_ ?_ (fun _ _ _ _ h => h.elim)
  · intro A l o o' _ h1 h2 h3 off
    exact (cell_putObj h1 h2 h3 _).1
  · intro pre A B h1 hb
    exact ⟨h1.1.below hb, h1.2.trans (hb.mono h1.2.size)⟩
  · intro pre A l o o' h1 hl h2 h3 h4
    exact ⟨h1.1.putObj h2 h3, below_putObj h1.2 (by omega) _⟩
  · rintro l pre x args A ⟨hJA, hbA⟩ hpost rfl hl1 ⟨ol, hl2, hl3⟩
    obtain ⟨at', li, by'⟩ := x
    have hll : l < A.heap.size := (Array.getElem?_eq_some_iff.1 hl2).1
    obtain ⟨post, hpost⟩ := hpost
    have hlen : pre.length ≤ 400000000 := by rw [hpost, List.length_append] at hEl; omega
    have hbo := sum_jfold h pre js0 0 (fun e he => (hby e (by rw [hpost]; simp [he])).2) (by simp [js0]) (by simp [js0]) (by simp [js0]) (by simp [js0])
    have hol := jout_len h pre js0
    change _ ∧ _ ∧ _ ∧ _ at hbo
    have hxx := hby (at', li, by') (by rw [hpost]; simp)
    have HS := hide (jfold_snoc h pre (at', li, by'))
    change JW _ _ _ (pre.foldl (jstep h) js0) A at hJA
    change Hid (_ = jstep h (pre.foldl (jstep h) js0) _) at HS
    generalize pre.foldl (jstep h) js0 = st at *
    have hpl : (js0.out.length) = 0 := rfl
    rw [hpl] at hol
    clear hby hpost hJ0 HW hpl
    simp only [encE]
    gi_wp2
    refine ⟨KeepsFrom.of_below ((Below.refl _ _).alloc (Nat.le_refl _) _), fun o => World.cell?_alloc_lt A _ ⟨rw', o, none⟩ (by show rw' < _; omega), ?_⟩
    intro A2 g2 s2 e2 f2
    have c20 : A2.cell? ⟨A.heap.size, 0, none⟩ = some (.int .i64 at') := (e2 _).trans (by simp [go_sem])
    have c21 : A2.cell? ⟨A.heap.size, 1, none⟩ = some (.int .i64 li) := (e2 _).trans (by simp [go_sem])
    have c22 : A2.cell? ⟨A.heap.size, 2, none⟩ = some (.int .i64 by') := (e2 _).trans (by simp [go_sem])
    have s3 : A2.heap.size = A.heap.size + 1 := by rw [s2]; simp
    have J2 : JW w.heap.size wE.heap.size (.func (.func g) #[] #[]) st A2 :=
      (hJA.below ((Below.refl _ _).alloc (Nat.le_refl _) (.cells #[.int .i64 at', .int .i64 li, .int .i64 by'] 123))).keep (by omega) fun k o hk ho => (g2.block k (Array.getElem?_eq_some_iff.1 hk).1 (fun e => by
        injection e with e; subst e; rw [Below.heap_alloc _ _ _ hll, hl2] at hk; injection hk with hk; subst hk; rw [hl3] at ho; cases ho)).trans hk
    have hb2 : Below w.heap.size w A2 := (hbA.alloc (by omega) (.cells #[.int .i64 at', .int .i64 li, .int .i64 by'] 123)).grown g2 (by simp; omega) (fun k e => by injection e with e; omega)
    obtain ⟨vo, ho, hown⟩ := J2.out
    have hAE := hJA.size
    have hrow : ∀ k, vo.ownBlock = some k → wE.heap.size ≤ k ∧ k < A.heap.size := by
      intro k hk
      obtain ⟨v0, q1, q2⟩ := hJA.out
      have e : A2.cell? ⟨w.heap.size + 2, 0, none⟩ = A.cell? ⟨w.heap.size + 2, 0, none⟩ := (e2 _).trans (World.cell?_alloc_lt A _ ⟨w.heap.size + 2, 0, none⟩ (by show w.heap.size + 2 < A.heap.size; omega))
      rw [ho, q1] at e
      injection e with e
      subst e
      exact q2.lt k hk
    have hclose := close_any wE.heap.size (w.heap.size + 4) (w.heap.size + 3) (w.heap.size + 2) vo st.out st.last at' st.inn A2 J2.inn J2.la ho J2.fo (by omega) J2.size hown (by omega)
    have k5 := J2.cl
    have hAsz := hbA.size
    simp only [ptr] at k5
    have HN := hide hown
    have HO2 := hide ho
    clear e2 f2 g2 s2 hl2 hit hends hJA hbA hl3 ho hown
    simp only [Nat.add_assoc, Nat.reduceAdd]
    gi_wp2_with (first | (refine ⟨trivial, rfl, ?_⟩) | (gi_at_call 90; go_loud (refine (CallsIn.inRound l (callsIn_wide.2 hclose)).mono ?_); rintro e A3 ⟨rfl, vo', p1, p2, p3, U⟩))
    have uc : ∀ b o, b < A2.heap.size → b ≠ w.heap.size + 2 → (wE.heap.size ≤ b → A.heap.size ≤ b) → A3.cell? ⟨b, o, none⟩ = A2.cell? ⟨b, o, none⟩ := fun b o h1 h2 h3 => U.cell h1 h2 fun e => by have := hrow b e; omega
    have uf : ∀ b o, b < A2.heap.size → b ≠ w.heap.size + 2 → (wE.heap.size ≤ b → A.heap.size ≤ b) → A3.frozen? ⟨b, o, none⟩ = A2.frozen? ⟨b, o, none⟩ := fun b o h1 h2 h3 => U.frozen h1 h2 fun e => by have := hrow b e; omega
    have m20 := (uc A.heap.size 0 (by omega) (by omega) (by omega)).trans c20
    have m21 := (uc A.heap.size 1 (by omega) (by omega) (by omega)).trans c21
    have m22 := (uc A.heap.size 2 (by omega) (by omega) (by omega)).trans c22
    have mfb := (uc w.heap.size 0 (by omega) (by omega) (by omega)).trans J2.fb
    have mo0 := (uc (w.heap.size + 1) 0 (by omega) (by omega) (by omega)).trans J2.o0
    have mo1 := (uc (w.heap.size + 1) 1 (by omega) (by omega) (by omega)).trans J2.o1
    have mf0 := (uf (w.heap.size + 1) 0 (by omega) (by omega) (by omega)).trans J2.f0
    have mf1 := (uf (w.heap.size + 1) 1 (by omega) (by omega) (by omega)).trans J2.f1
    have mla := (uc (w.heap.size + 3) 0 (by omega) (by omega) (by omega)).trans J2.la
    have mfl := (uf (w.heap.size + 3) 0 (by omega) (by omega) (by omega)).trans J2.fl
    have min := (uc (w.heap.size + 4) 0 (by omega) (by omega) (by omega)).trans J2.inn
    have mfi := (uf (w.heap.size + 4) 0 (by omega) (by omega) (by omega)).trans J2.fi
    have UU := hide U
    have P3 := hide p3
    have P1 := hide p1
    have P2 := hide p2
    have HC := hide (And.intro uc uf)
    clear U p1 p2 p3 uc uf c20 c21 c22 k5 hclose
    obtain ⟨hli, hby2⟩ := hxx
    rcases hli with rfl | rfl
    · refine wpIn_region_tail_named 8 (by kernel_rfl) (by kernel_rfl) (by kernel_rfl) (fun a w h => h) ?_
      intro A4 hA4
      have n20 : A4.cell? ⟨A.heap.size, 0, none⟩ = some (.int .i64 at') := by rw [hA4]; exact m20
      have n21 : A4.cell? ⟨A.heap.size, 1, none⟩ = some (.int .i64 0) := by rw [hA4]; exact m21
      have n22 : A4.cell? ⟨A.heap.size, 2, none⟩ = some (.int .i64 by') := by rw [hA4]; exact m22
      have no : A4.cell? ⟨w.heap.size + 1, 0, none⟩ = some (.int .i64 st.o0) := by rw [hA4]; exact mo0
      have nf : A4.frozen? ⟨w.heap.size + 1, 0, none⟩ = false := by rw [hA4]; exact mf0
      have no' : A4.cell? ⟨w.heap.size + 1, 1, none⟩ = some (.int .i64 st.o1) := by rw [hA4]; exact mo1
      have nfb : A4.cell? ⟨w.heap.size, 0, none⟩ = some (.func (.func g) #[] #[]) := by rw [hA4]; exact mfb
      have nla : A4.cell? ⟨w.heap.size + 3, 0, none⟩ = some (.int .i64 st.last) := by rw [hA4]; exact mla
      have nin : A4.cell? ⟨w.heap.size + 4, 0, none⟩ = some (.bool st.inn) := by rw [hA4]; exact min
      have nfl : A4.frozen? ⟨w.heap.size + 3, 0, none⟩ = false := by rw [hA4]; exact mfl
      have nfi : A4.frozen? ⟨w.heap.size + 4, 0, none⟩ = false := by rw [hA4]; exact mfi
      have HA4 := hide hA4
      have HB := hide hb2
      have HJ := hide J2
      clear hA4 m20 m21 m22 mo0 mo1 mf0 mf1 mfb mla min mfl mfi hb2 J2
      have b1 : -9223372036854775808 ≤ st.o0 + by' := by omega
      have b2 : st.o0 + by' ≤ 9223372036854775807 := by omega
      simp only [List.take_succ_cons, List.take_zero, List.drop_succ_cons, List.drop_zero]
      repeat still_step
      refine wpStill_nil ?_
      go_wp2_with (fail)
      obtain ⟨z, hz⟩ : ∃ z, st.o0 + by' = z := ⟨_, rfl⟩
      rw [hz]
      have HZ := hide hz
      have q0 : A.heap.size ≠ w.heap.size + 1 := by omega
      refine wpIn_region_tail_named 10 (by kernel_rfl) (by kernel_rfl) (by kernel_rfl) (fun a w h => h) ?_
      intro A5 hA5
      have k20 : A5.cell? ⟨A.heap.size, 0, none⟩ = some (.int .i64 at') := by rw [hA5]; simp [go_sem, n20, q0]
      have ko : A5.cell? ⟨w.heap.size + 1, 0, none⟩ = some (.int .i64 z) := by rw [hA5]; simp [go_sem, no]
      have ko' : A5.cell? ⟨w.heap.size + 1, 1, none⟩ = some (.int .i64 st.o1) := by rw [hA5]; simp [go_sem, no']
      have kfb : A5.cell? ⟨w.heap.size, 0, none⟩ = some (.func (.func g) #[] #[]) := by rw [hA5]; simp [go_sem, nfb]
      have kla : A5.cell? ⟨w.heap.size + 3, 0, none⟩ = some (.int .i64 st.last) := by rw [hA5]; simp [go_sem, nla]
      have kin : A5.cell? ⟨w.heap.size + 4, 0, none⟩ = some (.bool st.inn) := by rw [hA5]; simp [go_sem, nin]
      have kfl : A5.frozen? ⟨w.heap.size + 3, 0, none⟩ = false := by rw [hA5]; simp [go_sem, nfl]
      have kfi : A5.frozen? ⟨w.heap.size + 4, 0, none⟩ = false := by rw [hA5]; simp [go_sem, nfi]
      have HA5 := hide hA5
      clear hA5 n20 n21 n22 no nf no' nfb nla nin nfl nfi b1 b2 hz
      simp only [List.take_succ_cons, List.take_zero, List.drop_succ_cons, List.drop_zero]
      repeat still_step
      still_call ((HG.out _ _ _).mono fun _ _ q => ⟨q.1, q.2.symm⟩)
      refine wpStill_nil ?_
      go_wp2_with (fail)
      have hst : jstep h st (at', 0, by') = ⟨z, st.o1, jcl st.inn st.last st.out at', at', h (decide ((0 : Int) < z)) (decide ((0 : Int) < st.o1))⟩ := by
        have := HZ.out
        subst this
        rfl
      have hA5 := HA5.out
      have hA4 := HA4.out
      clear HA5 HA4 HZ
      refine ?fin
      case fin =>
        have R := jw_fin (rb := rw') (A7 := (A5.setCell ⟨w.heap.size + 3, 0, none⟩ (.int .i64 at')).setCell ⟨w.heap.size + 4, 0, none⟩ (.bool (h (decide ((0 : Int) < z)) (decide ((0 : Int) < st.o1))))) (st' := jstep h st (at', 0, by')) (b0 := 0) HJ.out HB.out HN.out HO2.out UU.out P1.out P2.out
          (by rw [hst]; exact P3.out) (by rw [hA5, hA4]; exact ⟨rfl, rfl, rfl, by simp [World.setCell]⟩)
          (fun k k1 k3 k4 => (Below.heap_setCell _ _ _ _ k4).trans ((Below.heap_setCell _ _ _ _ k3).trans (by rw [hA5, hA4]; exact Below.heap_setCell _ _ _ _ k1)))
          (fun p => by rw [hA5, hA4]; simp [go_sem]) (by rw [hst]; simp [go_sem, ko, ko']) (by rw [hst]; simp [go_sem, ko, ko']) (by rw [hst]; simp [go_sem, kla]) (by rw [hst]; simp [go_sem, kin]) (by omega) hr2
        exact ⟨R.1, R.2.1, by rw [HS.out]; exact R.2.2.1, R.2.2.2⟩
    · refine wpIn_region_tail_named 8 (by kernel_rfl) (by kernel_rfl) (by kernel_rfl) (fun a w h => h) ?_
      intro A4 hA4
      have n20 : A4.cell? ⟨A.heap.size, 0, none⟩ = some (.int .i64 at') := by rw [hA4]; exact m20
      have n21 : A4.cell? ⟨A.heap.size, 1, none⟩ = some (.int .i64 1) := by rw [hA4]; exact m21
      have n22 : A4.cell? ⟨A.heap.size, 2, none⟩ = some (.int .i64 by') := by rw [hA4]; exact m22
      have no : A4.cell? ⟨w.heap.size + 1, 1, none⟩ = some (.int .i64 st.o1) := by rw [hA4]; exact mo1
      have nf : A4.frozen? ⟨w.heap.size + 1, 1, none⟩ = false := by rw [hA4]; exact mf1
      have no' : A4.cell? ⟨w.heap.size + 1, 0, none⟩ = some (.int .i64 st.o0) := by rw [hA4]; exact mo0
      have nfb : A4.cell? ⟨w.heap.size, 0, none⟩ = some (.func (.func g) #[] #[]) := by rw [hA4]; exact mfb
      have nla : A4.cell? ⟨w.heap.size + 3, 0, none⟩ = some (.int .i64 st.last) := by rw [hA4]; exact mla
      have nin : A4.cell? ⟨w.heap.size + 4, 0, none⟩ = some (.bool st.inn) := by rw [hA4]; exact min
      have nfl : A4.frozen? ⟨w.heap.size + 3, 0, none⟩ = false := by rw [hA4]; exact mfl
      have nfi : A4.frozen? ⟨w.heap.size + 4, 0, none⟩ = false := by rw [hA4]; exact mfi
      have HA4 := hide hA4
      have HB := hide hb2
      have HJ := hide J2
      clear hA4 m20 m21 m22 mo0 mo1 mf0 mf1 mfb mla min mfl mfi hb2 J2
      have b1 : -9223372036854775808 ≤ st.o1 + by' := by omega
      have b2 : st.o1 + by' ≤ 9223372036854775807 := by omega
      simp only [List.take_succ_cons, List.take_zero, List.drop_succ_cons, List.drop_zero]
      repeat still_step
      refine wpStill_nil ?_
      go_wp2_with (fail)
      obtain ⟨z, hz⟩ : ∃ z, st.o1 + by' = z := ⟨_, rfl⟩
      rw [hz]
      have HZ := hide hz
      have q0 : A.heap.size ≠ w.heap.size + 1 := by omega
      refine wpIn_region_tail_named 10 (by kernel_rfl) (by kernel_rfl) (by kernel_rfl) (fun a w h => h) ?_
      intro A5 hA5
      have k20 : A5.cell? ⟨A.heap.size, 0, none⟩ = some (.int .i64 at') := by rw [hA5]; simp [go_sem, n20, q0]
      have ko : A5.cell? ⟨w.heap.size + 1, 1, none⟩ = some (.int .i64 z) := by rw [hA5]; simp [go_sem, no]
      have ko' : A5.cell? ⟨w.heap.size + 1, 0, none⟩ = some (.int .i64 st.o0) := by rw [hA5]; simp [go_sem, no']
      have kfb : A5.cell? ⟨w.heap.size, 0, none⟩ = some (.func (.func g) #[] #[]) := by rw [hA5]; simp [go_sem, nfb]
      have kla : A5.cell? ⟨w.heap.size + 3, 0, none⟩ = some (.int .i64 st.last) := by rw [hA5]; simp [go_sem, nla]
      have kin : A5.cell? ⟨w.heap.size + 4, 0, none⟩ = some (.bool st.inn) := by rw [hA5]; simp [go_sem, nin]
      have kfl : A5.frozen? ⟨w.heap.size + 3, 0, none⟩ = false := by rw [hA5]; simp [go_sem, nfl]
      have kfi : A5.frozen? ⟨w.heap.size + 4, 0, none⟩ = false := by rw [hA5]; simp [go_sem, nfi]
      have HA5 := hide hA5
      clear hA5 n20 n21 n22 no nf no' nfb nla nin nfl nfi b1 b2 hz
      simp only [List.take_succ_cons, List.take_zero, List.drop_succ_cons, List.drop_zero]
      repeat still_step
      still_call ((HG.out _ _ _).mono fun _ _ q => ⟨q.1, q.2.symm⟩)
      refine wpStill_nil ?_
      go_wp2_with (fail)
      have hst : jstep h st (at', 1, by') = ⟨st.o0, z, jcl st.inn st.last st.out at', at', h (decide ((0 : Int) < st.o0)) (decide ((0 : Int) < z))⟩ := by
        have := HZ.out
        subst this
        rfl
      have hA5 := HA5.out
      have hA4 := HA4.out
      clear HA5 HA4 HZ
      refine ?fin
      case fin =>
        have R := jw_fin (rb := rw') (A7 := (A5.setCell ⟨w.heap.size + 3, 0, none⟩ (.int .i64 at')).setCell ⟨w.heap.size + 4, 0, none⟩ (.bool (h (decide ((0 : Int) < st.o0)) (decide ((0 : Int) < z))))) (st' := jstep h st (at', 1, by')) (b0 := 0) HJ.out HB.out HN.out HO2.out UU.out P1.out P2.out
          (by rw [hst]; exact P3.out) (by rw [hA5, hA4]; exact ⟨rfl, rfl, rfl, by simp [World.setCell]⟩)
          (fun k k1 k3 k4 => (Below.heap_setCell _ _ _ _ k4).trans ((Below.heap_setCell _ _ _ _ k3).trans (by rw [hA5, hA4]; exact Below.heap_setCell _ _ _ _ k1)))
          (fun p => by rw [hA5, hA4]; simp [go_sem]) (by rw [hst]; simp [go_sem, ko, ko']) (by rw [hst]; simp [go_sem, ko, ko']) (by rw [hst]; simp [go_sem, kla]) (by rw [hst]; simp [go_sem, kin]) (by omega) hr2
        exact ⟨R.1, R.2.1, by rw [HS.out]; exact R.2.2.1, R.2.2.2⟩
  · rintro D W hD ⟨hJW, hbW⟩ hK
    obtain ⟨vo, ho, hown⟩ := hJW.out
    obtain ⟨Av, cv, hv, _⟩ := own_rd hown (fun _ => rfl)
    subst hv
    have HO := hide hown
    have HB := hide hbW
    clear hown hbW hJW
    simp only [Exit.inBlock, Exit.then]
    go_wp2_with (fail)
    refine ⟨by simp, .inl ⟨_, _, rfl, run_takeDeferred hK, ?_⟩⟩
    refine ⟨_, results_tmp rfl _ _ _, E, _, rfl, HP.out.1, HP.out.2, below_putObj HB.out (by omega) _, ?_⟩
    exact own_base (own_putObj HO.out hK rfl) (by omega)
end Go.Proofs.Ytamnaojheecopaa
