/- Texts laid together: Join, IdxC, SpanB, Held, MCuts, SortI, SlabA, SlabItA, SlabWA. Lemmas for the statements of this seat; no condition. -/
import Derived.Test.YtdolpeljengpaaaGreatPk2
import Derived.Laws.EntriesVeiled
import Derived.StillTactics
import Derived.Test.YtdolpeljengpaaaGreatPk1
import Derived.Deep.LoopGhost
import Derived.Shelf.Abstract
import Derived.OrdersHeld
import Derived.Deep.RegionHeld3
import Derived.Lib.SlicesCompact
import Derived.Test.YtdolpeljengpaaaGreatShelf
import Derived.Lib.OwnBridge
import Derived.OwnWalk

/- span.join: the sweep over the ends of two lists. -/
namespace Go.Proofs.YtdolpeljengpaaaGreat
open Go.RowKit
set_option linter.unusedVariables false
set_option linter.unusedSimpArgs false
attribute [local go_sem] Oper.semAt_some

def ptr (b : Nat) : Value := .pointer (some ⟨b, 0, none⟩)
/-- The variables of join, between two rounds: the boxes N .. N + 5; the row of the result at or above B. -/
structure JW (N B : Nat) (fv : Value) (st : JS) (W : World) : Prop where
  fb : W.cell? ⟨N, 0, none⟩ = some fv
  o0 : W.cell? ⟨N + 1, 0, none⟩ = some (.int .i64 st.o0)
  o1 : W.cell? ⟨N + 1, 1, none⟩ = some (.int .i64 st.o1)
  f0 : W.frozen? ⟨N + 1, 0, none⟩ = false
  f1 : W.frozen? ⟨N + 1, 1, none⟩ = false
  out : ∃ vo, W.cell? ⟨N + 2, 0, none⟩ = some vo ∧ W.ownsRow B 188 2 vo st.out.length (st.out.flatMap encS)
  fo : W.frozen? ⟨N + 2, 0, none⟩ = false
  la : W.cell? ⟨N + 3, 0, none⟩ = some (.int .i64 st.last)
  fl : W.frozen? ⟨N + 3, 0, none⟩ = false
  inn : W.cell? ⟨N + 4, 0, none⟩ = some (.bool st.inn)
  fi : W.frozen? ⟨N + 4, 0, none⟩ = false
  cl : W.cell? ⟨N + 5, 0, none⟩ = some (.func (.func 210) #[] #[ptr (N + 4), ptr (N + 3), ptr (N + 2)])
  low : N + 6 ≤ B
  size : B ≤ W.heap.size

/-- What keeps the blocks of cells keeps it. -/
theorem JW.keep {N B : Nat} {fv : Value} {st : JS} {W W' : World} (h : JW N B fv st W) (hs : W.heap.size ≤ W'.heap.size) (hk : ∀ (k : Nat) (o : Obj), W.heap[k]? = some o → o.isCells = true → W'.heap[k]? = some o) : JW N B fv st W' := by
  have key : ∀ {b o v}, W.cell? ⟨b, o, none⟩ = some v → W'.heap[b]? = W.heap[b]? := fun {b o v} e => by
    obtain ⟨ob, h1, h2⟩ := cells_of_cell e
    exact (hk b ob h1 h2).trans h1.symm
  have hc : ∀ {b o v}, W.cell? ⟨b, o, none⟩ = some v → W'.cell? ⟨b, o, none⟩ = some v := fun {b o v} e => (World.cell?_of_block (w := W) (a := ⟨b, o, none⟩) (key e)).trans e
  have hf : ∀ {b o v}, W.cell? ⟨b, 0, none⟩ = some v → W.frozen? ⟨b, o, none⟩ = false → W'.frozen? ⟨b, o, none⟩ = false := fun {b o v} c e => (World.frozen?_of_block (w := W) (a := ⟨b, o, none⟩) (key c)).trans e
  obtain ⟨vo, ho, hr⟩ := h.out
  refine ⟨hc h.fb, hc h.o0, hc h.o1, hf h.o0 h.f0, hf h.o0 h.f1, ⟨vo, hc ho, ?_⟩, hf ho h.fo, hc h.la, hf h.la h.fl, hc h.inn, hf h.inn h.fi, hc h.cl, h.low, Nat.le_trans h.size hs⟩
  refine ⟨hr.1, ?_⟩
  rcases hr.2 with hn | ⟨g, cap, cur, rfl, hb, hg, rest⟩
  · exact .inl hn
  · exact .inr ⟨g, cap, cur, rfl, hb, hk g _ hg rfl, rest⟩
theorem JW.below {N B : Nat} {fv : Value} {st : JS} {W W' : World} (h : JW N B fv st W) (hb : Below W.heap.size W W') : JW N B fv st W' :=
  h.keep hb.size fun k o hk _ => (hb.block k (Array.getElem?_eq_some_iff.1 hk).1).trans hk
theorem sum_jfold (h : Bool → Bool → Bool) : ∀ (E : List En) (st : JS) (n : Int), (∀ e ∈ E, e.2.2 = 1 ∨ e.2.2 = -1) → -n ≤ st.o0 → st.o0 ≤ n → -n ≤ st.o1 → st.o1 ≤ n →
    -(n + E.length) ≤ (E.foldl (jstep h) st).o0 ∧ (E.foldl (jstep h) st).o0 ≤ n + E.length ∧ -(n + E.length) ≤ (E.foldl (jstep h) st).o1 ∧ (E.foldl (jstep h) st).o1 ≤ n + E.length
  | [], st, n, _, h1, h2, h3, h4 => by simp; omega
  | e :: E, st, n, hE, h1, h2, h3, h4 => by
    have he := hE e (by simp)
    have := sum_jfold h E (jstep h st e) (n + 1) (fun x hx => hE x (by simp [hx])) (by simp only [jstep]; split <;> omega) (by simp only [jstep]; split <;> omega) (by simp only [jstep]; split <;> omega) (by simp only [jstep]; split <;> omega)
    simp only [List.foldl_cons, List.length_cons, Int.natCast_add, Int.natCast_one]
    omega
theorem jfold_snoc (h : Bool → Bool → Bool) (P : List En) (e : En) : jfold h (P ++ [e]) = jstep h (jfold h P) e := by
  unfold jfold
  rw [List.foldl_append]; rfl
theorem jout_len (h : Bool → Bool → Bool) (P : List En) (st : JS) : (P.foldl (jstep h) st).out.length ≤ st.out.length + P.length := by
  induction P generalizing st with
  | nil => simp
  | cons e P ih =>
    have := ih (jstep h st e)
    have h2 : (jstep h st e).out.length ≤ st.out.length + 1 := by
      show (jclose st e.1).length ≤ _
      unfold jclose sext
      split
      · split
        · split
          · rename_i q hq _
            obtain ⟨o, ho⟩ := List.getLast?_eq_some_iff.1 hq
            rw [ho]; simp
          · simp
        · simp
      · omega
    simp only [List.foldl_cons, List.length_cons]
    omega
theorem JW.putObj {N B : Nat} {fv : Value} {st : JS} {W : World} (h : JW N B fv st W) {l : Nat} {o o' : Obj} (hl : W.heap[l]? = some o) (ho : o.isCells = false) : JW N B fv st (W.putObj l o') :=
  h.keep (by simp) fun k x hk hx => (World.putObj_heap_other (fun hkl => by subst hkl; rw [hl] at hk; injection hk with hk; subst hk; rw [ho] at hx; cases hx)).trans hk

theorem jw_fin {N B rb : Nat} {fv vo vo' : Value} {st st' : JS} {W0 A2 A3 A7 : World} {b0 : Nat} (J2 : JW N B fv st A2) (hb2 : Below N W0 A2) (hown : A2.ownsRow B 188 2 vo st.out.length (st.out.flatMap encS)) (ho : A2.cell? ⟨N + 2, 0, none⟩ = some vo)
    (U : Upd (N + 2) vo.ownBlock A2 A3) (p1 : A3.cell? ⟨N + 2, 0, none⟩ = some vo') (p2 : A3.frozen? ⟨N + 2, 0, none⟩ = false) (p3 : A3.ownsRow B 188 2 vo' st'.out.length (st'.out.flatMap encS))
    (E7 : A7.os = A3.os ∧ A7.tape = A3.tape ∧ A7.output = A3.output ∧ A7.heap.size = A3.heap.size) (C7 : ∀ k, k ≠ N + 1 → k ≠ N + 3 → k ≠ N + 4 → A7.heap[k]? = A3.heap[k]?) (F7 : ∀ p, A7.frozen? p = A3.frozen? p)
    (z0 : A7.cell? ⟨N + 1, 0, none⟩ = some (.int .i64 st'.o0)) (z1 : A7.cell? ⟨N + 1, 1, none⟩ = some (.int .i64 st'.o1)) (z3 : A7.cell? ⟨N + 3, 0, none⟩ = some (.int .i64 st'.last)) (z4 : A7.cell? ⟨N + 4, 0, none⟩ = some (.bool st'.inn))
    (h1 : N + 7 ≤ rb) (h2 : rb < B) : KeepsFrom B A2 A7 ∧ KpB rb A2 A7 ∧ JW N B fv st' A7 ∧ Below N W0 A7 := by
  have hlow := J2.low
  have hsz := J2.size
  have hrow : ∀ k, vo.ownBlock = some k → B ≤ k := fun k hk => (hown.lt k hk).1
  have hsame : ∀ k, k < A2.heap.size → k ≠ N + 1 → k ≠ N + 2 → k ≠ N + 3 → k ≠ N + 4 → vo.ownBlock ≠ some k → A7.heap[k]? = A2.heap[k]? := fun k a b c d e f => (C7 k b d e).trans (U.block k a c f)
  have hc : ∀ k o, k < B → k ≠ N + 1 → k ≠ N + 2 → k ≠ N + 3 → k ≠ N + 4 → A7.cell? ⟨k, o, none⟩ = A2.cell? ⟨k, o, none⟩ := fun k o a b c d e => World.cell?_of_block (w := A2) (a := ⟨k, o, none⟩) (hsame k (by omega) b c d e fun f => by have := hrow k f; omega)
  have hf : ∀ k o, k < B → k ≠ N + 2 → A7.frozen? ⟨k, o, none⟩ = A2.frozen? ⟨k, o, none⟩ := fun k o a b => (F7 _).trans (U.frozen (by omega) b fun f => by have := hrow k f; omega)
  refine ⟨⟨by rw [E7.2.2.2]; exact U.size, fun k o hk ho' hco => ?_⟩, fun o => hc rb o h2 (by omega) (by omega) (by omega) (by omega), ?_, ?_⟩
  · have hk2 := (Array.getElem?_eq_some_iff.1 ho').1
    have hnr : vo.ownBlock ≠ some k := by
      intro f
      rcases hown.2 with ⟨rfl, _⟩ | ⟨g, cap, cur, rfl, _, hg, _⟩
      · simp [Value.ownBlock] at f
      · simp [Value.ownBlock] at f
        subst f
        rw [hg] at ho'
        injection ho' with ho'
        subst ho'
        cases hco
    exact (hsame k hk2 (by omega) (by omega) (by omega) (by omega) hnr).trans ho'
  · refine ⟨(hc N 0 (by omega) (by omega) (by omega) (by omega) (by omega)).trans J2.fb, z0, z1, (hf _ _ (by omega) (by omega)).trans J2.f0, (hf _ _ (by omega) (by omega)).trans J2.f1, ⟨vo', ?_, ?_⟩, ?_, z3, (hf _ _ (by omega) (by omega)).trans J2.fl, z4, (hf _ _ (by omega) (by omega)).trans J2.fi, (hc (N + 5) 0 (by omega) (by omega) (by omega) (by omega) (by omega)).trans J2.cl, hlow, ?_⟩
    · exact (World.cell?_of_block (w := A3) (a := ⟨N + 2, 0, none⟩) (C7 (N + 2) (by omega) (by omega) (by omega))).trans p1
    · refine ⟨p3.1, ?_⟩
      rcases p3.2 with hn | ⟨g, cap, cur, hv, hg, hh, r⟩
      · exact .inl hn
      · exact .inr ⟨g, cap, cur, hv, hg, (C7 g (by omega) (by omega) (by omega)).trans hh, r⟩
    · exact (F7 _).trans p2
    · rw [E7.2.2.2]; exact Nat.le_trans hsz U.size
  · refine ⟨(E7.1.trans U.os).trans hb2.os, (E7.2.1.trans U.tape).trans hb2.tape, (E7.2.2.1.trans U.output).trans hb2.output, ?_, fun k hk => ?_⟩
    · rw [E7.2.2.2]; exact Nat.le_trans hb2.size U.size
    · exact (hsame k (by omega) (by omega) (by omega) (by omega) (by omega) fun f => by have := hrow k f; omega).trans (hb2.block k hk)
set_option maxRecDepth 100000 in
set_option maxHeartbeats 2000000 in
theorem join_any (a b : List Sp) (va vb : Value) (w : World) (g : Nat) (h : Bool → Bool → Bool) (eg : ∀ args w, (callFunc g args).run Tryz.prog w = .ok (.enter g args) w) (hg : ∀ (x y : Bool) (W : World), Calls Tryz.prog g #[.bool x, .bool y] W fun e w' => e = .returned (.bool (h x y)) ∧ W = w')
    (ra : RdK encS 2 w w.heap.size va a) (rb : RdK encS 2 w w.heap.size vb b) (na : a.length ≤ 100000000) (nb : b.length ≤ 100000000) (ba : ∀ p ∈ a, validS p) (bb : ∀ p ∈ b, validS p) :
    Calls Tryz.prog 184 #[va, vb, .func (.func g) #[] #[]] w fun e w' => ∃ (E : List En) (v : Value), e = .returned v ∧ E.Perm (evs 0 a ++ evs 1 b) ∧ E.Pairwise (fun a b => a.1 ≤ b.1) ∧ Below w.heap.size w w' ∧
      w'.ownsRow w.heap.size 188 2 v (jfold h E).out.length ((jfold h E).out.flatMap encS) := by
  obtain ⟨A0, c0, hva, hra⟩ := ra
  obtain ⟨A1, c1, hvb, hrb⟩ := rb
  subst hva; subst hvb
  have RA : Hid (RdK encS 2 w w.heap.size (.slice A0 a.length c0) a) := hide ⟨_, _, rfl, hra⟩
  have RB : Hid (RdK encS 2 w w.heap.size (.slice A1 b.length c1) b) := hide ⟨_, _, rfl, hrb⟩
  clear hra hrb
  refine (callsIn_wide (n := 0)).1 ?_
  refine callsIn_of_wp_marks Tryz.func184 rfl trivial ?_
  simp only [Tryz.ntmps184, List.size_toArray, List.length_cons, List.length_nil, Nat.reduceAdd, Nat.reduceSub, Array.replicate_succ, Array.replicate_zero, List.push_toArray, List.append_toArray, List.nil_append, List.cons_append]
  refine wpIn_wide.2 ?_
  go_wp2_with (fail)
  obtain ⟨w1, hw1⟩ : ∃ w1, w1 = ((((((w.alloc (Obj.cells #[Value.func (Fn.func g) #[] #[]] 218)).alloc (Obj.cells #[Value.int IntKind.i64 0, Value.int IntKind.i64 0] 158)).alloc (Obj.cells #[Value.slice none 0 0] 182)).alloc (Obj.cells #[Value.int IntKind.i64 0] 3)).alloc (Obj.cells #[Value.bool false] 4)).alloc
     (Obj.cells #[.func (.func 210) #[] #[ptr (w.heap.size + 1 + 1 + 1 + 1), ptr (w.heap.size + 1 + 1 + 1), ptr (w.heap.size + 1 + 1)]] 278)).alloc (.cells #[.slice A0 a.length c0, .slice A1 b.length c1] 182) := ⟨_, rfl⟩
  have hb1 : Below w.heap.size w w1 := by
    rw [hw1]
    exact (((((((Below.refl _ w).alloc (Nat.le_refl _) _).alloc (by simp) _).alloc (by simp; omega) _).alloc (by simp; omega) _).alloc (by simp; omega) _).alloc (by simp; omega) _).alloc (by simp; omega) _
  have hs1 : w1.heap.size = w.heap.size + 7 := by rw [hw1]; simp
  have hJ : ∀ (B : Nat) (W : World), Below w1.heap.size w1 W → w.heap.size + 6 ≤ B → B ≤ W.heap.size → JW w.heap.size B (.func (.func g) #[] #[]) js0 W := by
    intro B W hb hB1 hB2
    have hc : ∀ b o, b < w.heap.size + 7 → W.cell? ⟨b, o, none⟩ = w1.cell? ⟨b, o, none⟩ := fun b o h => hb.cell (p := ⟨b, o, none⟩) (by show b < _; omega)
    have hf : ∀ b o, b < w.heap.size + 7 → W.frozen? ⟨b, o, none⟩ = w1.frozen? ⟨b, o, none⟩ := fun b o h => hb.frozen (p := ⟨b, o, none⟩) (by show b < _; omega)
    refine ⟨?_, ?_, ?_, ?_, ?_, ⟨.slice none 0 0, ?_, World.ownsRow_nil _ _ _ _⟩, ?_, ?_, ?_, ?_, ?_, ?_, hB1, hB2⟩
    all_goals first
      | (refine (hc _ _ (by omega)).trans ?_; rw [hw1]; simp [go_sem, js0, ptr]; done)
      | (refine (hf _ _ (by omega)).trans ?_; rw [hw1]; simp [go_sem]; done)
  have hL0 : w1.cell? ⟨w.heap.size + 6, 0, none⟩ = some (.slice A0 a.length c0) := by rw [hw1]; simp [go_sem]
  have hL1 : w1.cell? ⟨w.heap.size + 6, 1, none⟩ = some (.slice A1 b.length c1) := by rw [hw1]; simp [go_sem]
  have hends := ends_loop a b (w.heap.size + 6) 2 (.slice A0 a.length c0) (.slice A1 b.length c1) w1 (by omega) hL0 hL1 ((RA.out.below hb1).mono (by omega)) ((RB.out.below hb1).mono (by omega)) na nb ba bb
  have HJ := hide hJ
  clear hJ hL0 hL1 RA RB
  simp only [ptr] at hw1
  rw [← hw1]
  clear hw1
  refine hends.mono ?_
  rintro e wE ⟨E, Bx, rw', rfl, hp, hs, hbE, hr1, hr2, hit⟩
  go_wp2_with (fail)
  have HW : Hid (Below w.heap.size w wE) := hide (hb1.trans (hbE.mono (by omega)))
  have hsE : w.heap.size + 7 ≤ wE.heap.size := by have := hbE.size; omega
  have hJ0 := HJ.out wE.heap.size wE hbE (by omega) (Nat.le_refl _)
  have hEl : E.length ≤ 400000000 := by rw [hp.length_eq, List.length_append, evs_length, evs_length]; omega
  have hby : ∀ e ∈ E, (e.2.1 = 0 ∨ e.2.1 = 1) ∧ (e.2.2 = 1 ∨ e.2.2 = -1) := by
    intro e he
    rcases List.mem_append.1 (hp.mem_iff.1 he) with h1 | h1
    · obtain ⟨_, _, _, q1, q2⟩ := evs_mem h1
      exact ⟨.inl q1, q2⟩
    · obtain ⟨_, _, _, q1, q2⟩ := evs_mem h1
      exact ⟨.inr q1, q2⟩
  have HP : Hid (E.Perm (evs 0 a ++ evs 1 b) ∧ E.Pairwise (fun a b => a.1 ≤ b.1)) := hide ⟨hp, hs⟩
  have HG := hide hg
  clear HJ hb1 hbE hp hs hg na nb ba bb
  refine (wpIn_wide (n := 0)).1 ?_
  refine wp_range rfl (enters_of Tryz.func252 (by kernel_rfl) rfl) hit (Below.refl _ _) (fun x args A hx => by rw [hx]; rfl) KpB.trans ?_
    (fun pre W => JW w.heap.size wE.heap.size (.func (.func g) #[] #[]) (jfold h pre) W ∧ Below w.heap.size w W) (fun _ _ => False) ?_ ?_ (fun _ _ _ _ _ h => h.elim) ⟨hJ0, HW.out⟩ ?_ ?_ (fun _ _ _ _ h => h.elim)
  · intro A l o o' _ h1 h2 h3 off
    exact (cell_putObj h1 h2 h3 _).1
  · intro pre A B h1 hb
    exact ⟨h1.1.below hb, h1.2.trans (hb.mono h1.2.size)⟩
  · intro pre A l o o' h1 hl h2 h3 h4
    exact ⟨h1.1.putObj h2 h3, below_putObj h1.2 (by omega) _⟩
  · rintro l pre x args A ⟨hJA, hbA⟩ hpost rfl hl1 ⟨ol, hl2, hl3⟩
    obtain ⟨at', li, by'⟩ := x
    have hll : l < A.heap.size := (Array.getElem?_eq_some_iff.1 hl2).1
    obtain ⟨post, hpost⟩ := hpost
    have hlen : pre.length ≤ 400000000 := by rw [hpost, List.length_append] at hEl; omega
    have hbo := sum_jfold h pre js0 0 (fun e he => (hby e (by rw [hpost]; simp [he])).2) (by simp [js0]) (by simp [js0]) (by simp [js0]) (by simp [js0])
    have hol := jout_len h pre js0
    change _ ∧ _ ∧ _ ∧ _ at hbo
    have hxx := hby (at', li, by') (by rw [hpost]; simp)
    have HS := hide (jfold_snoc h pre (at', li, by'))
    change JW _ _ _ (pre.foldl (jstep h) js0) A at hJA
    change Hid (_ = jstep h (pre.foldl (jstep h) js0) _) at HS
    generalize pre.foldl (jstep h) js0 = st at *
    have hpl : (js0.out.length) = 0 := rfl
    rw [hpl] at hol
    clear hby hpost hJ0 HW hpl
    simp only [encE]
    gi_wp2
    refine ⟨KeepsFrom.of_below ((Below.refl _ _).alloc (Nat.le_refl _) _), fun o => World.cell?_alloc_lt A _ ⟨rw', o, none⟩ (by show rw' < _; omega), ?_⟩
    intro A2 g2 s2 e2 f2
    have c20 : A2.cell? ⟨A.heap.size, 0, none⟩ = some (.int .i64 at') := (e2 _).trans (by simp [go_sem])
    have c21 : A2.cell? ⟨A.heap.size, 1, none⟩ = some (.int .i64 li) := (e2 _).trans (by simp [go_sem])
    have c22 : A2.cell? ⟨A.heap.size, 2, none⟩ = some (.int .i64 by') := (e2 _).trans (by simp [go_sem])
    have s3 : A2.heap.size = A.heap.size + 1 := by rw [s2]; simp
    have J2 : JW w.heap.size wE.heap.size (.func (.func g) #[] #[]) st A2 :=
      (hJA.below ((Below.refl _ _).alloc (Nat.le_refl _) (.cells #[.int .i64 at', .int .i64 li, .int .i64 by'] 282))).keep (by omega) fun k o hk ho => (g2.block k (Array.getElem?_eq_some_iff.1 hk).1 (fun e => by
        injection e with e; subst e; rw [Below.heap_alloc _ _ _ hll, hl2] at hk; injection hk with hk; subst hk; rw [hl3] at ho; cases ho)).trans hk
    have hb2 : Below w.heap.size w A2 := (hbA.alloc (by omega) (.cells #[.int .i64 at', .int .i64 li, .int .i64 by'] 282)).grown g2 (by simp; omega) (fun k e => by injection e with e; omega)
    obtain ⟨vo, ho, hown⟩ := J2.out
    have hAE := hJA.size
    have hrow : ∀ k, vo.ownBlock = some k → wE.heap.size ≤ k ∧ k < A.heap.size := by
      intro k hk
      obtain ⟨v0, q1, q2⟩ := hJA.out
      have e : A2.cell? ⟨w.heap.size + 2, 0, none⟩ = A.cell? ⟨w.heap.size + 2, 0, none⟩ := (e2 _).trans (World.cell?_alloc_lt A _ ⟨w.heap.size + 2, 0, none⟩ (by show w.heap.size + 2 < A.heap.size; omega))
      rw [ho, q1] at e
      injection e with e
      subst e
      exact q2.lt k hk
    have hclose := close_any wE.heap.size (w.heap.size + 4) (w.heap.size + 3) (w.heap.size + 2) vo st.out st.last at' st.inn A2 J2.inn J2.la ho J2.fo (by omega) J2.size hown (by omega)
    have k5 := J2.cl
    have hAsz := hbA.size
    simp only [ptr] at k5
    have HN := hide hown
    have HO2 := hide ho
    clear e2 f2 g2 s2 hl2 hit hends hJA hbA hl3 ho hown
    simp only [Nat.add_assoc, Nat.reduceAdd]
    gi_wp2_with (first | (refine ⟨trivial, rfl, ?_⟩) | (gi_at_call 210; go_loud (refine (CallsIn.inRound l (callsIn_wide.2 hclose)).mono ?_); rintro e A3 ⟨rfl, vo', p1, p2, p3, U⟩))
    have uc : ∀ b o, b < A2.heap.size → b ≠ w.heap.size + 2 → (wE.heap.size ≤ b → A.heap.size ≤ b) → A3.cell? ⟨b, o, none⟩ = A2.cell? ⟨b, o, none⟩ := fun b o h1 h2 h3 => U.cell h1 h2 fun e => by have := hrow b e; omega
    have uf : ∀ b o, b < A2.heap.size → b ≠ w.heap.size + 2 → (wE.heap.size ≤ b → A.heap.size ≤ b) → A3.frozen? ⟨b, o, none⟩ = A2.frozen? ⟨b, o, none⟩ := fun b o h1 h2 h3 => U.frozen h1 h2 fun e => by have := hrow b e; omega
    have m20 := (uc A.heap.size 0 (by omega) (by omega) (by omega)).trans c20
    have m21 := (uc A.heap.size 1 (by omega) (by omega) (by omega)).trans c21
    have m22 := (uc A.heap.size 2 (by omega) (by omega) (by omega)).trans c22
    have mfb := (uc w.heap.size 0 (by omega) (by omega) (by omega)).trans J2.fb
    have mo0 := (uc (w.heap.size + 1) 0 (by omega) (by omega) (by omega)).trans J2.o0
    have mo1 := (uc (w.heap.size + 1) 1 (by omega) (by omega) (by omega)).trans J2.o1
    have mf0 := (uf (w.heap.size + 1) 0 (by omega) (by omega) (by omega)).trans J2.f0
    have mf1 := (uf (w.heap.size + 1) 1 (by omega) (by omega) (by omega)).trans J2.f1
    have mla := (uc (w.heap.size + 3) 0 (by omega) (by omega) (by omega)).trans J2.la
    have mfl := (uf (w.heap.size + 3) 0 (by omega) (by omega) (by omega)).trans J2.fl
    have min := (uc (w.heap.size + 4) 0 (by omega) (by omega) (by omega)).trans J2.inn
    have mfi := (uf (w.heap.size + 4) 0 (by omega) (by omega) (by omega)).trans J2.fi
    have UU := hide U
    have P3 := hide p3
    have P1 := hide p1
    have P2 := hide p2
    have HC := hide (And.intro uc uf)
    clear U p1 p2 p3 uc uf c20 c21 c22 k5 hclose
    obtain ⟨hli, hby2⟩ := hxx
    rcases hli with rfl | rfl
    · refine wpIn_region_tail_named 8 (by kernel_rfl) (by kernel_rfl) (by kernel_rfl) (fun a w h => h) ?_
      intro A4 hA4
      have n20 : A4.cell? ⟨A.heap.size, 0, none⟩ = some (.int .i64 at') := by rw [hA4]; exact m20
      have n21 : A4.cell? ⟨A.heap.size, 1, none⟩ = some (.int .i64 0) := by rw [hA4]; exact m21
      have n22 : A4.cell? ⟨A.heap.size, 2, none⟩ = some (.int .i64 by') := by rw [hA4]; exact m22
      have no : A4.cell? ⟨w.heap.size + 1, 0, none⟩ = some (.int .i64 st.o0) := by rw [hA4]; exact mo0
      have nf : A4.frozen? ⟨w.heap.size + 1, 0, none⟩ = false := by rw [hA4]; exact mf0
      have no' : A4.cell? ⟨w.heap.size + 1, 1, none⟩ = some (.int .i64 st.o1) := by rw [hA4]; exact mo1
      have nfb : A4.cell? ⟨w.heap.size, 0, none⟩ = some (.func (.func g) #[] #[]) := by rw [hA4]; exact mfb
      have nla : A4.cell? ⟨w.heap.size + 3, 0, none⟩ = some (.int .i64 st.last) := by rw [hA4]; exact mla
      have nin : A4.cell? ⟨w.heap.size + 4, 0, none⟩ = some (.bool st.inn) := by rw [hA4]; exact min
      have nfl : A4.frozen? ⟨w.heap.size + 3, 0, none⟩ = false := by rw [hA4]; exact mfl
      have nfi : A4.frozen? ⟨w.heap.size + 4, 0, none⟩ = false := by rw [hA4]; exact mfi
      have HA4 := hide hA4
      have HB := hide hb2
      have HJ := hide J2
      clear hA4 m20 m21 m22 mo0 mo1 mf0 mf1 mfb mla min mfl mfi hb2 J2
      have b1 : -9223372036854775808 ≤ st.o0 + by' := by omega
      have b2 : st.o0 + by' ≤ 9223372036854775807 := by omega
      simp only [List.take_succ_cons, List.take_zero, List.drop_succ_cons, List.drop_zero]
      repeat still_step
      refine wpStill_nil ?_
      go_wp2_with (fail)
      obtain ⟨z, hz⟩ : ∃ z, st.o0 + by' = z := ⟨_, rfl⟩
      rw [hz]
      have HZ := hide hz
      have q0 : A.heap.size ≠ w.heap.size + 1 := by omega
      refine wpIn_region_tail_named 10 (by kernel_rfl) (by kernel_rfl) (by kernel_rfl) (fun a w h => h) ?_
      intro A5 hA5
      have k20 : A5.cell? ⟨A.heap.size, 0, none⟩ = some (.int .i64 at') := by rw [hA5]; simp [go_sem, n20, q0]
      have ko : A5.cell? ⟨w.heap.size + 1, 0, none⟩ = some (.int .i64 z) := by rw [hA5]; simp [go_sem, no]
      have ko' : A5.cell? ⟨w.heap.size + 1, 1, none⟩ = some (.int .i64 st.o1) := by rw [hA5]; simp [go_sem, no']
      have kfb : A5.cell? ⟨w.heap.size, 0, none⟩ = some (.func (.func g) #[] #[]) := by rw [hA5]; simp [go_sem, nfb]
      have kla : A5.cell? ⟨w.heap.size + 3, 0, none⟩ = some (.int .i64 st.last) := by rw [hA5]; simp [go_sem, nla]
      have kin : A5.cell? ⟨w.heap.size + 4, 0, none⟩ = some (.bool st.inn) := by rw [hA5]; simp [go_sem, nin]
      have kfl : A5.frozen? ⟨w.heap.size + 3, 0, none⟩ = false := by rw [hA5]; simp [go_sem, nfl]
      have kfi : A5.frozen? ⟨w.heap.size + 4, 0, none⟩ = false := by rw [hA5]; simp [go_sem, nfi]
      have HA5 := hide hA5
      clear hA5 n20 n21 n22 no nf no' nfb nla nin nfl nfi b1 b2 hz
      simp only [List.take_succ_cons, List.take_zero, List.drop_succ_cons, List.drop_zero]
      repeat still_step
      still_call ((HG.out _ _ _).mono fun _ _ q => ⟨q.1, q.2.symm⟩)
      refine wpStill_nil ?_
      go_wp2_with (fail)
      have hst : jstep h st (at', 0, by') = ⟨z, st.o1, jcl st.inn st.last st.out at', at', h (decide ((0 : Int) < z)) (decide ((0 : Int) < st.o1))⟩ := by
        have := HZ.out
        subst this
        rfl
      have hA5 := HA5.out
      have hA4 := HA4.out
      clear HA5 HA4 HZ
      refine ?fin
      case fin =>
        have R := jw_fin (rb := rw') (A7 := (A5.setCell ⟨w.heap.size + 3, 0, none⟩ (.int .i64 at')).setCell ⟨w.heap.size + 4, 0, none⟩ (.bool (h (decide ((0 : Int) < z)) (decide ((0 : Int) < st.o1))))) (st' := jstep h st (at', 0, by')) (b0 := 0) HJ.out HB.out HN.out HO2.out UU.out P1.out P2.out
          (by rw [hst]; exact P3.out) (by rw [hA5, hA4]; exact ⟨rfl, rfl, rfl, by simp [World.setCell]⟩)
          (fun k k1 k3 k4 => (Below.heap_setCell _ _ _ _ k4).trans ((Below.heap_setCell _ _ _ _ k3).trans (by rw [hA5, hA4]; exact Below.heap_setCell _ _ _ _ k1)))
          (fun p => by rw [hA5, hA4]; simp [go_sem]) (by rw [hst]; simp [go_sem, ko, ko']) (by rw [hst]; simp [go_sem, ko, ko']) (by rw [hst]; simp [go_sem, kla]) (by rw [hst]; simp [go_sem, kin]) (by omega) hr2
        exact ⟨R.1, R.2.1, by rw [HS.out]; exact R.2.2.1, R.2.2.2⟩
    · refine wpIn_region_tail_named 8 (by kernel_rfl) (by kernel_rfl) (by kernel_rfl) (fun a w h => h) ?_
      intro A4 hA4
      have n20 : A4.cell? ⟨A.heap.size, 0, none⟩ = some (.int .i64 at') := by rw [hA4]; exact m20
      have n21 : A4.cell? ⟨A.heap.size, 1, none⟩ = some (.int .i64 1) := by rw [hA4]; exact m21
      have n22 : A4.cell? ⟨A.heap.size, 2, none⟩ = some (.int .i64 by') := by rw [hA4]; exact m22
      have no : A4.cell? ⟨w.heap.size + 1, 1, none⟩ = some (.int .i64 st.o1) := by rw [hA4]; exact mo1
      have nf : A4.frozen? ⟨w.heap.size + 1, 1, none⟩ = false := by rw [hA4]; exact mf1
      have no' : A4.cell? ⟨w.heap.size + 1, 0, none⟩ = some (.int .i64 st.o0) := by rw [hA4]; exact mo0
      have nfb : A4.cell? ⟨w.heap.size, 0, none⟩ = some (.func (.func g) #[] #[]) := by rw [hA4]; exact mfb
      have nla : A4.cell? ⟨w.heap.size + 3, 0, none⟩ = some (.int .i64 st.last) := by rw [hA4]; exact mla
      have nin : A4.cell? ⟨w.heap.size + 4, 0, none⟩ = some (.bool st.inn) := by rw [hA4]; exact min
      have nfl : A4.frozen? ⟨w.heap.size + 3, 0, none⟩ = false := by rw [hA4]; exact mfl
      have nfi : A4.frozen? ⟨w.heap.size + 4, 0, none⟩ = false := by rw [hA4]; exact mfi
      have HA4 := hide hA4
      have HB := hide hb2
      have HJ := hide J2
      clear hA4 m20 m21 m22 mo0 mo1 mf0 mf1 mfb mla min mfl mfi hb2 J2
      have b1 : -9223372036854775808 ≤ st.o1 + by' := by omega
      have b2 : st.o1 + by' ≤ 9223372036854775807 := by omega
      simp only [List.take_succ_cons, List.take_zero, List.drop_succ_cons, List.drop_zero]
      repeat still_step
      refine wpStill_nil ?_
      go_wp2_with (fail)
      obtain ⟨z, hz⟩ : ∃ z, st.o1 + by' = z := ⟨_, rfl⟩
      rw [hz]
      have HZ := hide hz
      have q0 : A.heap.size ≠ w.heap.size + 1 := by omega
      refine wpIn_region_tail_named 10 (by kernel_rfl) (by kernel_rfl) (by kernel_rfl) (fun a w h => h) ?_
      intro A5 hA5
      have k20 : A5.cell? ⟨A.heap.size, 0, none⟩ = some (.int .i64 at') := by rw [hA5]; simp [go_sem, n20, q0]
      have ko : A5.cell? ⟨w.heap.size + 1, 1, none⟩ = some (.int .i64 z) := by rw [hA5]; simp [go_sem, no]
      have ko' : A5.cell? ⟨w.heap.size + 1, 0, none⟩ = some (.int .i64 st.o0) := by rw [hA5]; simp [go_sem, no']
      have kfb : A5.cell? ⟨w.heap.size, 0, none⟩ = some (.func (.func g) #[] #[]) := by rw [hA5]; simp [go_sem, nfb]
      have kla : A5.cell? ⟨w.heap.size + 3, 0, none⟩ = some (.int .i64 st.last) := by rw [hA5]; simp [go_sem, nla]
      have kin : A5.cell? ⟨w.heap.size + 4, 0, none⟩ = some (.bool st.inn) := by rw [hA5]; simp [go_sem, nin]
      have kfl : A5.frozen? ⟨w.heap.size + 3, 0, none⟩ = false := by rw [hA5]; simp [go_sem, nfl]
      have kfi : A5.frozen? ⟨w.heap.size + 4, 0, none⟩ = false := by rw [hA5]; simp [go_sem, nfi]
      have HA5 := hide hA5
      clear hA5 n20 n21 n22 no nf no' nfb nla nin nfl nfi b1 b2 hz
      simp only [List.take_succ_cons, List.take_zero, List.drop_succ_cons, List.drop_zero]
      repeat still_step
      still_call ((HG.out _ _ _).mono fun _ _ q => ⟨q.1, q.2.symm⟩)
      refine wpStill_nil ?_
      go_wp2_with (fail)
      have hst : jstep h st (at', 1, by') = ⟨st.o0, z, jcl st.inn st.last st.out at', at', h (decide ((0 : Int) < st.o0)) (decide ((0 : Int) < z))⟩ := by
        have := HZ.out
        subst this
        rfl
      have hA5 := HA5.out
      have hA4 := HA4.out
      clear HA5 HA4 HZ
      refine ?fin
      case fin =>
        have R := jw_fin (rb := rw') (A7 := (A5.setCell ⟨w.heap.size + 3, 0, none⟩ (.int .i64 at')).setCell ⟨w.heap.size + 4, 0, none⟩ (.bool (h (decide ((0 : Int) < st.o0)) (decide ((0 : Int) < z))))) (st' := jstep h st (at', 1, by')) (b0 := 0) HJ.out HB.out HN.out HO2.out UU.out P1.out P2.out
          (by rw [hst]; exact P3.out) (by rw [hA5, hA4]; exact ⟨rfl, rfl, rfl, by simp [World.setCell]⟩)
          (fun k k1 k3 k4 => (Below.heap_setCell _ _ _ _ k4).trans ((Below.heap_setCell _ _ _ _ k3).trans (by rw [hA5, hA4]; exact Below.heap_setCell _ _ _ _ k1)))
          (fun p => by rw [hA5, hA4]; simp [go_sem]) (by rw [hst]; simp [go_sem, ko, ko']) (by rw [hst]; simp [go_sem, ko, ko']) (by rw [hst]; simp [go_sem, kla]) (by rw [hst]; simp [go_sem, kin]) (by omega) hr2
        exact ⟨R.1, R.2.1, by rw [HS.out]; exact R.2.2.1, R.2.2.2⟩
  · rintro D W hD ⟨hJW, hbW⟩ hK
    obtain ⟨vo, ho, hown⟩ := hJW.out
    obtain ⟨Av, cv, hv, _⟩ := own_rd hown (fun _ => rfl)
    subst hv
    have HO := hide hown
    have HB := hide hbW
    clear hown hbW hJW
    simp only [Exit.inBlock, Exit.then]
    go_wp2_with (fail)
    refine ⟨by simp, .inl ⟨_, _, rfl, run_takeDeferred hK, ?_⟩⟩
    refine ⟨_, results_tmp rfl _ _ _, E, _, rfl, HP.out.1, HP.out.2, below_putObj HB.out (by omega) _, ?_⟩
    exact own_base (own_putObj HO.out hK rfl) (by omega)
end Go.Proofs.YtdolpeljengpaaaGreat

/- slices.IndexFunc and slices.ContainsFunc at the program's structs. -/
namespace Go.Proofs.YtdolpeljengpaaaGreat
open Go.RowKit Go.Shelf
set_option linter.unusedVariables false
set_option linter.unusedSimpArgs false

set_option maxHeartbeats 1000000 in
/-- slices.IndexFunc here: the first place at which p holds, or -1. -/
theorem cfSpan_idx {w : World} {v : Value} {l : List Sp} (h : RdK encS 2 w w.heap.size v l) (hl : l.length ≤ 1000000000) (g : Nat) (lb : Array Value) (p : Sp → Bool)
    (eg : ∀ args w, (callFunc g args).run Tryz.prog w = .ok (.enter g args) w)
    (hp : ∀ (W : World) (x : Sp), x ∈ l → Below w.heap.size w W → Calls Tryz.prog g (#[.agg (encS x).toArray] ++ lb) W fun e w' => e = .returned (.bool (p x)) ∧ Below W.heap.size W w') :
    Calls Tryz.prog 209 #[v, .func (.func g) #[] lb] w fun e w' => e = .returned (.int .i64 (idxI p l)) ∧ Below w.heap.size w w' := by
  obtain ⟨A, c, rfl, hc⟩ := h
  go_enter Tryz.func209, Tryz.ntmps209
  go_wp2
  go_loopg [5, 8] l.length (fun gg _ s8 wr => ∃ kk : Nat, kk ≤ l.length ∧ l.length - kk ≤ gg ∧ s8 = .int .i64 kk ∧ Hid (Below w.heap.size w wr) ∧ Hid (∀ x ∈ l.take kk, p x = false))
  case atStart => exact ⟨0, Nat.zero_le _, by omega, rfl, hide (Below.refl _ w), hide (by simp)⟩
  case round =>
    obtain ⟨kk, hkk, hg, rfl, BW, A'⟩ := hrel
    by_cases hlt : kk < l.length
    · have hltz : (kk : Int) < (l.length : Int) := by omega
      obtain ⟨b, off, rfl, hb, hcell⟩ := hc (by intro e; rw [e] at hlt; simp at hlt)
      have hx : l[kk]? = some l[kk] := List.getElem?_eq_getElem hlt
      have hcall := hp wr l[kk] (List.getElem_mem hlt) BW.out
      have hfi : l.take (kk + 1) = l.take kk ++ [l[kk]] := List.take_succ_eq_append_getElem hlt
      have c0 : wr.cell? ⟨b, off + kk * 2, none⟩ = some (.int .i64 l[kk].1) := (BW.out.cell (p := ⟨b, off + kk * 2, none⟩) hb).trans (hcell kk _ hx 0 _ rfl)
      have c1 : wr.cell? ⟨b, off + kk * 2 + 1, none⟩ = some (.int .i64 l[kk].2) := (BW.out.cell (p := ⟨b, off + kk * 2 + 1, none⟩) hb).trans (hcell kk _ hx 1 _ rfl)
      clear hc hcell hp
      obtain ⟨x, hxe⟩ : ∃ x, l[kk] = x := ⟨_, rfl⟩
      have XE := hide hxe
      have FI := hide hfi
      rw [hxe] at hcall c0 c1
      clear hx hxe hfi
      cases hq : p x with
      | true =>
        have HQ := hide hq
        rw [hq] at hcall
        clear hq
        go_wp2_with (go_at_fn g; refine hcall.mono ?_; rintro e w' ⟨rfl, hb'⟩)
        go_ret
        refine ⟨ret_eq (int_eq ?_), BW.out.trans (hb'.mono BW.out.size)⟩
        have hxl : p l[kk] = true := by rw [XE.out]; exact HQ.out
        unfold idxI
        rw [if_pos (List.any_eq_true.2 ⟨l[kk], List.getElem_mem hlt, hxl⟩)]
        have : l.findIdx p = kk := by
          rw [List.findIdx_eq hlt]
          refine ⟨hxl, fun j hj => ?_⟩
          have := A'.out l[j] (by rw [List.mem_take_iff_getElem]; exact ⟨j, by omega, rfl⟩)
          simpa using this
        rw [this]
      | false =>
        have HQ := hide hq
        rw [hq] at hcall
        clear hq
        go_wp2_with (go_at_fn g; refine hcall.mono ?_; rintro e w' ⟨rfl, hb'⟩)
        go_roundg (l.length - (kk + 1))
        case measure => omega
        case rel =>
          refine ⟨kk + 1, by omega, by omega, by go_num, hide (BW.out.trans (hb'.mono BW.out.size)), hide fun y hy => ?_⟩
          rw [FI.out, List.mem_append] at hy
          rcases hy with hy | hy
          · exact A'.out y hy
          · simp only [List.mem_singleton] at hy
            rw [hy, XE.out]; exact HQ.out
    · have hltz : ¬ (kk : Int) < (l.length : Int) := by omega
      have hk : kk = l.length := by omega
      go_wp2
      go_ret
      refine ⟨ret_eq (int_eq ?_), BW.out⟩
      have hA := A'.out
      rw [hk, List.take_length] at hA
      unfold idxI
      rw [if_neg (by rw [List.any_eq_true]; rintro ⟨y, hy, hpy⟩; rw [hA y hy] at hpy; cases hpy)]

set_option maxHeartbeats 400000 in
/-- slices.ContainsFunc here. -/
theorem cfSpan_any {w : World} {v : Value} {l : List Sp} (h : RdK encS 2 w w.heap.size v l) (hl : l.length ≤ 1000000000) (g : Nat) (lb : Array Value) (p : Sp → Bool)
    (eg : ∀ args w, (callFunc g args).run Tryz.prog w = .ok (.enter g args) w)
    (hp : ∀ (W : World) (x : Sp), x ∈ l → Below w.heap.size w W → Calls Tryz.prog g (#[.agg (encS x).toArray] ++ lb) W fun e w' => e = .returned (.bool (p x)) ∧ Below W.heap.size W w') :
    Calls Tryz.prog 181 #[v, .func (.func g) #[] lb] w fun e w' => e = .returned (.bool (l.any p)) ∧ Below w.heap.size w w' := by
  have hi := cfSpan_idx h hl g lb p eg hp
  obtain ⟨A, c, rfl, hc⟩ := h
  clear hp hc eg
  cases ha : l.any p with
  | true =>
    simp only [idxI, ha, if_true] at hi
    clear ha
    obtain ⟨n, hn⟩ : ∃ n, l.findIdx p = n := ⟨_, rfl⟩
    rw [hn] at hi
    clear hn
    have hn0 : decide ((0 : Int) ≤ (n : Int)) = true := by simp
    go_enter Tryz.func181, Tryz.ntmps181
    go_wp2_with (go_at_call 209; refine hi.mono ?_; rintro e w1 ⟨rfl, hb1⟩)
    go_ret
    exact ⟨rfl, hb1⟩
  | false =>
    simp only [idxI, ha, Bool.false_eq_true, if_false] at hi
    clear ha
    go_enter Tryz.func181, Tryz.ntmps181
    go_wp2_with (go_at_call 209; refine hi.mono ?_; rintro e w1 ⟨rfl, hb1⟩)
    go_ret
    exact ⟨rfl, hb1⟩
end Go.Proofs.YtdolpeljengpaaaGreat

/- span.Make, span.Check, span.Union .. by their contracts, at lists in range. -/
namespace Go.Proofs.YtdolpeljengpaaaGreat
open Go.RowKit
set_option linter.unusedVariables false
set_option linter.unusedSimpArgs false

theorem sjoin_any (a b : List Sp) (va vb : Value) (w : World) (g : Nat) (h : Bool → Bool → Bool) (h0 : h false false = false) (eg : ∀ args w, (callFunc g args).run Tryz.prog w = .ok (.enter g args) w)
    (hg : ∀ (x y : Bool) (W : World), Calls Tryz.prog g #[.bool x, .bool y] W fun e w' => e = .returned (.bool (h x y)) ∧ W = w')
    (ra : RdK encS 2 w w.heap.size va a) (rb : RdK encS 2 w w.heap.size vb b) (na : a.length ≤ 100000000) (nb : b.length ≤ 100000000) (ba : ∀ p ∈ a, validS p) (bb : ∀ p ∈ b, validS p) :
    Calls Tryz.prog 184 #[va, vb, .func (.func g) #[] #[]] w fun e w' => ∃ A c, e = .returned (.slice A (sjoin h a b).length c) ∧ w'.ownsRow w.heap.size 188 2 (.slice A (sjoin h a b).length c) (sjoin h a b).length ((sjoin h a b).flatMap encS) ∧ Below w.heap.size w w' := by
  refine (join_any a b va vb w g h eg hg ra rb na nb ba bb).mono ?_
  rintro e w' ⟨E, v, rfl, hp, hs, hb, ho⟩
  obtain ⟨j1, j2⟩ := jfold_ok (h := h) h0 (fun p hp => (ba p hp).1) (fun p hp => (bb p hp).1) hp hs
  have e := sjoin_eq h0 (fun p hp => (ba p hp).1) (fun p hp => (bb p hp).1) j1 j2
  rw [e] at ho
  obtain ⟨A, c, rfl, hc⟩ := own_rd ho (fun _ => rfl)
  exact ⟨A, c, rfl, ho, hb⟩

def hOr (a b : Bool) : Bool := a || b
def hAnd (a b : Bool) : Bool := a && b
def hSub (a b : Bool) : Bool := a && !b
def hFst (a b : Bool) : Bool := a

theorem fst_any (x y : Bool) (W : World) : Calls Tryz.prog 185 #[.bool x, .bool y] W fun e w' => e = .returned (.bool (hFst x y)) ∧ W = w' := by
  go_enter Tryz.func185, Tryz.ntmps185
  go_wp2
  go_ret
  exact ⟨rfl, rfl⟩

theorem spInv_any (p : Sp) (w : World) :
    Calls Tryz.prog 182 #[.agg (encS p).toArray] w fun e w' => e = .returned (.bool (!decide (validS p))) ∧ Below w.heap.size w w' := by
  have hv := fun W => validS_any p W
  obtain ⟨a, b⟩ := p
  generalize decide (validS (a, b)) = r at hv ⊢
  show Calls Tryz.prog 182 #[.agg #[.int .i64 a, .int .i64 b]] w _
  change ∀ W, Calls Tryz.prog 183 #[.agg #[.int .i64 a, .int .i64 b]] W _ at hv
  go_enter Tryz.func182, Tryz.ntmps182
  go_wp2_with (go_at_call 183; refine (hv _).mono ?_; rintro e w1 ⟨rfl, hb⟩)
  go_ret
  exact ⟨rfl, ((Below.refl _ _).alloc (Nat.le_refl _) _).trans (hb.mono (by simp))⟩

theorem enter_fst : ∀ args w, (callFunc 185 args).run Tryz.prog w = .ok (.enter 185 args) w := enters_of Tryz.func185 (by kernel_rfl) rfl
theorem enter_spInv : ∀ args w, (callFunc 182 args).run Tryz.prog w = .ok (.enter 182 args) w := enters_of Tryz.func182 (by kernel_rfl) rfl

set_option maxHeartbeats 1000000 in
/-- span.Make of at most 400 valid spans. -/
theorem spanMake_ok {w : World} {v : Value} {l : List Sp} (hr : RdK encS 2 w w.heap.size v l) (hl : l.length ≤ 400) (hv : ∀ p ∈ l, validS p) :
    Calls Tryz.prog 143 #[v] w fun e w' => ∃ A c, e = .returned (.tuple #[.slice A (sjoin hFst l []).length c, .int .i64 0]) ∧ w'.ownsRow w.heap.size 188 2 (.slice A (sjoin hFst l []).length c) (sjoin hFst l []).length ((sjoin hFst l []).flatMap encS) ∧ Below w.heap.size w w' := by
  have hcf := cfSpan_any hr (by omega) 182 #[] (fun p => !decide (validS p)) enter_spInv (fun W x _ _ => spInv_any x W)
  have hany : l.any (fun p => !decide (validS p)) = false := by
    rw [List.any_eq_false]
    intro p hp
    simp [hv p hp]
  rw [hany] at hcf
  have hj := fun (W : World) (hb : Below w.heap.size w W) => sjoin_any l [] v (.slice none 0 0) W 185 hFst rfl enter_fst fst_any ((hr.below hb).mono hb.size) (RdK.nil none 0) (by omega) (by simp) hv (by simp)
  obtain ⟨A, c, rfl, _⟩ := hr
  have HCF := hide hcf
  have HJ := hide hj
  clear hcf hj hv hany
  generalize sjoin hFst l [] = r at *
  have hlz : (l.length : Int) ≤ 400 := by omega
  go_enter Tryz.func143, Tryz.ntmps143
  go_wp2_with (first
    | (go_at_call 181; refine HCF.out.mono ?_; rintro e w1 ⟨rfl, hb1⟩)
    | (go_at_call 184; refine (HJ.out _ hb1).mono ?_; rintro e w2 ⟨A2, c2, rfl, hr2, hb2⟩))
  go_ret2
  exact ⟨A2, c2, rfl, own_base hr2 hb1.size, hb1.trans (hb2.mono hb1.size)⟩
end Go.Proofs.YtdolpeljengpaaaGreat

/- A region that draws its order: reads that stay as they are under a condition S, and a tail in one order. The operation L, which waits for all reads (the store at the end), may break S. -/
namespace Go.Proofs.YtdolpeljengpaaaGreat
open Go.RowKit
set_option linter.unusedVariables false
set_option linter.unusedSimpArgs false

section
variable {P : Program} {ops : Array Oper} {Q : Exit → Act → World → Prop} {md : Region.Mode} {S : World → Prop}

/-- Whatever order is picked from here on, and S holds behind each operation but L. -/
def wpAnyE (P : Program) (md : Region.Mode) (ops : Array Oper) (Q : Exit → Act → World → Prop) (S : World → Prop) (L : Nat) : Nat → Array Bool → Act → World → Prop
  | 0, listed, a, w => Region.ready md ops listed = [] ∧ Q .normal a w
  | fuel + 1, listed, a, w =>
    (Region.ready md ops listed = [] → Q .normal a w) ∧
    ∀ i ∈ Region.ready md ops listed, wpOp P ops Q i (fun a' w' => (i ≠ L → S w') ∧ wpAnyE P md ops Q S L fuel (listed.setIfInBounds i true) a' w') a w

variable {L : Nat}
theorem wpAny_of_E : ∀ (fuel : Nat) (listed : Array Bool) (a : Act) (w : World), wpAnyE P md ops Q S L fuel listed a w → wpAny P md ops Q fuel listed a w
  | 0, _, _, _, h => h
  | fuel + 1, _, _, _, h => ⟨h.1, fun i hi => wpOp_mono (fun a' w' h' => wpAny_of_E fuel _ a' w' h'.2) (h.2 i hi)⟩

theorem wpAnyE_first {i : Nat} {oi : Oper} {v : Value} (hi : ops[i]? = some oi) (hsel : ∀ (j : Nat) (o : Oper) cs b, ops[j]? = some o → o.op ≠ .select cs b)
    (hQ : ∀ c a w, Q (.panic c) (a.put oi.dst v) w → Q (.panic c) a w) (hL : ∀ o, ops[L]? = some o → ∃ e ∈ o.after, Region.binds md e = true ∧ e.on = i) :
    ∀ (fuel : Nat) (listed : Array Bool) (a : Act) (w : World),
      (∀ j oj, ops[j]? = some oj → j ≠ i → listed.getD j true = false → (∀ e ∈ oj.after, Region.binds md e = true → e.on ≠ i) → oi.apart ops oj = true) →
      i ∈ Region.ready md ops listed → YieldsIf P ops S oi v a → S w →
      wpAnyE P md ops Q S L fuel (listed.setIfInBounds i true) (a.put oi.dst v) w → wpAnyE P md ops Q S L (fuel + 1) listed a w := by
  intro fuel
  induction fuel with
  | zero =>
    intro listed a w _ hr hy hS H
    refine ⟨fun h => (by rw [h] at hr; cases hr), fun j hj => ?_⟩
    by_cases hji : j = i
    · subst hji; exact hy.wpOp hi hS ⟨fun _ => hS, H⟩
    · have := ready_mono hj hji
      rw [H.1] at this
      cases this
  | succ fuel ih =>
    intro listed a w hfree hr hy hS H
    refine ⟨fun h => (by rw [h] at hr; cases hr), fun j hj => ?_⟩
    by_cases hji : j = i
    · subst hji; exact hy.wpOp hi hS ⟨fun _ => hS, H⟩
    · have h1 := H.2 j (ready_mono hj hji)
      obtain ⟨hjun, oj, hoj, hall⟩ := mem_ready.1 hj
      have hnot : ∀ e ∈ oj.after, Region.binds md e = true → e.on ≠ i := fun e he hb heq => by
        have g1 := hall e he hb
        have g0 := (mem_ready.1 hr).1
        rw [heq] at g1
        rcases Nat.lt_or_ge i listed.size with h' | h'
        · simp [h'] at g0 g1; rw [g0] at g1; cases g1
        · simp [Array.getElem?_eq_none h'] at g1
      have hjL : j ≠ L := by
        rintro rfl
        obtain ⟨e, he, hb, hon⟩ := hL oj hoj
        exact hnot e he hb hon
      have h2 := wpOp_putIf hoj (hfree j oj hoj hji hjun hnot) (fun cs b => hsel i oi cs b hi) (fun cs b => hsel j oj cs b hoj) hQ hy h1
      have hfree' : ∀ k ok, ops[k]? = some ok → k ≠ i → (listed.setIfInBounds j true).getD k true = false →
          (∀ e ∈ ok.after, Region.binds md e = true → e.on ≠ i) → oi.apart ops ok = true := fun k ok hk hki hun hno => by
        refine hfree k ok hk hki ?_ hno
        by_cases hjk : j = k
        · subst hjk; exact hjun
        · rw [getD_set_ne true hjk] at hun; exact hun
      refine wpOp_mono (fun a' w' h3 => ⟨fun _ => h3.2.1 hjL, ih (listed.setIfInBounds j true) a' w' hfree' (ready_mono hr (Ne.symm hji)) h3.1 (h3.2.1 hjL) ?_⟩) h2
      rw [Array.setIfInBounds_comm _ _ hji]
      exact h3.2.2

/-! ### One law for the whole region: n reads, in the order of the text, then a tail in one order -/
def pre (m : Nat) : Nat → Array Bool
  | 0 => Array.replicate m false
  | k + 1 => (pre m k).setIfInBounds k true
def waitsFor (md : Region.Mode) (ops : Array Oper) (L i : Nat) : Bool := match ops[L]? with | some o => o.after.any (fun e => Region.binds md e && e.on == i) | none => true
def heldB (md : Region.Mode) (ops : Array Oper) (n : Nat) : Bool :=
  Region.noSelect ops && decide (n < ops.size) && (List.range n).all (fun i => Region.free md ops (pre ops.size i) i && (Region.ready md ops (pre ops.size i)).contains i && waitsFor md ops (ops.size - 1) i) &&
    (List.range (ops.size - n)).all (fun j => Region.ready md ops (pre ops.size (n + j)) == [n + j]) && (Region.ready md ops (pre ops.size ops.size)).isEmpty

/-- The reads, one behind the other: each yields its value in every world that meets S. -/
def wpReads (P : Program) (ops : Array Oper) (S : World → Prop) (K : Act → Prop) : List Oper → Act → Prop
  | [], a => K a
  | o :: r, a => ∃ v, YieldsIf P ops S o v a ∧ wpReads P ops S K r (a.put o.dst v)
/-- The tail, one operation behind the other; behind each but the last S is shown anew. -/
def wpTail (P : Program) (ops : Array Oper) (S : World → Prop) (Q : Exit → Act → World → Prop) : List Oper → Act → World → Prop
  | [], a, w => Q .normal a w
  | o :: r, a, w => ∀ K : Act → World → Prop, (∀ a' w', (r ≠ [] → S w') → wpTail P ops S Q r a' w' → K a' w') → if Region.wanted o (yielded ops a.tmps) = true then o.wp P a w K Q else K (a.put o.dst undef) w
theorem wpTail_E {n : Nat} {l : List Oper} (hT : ∀ j, j < l.length - n → Region.ready md l.toArray (pre l.length (n + j)) = [n + j]) (hE : Region.ready md l.toArray (pre l.length l.length) = []) :
    ∀ (r : List Oper) (k : Nat) (a : Act) (w : World), n ≤ k → k + r.length = l.length → l.drop k = r → wpTail P l.toArray S Q r a w → wpAnyE P md l.toArray Q S (l.length - 1) r.length (pre l.length k) a w
  | [], k, a, w, hk, hl, hd, h => by
    obtain rfl : k = l.length := by simpa using hl
    exact ⟨hE, h⟩
  | o :: r, k, a, w, hk, hl, hd, h => by
    have hkl : k < l.length := by simp at hl; omega
    have hr := hT (k - n) (by omega)
    rw [show n + (k - n) = k by omega] at hr
    have ho : l.toArray[k]? = some o := by
      have : (l.drop k)[0]? = some o := by rw [hd]; rfl
      simpa using this
    have hd' : l.drop (k + 1) = r := by rw [← List.drop_drop, hd]; rfl
    refine ⟨fun h0 => (by rw [hr] at h0; cases h0), fun i hi => ?_⟩
    rw [hr] at hi
    obtain rfl : i = k := by simpa using hi
    refine wpOp_step ho fun K' hK => h K' fun a' w' hS hT' => hK a' w' ⟨fun hne => hS ?_, ?_⟩
    · rintro rfl
      simp at hl
      omega
    · exact wpTail_E hT hE r (i + 1) a' w' (by omega) (by simp at hl; omega) hd' hT'
theorem wpReads_E {n : Nat} {l : List Oper} (hsel : ∀ (j : Nat) (o : Oper) cs b, l.toArray[j]? = some o → o.op ≠ .select cs b) (hQ : ∀ c a a' w, Q (.panic c) a w → Q (.panic c) a' w)
    (hF : ∀ i, i < n → Region.free md l.toArray (pre l.length i) i = true ∧ i ∈ Region.ready md l.toArray (pre l.length i) ∧ waitsFor md l.toArray (l.length - 1) i = true) (hn : n ≤ l.length)
    {w : World} (hS : S w) (K : Act → Prop) (hK : ∀ a, K a → wpAnyE P md l.toArray Q S (l.length - 1) (l.length - n) (pre l.length n) a w) :
    ∀ (r : List Oper) (i : Nat) (a : Act), i + r.length = n → (l.take n).drop i = r → wpReads P l.toArray S K r a → wpAnyE P md l.toArray Q S (l.length - 1) (l.length - i) (pre l.length i) a w
  | [], i, a, hi, hd, h => by
    obtain rfl : i = n := by simpa using hi
    exact hK a h
  | o :: r, i, a, hi, hd, h => by
    have hin : i < n := by simp at hi; omega
    obtain ⟨f1, f2, f3⟩ := hF i hin
    obtain ⟨v, hy, h⟩ := h
    have ho : l.toArray[i]? = some o := by
      have : ((l.take n).drop i)[0]? = some o := by rw [hd]; rfl
      rw [List.getElem?_drop, List.getElem?_take] at this
      simpa [hin] using this
    have hd' : (l.take n).drop (i + 1) = r := by rw [← List.drop_drop, hd]; rfl
    have ih := wpReads_E hsel hQ hF hn hS K hK r (i + 1) (a.put o.dst v) (by simp at hi; omega) hd' h
    have e : l.length - i = (l.length - (i + 1)) + 1 := by omega
    rw [e]
    refine wpAnyE_first ho hsel (fun c a w h => hQ c _ _ w h) ?_ _ _ _ _ (Region.free_spec ho f1) f2 hy hS ih
    intro oL hoL
    unfold waitsFor at f3
    rw [hoL] at f3
    obtain ⟨e, he, h2⟩ := Array.any_eq_true'.1 f3
    simp only [Bool.and_eq_true, beq_iff_eq] at h2
    exact ⟨e, he, h2.1, h2.2⟩
/-- **The law.** -/
theorem wp_region_reads {id : Nat} {a : Act} {w : World} {l : List Oper} (n : Nat) (S : World → Prop) (hm : P.follows .mixedOrders = true) (hB : heldB .any l.toArray n = true) (hS : S w.drew)
    (h : wpReads P l.toArray S (fun a' => wpTail P l.toArray S (NoPanic Q) (l.drop n) a' w.drew) (l.take n) a) : (Code.region id l.toArray true).wp P Q a w := by
  refine wp_region_noPanic (wp_region_any hm (wpAny_of_E (S := S) (L := l.length - 1) _ _ _ _ ?_))
  simp only [heldB, Bool.and_eq_true, decide_eq_true_eq, List.all_eq_true, List.mem_range, beq_iff_eq, List.isEmpty_iff, List.size_toArray, List.contains_iff_mem] at hB
  obtain ⟨⟨⟨⟨b1, b2⟩, b3⟩, b4⟩, b5⟩ := hB
  have := wpReads_E (Q := NoPanic Q) (S := S) (n := n) (l := l) (w := w.drew) (Region.noSelect_spec b1) (fun _ _ _ _ h => h) (fun i hi => ⟨(b3 i hi).1.1, (b3 i hi).1.2, (b3 i hi).2⟩) (by omega) hS _
    (fun a' h' => by
      have h2 := wpTail_E (S := S) (n := n) b4 b5 (l.drop n) n a' w.drew (Nat.le_refl _) (by simp; omega) rfl h'
      rw [List.length_drop] at h2
      exact h2) (l.take n) 0 a (by simp; omega) rfl h
  simpa [pre] using this

/-! ### The same, where the reads hang on no cell: nothing is to be kept -/
def heldB0 (md : Region.Mode) (ops : Array Oper) (n : Nat) : Bool :=
  Region.noSelect ops && decide (n ≤ ops.size) && (List.range n).all (fun i => Region.free md ops (pre ops.size i) i && (Region.ready md ops (pre ops.size i)).contains i) &&
    (List.range (ops.size - n)).all (fun j => Region.ready md ops (pre ops.size (n + j)) == [n + j]) && (Region.ready md ops (pre ops.size ops.size)).isEmpty
/-! ### Reads that stand between calls: R, the reads, in an order in which they may come up; T, all else, in the one order that it has -/
def opAt (l : List Oper) (i : Nat) : Oper := (l[i]?).getD ⟨none, .move (.const undef), 0, "", #[], none⟩
def mixTB (md : Region.Mode) (ops : Array Oper) : List Nat → Array Bool → Bool
  | [], l => (Region.ready md ops l).isEmpty
  | t :: r, l => (Region.ready md ops l == [t]) && mixTB md ops r (l.setIfInBounds t true)
def mixRB (md : Region.Mode) (ops : Array Oper) (T : List Nat) : List Nat → Array Bool → Bool
  | [], l => mixTB md ops T l
  | i :: r, l => Region.free md ops l i && (Region.ready md ops l).contains i && waitsFor md ops (ops.size - 1) i && mixRB md ops T r (l.setIfInBounds i true)
def mixB (md : Region.Mode) (ops : Array Oper) (R T : List Nat) : Bool := Region.noSelect ops && decide (R.length + T.length = ops.size) && (T.getLast? == some (ops.size - 1)) && mixRB md ops T R (Array.replicate ops.size false)
theorem opAt_some {l : List Oper} {i : Nat} {o : Oper} (h : l[i]? = some o) : opAt l i = o := by simp [opAt, h]
theorem wpTail_mix {l : List Oper} : ∀ (T : List Nat) (listed : Array Bool) (a : Act) (w : World), (∀ t, T.getLast? = some t → t = l.length - 1) → mixTB md l.toArray T listed = true → wpTail P l.toArray S Q (T.map (opAt l)) a w → wpAnyE P md l.toArray Q S (l.length - 1) T.length listed a w
  | [], listed, a, w, _, hT, h => by
    simp only [mixTB, List.isEmpty_iff] at hT
    exact ⟨hT, h⟩
  | t :: r, listed, a, w, hL, hT, h => by
    simp only [mixTB, Bool.and_eq_true, beq_iff_eq] at hT
    refine ⟨fun h0 => (by rw [hT.1] at h0; cases h0), fun i hi => ?_⟩
    obtain ⟨_, o, ho, _⟩ := mem_ready.1 hi
    rw [hT.1] at hi
    obtain rfl : i = t := by simpa using hi
    have ho' : l[i]? = some o := by simpa using ho
    simp only [List.map_cons, opAt_some ho'] at h
    refine wpOp_step ho fun K' hK => h K' fun a' w' hS hT' => hK a' w' ⟨fun hne => hS fun hr => hne ?_, ?_⟩
    · have : r = [] := by simpa using hr
      subst this
      exact hL i rfl
    · refine wpTail_mix r _ a' w' (fun q hq => ?_) hT.2 hT'
      cases r with
      | nil => cases hq
      | cons x r => exact hL q (by rw [List.getLast?_cons_cons]; exact hq)
theorem wpReads_mix {l : List Oper} {T : List Nat} (hsel : ∀ (j : Nat) (o : Oper) cs b, l.toArray[j]? = some o → o.op ≠ .select cs b) (hQ : ∀ c a a' w, Q (.panic c) a w → Q (.panic c) a' w) (hL : ∀ t, T.getLast? = some t → t = l.length - 1)
    {w : World} (hS : S w) : ∀ (R : List Nat) (listed : Array Bool) (a : Act), mixRB md l.toArray T R listed = true → wpReads P l.toArray S (fun a' => wpTail P l.toArray S Q (T.map (opAt l)) a' w) (R.map (opAt l)) a →
      wpAnyE P md l.toArray Q S (l.length - 1) (R.length + T.length) listed a w
  | [], listed, a, hR, h => by
    rw [List.length_nil, Nat.zero_add]
    exact wpTail_mix T listed a w hL hR h
  | i :: r, listed, a, hR, h => by
    simp only [mixRB, Bool.and_eq_true, List.contains_iff_mem] at hR
    obtain ⟨⟨⟨f1, f2⟩, f3⟩, f4⟩ := hR
    obtain ⟨_, o, ho, _⟩ := mem_ready.1 f2
    have ho' : l[i]? = some o := by simpa using ho
    simp only [List.map_cons, opAt_some ho'] at h
    obtain ⟨v, hy, h⟩ := h
    have ih := wpReads_mix hsel hQ hL hS r _ _ f4 h
    rw [List.length_cons, Nat.add_right_comm]
    refine wpAnyE_first ho hsel (fun c a w h => hQ c _ _ w h) ?_ _ _ _ _ (Region.free_spec ho f1) f2 hy hS ih
    intro oL hoL
    unfold waitsFor at f3
    simp only [List.size_toArray] at f3
    rw [hoL] at f3
    obtain ⟨e, he, h2⟩ := Array.any_eq_true'.1 f3
    simp only [Bool.and_eq_true, beq_iff_eq] at h2
    exact ⟨e, he, h2.1, h2.2⟩
/-- **The law.** -/
theorem wp_region_mix {id : Nat} {a : Act} {w : World} {l : List Oper} (R T : List Nat) (S : World → Prop) (hm : P.follows .mixedOrders = true) (hB : mixB .any l.toArray R T = true) (hS : S w.drew)
    (h : wpReads P l.toArray S (fun a' => wpTail P l.toArray S (NoPanic Q) (T.map (opAt l)) a' w.drew) (R.map (opAt l)) a) : (Code.region id l.toArray true).wp P Q a w := by
  refine wp_region_noPanic (wp_region_any hm (wpAny_of_E (S := S) (L := l.length - 1) _ _ _ _ ?_))
  simp only [mixB, Bool.and_eq_true, decide_eq_true_eq, beq_iff_eq, List.size_toArray] at hB
  obtain ⟨⟨⟨b1, b2⟩, b3⟩, b4⟩ := hB
  have := wpReads_mix (Q := NoPanic Q) (S := S) (l := l) (T := T) (w := w.drew) (Region.noSelect_spec b1) (fun _ _ _ _ h => h) (fun t ht => by rw [b3] at ht; injection ht with ht; exact ht.symm) hS R _ a b4 h
  rw [b2] at this
  exact this
end
end Go.Proofs.YtdolpeljengpaaaGreat

/- Plain law: the cuts: sorted, without repetitions; and the pairs of neighbours. -/
namespace Go.Proofs.YtdolpeljengpaaaGreat
open Go.Lib
set_option linter.unusedVariables false
set_option linter.unusedSimpArgs false

theorem compact_up (d : Array Int) (hd : ∀ i j, i < j → j < d.size → d[i]! ≤ d[j]!) : ∀ m, m ≤ d.size → (compactUpTo d m).Pairwise (· < ·) ∧ (∀ x, x ∈ compactUpTo d m ↔ ∃ j, j < m ∧ d[j]! = x)
  | 0, _ => by simp [compactUpTo]
  | m + 1, hm => by
    obtain ⟨h1, h2⟩ := compact_up d hd m (by omega)
    rw [compactUpTo_succ]
    by_cases hk : keeps d m = true
    · rw [if_pos hk]
      refine ⟨?_, fun x => ?_⟩
      · rw [List.pairwise_append]
        refine ⟨h1, by simp, fun a ha b hb => ?_⟩
        simp at hb; subst hb
        obtain ⟨j, hj, rfl⟩ := (h2 a).1 ha
        simp only [keeps, decide_eq_true_eq] at hk
        rcases hk with hk | hk
        · omega
        · have e1 : d[j]! ≤ d[m - 1]! := by
            by_cases e : j = m - 1
            · rw [e]; exact Int.le_refl _
            · exact hd j (m - 1) (by omega) (by omega)
          have e2 := hd (m - 1) m (by omega) (by omega)
          omega
      · rw [List.mem_append, h2]
        simp only [List.mem_singleton]
        constructor
        · rintro (⟨j, hj, e⟩ | e)
          · exact ⟨j, by omega, e⟩
          · exact ⟨m, by omega, e.symm⟩
        · rintro ⟨j, hj, e⟩
          by_cases hjm : j = m
          · subst hjm; exact .inr e.symm
          · exact .inl ⟨j, by omega, e⟩
    · rw [if_neg hk]
      simp only [List.append_nil]
      refine ⟨h1, fun x => ?_⟩
      rw [h2]
      have hk' : ¬ (m = 0 ∨ d[m]! ≠ d[m - 1]!) := by simpa [keeps] using hk
      have hm0 : m ≠ 0 := fun e => hk' (.inl e)
      have he : d[m]! = d[m - 1]! := Classical.byContradiction fun e => hk' (.inr e)
      constructor
      · rintro ⟨j, hj, e⟩
        exact ⟨j, by omega, e⟩
      · rintro ⟨j, hj, e⟩
        by_cases hjm : j = m
        · subst hjm; exact ⟨j - 1, by omega, by rw [← he]; exact e⟩
        · exact ⟨j, by omega, e⟩

/-- The cuts of some numbers. -/
def cutsOf (xs : List Int) : List Int := compact (xs.mergeSort fun x y => decide (x ≤ y))
theorem cutsOf_ok (xs : List Int) : (cutsOf xs).Pairwise (· < ·) ∧ ∀ x, x ∈ cutsOf xs ↔ x ∈ xs := by
  have hs : (xs.mergeSort fun x y => decide (x ≤ y)).Pairwise (fun a b => a ≤ b) := by
    have := List.pairwise_mergeSort (le := fun (x y : Int) => decide (x ≤ y)) (fun a b c h1 h2 => by simp at *; omega) (fun a b => by simp; omega) xs
    simpa using this
  have hm := fun x => (List.mergeSort_perm xs fun x y => decide (x ≤ y)).mem_iff (a := x)
  unfold cutsOf
  generalize xs.mergeSort (fun x y => decide (x ≤ y)) = zs at hs hm
  have hd : ∀ i j, i < j → j < zs.toArray.size → zs.toArray[i]! ≤ zs.toArray[j]! := by
    intro i j hij hj
    have hj' : j < zs.length := by simpa using hj
    have := List.pairwise_iff_getElem.1 hs i j (by omega) hj' hij
    rw [getElem!_pos _ i (by simp; omega), getElem!_pos _ j hj]
    simpa using this
  obtain ⟨h1, h2⟩ := compact_up zs.toArray hd zs.length (by simp)
  refine ⟨h1, fun x => ?_⟩
  rw [← hm, show compact zs = compactUpTo zs.toArray zs.length from rfl, h2]
  constructor
  · rintro ⟨j, hj, rfl⟩
    rw [getElem!_pos _ j (by simpa using hj)]
    simp
  · intro hx
    obtain ⟨j, hj, e⟩ := List.getElem_of_mem hx
    exact ⟨j, hj, by rw [getElem!_pos _ j (by simpa using hj)]; simpa using e⟩
theorem cutsOf_len (xs : List Int) : (cutsOf xs).length ≤ xs.length := by
  unfold cutsOf
  have h1 : (xs.mergeSort fun x y => decide (x ≤ y)).length = xs.length := List.length_mergeSort xs
  generalize xs.mergeSort (fun x y => decide (x ≤ y)) = zs at h1
  have : (compact zs).length ≤ zs.length := by
    unfold compact compactUpTo
    rw [List.length_map]
    refine Nat.le_trans (List.length_filter_le _ _) (by simp)
  omega

/-- The pairs of neighbours. -/
def prs : List Int → List (Int × Int)
  | c :: d :: r => (c, d) :: prs (d :: r)
  | _ => []
theorem prs_len : ∀ (l : List Int), (prs l).length = l.length - 1
  | [] => rfl
  | [_] => rfl
  | c :: d :: r => by simp [prs, prs_len (d :: r)]
theorem prs_get : ∀ (l : List Int) (i : Nat) (x y : Int), l[i]? = some x → l[i + 1]? = some y → (prs l)[i]? = some (x, y)
  | [], i, x, y, h, _ => by simp at h
  | [c], i, x, y, _, h => by simp at h
  | c :: d :: r, 0, x, y, h1, h2 => by
    simp at h1 h2
    simp [prs, h1, h2]
  | c :: d :: r, i + 1, x, y, h1, h2 => by
    have := prs_get (d :: r) i x y (by simpa using h1) (by simpa using h2)
    simpa [prs] using this
/-- The sweep, as a fold over the pairs. -/
theorem sweep_prs (g : Int → List Sp) : ∀ (l : List Int) (acc : List Slab), sweep g acc l = (prs l).foldl (fun S p => addS S p.1 p.2 (g p.1)) acc
  | [], acc => rfl
  | [_], acc => rfl
  | c :: d :: r, acc => by
    show sweep g (addS acc c d (g c)) (d :: r) = _
    rw [sweep_prs g (d :: r)]
    rfl
end Go.Proofs.YtdolpeljengpaaaGreat

/- slices.Sort and slices.Compact on a row of the call's own. -/
namespace Go.Proofs.YtdolpeljengpaaaGreat
open Go.RowKit Go.Sort
set_option linter.unusedVariables false
set_option linter.unusedSimpArgs false

abbrev iv (x : Int) : Value := .int .i64 x
theorem own_grow {w : World} {base size : Nat} {e : TypeId} {v : Value} {n : Nat} {xs : List Value} (h : w.ownsRow base e size v n xs) (os : Array Obj) : (grow w os).ownsRow base e size v n xs := by
  refine ⟨h.1, ?_⟩
  rcases h.2 with hn | ⟨g, cap, cur, hv, hg, hh, r⟩
  · exact .inl hn
  · refine .inr ⟨g, cap, cur, hv, hg, ?_, r⟩
    show (w.heap ++ os)[g]? = _
    rw [Array.getElem?_append_left (Array.getElem?_eq_some_iff.1 hh).1]
    exact hh
theorem putRow_grown {α : Type} [Inhabited α] {enc : α → Value} (w : World) (q g : Nat) (d : Array α) (os : Array Obj) : w.grownBy (grow (putRow enc (Sort.ahead w q) g 0 d) os) (some g) := by
  refine ⟨rfl, rfl, rfl, ?_, fun k hk hne => ?_⟩
  · show w.heap.size ≤ (_ ++ os).size
    simp [putRow, mapBlock, Sort.ahead]
  · have hg : g ≠ k := fun e => hne (by rw [e])
    show ((putRow enc (Sort.ahead w q) g 0 d).heap ++ os)[k]? = _
    rw [Array.getElem?_append_left (by simpa [putRow, mapBlock, Sort.ahead] using hk)]
    simp [putRow, mapBlock, Sort.ahead, Array.getElem?_modify, hg]
theorem grown_self (w : World) (row : Option Nat) : w.grownBy w row := ⟨rfl, rfl, rfl, Nat.le_refl _, fun _ _ _ => rfl⟩
theorem own_form {w : World} {base size : Nat} {e : TypeId} {v : Value} {n : Nat} {xs : List Value} (h : w.ownsRow base e size v n xs) : ∃ A c, v = .slice A n c := by
  rcases h.2 with ⟨rfl, rfl⟩ | ⟨g, cap, cur, rfl, _⟩
  · exact ⟨_, _, rfl⟩
  · exact ⟨_, _, rfl⟩

theorem sortI_any (base : Nat) (v : Value) (zs : List Int) (w : World) (hown : w.ownsRow base 3 1 v zs.length (zs.map iv)) (hsz : zs.length < 4611686018427387904) :
    Calls Tryz.prog 178 #[v] w fun e w' => e = .returned (.tuple #[]) ∧ w'.ownsRow base 3 1 v zs.length ((zs.mergeSort fun x y => decide (x ≤ y)).map iv) ∧ w.grownBy w' v.ownBlock := by
  by_cases h0 : zs = []
  · subst h0
    obtain ⟨A, c, rfl⟩ := own_form hown
    refine (Tryz.slices_Sort_int_none A c w).mono ?_
    rintro e w' ⟨rfl, rfl⟩
    exact ⟨rfl, by simpa using hown, grown_self _ _⟩
  · have hv : v ≠ .slice none 0 0 := by
      rintro rfl
      rcases hown.2 with ⟨_, h⟩ | ⟨g, cap, cur, h, _⟩
      · exact h0 (List.eq_nil_of_length_eq_zero h)
      · cases h
    obtain ⟨g, cap, rfl, hb, hg, hn, hm, _, hH⟩ := Lib.holds_of_ownsRow hown hv
    refine (Tryz.slices_Sort_int g 0 cap zs w hH hg hsz).mono ?_
    rintro e w' ⟨rfl, n, os, rfl⟩
    refine ⟨rfl, own_grow ?_ os, putRow_grown _ _ _ _ _⟩
    have hl : (zs.mergeSort fun x y => decide (x ≤ y)).length = zs.length := List.length_mergeSort zs
    have := Lib.ownsRow_putRow (enc := iv) (q := n) (k := zs.length) (ys := zs.mergeSort fun x y => decide (x ≤ y)) hown hl (Nat.le_refl _)
    rw [List.take_of_length_le (by omega)] at this
    exact this

theorem compI_any (base : Nat) (v : Value) (zs : List Int) (w : World) (hown : w.ownsRow base 3 1 v zs.length (zs.map iv)) (hsz : zs.length < 4611686018427387904) :
    Calls Tryz.prog 179 #[v] w fun e w' => ∃ v', e = .returned v' ∧ v'.ownBlock = v.ownBlock ∧ w'.ownsRow base 3 1 v' (Lib.compact zs).length ((Lib.compact zs).map iv) ∧ w.grownBy w' v.ownBlock := by
  by_cases h0 : zs = []
  · subst h0
    obtain ⟨A, c, rfl⟩ := own_form hown
    refine (Tryz.slices_Compact_int_empty A c w).mono ?_
    rintro e w' ⟨rfl, rfl⟩
    exact ⟨_, rfl, rfl, hown, grown_self _ _⟩
  · have hv : v ≠ .slice none 0 0 := by
      rintro rfl
      rcases hown.2 with ⟨_, h⟩ | ⟨g, cap, cur, h, _⟩
      · exact h0 (List.eq_nil_of_length_eq_zero h)
      · cases h
    obtain ⟨g, cap, rfl, hb, hg, hn, hm, _, hH⟩ := Lib.holds_of_ownsRow hown hv
    refine (Tryz.slices_Compact_int g 0 cap zs w hH (by omega) hn).mono ?_
    rintro e w' ⟨rfl, q, rfl⟩
    have hle : (Lib.compact zs).length ≤ zs.length := Lib.compact_length_le zs
    have := Lib.ownsRow_putRow (enc := iv) (q := q) (k := (Lib.compact zs).length) (ys := Lib.compact zs ++ List.replicate (zs.length - (Lib.compact zs).length) 0) hown (by simp; omega) hle
    rw [List.take_left] at this
    refine ⟨_, rfl, rfl, this, ?_⟩
    have h2 := putRow_grown (enc := iv) w q g (Lib.compact zs ++ List.replicate (zs.length - (Lib.compact zs).length) 0).toArray #[]
    rwa [Go.Sort.grow_empty] at h2
end Go.Proofs.YtdolpeljengpaaaGreat

/- region.slabs: the cuts of some lists, and the iterator bound to them. -/
namespace Go.Proofs.YtdolpeljengpaaaGreat
open Go.RowKit
set_option linter.unusedVariables false
set_option linter.unusedSimpArgs false

theorem infoIA : (Tryz.prog.info? 3).map (fun i => (i.zero, i.size, i.bytes)) = some (some (.int .i64 0), 1, 8) := by kernel_rfl
theorem cutsL_take (l : List R4) (m : Nat) (r : R4) (h : l[m]? = some r) : cutsL (l.take (m + 1)) = cutsL (l.take m) ++ [r.x0, r.x1] := by
  obtain ⟨hm, hp⟩ := List.getElem?_eq_some_iff.1 h
  rw [List.take_succ_eq_append_getElem hm, hp]
  simp [cutsL]
theorem cutsL_len (l : List R4) : (cutsL l).length = 2 * l.length := by
  induction l with
  | nil => rfl
  | cons p s ih => simp [cutsL] at ih ⊢; omega
theorem flat_take (ls : List (List R4)) (k : Nat) (l : List R4) (h : ls[k]? = some l) : (ls.take (k + 1)).flatMap cutsL = (ls.take k).flatMap cutsL ++ cutsL l := by
  obtain ⟨hm, hp⟩ := List.getElem?_eq_some_iff.1 h
  rw [List.take_succ_eq_append_getElem hm, hp]
  simp
theorem len_take (ls : List (List R4)) (k : Nat) (l : List R4) (h : ls[k]? = some l) : ((ls.take k).flatMap cutsL).length + (cutsL l).length ≤ (ls.flatMap cutsL).length := by
  rw [← List.length_append, ← flat_take ls k l h]
  conv => rhs; rw [← List.take_append_drop (k + 1) ls]
  rw [List.flatMap_append, List.length_append]; omega

/-- 'x = append(x, ..)' at a variable in a box o, ahead of whose rows (from B on) it lies. -/
theorem box_fin {B o : Nat} {w1 wa w2 : World} {row : Option Nat} {v2 x : Value} {e : TypeId} {size n : Nat} {xs : List Value} (ks : B ≤ w1.heap.size) (hoB : o < B) (k3 : w1.cell? ⟨o, 0, none⟩ = some x) (k4 : w1.frozen? ⟨o, 0, none⟩ = false)
    (ha : Below w1.heap.size w1 wa) (hgrow : wa.grownBy w2 row) (hr : ∀ k, row = some k → B ≤ k) (hown2 : w2.ownsRow B e size v2 n xs) :
    w2.cell? ⟨o, 0, none⟩ = some x ∧ w2.frozen? ⟨o, 0, none⟩ = false ∧ Hid ((w2.setCell ⟨o, 0, none⟩ v2).cell? ⟨o, 0, none⟩ = some v2 ∧ (w2.setCell ⟨o, 0, none⟩ v2).frozen? ⟨o, 0, none⟩ = false ∧
      (w2.setCell ⟨o, 0, none⟩ v2).ownsRow B e size v2 n xs ∧ Below o w1 (w2.setCell ⟨o, 0, none⟩ v2) ∧ (∀ q off, q < B → q ≠ o → (w2.setCell ⟨o, 0, none⟩ v2).cell? ⟨q, off, none⟩ = w1.cell? ⟨q, off, none⟩) ∧ w1.heap.size ≤ (w2.setCell ⟨o, 0, none⟩ v2).heap.size) := by
  have hb : Below B w1 w2 := (ha.mono ks).grown hgrow (by have := ha.size; omega) hr
  have c := (hb.cell (p := ⟨o, 0, none⟩) hoB).trans k3
  have f := (hb.frozen (p := ⟨o, 0, none⟩) hoB).trans k4
  refine ⟨c, f, hide ⟨by simp [go_sem, c], by simp [go_sem, f], ownsRow_setCell_below hown2 hoB _, (hb.mono (Nat.le_of_lt hoB)).setCell (p := ⟨o, 0, none⟩) (Nat.le_refl o) _, fun q off hq hne => ?_, ?_⟩⟩
  · refine (World.cell?_of_block (w := w2) (a := ⟨q, off, none⟩) (Below.heap_setCell _ _ _ _ hne)).trans (hb.cell (p := ⟨q, off, none⟩) hq)
  · have := hb.size
    simpa [World.setCell] using this

set_option maxHeartbeats 2000000 in
theorem slabsA_any (ls : List (List R4)) (L c : Nat) (w : World) (hL : L < w.heap.size) (hv : ∀ k l, ls[k]? = some l → ∃ v, w.cell? ⟨L, k, none⟩ = some v ∧ RdK encR 4 w w.heap.size v l) (hn : (ls.flatMap cutsL).length ≤ 100000000) (hls : ls.length ≤ 1000) :
    Calls Tryz.prog 142 #[.slice (some ⟨L, 0, none⟩) ls.length c] w fun e w' => ∃ v, e = .returned (.func (.func 180) #[] #[.pointer (some ⟨w.heap.size + 1, 0, none⟩), .pointer (some ⟨w.heap.size, 0, none⟩)]) ∧
      w'.cell? ⟨w.heap.size, 0, none⟩ = some (.slice (some ⟨L, 0, none⟩) ls.length c) ∧ w'.cell? ⟨w.heap.size + 1, 0, none⟩ = some v ∧ w'.ownsRow (w.heap.size + 2) 3 1 v (cutsOf (ls.flatMap cutsL)).length ((cutsOf (ls.flatMap cutsL)).map iv) ∧ Below w.heap.size w w' := by
  obtain ⟨i0, hi, hz0, hz1, hz2⟩ := info_parts infoIA
  have HV := hide hv
  clear hv
  go_enter Tryz.func142, Tryz.ntmps142
  go_wp2
  go_loopw [10] (fun i wr => ∃ k : Nat, k ≤ ls.length ∧ i = .int .i64 k ∧ ∃ v, wr.cell? ⟨w.heap.size + 1, 0, none⟩ = some v ∧ wr.frozen? ⟨w.heap.size + 1, 0, none⟩ = false ∧ wr.cell? ⟨w.heap.size, 0, none⟩ = some (.slice (some ⟨L, 0, none⟩) ls.length c) ∧
      wr.ownsRow (w.heap.size + 2) 3 1 v ((ls.take k).flatMap cutsL).length (((ls.take k).flatMap cutsL).map iv) ∧ Below w.heap.size w wr ∧ w.heap.size + 2 ≤ wr.heap.size)
    (fun i _ => ls.length - (intOf i).toNat)
  case atStart =>
    refine ⟨0, Nat.zero_le _, rfl, .slice none 0 0, by simp [go_sem], by simp [go_sem], by simp [go_sem], World.ownsRow_nil _ _ _ _, ((Below.refl _ _).alloc (Nat.le_refl _) _).alloc (by simp) _, by simp⟩
  case round =>
    obtain ⟨k, hk, rfl, v, hc1, hf1, hc0, hown, hb, hsz⟩ := hrel
    by_cases hlt : k < ls.length
    · obtain ⟨l, hlk⟩ : ∃ l, ls[k]? = some l := ⟨_, List.getElem?_eq_getElem hlt⟩
      obtain ⟨vl, hcl, A, c0, rfl, hrd⟩ := HV.out k l hlk
      have hcl' : wr.cell? ⟨L, k, none⟩ = some (.slice A l.length c0) := (hb.cell (p := ⟨L, k, none⟩) hL).trans hcl
      have hle := len_take ls k l hlk
      have HK := hide (flat_take ls k l hlk)
      have HR := hide hrd
      have hkz : (k : Int) < (ls.length : Int) := by omega
      rw [cutsL_len] at hle
      generalize (ls.take k).flatMap cutsL = P at *
      generalize wr = w1 at *
      clear hcl hrd
      go_wp2
      go_loopw [16] (fun j wi => ∃ m : Nat, m ≤ l.length ∧ j = .int .i64 m ∧ ∃ v, wi.cell? ⟨w.heap.size + 1, 0, none⟩ = some v ∧ wi.frozen? ⟨w.heap.size + 1, 0, none⟩ = false ∧ wi.cell? ⟨w.heap.size, 0, none⟩ = some (.slice (some ⟨L, 0, none⟩) ls.length c) ∧
          wi.ownsRow (w.heap.size + 2) 3 1 v (P ++ cutsL (l.take m)).length ((P ++ cutsL (l.take m)).map iv) ∧ Below w.heap.size w wi ∧ w.heap.size + 2 ≤ wi.heap.size)
        (fun j _ => l.length - (intOf j).toNat)
      case atStart => exact ⟨0, by omega, rfl, v, hc1, hf1, hc0, by simpa [cutsL] using hown, hb, hsz⟩
      case round =>
        clear hc1 hf1 hc0 hown
        obtain ⟨m, hm, rfl, v, hc1, hf1, hc0, hownm, hbm, hszm⟩ := hrel
        by_cases hml : m < l.length
        · obtain ⟨⟨x0, y0, x1, y1⟩, hp⟩ : ∃ p, l[m]? = some p := ⟨_, List.getElem?_eq_getElem hml⟩
          have hne : l ≠ [] := by intro e; rw [e] at hml; simp at hml
          obtain ⟨bk, off, rfl, hbk, hcell⟩ := HR.out hne
          have d0 : wr.cell? ⟨bk, off + m * 4, none⟩ = some (.int .i64 x0) := (hbm.cell hbk).trans (hcell m _ hp 0 _ rfl)
          have d1 : wr.cell? ⟨bk, off + m * 4 + 1, none⟩ = some (.int .i64 y0) := (hbm.cell hbk).trans (hcell m _ hp 1 _ rfl)
          have d2 : wr.cell? ⟨bk, off + m * 4 + 2, none⟩ = some (.int .i64 x1) := (hbm.cell hbk).trans (hcell m _ hp 2 _ rfl)
          have d3 : wr.cell? ⟨bk, off + m * 4 + 3, none⟩ = some (.int .i64 y1) := (hbm.cell hbk).trans (hcell m _ hp 3 _ rfl)
          have hmz : (m : Int) < (l.length : Int) := by omega
          have hlenE : (P ++ cutsL (l.take m)).length ≤ 100000000 := by rw [List.length_append, cutsL_len, List.length_take]; omega
          have HE : Hid (P ++ cutsL (l.take (m + 1)) = P ++ cutsL (l.take m) ++ [x0, x1]) := hide (by rw [cutsL_take l m _ hp, List.append_assoc])
          obtain ⟨Av, cv, rfl⟩ := own_form hownm
          have hlt1 : w.heap.size + 1 < wr.heap.size := by omega
          have hlt0 : w.heap.size < wr.heap.size := by omega
          clear hcell
          generalize P ++ cutsL (l.take m) = E0 at *
          go_wp2_with (at_builtin; go_loud (refine wpList_append_lies _ rfl (.tmp 20) (.tmp 25) 156 rfl (w.heap.size + 2) 3 i0 (.int .i64 0) 1 8 Tryz.underlying156 hi hz0 hz1 hz2 rfl (by decide) _ _ _ rfl ((hownm.alloc _).alloc _) ⟨wr.heap.size + 1, 0, none⟩ 2 2 [.int .i64 x0, .int .i64 x1] rfl rfl (news_new (wr.alloc _) _ _ _ (by simp)) (ints_one rfl) (by omega) (by unfold maxLen; omega) (by omega) (by simp; omega) _ rfl ?_))
          intro g cap w2 hown2 hgrow _ _
          have hx2 : E0.map iv ++ [.int .i64 x0, .int .i64 x1] = (E0 ++ [x0, x1]).map iv := by simp
          have HL : Hid (E0.length + 2 = (P ++ cutsL (l.take (m + 1))).length) := hide (by rw [HE.out]; simp)
          rw [hx2, ← HE.out] at hown2
          obtain ⟨k3, k4, HF⟩ := box_fin hszm (Nat.lt_succ_self _) hc1 hf1 (((Below.refl _ wr).alloc (Nat.le_refl _) _).alloc (by simp) _) hgrow (fun k h => (hownm.lt k h).1) hown2
          have HC := hide hc0
          clear hown2 hgrow hownm hx2 hc1 hf1 hc0 d0 d1 d2 d3
          go_wp2
          go_roundw
          case rel =>
            obtain ⟨z1, z2, z3, z4, z5, z6⟩ := HF.out
            exact ⟨m + 1, by omega, by go_num, _, z1, z2, (z5 _ _ (by omega) (by omega)).trans HC.out, own_n z3 HL.out, hbm.trans (z4.mono (by omega)), by omega⟩
          case measure => simp [intOf]; omega
        · have hme : ¬ (m : Int) < (l.length : Int) := by omega
          have hmt : l.take m = l := List.take_of_length_le (by omega)
          rw [hmt, ← HK.out] at hownm
          have HO := hide hownm
          clear hmt hownm
          go_wp2
          go_roundw
          case rel => exact ⟨k + 1, by omega, by go_num, v, hc1, hf1, hc0, HO.out, hbm, hszm⟩
          case measure => simp [intOf]; omega
    · have hkz : ¬ (k : Int) < (ls.length : Int) := by omega
      have hkt : ls.take k = ls := List.take_of_length_le (by omega)
      rw [hkt] at hown
      have HO := hide hown
      clear hkt hown
      have hl : (ls.flatMap cutsL).length < 4611686018427387904 := by omega
      have hlm : ((ls.flatMap cutsL).mergeSort fun x y => decide (x ≤ y)).length = (ls.flatMap cutsL).length := List.length_mergeSort _
      have HM := hide hlm
      have HC0 := hide hc0
      clear hc0 hlm
      go_wp2_with (first
        | (go_at_call 178; refine (sortI_any _ v _ wr HO.out hl).mono ?_; rintro e w1 ⟨rfl, ho1, hg1⟩; have hb1 : Below (w.heap.size + 2) wr w1 := (Below.refl _ _).grown hg1 hsz (fun k h => (HO.out.lt k h).1); have e1 := (hb1.cell (p := ⟨w.heap.size + 1, 0, none⟩) (Nat.lt_succ_self _)).trans hc1; have HO1 := hide ho1; have HB1 := hide hb1; clear ho1 hg1 hb1)
        | (go_at_call 179; refine (compI_any _ v _ w1 (own_n HO1.out HM.out.symm) (by rw [HM.out]; exact hl)).mono ?_; rintro e w2 ⟨v2, rfl, hv2, ho2, hg2⟩; have hb2 : Below (w.heap.size + 2) w1 w2 := (Below.refl _ _).grown hg2 (Nat.le_trans hsz HB1.out.size) (fun k h => (HO1.out.lt k h).1); have e2 := (hb2.cell (p := ⟨w.heap.size + 1, 0, none⟩) (Nat.lt_succ_self _)).trans e1; have f2 := ((HB1.out.trans hb2).frozen (p := ⟨w.heap.size + 1, 0, none⟩) (Nat.lt_succ_self _)).trans hf1; have HO2 := hide ho2; have HB2 := hide hb2; clear ho2 hg2 hb2; obtain ⟨Av, cv, hv2⟩ := own_form HO2.out; subst hv2))
      go_ret
      have hB : Below (w.heap.size + 2) wr w2 := HB1.out.trans HB2.out
      refine ⟨_, rfl, ?_, by simp [go_sem, e2], ownsRow_setCell_below HO2.out (Nat.lt_succ_self _) _, (hb.trans (hB.mono (by omega))).setCell (p := ⟨w.heap.size + 1, 0, none⟩) (Nat.le_succ _) _⟩
      exact (World.cell?_of_block (w := w2) (a := ⟨w.heap.size, 0, none⟩) (Below.heap_setCell _ _ _ _ (Nat.ne_of_lt (Nat.lt_succ_self _)))).trans ((hB.cell (p := ⟨w.heap.size, 0, none⟩) (by show w.heap.size < _; omega)).trans HC0.out)
end Go.Proofs.YtdolpeljengpaaaGreat

/- region.slabs's iterator: the slabs between neighbouring cuts. -/
namespace Go.Proofs.YtdolpeljengpaaaGreat
open Go.RowKit
set_option linter.unusedVariables false
set_option linter.unusedSimpArgs false
attribute [local go_sem] Oper.semAt_some

/-- What a round keeps for an iterator: the old blocks, but for bb. -/
def KpX (bb n : Nat) (A B : World) : Prop := A.heap.size ≤ B.heap.size ∧ ∀ b o, b < n → b ≠ bb → B.cell? ⟨b, o, none⟩ = A.cell? ⟨b, o, none⟩
theorem KpX.trans {b n : Nat} {A B C : World} (h : KpX b n A B) (k : KpX b n B C) : KpX b n A C := ⟨Nat.le_trans h.1 k.1, fun q o h1 h2 => (k.2 q o h1 h2).trans (h.2 q o h1 h2)⟩

/-- What a round is handed: the slab from x.1 to x.2, with the cross-sections of the lists. -/
def OkSlab (ls : List (List R4)) (x : Int × Int) (args : Array Value) (W : World) : Prop :=
  ∃ Rw, args = #[.agg #[.int .i64 x.1, .int .i64 x.2, .slice (some ⟨Rw, 0, none⟩) ls.length ls.length]] ∧ Rw < W.heap.size ∧ ∀ k l, ls[k]? = some l → ∃ v, W.cell? ⟨Rw, k, none⟩ = some v ∧ RdK encS 2 W W.heap.size v (crossL l x.1)

/-- Between two lists of a round: the slab's cells, and the cross-sections gathered so far. -/
structure SMid (ls : List (List R4)) (c d : Int) (Rw S k : Nat) (wi wr : World) : Prop where
  ne : S ≠ Rw
  lowR : wi.heap.size ≤ Rw
  lowS : wi.heap.size ≤ S
  topR : Rw < wr.heap.size
  topS : S < wr.heap.size
  below : Below wi.heap.size wi wr
  s0 : wr.cell? ⟨S, 0, none⟩ = some (.int .i64 c)
  s1 : wr.cell? ⟨S, 1, none⟩ = some (.int .i64 d)
  s2 : wr.cell? ⟨S, 2, none⟩ = some (.slice (some ⟨Rw, 0, none⟩) ls.length ls.length)
  done : ∀ j l, j < k → ls[j]? = some l → ∃ v, wr.cell? ⟨Rw, j, none⟩ = some v ∧ wr.ownsRow (Rw + 1) 188 2 v (crossL l c).length ((crossL l c).flatMap encS)
  left : ∀ j, k ≤ j → j < ls.length → wr.cell? ⟨Rw, j, none⟩ = some (.slice none 0 0)
  fz : ∀ j, wr.frozen? ⟨Rw, j, none⟩ = false
/-- Between two rectangles of list l = ls[k]: wk, the world ahead of the list. -/
structure SIn (l : List R4) (c : Int) (Rw k m : Nat) (wk wr : World) : Prop where
  upd : Upd Rw none wk wr
  oth : ∀ j, j ≠ k → wr.cell? ⟨Rw, j, none⟩ = wk.cell? ⟨Rw, j, none⟩
  fz : ∀ j, wr.frozen? ⟨Rw, j, none⟩ = wk.frozen? ⟨Rw, j, none⟩
  cur : ∃ v, wr.cell? ⟨Rw, k, none⟩ = some v ∧ wr.ownsRow wk.heap.size 188 2 v (crossL (l.take m) c).length ((crossL (l.take m) c).flatMap encS)

theorem SIn.start {ls : List (List R4)} {l : List R4} {c d : Int} {Rw S k : Nat} {wi wk : World} (h : SMid ls c d Rw S k wi wk) (hk : k < ls.length) : SIn l c Rw k 0 wk wk :=
  ⟨Upd.refl _ _ _, fun _ _ => rfl, fun _ => rfl, ⟨_, h.left k (Nat.le_refl _) hk, World.ownsRow_nil _ _ _ _⟩⟩
theorem SIn.fin {ls : List (List R4)} {l : List R4} {c d : Int} {Rw S k : Nat} {wi wk wr : World} (h : SMid ls c d Rw S k wi wk) (hl : ls[k]? = some l) (g : SIn l c Rw k l.length wk wr) : SMid ls c d Rw S (k + 1) wi wr := by
  have hne := h.ne
  have hlR := h.lowR
  have htR := h.topR
  have hbs := h.below.size
  have key : ∀ {b o v}, b ≠ Rw → wk.cell? ⟨b, o, none⟩ = some v → wr.cell? ⟨b, o, none⟩ = some v := fun {b o v} hb e => (g.upd.cell (lt_of_cell e) hb (by simp)).trans e
  refine ⟨hne, hlR, h.lowS, Nat.lt_of_lt_of_le htR g.upd.size, Nat.lt_of_lt_of_le h.topS g.upd.size, h.below.trans (g.upd.below hlR hbs (by simp)), key hne h.s0, key hne h.s1, key hne h.s2, ?_, ?_, fun j => (g.fz j).trans (h.fz j)⟩
  · intro j l' hj hl'
    by_cases hjk : j = k
    · subst hjk
      rw [hl] at hl'
      injection hl' with hl'
      subst hl'
      obtain ⟨v, c1, c2⟩ := g.cur
      rw [List.take_length] at c2
      exact ⟨v, c1, own_base c2 (by omega)⟩
    · obtain ⟨v, c1, c2⟩ := h.done j l' (by omega) hl'
      refine ⟨v, (g.oth j hjk).trans c1, c2.1, ?_⟩
      rcases c2.2 with hn | ⟨gg, cap, cur, hv, hg, hh, r⟩
      · exact .inl hn
      · exact .inr ⟨gg, cap, cur, hv, hg, (g.upd.block gg (Array.getElem?_eq_some_iff.1 hh).1 (by omega) (by simp)).trans hh, r⟩
  · intro j hj hjn
    exact (g.oth j (by omega)).trans (h.left j (by omega) hjn)
theorem crossL_take {l : List R4} {c : Int} {m : Nat} {r : R4} (h : l[m]? = some r) : crossL (l.take (m + 1)) c = crossL (l.take m) c ++ (if r.x0 ≤ c ∧ c < r.x1 then [(r.y0, r.y1)] else []) := by
  obtain ⟨hm, hp⟩ := List.getElem?_eq_some_iff.1 h
  rw [List.take_succ_eq_append_getElem hm, hp]
  unfold crossL
  rw [List.filter_append, List.map_append]
  congr 1
  by_cases hc : r.x0 ≤ c ∧ c < r.x1
  · simp [hc.1, hc.2]
  · rw [if_neg hc]
    have : (decide (r.x0 ≤ c) && decide (c < r.x1)) = false := by
      rw [Bool.and_eq_false_iff]
      by_cases h1 : r.x0 ≤ c
      · exact .inr (decide_eq_false fun h2 => hc ⟨h1, h2⟩)
      · exact .inl (decide_eq_false h1)
    simp [List.filter_cons, this]
theorem SIn.skip {l : List R4} {c : Int} {Rw k m : Nat} {wk wr wr' : World} {r : R4} (g : SIn l c Rw k m wk wr) (hr : l[m]? = some r) (hc : ¬ (r.x0 ≤ c ∧ c < r.x1)) (hb : Below wr.heap.size wr wr') (hR : Rw < wr.heap.size) : SIn l c Rw k (m + 1) wk wr' := by
  obtain ⟨v, c1, c2⟩ := g.cur
  refine ⟨g.upd.trans (Upd.of_below hb), fun j hj => (hb.cell (p := ⟨Rw, j, none⟩) hR).trans (g.oth j hj), fun j => (hb.frozen (p := ⟨Rw, j, none⟩) hR).trans (g.fz j), v, (hb.cell (p := ⟨Rw, k, none⟩) hR).trans c1, ?_⟩
  rw [crossL_take hr, if_neg hc, List.append_nil]
  refine ⟨c2.1, ?_⟩
  rcases c2.2 with hn | ⟨gg, cap, cur, hv, hg, hh, r⟩
  · exact .inl hn
  · exact .inr ⟨gg, cap, cur, hv, hg, (hb.block gg (Array.getElem?_eq_some_iff.1 hh).1).trans hh, r⟩
theorem SIn.push {l : List R4} {c : Int} {Rw k m n : Nat} {wk wr wa w2 : World} {r : R4} {v v2 : Value} (g : SIn l c Rw k m wk wr) (hr : l[m]? = some r) (hc : r.x0 ≤ c ∧ c < r.x1) (hv : wr.cell? ⟨Rw, k, none⟩ = some v) (hR : Rw < wk.heap.size)
    (ha : Below wr.heap.size wr wa) (hgrow : wa.grownBy w2 v.ownBlock) (hrow : ∀ k, v.ownBlock = some k → wk.heap.size ≤ k) (hown2 : w2.ownsRow wk.heap.size 188 2 v2 n ((crossL (l.take m) c ++ [(r.y0, r.y1)]).flatMap encS)) (hf : wk.frozen? ⟨Rw, k, none⟩ = false) :
    w2.cell? ⟨Rw, k, none⟩ = some v ∧ w2.frozen? ⟨Rw, k, none⟩ = false ∧ Hid (SIn l c Rw k (m + 1) wk (w2.setCell ⟨Rw, k, none⟩ v2)) := by
  have hws := g.upd.size
  have hb : Below wk.heap.size wr w2 := (ha.mono hws).grown hgrow (by have := ha.size; omega) hrow
  have hcell : ∀ j, w2.cell? ⟨Rw, j, none⟩ = wr.cell? ⟨Rw, j, none⟩ := fun j => hb.cell (p := ⟨Rw, j, none⟩) hR
  have hfr : ∀ j, w2.frozen? ⟨Rw, j, none⟩ = wk.frozen? ⟨Rw, j, none⟩ := fun j => (hb.frozen (p := ⟨Rw, j, none⟩) hR).trans (g.fz j)
  have hk2 := (hcell k).trans hv
  refine ⟨hk2, (hfr k).trans hf, hide ⟨?_, fun j hj => ?_, fun j => ?_, v2, by simp [go_sem, hk2], ?_⟩⟩
  · refine Upd.setCell ⟨hb.os.trans g.upd.os, hb.tape.trans g.upd.tape, hb.output.trans g.upd.output, Nat.le_trans hws hb.size, fun b h1 h2 h3 => (hb.block b h1).trans (g.upd.block b h1 h2 h3)⟩ _ _
  · refine Eq.trans ?_ ((hcell j).trans (g.oth j hj))
    simp [go_sem, hj]
  · rw [World.frozen?_setCell]; exact hfr j
  · have hl := own_len (k := 2) hown2 (fun _ => rfl) (by omega)
    subst hl
    rw [crossL_take hr, if_pos hc]
    exact ownsRow_setCell_below hown2 hR _
/-- The slab as it is laid, in either order. -/
theorem smid_first1 {ls : List (List R4)} {c d : Int} {w : World} {CS : Array Value} {t1 t2 : TypeId} (hCS : ∀ j, j < ls.length → CS[j]? = some (.slice none 0 0)) :
    SMid ls c d w.heap.size (w.heap.size + 1) 0 w ((w.alloc (.cells CS t1)).alloc (.cells #[.int .i64 c, .int .i64 d, .slice (some ⟨w.heap.size, 0, none⟩) ls.length ls.length] t2)).drew := by
  refine ⟨by omega, Nat.le_refl _, by omega, by simp; omega, by simp, (((Below.refl _ _).alloc (Nat.le_refl _) _).alloc (by simp) _).drew, by simp [go_sem], by simp [go_sem], by simp [go_sem], fun j _ h => by omega, fun j _ hj => ?_, fun j => by simp [go_sem]⟩
  refine (World.cell?_alloc_lt (w.alloc (.cells CS t1)) _ ⟨w.heap.size, j, none⟩ (by simp)).trans ?_
  have := news_new w CS.toList t1 w.heap.size rfl j _ (by simpa using hCS j hj)
  rw [addr_add] at this
  simpa using this
theorem smid_first2 {ls : List (List R4)} {c d : Int} {w : World} {CS : Array Value} {t1 t2 : TypeId} (hCS : ∀ j, j < ls.length → CS[j]? = some (.slice none 0 0)) :
    SMid ls c d (w.heap.size + 1) w.heap.size 0 w ((w.alloc (.cells #[.int .i64 c, .int .i64 d, .slice (some ⟨w.heap.size + 1, 0, none⟩) ls.length ls.length] t2)).alloc (.cells CS t1)).drew := by
  refine ⟨by omega, by omega, Nat.le_refl _, by simp, by simp; omega, (((Below.refl _ _).alloc (Nat.le_refl _) _).alloc (by simp) _).drew, by simp [go_sem], by simp [go_sem], by simp [go_sem], fun j _ h => by omega, fun j _ hj => ?_, fun j => by simp [go_sem]⟩
  have := news_new (w.alloc (.cells #[.int .i64 c, .int .i64 d, .slice (some ⟨w.heap.size + 1, 0, none⟩) ls.length ls.length] t2)) CS.toList t1 (w.heap.size + 1) (by simp) j _ (by simpa using hCS j hj)
  rw [addr_add] at this
  simpa using this
end Go.Proofs.YtdolpeljengpaaaGreat

/- region.slabs's iterator: the walk. -/
namespace Go.Proofs.YtdolpeljengpaaaGreat
open Go.RowKit
set_option linter.unusedVariables false
set_option linter.unusedSimpArgs false
attribute [local go_sem] Oper.semAt_some

theorem infoSS : (Tryz.prog.info? 182).map (fun i => (i.zero, i.size, i.bytes)) = some (some (.slice none 0 0), 1, 24) := by kernel_rfl
theorem infoSp : (Tryz.prog.info? 188).map (fun i => (i.zero, i.size, i.bytes)) = some (some (.agg #[.int .i64 0, .int .i64 0]), 2, 16) := by kernel_rfl

theorem own_drew {w : World} {base size : Nat} {e : TypeId} {v : Value} {n : Nat} {xs : List Value} (h : w.ownsRow base e size v n xs) : w.drew.ownsRow base e size v n xs := h
theorem news_drew (w : World) (cs : List Value) (t : TypeId) (B : Nat) (hB : w.heap.size = B) : ∀ j u, cs[j]? = some u → (w.alloc (.cells cs.toArray t)).drew.cell? ((⟨B, 0, none⟩ : Addr).add j) = some u := news_new w cs t B hB
theorem app_after {l : List R4} {c : Int} {Rw k m n S : Nat} {wk wr wb w2 : World} {r : R4} {v v2 a b1 b3 : Value} (g : SIn l c Rw k m wk wr) (hr : l[m]? = some r) (hc : r.x0 ≤ c ∧ c < r.x1) (hv : wr.cell? ⟨Rw, k, none⟩ = some v) (hR : Rw < wk.heap.size) (hbw : Below wr.heap.size wr wb) (o : Obj)
    (hvo : wr.ownsRow wk.heap.size 188 2 v (crossL (l.take m) c).length ((crossL (l.take m) c).flatMap encS)) (hgrow : (wb.alloc o).drew.grownBy w2 v.ownBlock) (hown2 : w2.ownsRow wk.heap.size 188 2 v2 n ((crossL (l.take m) c).flatMap encS ++ [.int .i64 r.y0, .int .i64 r.y1])) (hf : wk.frozen? ⟨Rw, k, none⟩ = false)
    (hS : S < wk.heap.size) (f2 : wb.cell? ⟨S, 2, none⟩ = some a) (f1 : wb.cell? ⟨wr.heap.size, 1, none⟩ = some b1) (f3 : wb.cell? ⟨wr.heap.size, 3, none⟩ = some b3) :
    w2.cell? ⟨S, 2, none⟩ = some a ∧ w2.cell? ⟨Rw, k, none⟩ = some v ∧ w2.cell? ⟨wr.heap.size, 1, none⟩ = some b1 ∧ w2.cell? ⟨wr.heap.size, 3, none⟩ = some b3 ∧ w2.frozen? ⟨Rw, k, none⟩ = false ∧ Hid (SIn l c Rw k (m + 1) wk (w2.setCell ⟨Rw, k, none⟩ v2)) := by
  have hrow := hvo.lt
  have ha : Below wr.heap.size wr (wb.alloc o).drew := (hbw.alloc hbw.size o).drew
  have hx : (crossL (l.take m) c).flatMap encS ++ [.int .i64 r.y0, .int .i64 r.y1] = (crossL (l.take m) c ++ [(r.y0, r.y1)]).flatMap encS := by simp [encS]
  rw [hx] at hown2
  obtain ⟨p1, p2, p3⟩ := g.push hr hc hv hR ha hgrow (fun q hq => (hrow q hq).1) hown2 hf
  have far : ∀ (q i : Nat) (u : Value), wb.cell? ⟨q, i, none⟩ = some u → v.ownBlock ≠ some q → w2.cell? ⟨q, i, none⟩ = some u := fun q i u hu hq =>
    World.grownBy.cell hgrow (a := ⟨q, i, none⟩) ((World.cell?_alloc_lt wb o ⟨q, i, none⟩ (lt_of_cell hu)).trans hu) (fun e => hq e.symm)
  exact ⟨far S 2 a f2 (fun e => by have := hrow S e; omega), p1, far _ 1 b1 f1 (fun e => by have := hrow _ e; omega), far _ 3 b3 f3 (fun e => by have := hrow _ e; omega), p2, p3⟩
/-- 'make([][]Span, n)', to the cell. -/
theorem make_ss (n : Nat) (hn : n ≤ 1000) : ∃ CS : Array Value, (∀ j, j < n → CS[j]? = some (.slice none 0 0)) ∧ ∀ W : World, (Instr.makeSlice 208 (.int .i64 (n : Int)) (.int .i64 (n : Int))).run Tryz.prog W = .ok (.slice (some ⟨W.heap.size, 0, none⟩) n n) (W.alloc (.cells CS 182)) := by
  obtain ⟨i0, hi, hz0, hz1, hz2⟩ := info_parts infoSS
  refine ⟨madeCells (Value.slice none 0 0).cells (n * i0.size), ?_, fun W => ?_⟩
  · intro j hj
    rw [hz1]
    have : (madeCells #[Value.slice none 0 0] n).toList[j]? = some (.slice none 0 0) := by rw [toList_madeCells_one]; simp [hj]
    rw [Nat.mul_one]
    rw [Array.getElem?_toList] at this
    exact this
  · have := run_make (P := Tryz.prog) W 208 182 i0 _ Tryz.underlying208 hi hz0 .i64 .i64 (n : Int) (n : Int) (by omega) (Int.le_refl _) (by rw [hz2]; omega) (by omega)
    simpa using this

set_option maxRecDepth 100000 in
set_option maxHeartbeats 4000000 in
theorem slabsItA (ls : List (List R4)) (cs : List Int) (bc bl L cc cv bb base : Nat) (A : Option Addr) (w0 : World) (hbl : bl < w0.heap.size) (hbc : bc < w0.heap.size) (hLs : L < w0.heap.size) (n1 : bl ≠ bb) (n2 : bc ≠ bb) (n3 : L ≠ bb) (n4 : bb < base) (n5 : bb ≤ w0.heap.size)
    (hlb : w0.cell? ⟨bl, 0, none⟩ = some (.slice (some ⟨L, 0, none⟩) ls.length cc)) (hcb : w0.cell? ⟨bc, 0, none⟩ = some (.slice A cs.length cv)) (hown : w0.ownsRow base 3 1 (.slice A cs.length cv) cs.length (cs.map iv))
    (hv : ∀ k l, ls[k]? = some l → l.length ≤ 100000000 ∧ ∃ v, w0.cell? ⟨L, k, none⟩ = some v ∧ RdK encR 4 w0 bb v l) (hls : ls.length ≤ 1000) (hcs : cs.length ≤ 100000000) :
    Iter Tryz.prog 180 #[.pointer (some ⟨bc, 0, none⟩), .pointer (some ⟨bl, 0, none⟩)] (prs cs) (OkSlab ls) (KpX bb w0.heap.size) w0 := by
  intro l J Jx W hW hJ hY h0
  obtain ⟨i0, hi, hz0, hz1, hz2⟩ := info_parts infoSS
  obtain ⟨i1, gi, gz0, gz1, gz2⟩ := info_parts infoSp
  refine callsIn_of_wp Tryz.func180 rfl trivial ?_
  simp only [Tryz.ntmps180, List.size_toArray, List.length_cons, List.length_nil, Nat.reduceAdd, Nat.reduceSub, Array.replicate_succ, Array.replicate_zero, List.push_toArray, List.append_toArray, List.nil_append, List.cons_append]
  have HV := hide hv
  have HY := hide hY
  have HJ := hide hJ
  clear hv hY hJ
  gi_wp2
  gi_loopw [4] (fun p wr => ∃ k : Nat, k ≤ (prs cs).length ∧ p = .int .i64 ((k : Int) + 1) ∧ Hid (J ((prs cs).take k) wr) ∧ Hid (∀ b o, b < w0.heap.size → b ≠ bb → wr.cell? ⟨b, o, none⟩ = w0.cell? ⟨b, o, none⟩) ∧ w0.heap.size ≤ wr.heap.size)
    (fun p _ => ((prs cs).length + 1) - (intOf p).toNat)
  case atStart => exact ⟨0, Nat.zero_le _, rfl, hide (by simpa using h0), hide fun b o h _ => hW.cell (p := ⟨b, o, none⟩) h, hW.size⟩
  case round =>
    obtain ⟨k, hk, rfl, HJk, HC, hsz⟩ := hrel
    have hpl := prs_len cs
    have kb := (HC.out bl 0 hbl n1).trans hlb
    have kc := (HC.out bc 0 hbc n2).trans hcb
    by_cases hlt : k < (prs cs).length
    · have hltz : (k : Int) + 1 < (cs.length : Int) := by omega
      obtain ⟨c, hc⟩ : ∃ c, cs[k]? = some c := ⟨_, List.getElem?_eq_getElem (by omega)⟩
      obtain ⟨d, hd⟩ : ∃ d, cs[k + 1]? = some d := ⟨_, List.getElem?_eq_getElem (by omega)⟩
      obtain ⟨g, cv', hf, hbg, hgw⟩ := hown.form (by omega)
      injection hf with e1 _ e3
      subst e1; subst e3
      have kc0 : wr.cell? ⟨g, k, none⟩ = some (.int .i64 c) := by
        have := (hown.cells (g := g) rfl) k (iv c) (by simp [hc])
        rw [addr_add] at this
        exact (HC.out g k hgw (by omega)).trans this
      have kc1 : wr.cell? ⟨g, k + 1, none⟩ = some (.int .i64 d) := by
        have := (hown.cells (g := g) rfl) (k + 1) (iv d) (by simp [hd])
        rw [addr_add] at this
        exact (HC.out g (k + 1) hgw (by omega)).trans this
      have HP := hide (prs_get cs k c d hc hd)
      gi_wp2
      obtain ⟨CS, hCS, hmk⟩ := make_ss ls.length hls
      have HS := hide hCS
      clear hCS
      refine wpIn_wide.2 ?_
      have q1 : (0 : Int) ≤ (k : Int) := by omega
      have q2 : (k : Int) < (cs.length : Int) := by omega
      have q3 : (0 : Int) ≤ (k : Int) + 1 := by omega
      have hcsz : (cs.length : Int) ≤ 100000000 := by omega
      have hw1 : IntKind.i64.wrap (k : Int) = k := by simp [IntKind.wrap, IntKind.bits, IntKind.signed]; omega
      have hw2 : IntKind.i64.wrap ((k : Int) + 1) = (k : Int) + 1 := by simp [IntKind.wrap, IntKind.bits, IntKind.signed]; omega
      have t1 : ((k : Int) + 1).toNat = k + 1 := by omega
      go_region_held3 (fun w' => w'.cell? ⟨bc, 0, none⟩ = some (.slice (some ⟨g, 0, none⟩) cs.length cv) ∧ w'.cell? ⟨bl, 0, none⟩ = some (.slice (some ⟨L, 0, none⟩) ls.length cc) ∧ w'.cell? ⟨g, k, none⟩ = some (.int .i64 c) ∧ w'.cell? ⟨g, k + 1, none⟩ = some (.int .i64 d)) (go_keep) (fail)
      case' refine_2.refine_3.refine_3.refine_3.refine_3.refine_3.refine_3.refine_3.refine_3.refine_3.refine_3.refine_3.refine_1.refine_2.refine_3.refine_1.refine_2.refine_1.refine_2 =>
        have M := smid_first1 (ls := ls) (c := c) (d := d) (w := wr) (t1 := 182) (t2 := 210) HS.out
        generalize World.drew (World.alloc (World.alloc _ _) _) = w3 at M ⊢
        obtain ⟨S, hS⟩ : ∃ S, wr.heap.size + 1 = S := ⟨_, rfl⟩
        obtain ⟨Rw, hR⟩ : ∃ Rw, wr.heap.size = Rw := ⟨_, rfl⟩
        rw [hS] at M ⊢
        rw [hR] at M ⊢
        clear hS hR
      case' refine_2.refine_3.refine_3.refine_3.refine_3.refine_3.refine_3.refine_3.refine_3.refine_3.refine_3.refine_3.refine_2.refine_1.refine_2.refine_1.refine_2.refine_3.refine_1.refine_2 =>
        have M := smid_first2 (ls := ls) (c := c) (d := d) (w := wr) (t1 := 182) (t2 := 210) HS.out
        generalize World.drew (World.alloc (World.alloc _ _) _) = w3 at M ⊢
        obtain ⟨Rw, hR⟩ : ∃ S, wr.heap.size + 1 = S := ⟨_, rfl⟩
        obtain ⟨S, hS⟩ : ∃ Rw, wr.heap.size = Rw := ⟨_, rfl⟩
        rw [hR] at M ⊢
        rw [hS] at M ⊢
        clear hS hR
      all_goals
        generalize wr = wi at *
        clear hlb hcb hmk q1 q2 q3 hw1 hw2 t1 kc kc0 kc1 hltz hown HS h0 hW
        have hlsz : (ls.length : Int) ≤ 1000 := by omega
        have hbl' : bl < wi.heap.size := by omega
        have m0 := (M.below.cell (p := ⟨bl, 0, none⟩) hbl').trans kb
        gi_wp2
        refine wpIn_wide.2 ?_
        go_loopw [31] (fun i wx => ∃ j : Nat, j ≤ ls.length ∧ i = .int .i64 j ∧ SMid ls c d Rw S j wi wx) (fun i _ => ls.length - (intOf i).toNat)
        case atStart => exact ⟨0, Nat.zero_le _, rfl, M⟩
        case round =>
          clear m0 M
          obtain ⟨j, hj, rfl, M⟩ := hrel
          by_cases hjl : j < ls.length
          · have hjz : (j : Int) < (ls.length : Int) := by omega
            obtain ⟨r, hr⟩ : ∃ r, ls[j]? = some r := ⟨_, List.getElem?_eq_getElem hjl⟩
            obtain ⟨hrl, v, hvc, Av, cr, rfl, hrd⟩ := HV.out j r hr
            have hL2 : wr.cell? ⟨L, j, none⟩ = some (.slice Av r.length cr) := (M.below.cell (p := ⟨L, j, none⟩) (by show L < _; omega)).trans ((HC.out L j hLs n3).trans hvc)
            have HR := hide hrd
            clear hvc hrd
            go_wp2
            have hRk := M.topR
            have hSk := M.topS
            have hne := M.ne
            have hwk := M.below.size
            have hlR := M.lowR
            have SS := SIn.start (l := r) M hjl
            have HM := hide M
            have e0 := M.s0
            have e2 := M.s2
            clear M hL2
            generalize wr = wk at *
            go_loopw [38] (fun i wx => ∃ m : Nat, m ≤ r.length ∧ i = .int .i64 m ∧ SIn r c Rw j m wk wx) (fun i _ => r.length - (intOf i).toNat)
            case atStart => exact ⟨0, Nat.zero_le _, rfl, SS⟩
            case round =>
              clear SS
              obtain ⟨m, hm, rfl, SS⟩ := hrel
              by_cases hml : m < r.length
              · obtain ⟨⟨x0, y0, x1, y1⟩, hp⟩ : ∃ p, r[m]? = some p := ⟨_, List.getElem?_eq_getElem hml⟩
                have hner : r ≠ [] := by intro e; rw [e] at hml; simp at hml
                obtain ⟨bk, off, rfl, hbk, hcell⟩ := HR.out hner
                have tr : ∀ o, wr.cell? ⟨bk, o, none⟩ = w0.cell? ⟨bk, o, none⟩ := fun o =>
                  (SS.upd.cell (by omega) (by omega) (by simp)).trans ((HM.out.below.cell (p := ⟨bk, o, none⟩) (by show bk < _; omega)).trans (HC.out bk o (by omega) (by omega)))
                have d0 : wr.cell? ⟨bk, off + m * 4, none⟩ = some (.int .i64 x0) := (tr _).trans (hcell m _ hp 0 _ rfl)
                have d1 : wr.cell? ⟨bk, off + m * 4 + 1, none⟩ = some (.int .i64 y0) := (tr _).trans (hcell m _ hp 1 _ rfl)
                have d2 : wr.cell? ⟨bk, off + m * 4 + 2, none⟩ = some (.int .i64 x1) := (tr _).trans (hcell m _ hp 2 _ rfl)
                have d3 : wr.cell? ⟨bk, off + m * 4 + 3, none⟩ = some (.int .i64 y1) := (tr _).trans (hcell m _ hp 3 _ rfl)
                have f0 := (SS.upd.cell (off := 0) hSk hne (by simp)).trans e0
                have f2 := (SS.upd.cell (off := 2) hSk hne (by simp)).trans e2
                have hws := SS.upd.size
                have hmz : (m : Int) < (r.length : Int) := by omega
                have HE0 := hide e0
                have HE2 := hide e2
                have HSS := hide SS
                have hSw : S < wr.heap.size := by omega
                clear hcell tr e0 e2 SS
                by_cases c1 : x0 ≤ c
                · by_cases c2 : c < x1
                  · go_wp2
                    obtain ⟨wb, hwb⟩ : ∃ wb, wb = wr.alloc (.cells #[.int .i64 x0, .int .i64 y0, .int .i64 x1, .int .i64 y1] 69) := ⟨_, rfl⟩
                    rw [← hwb]
                    obtain ⟨v, v1, v2⟩ := HSS.out.cur
                    obtain ⟨Av2, cv2, hv2⟩ := own_form v2
                    subst hv2
                    have hRw : Rw < wr.heap.size := by omega
                    have hj63 : (0 : Int) ≤ (j : Int) := by omega
                    have g2 : wb.cell? ⟨S, 2, none⟩ = some (.slice (some ⟨Rw, 0, none⟩) ls.length ls.length) := by rw [hwb]; exact (World.cell?_alloc_lt _ _ ⟨S, 2, none⟩ hSw).trans f2
                    have gv : wb.cell? ⟨Rw, j, none⟩ = some (.slice Av2 (crossL (r.take m) c).length cv2) := by rw [hwb]; exact (World.cell?_alloc_lt _ _ ⟨Rw, j, none⟩ hRw).trans v1
                    have gy0 : wb.cell? ⟨wr.heap.size, 1, none⟩ = some (.int .i64 y0) := by rw [hwb]; simp [go_sem]
                    have gy1 : wb.cell? ⟨wr.heap.size, 3, none⟩ = some (.int .i64 y1) := by rw [hwb]; simp [go_sem]
                    have gs : wb.heap.size = wr.heap.size + 1 := by rw [hwb]; simp
                    have hbw : Below wr.heap.size wr wb := by rw [hwb]; exact (Below.refl _ _).alloc (Nat.le_refl _) _
                    have gown : wb.ownsRow wk.heap.size 188 2 (.slice Av2 (crossL (r.take m) c).length cv2) (crossL (r.take m) c).length ((crossL (r.take m) c).flatMap encS) := by rw [hwb]; exact v2.alloc _
                    have hcl : (crossL (r.take m) c).length ≤ 100000000 := by
                      unfold crossL
                      rw [List.length_map]
                      refine Nat.le_trans (List.length_filter_le _ _) ?_
                      rw [List.length_take]; omega
                    have HFZ := hide (HM.out.fz j)
                    have HV1 := hide v1
                    have HV2 := hide v2
                    have HGV := hide gv
                    have HBW := hide hbw
                    have HG2 := hide g2
                    have HY0 := hide gy0
                    have HY1 := hide gy1
                    have HO := hide gown
                    have HGS := hide gs
                    have hRwb : Rw < wb.heap.size := by omega
                    have hSwb : S < wb.heap.size := by omega
                    have hwrb : wr.heap.size < wb.heap.size := by omega
                    have nR1 : Rw ≠ S := fun e => hne e.symm
                    have nR2 : Rw ≠ wr.heap.size := by omega
                    have hwkb : wk.heap.size ≤ wb.heap.size := by omega
                    clear gs d0 d1 d2 d3 f0 f2 v1 v2 gown hwb
                    refine wp_region_reads 13 (fun w' => w'.cell? ⟨S, 2, none⟩ = some (.slice (some ⟨Rw, 0, none⟩) ls.length ls.length) ∧ w'.cell? ⟨Rw, j, none⟩ = some (.slice Av2 (crossL (r.take m) c).length cv2) ∧ w'.cell? ⟨wr.heap.size, 1, none⟩ = some (.int .i64 y0) ∧ w'.cell? ⟨wr.heap.size, 3, none⟩ = some (.int .i64 y1)) (by kernel_rfl) (by kernel_rfl) ⟨g2, gv, gy0, gy1⟩ ?_
                    simp only [List.take_succ_cons, List.take_zero, List.drop_succ_cons, List.drop_zero]
                    iterate 13
                      refine ⟨?_, Or.inl ⟨by rfl, ?_⟩, ?_⟩
                      rotate_left 1
                      · intro w' hSw
                        obtain ⟨z1, z2, z3, z4⟩ := hSw
                        go_simp
                        first | done | with_reducible rfl
                      simp only [Act.put, List.setIfInBounds_toArray, List.set_cons_zero, List.set_cons_succ]
                    simp only [wpReads]
                    intro K hK
                    go_simp
                    refine hK _ _ (fun _ => ⟨by go_keep, by go_keep, by go_keep, by go_keep⟩) ?_
                    clear hK K
                    intro K hK
                    refine step_append_lies _ rfl (.tmp 61) (.tmp 67) 182 rfl wk.heap.size 188 i1 (.agg #[.int .i64 0, .int .i64 0]) 2 16 Tryz.underlying182 gi gz0 gz1 gz2 rfl (by decide) (.slice Av2 (crossL (r.take m) c).length cv2) (crossL (r.take m) c).length _ rfl (own_drew (World.ownsRow.alloc (w := wb) HO.out _)) ⟨wb.heap.size, 0, none⟩ 1 1 [.int .i64 y0, .int .i64 y1] rfl rfl (news_drew wb _ _ _ rfl) (ints_one rfl) (by omega) (by unfold maxLen; omega) (by omega) (by simp; omega) _ rfl ?_
                    intro g9 cap9 w9 hown9 hgrow9 _ _
                    obtain ⟨s1, s2, s3, s4, s5, HF9⟩ := app_after HSS.out hp ⟨c1, c2⟩ HV1.out hRk HBW.out _ HV2.out hgrow9 hown9 HFZ.out hSk HG2.out HY0.out HY1.out
                    clear hown9 hgrow9
                    refine hK _ _ (fun _ => ⟨s1, s2, s3, s4⟩) ?_
                    clear hK K
                    intro K hK
                    simp only [Act.put, List.setIfInBounds_toArray, List.set_cons_zero, List.set_cons_succ] at hK ⊢
                    go_simp
                    refine hK _ _ (fun _ => ⟨s1, s2, s3, s4⟩) ?_
                    clear hK K
                    intro K hK
                    simp only [Act.put, List.setIfInBounds_toArray, List.set_cons_zero, List.set_cons_succ] at hK ⊢
                    go_simp
                    refine hK _ _ (fun h => absurd rfl h) ?_
                    clear hK K
                    refine NoPanic.normal ?_
                    have HF9' := hide HF9.out
                    go_wp2
                    go_roundw
                    case rel => exact ⟨m + 1, by omega, by go_num, HF9'.out⟩
                    case measure => simp [intOf]; omega
                  · have c2' : x1 ≤ c := by omega
                    go_wp2
                    go_roundw
                    case rel => exact ⟨m + 1, by omega, by go_num, HSS.out.skip hp (fun h => by have := h.2; simp at this; omega) ((Below.refl _ _).alloc (Nat.le_refl _) _) (by omega)⟩
                    case measure => simp [intOf]; omega
                · have c1' : c < x0 := by omega
                  go_wp2
                  go_roundw
                  case rel => exact ⟨m + 1, by omega, by go_num, HSS.out.skip hp (fun h => by have := h.1; simp at this; omega) ((Below.refl _ _).alloc (Nat.le_refl _) _) (by omega)⟩
                  case measure => simp [intOf]; omega
              · obtain rfl : m = r.length := by omega
                have hmz : ¬ (r.length : Int) < (r.length : Int) := by omega
                have HF := hide (SIn.fin HM.out hr SS)
                clear SS e0 e2
                go_wp2
                go_roundw
                case rel => exact ⟨j + 1, by omega, by go_num, HF.out⟩
                case measure => simp [intOf]; omega
          · obtain rfl : j = ls.length := by omega
            have hjz : ¬ (ls.length : Int) < (ls.length : Int) := by omega
            have e0 := M.s0
            have e1 := M.s1
            have e2 := M.s2
            have hJ2 := HJ.out _ _ _ HJk.out M.below
            have hx : (prs cs)[k]? = some (c, d) := HP.out
            obtain ⟨hkp, hxe⟩ := List.getElem?_eq_some_iff.1 hx
            have hfi : (prs cs).take (k + 1) = (prs cs).take k ++ [(c, d)] := by rw [List.take_succ_eq_append_getElem hkp, hxe]
            have hpost : ∃ post, prs cs = (prs cs).take k ++ (c, d) :: post := ⟨(prs cs).drop (k + 1), by rw [← hxe, ← List.drop_eq_getElem_cons hkp, List.take_append_drop]⟩
            have hok : OkSlab ls (c, d) #[.agg #[.int .i64 c, .int .i64 d, .slice (some ⟨Rw, 0, none⟩) ls.length ls.length]] wr := by
              refine ⟨Rw, rfl, M.topR, fun q l hl => ?_⟩
              obtain ⟨v, v1, v2⟩ := M.done q l (List.getElem?_eq_some_iff.1 hl).1 hl
              exact ⟨v, v1, own_rd v2 (fun _ => rfl)⟩
            obtain ⟨fn, tmps, assign, body, hy, hR⟩ := HY.out ((prs cs).take k) (c, d) #[.agg #[.int .i64 c, .int .i64 d, .slice (some ⟨Rw, 0, none⟩) ls.length ls.length]] wr hJ2 hpost hok
            have FI := hide hfi
            have HM := hide M
            clear hx hxe hfi hpost hJ2 hok HJ HY M
            have hk2 : (k : Int) + 1 + 1 ≤ 100000001 := by omega
            have hk3' : (0 : Int) ≤ (k : Int) := by omega
            go_wp2
            gi_wp2
            refine ⟨rfl, hR.mono ?_⟩
            rintro e W3 (⟨rfl, hJ3, hk3⟩ | ⟨rfl, hJx3⟩)
            · have HJ3 := hide hJ3
              have HK3 := hide hk3
              clear hJ3 hk3 hR
              gi_wp2
              go_roundw
              case rel =>
                refine ⟨k + 1, by omega, by go_num, hide (by rw [FI.out]; exact HJ3.out), hide fun b o h1 h2 => (HK3.out.2 b o h1 h2).trans ((HM.out.below.cell (p := ⟨b, o, none⟩) (by show b < _; omega)).trans (HC.out b o h1 h2)), ?_⟩
                have := HK3.out.1
                have := HM.out.below.size
                omega
              case measure => simp [intOf]; omega
            · have HJx := hide hJx3
              clear hJx3 hR
              gi_wp2
              refine bodyPost_ret (results_none rfl _ _ _) rfl ?_
              exact ⟨⟨_, rfl⟩, .inr ⟨_, HJx.out⟩⟩
    · have hltz : ¬ (k : Int) + 1 < (cs.length : Int) := by omega
      have hk' : (prs cs).take k = prs cs := List.take_of_length_le (by omega)
      have HK := hide hk'
      clear hk' HJ HY h0
      gi_wp2
      go_end0
      exact ⟨⟨_, rfl⟩, .inl (by have := HJk.out; rw [HK.out] at this; exact this)⟩
end Go.Proofs.YtdolpeljengpaaaGreat
