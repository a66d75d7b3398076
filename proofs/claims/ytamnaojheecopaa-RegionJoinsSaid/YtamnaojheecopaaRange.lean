/- A range over a function, at the wide fence: the iterator has a contract over a list of items, the caller an invariant and one walk of its body. And: a region that draws its order, inside a round. -/
import Derived.Test.YtamnaojheecopaaKit
import Derived.RangeFuncNested
import Derived.RangeFuncLeaves
import Derived.OwnWalkIn
import Derived.TacticsInMore
import Derived.LoopNIn
import Derived.LoopIn
import Derived.StillTailTactics
namespace Go.Proofs.Ytamnaojheecopaa
open Go.RowKit
set_option linter.unusedVariables false
set_option linter.unusedSimpArgs false

theorem below_putObj {B : Nat} {w W : World} (h : Below B w W) {l : Nat} (hl : B ≤ l) (o : Obj) : Below B w (W.putObj l o) :=
  ⟨h.os, h.tape, h.output, by simpa using h.size, fun k hk => (World.putObj_heap_other (by omega)).trans (h.block k hk)⟩
theorem cell_putObj {A : World} {l : Nat} {o o' : Obj} (h : A.heap[l]? = some o) (ho : o.isCells = false) (ho' : o'.isCells = false) (p : Addr) : (A.putObj l o').cell? p = A.cell? p ∧ (A.putObj l o').frozen? p = A.frozen? p := by
  by_cases hp : p.block = l
  · have h1 : (A.putObj l o').heap[p.block]? = some o' := by rw [hp]; exact World.putObj_heap_same (Array.getElem?_eq_some_iff.1 h).1
    have h2 : A.heap[p.block]? = some o := by rw [hp]; exact h
    constructor
    · unfold World.cell?
      rw [h1, h2]
      cases o <;> cases o' <;> simp_all [Obj.isCells]
    · unfold World.frozen?
      rw [h1, h2]
      cases o <;> cases o' <;> simp_all [Obj.isCells]
  · exact ⟨World.cell?_of_block (World.putObj_heap_other hp), World.frozen?_of_block (World.putObj_heap_other hp)⟩

theorem lt_of_cell {w : World} {b o : Nat} {v : Value} (h : w.cell? ⟨b, o, none⟩ = some v) : b < w.heap.size := by
  obtain ⟨ob, ho, _⟩ := cells_of_cell h
  exact (Array.getElem?_eq_some_iff.1 ho).1

/-- THE ITERATOR's CONTRACT: function gf bound to lb yields the items xs, one behind the other, whatever the caller's invariant J: what it hands over stands in Ok; Kp is what a round keeps for it. -/
def Iter (P : Program) (gf : Nat) (lb : Array Value) {α : Type} (xs : List α) (Ok : α → Array Value → World → Prop) (Kp : World → World → Prop) (w0 : World) : Prop :=
  ∀ (l : Nat) (J Jx : List α → World → Prop) (W : World), Below w0.heap.size w0 W →
    (∀ pre A B, J pre A → Below A.heap.size A B → J pre B) →
    (∀ pre x args A, J pre A → (∃ post, xs = pre ++ x :: post) → Ok x args A → YieldAt Fence.wide 0 P l args A fun e B => (e = .returned (.bool true) ∧ J (pre ++ [x]) B ∧ Kp A B) ∨ (e = .returned (.bool false) ∧ Jx (pre ++ [x]) B)) →
    J [] W →
    CallsIn Fence.wide 0 P gf (#[.func (.yield l) #[] #[]] ++ lb) W fun e B => (∃ v, e = .returned v) ∧ (J xs B ∨ ∃ pre, Jx pre B)

/-- How the body of a round may be left. -/
def roundEnd {α : Type} (B : Nat) (Kp : World → World → Prop) (I Ix : List α → World → Prop) (xs : List α) (A : World) : Exit → Act → World → Prop
  | .normal, _, W => KeepsFrom B A W ∧ Kp A W ∧ I xs W
  | .ret, _, W => KeepsFrom B A W ∧ Ix xs W
  | _, _, _ => False
/-- Behind the assignment to the loop's left sides, and behind the record's turn to 'busy'. -/
def roundMid {α : Type} (P : Program) (B l : Nat) (Kp : World → World → Prop) (body : Code) (I Ix : List α → World → Prop) (xs : List α) (A : World) (a1 : Act) (A1 : World) : Prop :=
  KeepsFrom B A A1 ∧ Kp A A1 ∧ ∀ A2, A1.grownBy A2 (some l) → A2.heap.size = A1.heap.size → (∀ p, A2.cell? p = A1.cell? p) → (∀ p, A2.frozen? p = A1.frozen? p) →
    body.wpIn (Fence.wide.inRound l) 0 P (roundEnd B Kp I Ix xs A2) a1 A2

theorem wp_range {P : Program} {α : Type} {g : Operand} {ps : Array Tmp} {assign body : Code} {Q : Exit → Act → World → Prop} {a : Act} {w : World} {gf : Nat} {lb : Array Value}
    (hg : a.eval g = .func (.func gf) #[] lb) (eg : ∀ args w, (callFunc gf args).run P w = .ok (.enter gf args) w)
    {xs : List α} {Ok : α → Array Value → World → Prop} {Kp : World → World → Prop} {w0 : World} (hit : Iter P gf lb xs Ok Kp w0) (hb0 : Below w0.heap.size w0 w)
    (hps : ∀ x args A, Ok x args A → args.size = ps.size)
    (hKt : ∀ {A B C : World}, Kp A B → Kp B C → Kp A C) (hKb : ∀ (A : World) (l : Nat) (o o' : Obj), w.heap.size ≤ l → A.heap[l]? = some o → o.isCells = false → o'.isCells = false → Kp A (A.putObj l o'))
    (I Ix : List α → World → Prop)
    (hI : ∀ pre A B, I pre A → Below A.heap.size A B → I pre B)
    (hIp : ∀ pre A l o o', I pre A → w.heap.size ≤ l → A.heap[l]? = some o → o.isCells = false → o'.isCells = false → I pre (A.putObj l o'))
    (hIxp : ∀ pre A l o o', Ix pre A → w.heap.size ≤ l → A.heap[l]? = some o → o.isCells = false → o'.isCells = false → Ix pre (A.putObj l o'))
    (h0 : I [] w)
    (hround : ∀ l pre x args A, I pre A → (∃ post, xs = pre ++ x :: post) → Ok x args A → w.heap.size < l → (∃ o, A.heap[l]? = some o ∧ o.isCells = false) →
      assign.wpIn (Fence.wide.inRound l) 0 P (Exit.then (roundMid P w.heap.size l Kp body I Ix (pre ++ [x]) A) (fun _ _ _ => False)) { tmps := (ps.zip args).foldl (fun t (p, v) => t.setIfInBounds p v) a.tmps, defers := [] } A)
    (hdone : ∀ D W, w.heap.size ≤ D → I xs W → W.heap[D]? = some (.deferred (some [])) → Q .normal { a with defers := { target := .collected D, args := #[] } :: a.defers } W)
    (hstop : ∀ D pre W, w.heap.size ≤ D → Ix pre W → W.heap[D]? = some (.deferred (some [])) → Q .ret { a with defers := { target := .collected D, args := #[] } :: a.defers } W) :
    (Code.rangeFunc g ps assign body).wpIn Fence.wide 0 P Q a w := by
  refine wpIn_rangeFunc ?_
  intro fn _
  obtain ⟨rec, hrec⟩ : ∃ rec : LoopState → Option Code → Loop, rec = fun st pe => { state := st, pending := pe, fn, tmps := a.tmps, params := ps, assign, body, defers := w.heap.size } := ⟨_, rfl⟩
  obtain ⟨W1, hW1⟩ : ∃ W1, (w.alloc (.deferred (some []))).alloc (.loop (rec .ready none)) = W1 := ⟨_, rfl⟩
  have hL1 : W1.heap[w.heap.size + 1]? = some (.loop (rec .ready none)) := by
    rw [← hW1]; have := World.alloc_heap_new (w.alloc (.deferred (some []))) (.loop (rec .ready none)); rwa [World.size_alloc] at this
  have hK1 : W1.heap[w.heap.size]? = some (.deferred (some [])) := by
    rw [← hW1]; exact (Below.heap_alloc _ _ _ (by simp)).trans (World.alloc_heap_new w _)
  have hbw : Below w.heap.size w W1 := by rw [← hW1]; exact ((Below.refl _ w).alloc (Nat.le_refl _) _).alloc (by simp) _
  have hI1 : I [] W1 := hI _ _ _ h0 hbw
  refine ⟨w.heap.size + 1, [{ target := .collected w.heap.size, args := #[] }], W1, { target := .fn (.func gf) lb, args := #[.func (.yield (w.heap.size + 1)) #[] #[]] }, W1, gf,
    #[.func (.yield (w.heap.size + 1)) #[] #[]] ++ lb, W1, ?_, ?_, fun _ _ => trivial, ?_, (fun h => by cases h), ?_⟩
  · rw [← hW1, hrec]; exact run_enterLoop_outer _ _ _ _ _
  · simp only [resolve, hg]
    simp [go_sem]
  · simp [invoke, go_sem, eg]
  · refine (hit (w.heap.size + 1)
      (fun pre W => I pre W ∧ W.heap[w.heap.size + 1]? = some (.loop (rec .ready none)) ∧ W.heap[w.heap.size]? = some (.deferred (some [])))
      (fun pre W => Ix pre W ∧ W.heap[w.heap.size + 1]? = some (.loop (rec .done (some .ret))) ∧ W.heap[w.heap.size]? = some (.deferred (some [])))
      W1 (hb0.trans (hbw.mono hb0.size)) ?_ ?_ ⟨hI1, hL1, hK1⟩).mono ?_
    · rintro pre A B ⟨i1, i2, i3⟩ hb
      exact ⟨hI _ _ _ i1 hb, (hb.block _ (Array.getElem?_eq_some_iff.1 i2).1).trans i2, (hb.block _ (Array.getElem?_eq_some_iff.1 i3).1).trans i3⟩
    · rintro pre x args W ⟨hi, hl, hk⟩ hpost hok
      have hy := run_yield (P := P) (args := args) hl (by rw [hrec]; exact hps x args W hok)
      rw [hrec] at hy
      refine ⟨fn, _, assign, body, hy, roundIn_of_wpIn trivial (wpIn_mono (hround (w.heap.size + 1) pre x args W hi hpost hok (by omega) ⟨_, hl, rfl⟩) ?_)⟩
      clear hy
      rintro ex a1 A1 hp
      cases ex with
      | normal =>
        obtain ⟨k1, k2, k3⟩ := hp
        replace hl := k1.same _ _ (by omega) hl rfl
        replace hk := k1.same _ _ (Nat.le_refl _) hk rfl
        have hlt : w.heap.size + 1 < A1.heap.size := (Array.getElem?_eq_some_iff.1 hl).1
        refine ⟨_, run_beginRound hl (by rw [hrec]), ?_⟩
        have hl2 : (A1.putObj (w.heap.size + 1) (.loop { rec .ready none with state := .busy })).heap[w.heap.size + 1]? = some (.loop { rec .ready none with state := .busy }) := World.putObj_heap_same hlt
        have hk2 : (A1.putObj (w.heap.size + 1) (.loop { rec .ready none with state := .busy })).heap[w.heap.size]? = some (.deferred (some [])) := (World.putObj_heap_other (by omega)).trans hk
        have hc2 := cell_putObj (o' := .loop { rec .ready none with state := .busy }) hl rfl rfl
        have hw2 : Kp A1 (A1.putObj (w.heap.size + 1) (.loop { rec .ready none with state := .busy })) := hKb _ _ _ _ (by omega) hl rfl rfl
        refine wpIn_mono (k3 _ (grownBy_putObj' _ _ _) (by simp) (fun p => (hc2 p).1) (fun p => (hc2 p).2)) ?_
        rintro e a3 W3 hp
        cases e with
        | normal =>
          obtain ⟨hk3, hkp3, hi3⟩ := hp
          have hl3 := hk3.same _ _ (by omega) hl2 rfl
          have hk3' := hk3.same _ _ (Nat.le_refl _) hk2 rfl
          have hlt3 := (Array.getElem?_eq_some_iff.1 hl3).1
          refine ⟨_, _, run_endRound (P := P) none hl3, .inl ⟨rfl, ⟨hIp _ _ _ _ _ hi3 (by omega) hl3 rfl rfl, ?_, (World.putObj_heap_other (by omega)).trans hk3'⟩, ?_⟩⟩
          · rw [World.putObj_heap_same hlt3, hrec]; rfl
          · exact hKt k2 (hKt hw2 (hKt hkp3 (hKb _ _ _ _ (by omega) hl3 rfl rfl)))
        | ret =>
          obtain ⟨hk3, hi3⟩ := hp
          have hl3 := hk3.same _ _ (by omega) hl2 rfl
          have hk3' := hk3.same _ _ (Nat.le_refl _) hk2 rfl
          have hlt3 := (Array.getElem?_eq_some_iff.1 hl3).1
          refine ⟨_, _, run_endRound (P := P) (some .ret) hl3, .inr ⟨rfl, hIxp _ _ _ _ _ hi3 (by omega) hl3 rfl rfl, ?_, (World.putObj_heap_other (by omega)).trans hk3'⟩⟩
          rw [World.putObj_heap_same hlt3, hrec]; rfl
        | exit id => exact hp.elim
        | goto t => exact hp.elim
        | panic c => exact hp.elim
        | outgrown => exact hp.elim
      | exit id => exact hp.elim
      | goto t => exact hp.elim
      | ret => exact hp.elim
      | panic c => exact hp.elim
      | outgrown => exact hp.elim
    · rintro e W2 ⟨⟨v, rfl⟩, (⟨hi, hl, hk⟩ | ⟨pre, hi, hl, hk⟩)⟩
      · refine ⟨none, _, ?_, hdone _ _ (Nat.le_refl _) (hIp _ _ (w.heap.size + 1) _ (.loop { rec .ready none with state := .exhausted }) hi (by omega) hl rfl rfl) ((World.putObj_heap_other (by omega)).trans hk)⟩
        have := run_endLoop (P := P) hl (by rw [hrec]; simp)
        exact this.trans (by rw [hrec])
      · refine ⟨some .ret, _, ?_, wpIn_ret (hstop _ pre _ (Nat.le_refl _) (hIxp _ _ (w.heap.size + 1) _ (.loop { rec .done (some .ret) with state := .exhausted }) hi (by omega) hl rfl rfl) ((World.putObj_heap_other (by omega)).trans hk))⟩
        have := run_endLoop (P := P) hl (by rw [hrec]; simp)
        exact this.trans (by rw [hrec])

/-! ### A region that draws its order, inside a round: by the walks that serve outside of one -/
theorem oper_round {P : Program} {o : Oper} {a : Act} {w : World} {K K' : Act → World → Prop} {Q : Exit → Act → World → Prop} {l n : Nat} (hnd : ∀ c, o.op ≠ .defer c) (hK : ∀ a w, K a w → K' a w) (h : o.wp P a w K Q) :
    o.wpIn (Fence.wide.inRound l) n P a w K' Q := by
  refine ⟨fun _ _ => trivial, ?_⟩
  have hs : o.semAt (Fence.wide.inRound l).round a.eval = execOp a.eval o := Oper.semAt_some l _ _ hnd
  rw [hs]
  unfold Oper.wp at h
  generalize (execOp a.eval o).run P w = r at *
  cases r with
  | ok x w' =>
    cases x <;> simp only [Oper.upon] at h <;> simp only [Oper.uponIn]
    case value v => exact hK _ _ h
    case skip => exact hK _ _ h
    case defer d => exact hK _ _ h
    case enter f args =>
      refine ⟨(fun h => by cases h), ?_⟩
      refine CallsIn.inRound l (callsIn_wide.2 (Calls.mono h fun e w'' he => ?_))
      cases e <;> first | exact hK _ _ he | exact he
    case row row args =>
      refine ⟨(fun h => by cases h), fun c cs _ => ?_⟩
      obtain ⟨v, w'', hv, hst⟩ := h c cs
      exact ⟨v, w'', hK _ _ hv, stepsIn_wide.2 hst⟩
  | halt x w' => cases x <;> simp only [Oper.upon] at h <;> simp only [Oper.uponIn] <;> exact h

theorem wpAny_round {P : Program} {ops : Array Oper} {md : Region.Mode} {Q : Exit → Act → World → Prop} {l n : Nat} (hnd : ∀ (i : Nat) (o : Oper), ops[i]? = some o → ∀ c, o.op ≠ .defer c) (hout : ∀ a w, ¬ Q .outgrown a w) :
    ∀ (fuel : Nat) (listed : Array Bool) (a : Act) (w : World), wpAny P md ops Q fuel listed a w → wpAnyIn (Fence.wide.inRound l) n P md ops Q fuel listed a w
  | 0, _, _, _, h => h
  | fuel + 1, listed, a, w, h => by
    refine ⟨h.1, fun i hi => ?_⟩
    have h2 := h.2 i hi
    unfold wpOp at h2
    unfold wpOpIn
    cases ho : ops[i]? with
    | none =>
      simp only [ho] at h2 ⊢
      exact wpAny_round hnd hout fuel _ a w h2
    | some o =>
      simp only [ho] at h2 ⊢
      by_cases hw : Region.wanted o (yielded ops a.tmps) = true
      · simp only [hw, if_true] at h2 ⊢
        rcases h2 with h2 | ⟨_, a0, w0, hq⟩
        · exact oper_round (hnd i o ho) (fun a' w' h' => wpAny_round hnd hout fuel _ a' w' h') h2
        · exact (hout _ _ hq).elim
      · simp only [hw] at h2 ⊢
        exact ⟨fun _ _ => trivial, wpAny_round hnd hout fuel _ _ w h2⟩
def noDefer (ops : List Oper) : Bool := ops.all fun o => match o.op with | .defer _ => false | _ => true
theorem noDefer_spec {ops : List Oper} (h : noDefer ops = true) : ∀ (i : Nat) (o : Oper), ops.toArray[i]? = some o → ∀ c, o.op ≠ .defer c := by
  intro i o ho c hc
  have hm : o ∈ ops := by
    have := Array.mem_of_getElem? ho
    simpa using this
  have := List.all_eq_true.1 h o hm
  rw [hc] at this
  cases this
/-- Reads and calls (callees may make memory), in a round. -/
theorem wpIn_region_above_round {P : Program} {id : Nat} {Q : Exit → Act → World → Prop} {a : Act} {w : World} {l : List Oper} {r n : Nat} (hm : P.follows .mixedOrders = true) (hB : Region.lexB .any l.toArray = true) (hnd : noDefer l = true) (hout : ∀ a w, ¬ Q .outgrown a w)
    (h : wpQuiet P l.toArray (fun w' => ∃ x : Above w, w' = x.get) (fun a' => ∀ w', (∃ x : Above w, w' = x.get) → Q .normal a' w') l a) : (Code.region id l.toArray true).wpIn (Fence.wide.inRound r) n P Q a w := by
  simp only [Region.lexB, Bool.and_eq_true] at hB
  refine wpIn_region_any hm (wpAny_round (noDefer_spec hnd) hout _ _ _ _ (wpAny_of_quiet (C := fun w' => ∃ x : Above w, w' = x.get) (Q := fun a' => ∀ w', (∃ x : Above w, w' = x.get) → Q .normal a' w') (fun _ w' hw' h => h w' hw') _ _ _ _ ⟨⟨w.drew, (Below.refl _ _).drew⟩, rfl⟩ ?_))
  have := wpAnyQ_lex (C := fun w' => ∃ x : Above w, w' = x.get) (md := .any) hB.1 l 0 (Array.replicate l.toArray.size false) a (by simp) (by simpa using hB.2) h
  simpa using this
/-- Reads and calls that leave the world, then a tail in one order, in a round: the tail is walked as outside of one. -/
theorem wpIn_region_tail_round {P : Program} {id : Nat} {Q : Exit → Act → World → Prop} {a : Act} {w : World} {l : List Oper} {r m : Nat} (n : Nat) (hm : P.follows .mixedOrders = true) (hB : Region.lexTailB .any l.toArray n = true) (hnd : noDefer l = true) (hout : ∀ a w, ¬ Q .outgrown a w)
    (h : wpStill P l.toArray { w with drawn := w.drawn + 1 } (fun a' => wpList P l.toArray Q (l.drop n) a' { w with drawn := w.drawn + 1 }) (l.take n) a) : (Code.region id l.toArray true).wpIn (Fence.wide.inRound r) m P Q a w := by
  simp only [Region.lexTailB, Bool.and_eq_true, decide_eq_true_eq] at hB
  obtain ⟨⟨⟨⟨hsel, hn⟩, hs⟩, hc⟩, hlex⟩ := hB
  have hn' : n < l.length := by simpa using hn
  have htl : (l.take n).length = n := by simp; omega
  have hdl : (l.drop n).length = l.toArray.size - n := by simp
  have inv0 : HeadInv .any l.toArray n (Array.replicate l.toArray.size false) :=
    ⟨by simp, fun j oj _ hl => (by rw [getD_replicate_false] at hl; cases hl), fun t _ ht => getD_in (by simpa using ht) (getD_replicate_false _ _)⟩
  have H := wpAnyL_lex (md := .any) (g := l.toArray.size - n) hsel hs hc hn (l.take n) 0 _ a (fun j hj => by
    have hj' : j < n := by rw [htl] at hj; exact hj
    simp [hj']) (by simpa using htl) inv0 (by rw [htl]; exact hlex) h
  refine wpIn_region_any hm (wpAny_round (noDefer_spec hnd) hout _ _ _ _ ?_)
  have := wpAny_of_head (Q' := Q) (g := l.toArray.size - n) (fun listed a' hL => by
    obtain ⟨h1, h2⟩ := hL
    have := wpAny_of_seq (md := .any) (Q' := Q) (l.drop n) n listed a' { w with drawn := w.drawn + 1 } (fun j => by simp) (by rw [hdl]; exact h1) h2
    rw [hdl] at this
    exact this) (l.take n).length (Array.replicate l.toArray.size false) a H
  rw [htl] at this
  rwa [show n + (l.toArray.size - n) = l.toArray.size by have : n < l.toArray.size := hn; omega] at this
/-- The same, at a name for the world behind the draw. -/
theorem wpIn_region_tail_named {P : Program} {id : Nat} {Q : Exit → Act → World → Prop} {a : Act} {w : World} {l : List Oper} {r m : Nat} (n : Nat) (hm : P.follows .mixedOrders = true) (hB : Region.lexTailB .any l.toArray n = true) (hnd : noDefer l = true) (hout : ∀ a w, ¬ Q .outgrown a w)
    (h : ∀ w', w' = w.drew → wpStill P l.toArray w' (fun a' => wpList P l.toArray Q (l.drop n) a' w') (l.take n) a) : (Code.region id l.toArray true).wpIn (Fence.wide.inRound r) m P Q a w :=
  wpIn_region_tail_round n hm hB hnd hout (h _ rfl)
/-- The same, outside of a round. -/
theorem wp_region_tail_named {P : Program} {id : Nat} {Q : Exit → Act → World → Prop} {a : Act} {w : World} {l : List Oper} (n : Nat) (hm : P.follows .mixedOrders = true) (hB : Region.lexTailB .any l.toArray n = true)
    (h : ∀ w', w' = w.drew → wpStill P l.toArray w' (fun a' => wpList P l.toArray Q (l.drop n) a' w') (l.take n) a) : (Code.region id l.toArray true).wp P Q a w :=
  wp_region_still_tail n hm hB (h _ rfl)
theorem KeepsFrom.of_below {B : Nat} {A W : World} (h : Below A.heap.size A W) : KeepsFrom B A W :=
  ⟨h.size, fun k o _ hk _ => (h.block k (Array.getElem?_eq_some_iff.1 hk).1).trans hk⟩
theorem own_putObj {w : World} {B : Nat} {e : TypeId} {size : Nat} {v : Value} {n : Nat} {xs : List Value} (h : w.ownsRow B e size v n xs) {l : Nat} {o o' : Obj} (hl : w.heap[l]? = some o) (ho : o.isCells = false) : (w.putObj l o').ownsRow B e size v n xs := by
  refine ⟨h.1, ?_⟩
  rcases h.2 with hn | ⟨g, cap, cur, hv, hg, hh, r⟩
  · exact .inl hn
  · exact .inr ⟨g, cap, cur, hv, hg, (World.putObj_heap_other (fun e => by subst e; rw [hl] at hh; injection hh with hh; subst hh; cases ho)).trans hh, r⟩
end Go.Proofs.Ytamnaojheecopaa
