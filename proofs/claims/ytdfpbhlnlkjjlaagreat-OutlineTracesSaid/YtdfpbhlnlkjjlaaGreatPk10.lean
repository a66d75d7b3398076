/- Texts laid together: OumB, OudC, OudD, OudP, OudR. Lemmas for the statements of this seat; no condition. -/
import Derived.Test.YtdfpbhlnlkjjlaaGreatPk7
import Derived.Maps.OwnSet
import Derived.WideKeyEntry
import Derived.DeepKeys4
import Derived.Test.YtdfpbhlnlkjjlaaGreatPk9
import Derived.Test.YtdfpbhlnlkjjlaaGreatPk8
import Derived.Deep.Heap
import Derived.Test.YtdfpbhlnlkjjlaaGreatPk1

/- A map from points to rows of edges that the call itself has made: what lies in it, and the laws at its operations. -/
namespace Go.Proofs.YtdfpbhlnlkjjlaaGreat
open Go.RowKit Go.Maps Go.WideElems
open Go.ChangeMaps (setBlock heap_setBlock_same heap_setBlock_other)
set_option linter.unusedVariables false
set_option linter.unusedSimpArgs false
theorem laidOutT : laidOutB Tryz.prog = true := by kernel_rfl
theorem rowKT : 53 < Tryz.prog.types.size := of_decide_eq_true (by kernel_rfl)
theorem lawKT : WideMaps.KeyLaw Tryz.prog 53 := deep_law_laid laidOutT (m := 2) (by omega) rowKT (by kernel_rfl) (by rw [Tryz.underlying53])
theorem lawK : Keyed Tryz.prog 53 := Keyed.of_law lawKT
def kv (k : Pt) : Value := .agg #[.int .i64 k.1, .int .i64 k.2]
def kl (k : Pt) : Lit := .string (keyBytes [.int .i64 k.1, .int .i64 k.2])
def kin (k : Pt) : Prop := -1000000000 ≤ k.1 ∧ k.1 ≤ 1000000000 ∧ -1000000000 ≤ k.2 ∧ k.2 ≤ 1000000000
theorem keyLits_kv {k : Pt} (h : kin k) (d : Nat) : Tryz.prog.keyLits (d + 2) 53 [.int .i64 k.1, .int .i64 k.2] = some [.int .i64 k.1, .int .i64 k.2] := by
 obtain ⟨h1, h2, h3, h4⟩ := h
 have w1 : (Lit.int .i64 k.1).wf = true := WalkArith.wf_i64 (by omega)
 have w2 : (Lit.int .i64 k.2).wf = true := WalkArith.wf_i64 (by omega)
 have c1 : Tryz.prog.cellsOf 53 = 2 := by kernel_rfl
 have c2 : Tryz.prog.cellsOf 3 = 1 := by kernel_rfl
 simp [Program.keyLits, Tryz.underlying53, Tryz.underlying3, c1, c2, w1, w2]
theorem keyOf_kv {k : Pt} (h : kin k) : keyOf Tryz.prog 53 (kv k) = some (kl k) := by
 have h1 : Tryz.prog.keyType 53 = true := by kernel_rfl
 have c1 : Tryz.prog.cellsOf 53 = 2 := by kernel_rfl
 obtain ⟨d, hd⟩ : ∃ d, Tryz.prog.types.size + 1 = d + 2 := by
  have := Nat.lt_of_le_of_lt (Nat.zero_le _) rowKT
  exact ⟨Tryz.prog.types.size - 1, by omega⟩
 have h2 := keyLits_kv h d
 unfold keyOf kv
 rw [Tryz.underlying53, hd]
 have h3 : (Value.agg #[.int .i64 k.1, .int .i64 k.2]).formed Tryz.prog 53 = true := by simp [Value.formed, Tryz.underlying53, c1]
 have h4 : (Value.agg #[.int .i64 k.1, .int .i64 k.2]).cells.toList = [.int .i64 k.1, .int .i64 k.2] := rfl
 simp only [h1, h3, h4, h2, Bool.and_true, if_true, Option.map_some]
 rfl
theorem kl_inj {a b : Pt} (ha : kin a) (hb : kin b) (h : kl a = kl b) : a = b := by
 have h1 := keyOf_kv ha
 have h2 := keyOf_kv hb
 rw [h] at h1
 have := lawK.inj h1 h2
 unfold kv at this
 simp only [Value.agg.injEq, Array.mk.injEq, List.cons.injEq, Value.int.injEq, true_and, and_true] at this
 exact Prod.ext this.1 this.2
theorem kl_ne {a b : Pt} (ha : kin a) (hb : kin b) (h : a ≠ b) : kl a ≠ kl b := fun e => h (kl_inj ha hb e)
def sliE : Value → DataW Unit
 | .slice none n c => .agg [.lit (.int .i64 n), .lit (.int .i64 c)]
 | .slice (some ⟨g, o, none⟩) n c => .agg [.lit (.int .i64 g), .lit (.int .i64 o), .lit (.int .i64 n), .lit (.int .i64 c)]
 | _ => .nil
def sliD : Value → Option (DataW Unit × List MemPlace)
 | .slice none n c => some (sliE (.slice none n c), [])
 | .slice (some ⟨g, o, none⟩) n c => some (sliE (.slice (some ⟨g, o, none⟩) n c), [])
 | _ => none
theorem sliD_inj {u v : Value} {d : DataW Unit} {p q : List MemPlace} (h1 : sliD u = some (d, p)) (h2 : sliD v = some (d, q)) : u = v := by
 unfold sliD at h1 h2
 split at h1 <;> split at h2 <;> simp only [Option.some.injEq, Prod.mk.injEq, reduceCtorEq] at h1 h2 <;> obtain ⟨e1, _⟩ := h1 <;> obtain ⟨e2, _⟩ := h2 <;> rw [← e1] at e2 <;> simp only [sliE, DataW.agg.injEq, List.cons.injEq, DataW.lit.injEq, Lit.int.injEq, true_and, and_true, reduceCtorEq, and_false, Int.natCast_inj] at e2
 ·obtain ⟨rfl, rfl⟩ := e2; rfl
 ·obtain ⟨rfl, rfl, rfl, rfl⟩ := e2; rfl
abbrev ownsG (b n : Nat) (D : DataW Unit) (w : World) : Prop := w.ownsMap Tryz.prog 53 sliD b n D
theorem zeroG (w : World) : (zeroValue 66).run Tryz.prog w = .ok (.slice none 0 0) w := by kernel_rfl
def gv (K : List Pt) (vals : Pt → Value) (k : Pt) : Value := if k ∈ K then vals k else .slice none 0 0
def addK (K : List Pt) (k : Pt) : List Pt := if k ∈ K then K else K ++ [k]
structure Gs (B bM n0 n1 : Nat) (K : List Pt) (p : Pt → List Eg) (vals : Pt → Value) (w : World) : Prop where
 map : ∃ D, (ownsG bM K.length D w ∧ Maps.size D = K.length) ∧ (∀ k ∈ K, ∀ z, D.atKey (kl k) z = sliE (vals k)) ∧ ∀ l, Maps.has D l = true ↔ ∃ k ∈ K, l = kl k
 vs : ∀ k ∈ K, ∃ g c, vals k = .slice (some ⟨g, 0, none⟩) (p k).length c ∧ (g < n0 ∨ n1 ≤ g) ∧ w.ownsRow B 74 4 (vals k) (p k).length ((p k).flatMap encG)
 apart : ∀ a ∈ K, ∀ b ∈ K, a ≠ b → (vals a).ownBlock ≠ (vals b).ownBlock
 rng : ∀ k ∈ K, kin k
 nd : K.Nodup
theorem Gs.made (w : World) (B n0 n1 : Nat) (p : Pt → List Eg) (vals : Pt → Value) : Gs B w.heap.size n0 n1 [] p vals (w.alloc (.map #[] 0)) :=
 ⟨⟨.map [], ⟨World.ownsMap_made w _ _ _, rfl⟩, fun k h => (List.not_mem_nil h).elim, fun l => by rw [has_eq]; simp⟩, fun k h => (List.not_mem_nil h).elim, fun a h => (List.not_mem_nil h).elim, fun k h => (List.not_mem_nil h).elim, by simp⟩
theorem Gs.same {B bM n0 n1 : Nat} {K : List Pt} {p q : Pt → List Eg} {vals : Pt → Value} {w : World} (h : Gs B bM n0 n1 K p vals w) (e : ∀ k, p k = q k) : Gs B bM n0 n1 K q vals w := by
 obtain rfl : p = q := funext e
 exact h
theorem Gs.lt {B bM n0 n1 : Nat} {K : List Pt} {p : Pt → List Eg} {vals : Pt → Value} {w : World} (h : Gs B bM n0 n1 K p vals w) {k : Pt} (hk : k ∈ K) {g : Nat} (hg : (vals k).ownBlock = some g) : B ≤ g ∧ g < w.heap.size := by
 obtain ⟨_, _, _, _, hr⟩ := h.vs k hk
 exact hr.lt g hg
theorem Gs.grown {B bM n0 n1 : Nat} {K : List Pt} {p : Pt → List Eg} {vals : Pt → Value} {w w' : World} (h : Gs B bM n0 n1 K p vals w) {row : Option Nat} (hg : w.grownBy w' row) (h1 : some bM ≠ row) (h2 : ∀ k ∈ K, (vals k).ownBlock ≠ row) : Gs B bM n0 n1 K p vals w' := by
 obtain ⟨D, d1, d2, d3⟩ := h.map
 exact ⟨⟨D, ⟨d1.1.kept hg h1, d1.2⟩, d2, d3⟩, fun k hk => by
  obtain ⟨g, c, e, hgap, hr⟩ := h.vs k hk
  exact ⟨g, c, e, hgap, hr.kept hg (.inr (h2 k hk))⟩, h.apart, h.rng, h.nd⟩
theorem Gs.someB {B bM n0 n1 : Nat} {K : List Pt} {p : Pt → List Eg} {vals : Pt → Value} {w : World} (h : Gs B bM n0 n1 K p vals w) {k : Pt} (hk : k ∈ K) : (vals k).ownBlock ≠ none := by
 obtain ⟨g, c, e, _, _⟩ := h.vs k hk
 rw [e]; simp [Value.ownBlock]
theorem Gs.below {B bM n0 n1 : Nat} {K : List Pt} {p : Pt → List Eg} {vals : Pt → Value} {w w' : World} (h : Gs B bM n0 n1 K p vals w) (hb : Below w.heap.size w w') : Gs B bM n0 n1 K p vals w' :=
 h.grown ⟨hb.os, hb.tape, hb.output, hb.size, fun k hk _ => hb.block k hk⟩ (by simp) fun k hk => h.someB hk
theorem Gs.bM_lt {B bM n0 n1 : Nat} {K : List Pt} {p : Pt → List Eg} {vals : Pt → Value} {w : World} (h : Gs B bM n0 n1 K p vals w) : bM < w.heap.size := by
 obtain ⟨D, d1, _⟩ := h.map
 exact d1.1.lt
theorem Gs.not_map {B bM n0 n1 : Nat} {K : List Pt} {p : Pt → List Eg} {vals : Pt → Value} {w : World} (h : Gs B bM n0 n1 K p vals w) {b n : Nat} {e : TypeId} {s : Nat} {v : Value} {xs : List Value} (ho : w.ownsRow b e s v n xs) : some bM ≠ v.ownBlock := by
 obtain ⟨D, ⟨⟨es, clock, hb, _⟩, _⟩, _⟩ := h.map
 rcases ho.2 with ⟨rfl, _⟩ | ⟨g, cap, cur, rfl, _, hg, _⟩
 ·simp [Value.ownBlock]
 ·intro e1
  have : g = bM := by simpa [Value.ownBlock] using e1.symm
  subst this
  rw [hg] at hb
  cases hb
theorem Gs.setCell {B bM n0 n1 : Nat} {K : List Pt} {p : Pt → List Eg} {vals : Pt → Value} {w : World} (h : Gs B bM n0 n1 K p vals w) {q : Nat} (off : Nat) (u : Value) (h1 : bM ≠ q) (h2 : ∀ k ∈ K, (vals k).ownBlock ≠ some q) : Gs B bM n0 n1 K p vals (w.setCell ⟨q, off, none⟩ u) :=
 h.grown (row := some q) ⟨rfl, rfl, rfl, by simp, fun k _ hk => Below.heap_setCell _ _ _ _ (fun e => hk (by rw [e]))⟩ (by simpa using h1) h2
theorem Gs.look {B bM n0 n1 : Nat} {K : List Pt} {p : Pt → List Eg} {vals : Pt → Value} {w : World} (h : Gs B bM n0 n1 K p vals w) {k : Pt} (hk : kin k) : (Instr.lookup 90 (.map (some bM)) (kv k) false).run Tryz.prog w = .ok (gv K vals k) w := by
 obtain ⟨D, ⟨d1, _⟩, d2, d3⟩ := h.map
 obtain ⟨v, ps, hrun, hR⟩ := d1.lookup lawK Tryz.underlying90 (zeroG w) (show sliD (.slice none 0 0) = some (sliE (.slice none 0 0), []) from rfl) (keyOf_kv hk)
 suffices e : v = gv K vals k by rw [← e]; exact hrun
 by_cases hm : k ∈ K
 ·rw [d2 k hm] at hR
  obtain ⟨g, c, e, _, _⟩ := h.vs k hm
  unfold gv
  rw [if_pos hm]
  refine sliD_inj hR (q := []) ?_
  rw [e]; rfl
 ·have hno : Maps.has D (kl k) = false := by
   rw [← Bool.not_eq_true, d3]
   rintro ⟨k', hk', e⟩
   exact hm (kl_inj hk (h.rng k' hk') e ▸ hk')
  rw [atKey_of_not_has hno] at hR
  unfold gv
  rw [if_neg hm]
  exact sliD_inj hR (q := []) rfl
def GMid (B bM n0 n1 : Nat) (K : List Pt) (p : Pt → List Eg) (vals : Pt → Value) (k : Pt) (st : Nat) (w1 : World) : Prop :=
 bM < w1.heap.size ∧ ∀ (w2 : World) (r : Eg) (g c : Nat), w1.grownBy w2 (gv K vals k).ownBlock → ((gv K vals k).ownBlock = some g ∨ w1.heap.size ≤ g) → (g < n0 ∨ n1 ≤ g) → w2.ownsRow B 74 4 (.slice (some ⟨g, 0, none⟩) ((p k).length + 1) c) ((p k).length + 1) ((p k ++ [r]).flatMap encG) →
  ∃ w3, (Instr.entryStore 90 (.map (some bM)) (goInt st) (.slice (some ⟨g, 0, none⟩) ((p k).length + 1) c)).run Tryz.prog w2 = .ok () w3 ∧ w2.grownBy w3 (some bM) ∧
   Gs B bM n0 n1 (addK K k) (fun k' => p k' ++ if k' = k then [r] else []) (fun k' => if k' = k then .slice (some ⟨g, 0, none⟩) ((p k).length + 1) c else vals k') w3
theorem setBlock_grown {w : World} {b : Nat} {es : Array MapEntry} {clock : Nat} (hb : w.heap[b]? = some (.map es clock)) (o' : Obj) : w.grownBy (setBlock w b o') (some b) :=
 ⟨rfl, rfl, rfl, by simp [setBlock], fun i _ hi => heap_setBlock_other hb _ (fun e => hi (by rw [e]))⟩
theorem Gs.entry {B bM n0 n1 : Nat} {K : List Pt} {p : Pt → List Eg} {vals : Pt → Value} {w : World} (h : Gs B bM n0 n1 K p vals w) {k : Pt} (hk : kin k) (hn : K.length < maxLen) (hp : k ∉ K → p k = []) (hn1 : n1 ≤ w.heap.size) :
  ∃ (st : Nat) (w1 : World), (Instr.mapEntry 90 (.map (some bM)) (kv k)).run Tryz.prog w = .ok (.tuple #[gv K vals k, goInt st]) w1 ∧ w.grownBy w1 (some bM) ∧ w1.heap.size = w.heap.size ∧ GMid B bM n0 n1 K p vals k st w1 := by
 have hlook := h.look hk
 obtain ⟨D, ⟨d1, hKs⟩, d2, d3⟩ := h.map
 obtain ⟨es, clock, hb, F, hs, hD⟩ := id d1
 have hblt := d1.lt
 obtain ⟨v0, st, es1, clock1, hrun, hv0, hst⟩ := entry_then_store lawKT Tryz.underlying90 zeroG hb F (keyOf_kv hk)
 have hgw := setBlock_grown hb (.map es1 clock1)
 have e0 : v0 = gv K vals k := by
  rcases Maps.fit_look false lawK Tryz.underlying90 (zeroG w) hb F (keyOf_kv hk) with ⟨hr, hno, _⟩ | ⟨e0, y, hm0, hk0, hr, _⟩
  ·rw [hlook] at hr
   simp only [Result.ok.injEq, and_true] at hr
   rcases hv0 with ⟨e1, h1, h2, h3⟩ | ⟨h1, h2⟩
   ·exact absurd h2 (hno e1 h1)
   ·rw [h2, hr]; rfl
  ·rw [hlook] at hr
   simp only [Result.ok.injEq, and_true] at hr
   rcases hv0 with ⟨e1, h1, h2, h3⟩ | ⟨h1, h2⟩
   ·have : e1 = e0 := by
     have hnd : es.toList.Pairwise (fun x y => x.key ≠ y.key) := ((MapKept.stamped_iff es clock).1 F.stamped).2.2
     rcases List.getElem_of_mem h1 with ⟨i, hi, ei⟩
     rcases List.getElem_of_mem hm0 with ⟨j, hj, ej⟩
     rcases Nat.lt_trichotomy i j with hij | hij | hij
     ·exact absurd (by rw [ei, ej, h2, hk0]) (List.pairwise_iff_getElem.1 hnd i j hi hj hij)
     ·subst hij; rw [← ei, ← ej]
     ·exact absurd (by rw [ei, ej, h2, hk0]) (List.pairwise_iff_getElem.1 hnd j i hj hi hij)
    rw [h3, this, hr]; rfl
   ·exact absurd hk0 (h1 e0 hm0)
 subst e0
 refine ⟨st, _, hrun, hgw, by simp [setBlock], by simpa [setBlock] using hblt, ?_⟩
 intro w2 r g c hg2 hloc hgap hown2
 have hbM2 : some bM ≠ (gv K vals k).ownBlock := by
  unfold gv
  split
  ·rename_i hm
   obtain ⟨_, _, _, _, hr⟩ := h.vs k hm
   exact h.not_map hr
  ·simp [Value.ownBlock]
 have hw2 : w2.heap[bM]? = some (.map es1 clock1) := (hg2.block bM (by simpa [setBlock] using hblt) hbM2).trans (heap_setBlock_same hb _)
 obtain ⟨es', clock', hrun2, hupd⟩ := hst w2 (.slice (some ⟨g, 0, none⟩) ((p k).length + 1) c) hw2
 obtain ⟨es'', clock'', hrun3, F'', hput, _⟩ := Maps.fit_store (R' := sliD) lawK Tryz.underlying90 hb F (Nat.lt_of_le_of_lt hs hn) (fun _ _ _ _ hz => hz) (keyOf_kv hk) (show sliD (.slice (some ⟨g, 0, none⟩) ((p k).length + 1) c) = some (sliE (.slice (some ⟨g, 0, none⟩) ((p k).length + 1) c), []) from rfl)
 rw [hupd] at hrun3
 simp only [Result.ok.injEq, true_and] at hrun3
 have hsame : es' = es'' ∧ clock' = clock'' := by
  have h1 := heap_setBlock_same hb (.map es' clock')
  have h2 := heap_setBlock_same hb (.map es'' clock'')
  rw [hrun3] at h1
  rw [h1] at h2
  simp only [Option.some.injEq, Obj.map.injEq] at h2
  exact h2
 obtain ⟨rfl, rfl⟩ := hsame
 have hg3 := setBlock_grown hw2 (.map es' clock')
 refine ⟨_, hrun2, hg3, ?_⟩
 have hlen : es'.size = Maps.size (D.put (kl k) (sliE (.slice (some ⟨g, 0, none⟩) ((p k).length + 1) c))) := by
  rw [hD, DataW.put_eq, Maps.size_eq, ← hput, length_sorted]
  simp
 have hhas : Maps.has D (kl k) = true ↔ k ∈ K := by
  rw [d3]
  constructor
  ·rintro ⟨k', hk', e⟩
   exact kl_inj hk (h.rng k' hk') e ▸ hk'
  ·intro hm; exact ⟨k, hm, rfl⟩
 have hrng : ∀ k' ∈ addK K k, kin k' := by
  intro k' hk'
  unfold addK at hk'
  split at hk'
  ·exact h.rng k' hk'
  ·rcases List.mem_append.1 hk' with h1 | h1
   ·exact h.rng k' h1
   ·rw [List.mem_singleton] at h1; subst h1; exact hk
 have hmem : ∀ k', k' ∈ addK K k ↔ k' = k ∨ k' ∈ K := by
  intro k'
  unfold addK
  split
  ·rename_i hm
   constructor
   ·exact .inr
   ·rintro (rfl | h1)
    ·exact hm
    ·exact h1
  ·rw [List.mem_append, List.mem_singleton]
   exact Or.comm
 have hoth : ∀ k' ∈ K, k' ≠ k → (vals k').ownBlock ≠ some g ∧ (vals k').ownBlock ≠ (gv K vals k).ownBlock := by
  intro k' hk' hne
  have hsm := h.someB hk'
  have h2 : (vals k').ownBlock ≠ (gv K vals k).ownBlock := by
   unfold gv
   split
   ·rename_i hm; exact h.apart k' hk' k hm hne
   ·exact hsm
  refine ⟨?_, h2⟩
  rcases hloc with hl | hl
  ·rw [← hl]; exact h2
  ·intro e
   have := (h.lt hk' e).2
   have : (setBlock w bM (.map es1 clock1)).heap.size = w.heap.size := by simp [setBlock]
   omega
 have hsz : Maps.size (D.put (kl k) (sliE (.slice (some ⟨g, 0, none⟩) ((p k).length + 1) c))) = (addK K k).length := by
  rw [size_put (d1.tidy lawK)]
  unfold addK
  by_cases hm : k ∈ K
  ·rw [if_pos (hhas.2 hm), if_pos hm]; omega
  ·rw [if_neg (fun e => hm (hhas.1 e)), if_neg hm]; simp; omega
 refine ⟨⟨D.put (kl k) (sliE (.slice (some ⟨g, 0, none⟩) ((p k).length + 1) c)), ⟨⟨es', clock', heap_setBlock_same hw2 _, F'', by omega, by rw [hD, DataW.put_eq, hput]⟩, hsz⟩, ?_, ?_⟩, ?_, ?_, hrng, ?_⟩
 ·intro k' hk' z
  by_cases e : k' = k
  ·subst e
   rw [if_pos rfl, atKey_put_same d1.isMap (lawK.key (keyOf_kv hk))]
  ·rw [if_neg e, atKey_put_other (kl_ne (hrng k' hk') hk e)]
   rcases (hmem k').1 hk' with h1 | h1
   ·exact absurd h1 e
   ·exact d2 k' h1 z
 ·intro l
  by_cases e : l = kl k
  ·subst e
   rw [has_put_same d1.isMap (lawK.key (keyOf_kv hk))]
   exact ⟨fun _ => ⟨k, (hmem k).2 (.inl rfl), rfl⟩, fun _ => rfl⟩
  ·rw [has_put_other e, d3]
   constructor
   ·rintro ⟨k', h1, h2⟩; exact ⟨k', (hmem k').2 (.inr h1), h2⟩
   ·rintro ⟨k', h1, h2⟩
    rcases (hmem k').1 h1 with h3 | h3
    ·subst h3; exact absurd h2 e
    ·exact ⟨k', h3, h2⟩
 ·intro k' hk'
  by_cases e : k' = k
  ·subst e
   refine ⟨g, c, by simp, hgap, ?_⟩
   simp only [if_true, List.length_append, List.length_singleton]
   refine hown2.kept hg3 (.inr ?_)
   have hno : some bM ≠ (Value.slice (some ⟨g, 0, none⟩) ((p k').length + 1) c).ownBlock := by
    intro e1
    have e2 : g = bM := by simpa [Value.ownBlock] using e1.symm
    subst e2
    rcases hown2.2 with ⟨e3, _⟩ | ⟨g', cap, cur, e3, _, hh, _⟩
    ·cases e3
    ·injection e3 with e4
     injection e4 with e4
     injection e4 with e4
     subst e4
     rw [hh] at hw2
     cases hw2
   exact fun e1 => hno e1.symm
  ·rcases (hmem k').1 hk' with h1 | h1
   ·exact absurd h1 e
   ·obtain ⟨g', c', e', hgap', hr'⟩ := h.vs k' h1
    obtain ⟨o1, o2⟩ := hoth k' h1 e
    refine ⟨g', c', by simp [e, e'], hgap', ?_⟩
    simp only [e, if_false, List.append_nil]
    have hk1 : (vals k').ownBlock ≠ some bM := fun e1 => (h.not_map hr') e1.symm
    exact ((hr'.kept hgw (.inr hk1)).kept hg2 (.inr o2)).kept hg3 (.inr hk1)
 ·intro a ha b hb' hne
  by_cases ea : a = k
  ·subst ea
   rw [if_pos rfl, if_neg (Ne.symm hne)]
   rcases (hmem b).1 hb' with h1 | h1
   ·exact absurd h1.symm hne
   ·exact fun e => (hoth b h1 (Ne.symm hne)).1 e.symm
  ·rw [if_neg ea]
   rcases (hmem a).1 ha with h1 | h1
   ·exact absurd h1 ea
   ·by_cases eb : b = k
    ·subst eb
     rw [if_pos rfl]
     exact (hoth a h1 hne).1
    ·rw [if_neg eb]
     rcases (hmem b).1 hb' with h2 | h2
     ·exact absurd h2 eb
     ·exact h.apart a h1 b h2 hne
 ·unfold addK
  split
  ·exact h.nd
  ·rename_i hm
   rw [List.nodup_append]
   refine ⟨h.nd, by simp, fun a ha b hb e => ?_⟩
   rw [List.mem_singleton] at hb
   subst hb; subst e
   exact hm ha
theorem wpList_entry_grp {w : World} {ops : Array Oper} {rest : List Oper} {o : Oper} {a : Act} {Q : Exit → Act → World → Prop} (hg : o.guard = none) (m x : Operand) (hop : o.op = Op.mapEntry 90 m x) {B bM n0 n1 : Nat} {K : List Pt} {p : Pt → List Eg} {vals : Pt → Value}
  (hm : a.eval m = .map (some bM)) (h : Gs B bM n0 n1 K p vals w) (k : Pt) (hx : a.eval x = kv k) (hk : kin k) (hn : K.length < maxLen) (hp : k ∉ K → p k = []) (hn1 : n1 ≤ w.heap.size) (v : Value) (hv : gv K vals k = v)
  (hK : ∀ (st : Nat) (w1 : World), w.grownBy w1 (some bM) → w1.heap.size = w.heap.size → GMid B bM n0 n1 K p vals k st w1 → wpList Tryz.prog ops Q rest (a.put o.dst (.tuple #[v, .int .i64 (st : Nat)])) w1) : wpList Tryz.prog ops Q (o :: rest) a w := by
 refine wpList_plain hg fun K' hK' => ?_
 obtain ⟨st, w1, hrun, h1, h2, h3⟩ := h.entry hk hn hp hn1
 subst hv
 unfold Oper.wp
 simp [execOp, hop, hm, hx, hrun, Result.andThen]
 exact hK' _ _ (hK st w1 h1 h2 h3)
theorem wpList_store_grp {w w1 : World} {ops : Array Oper} {rest : List Oper} {o : Oper} {a : Act} {Q : Exit → Act → World → Prop} (hg : o.guard = none) (m x y : Operand) (hop : o.op = Op.entryStore 90 m x y) {B bM n0 n1 : Nat} {K : List Pt} {p : Pt → List Eg} {vals : Pt → Value} {k : Pt} {st : Nat} (h : GMid B bM n0 n1 K p vals k st w1)
  (hm : a.eval m = .map (some bM)) (hx : a.eval x = .int .i64 (st : Nat)) (r : Eg) (g c : Nat) (hy : a.eval y = .slice (some ⟨g, 0, none⟩) ((p k).length + 1) c) (hgr : w1.grownBy w (gv K vals k).ownBlock) (hloc : (gv K vals k).ownBlock = some g ∨ w1.heap.size ≤ g) (hgap : g < n0 ∨ n1 ≤ g)
  (hown : w.ownsRow B 74 4 (.slice (some ⟨g, 0, none⟩) ((p k).length + 1) c) ((p k).length + 1) ((p k ++ [r]).flatMap encG))
  (hK : ∀ w3, w.grownBy w3 (some bM) → Gs B bM n0 n1 (addK K k) (fun k' => p k' ++ if k' = k then [r] else []) (fun k' => if k' = k then .slice (some ⟨g, 0, none⟩) ((p k).length + 1) c else vals k') w3 → wpList Tryz.prog ops Q rest (a.put o.dst undef) w3) : wpList Tryz.prog ops Q (o :: rest) a w := by
 refine wpList_plain hg fun K' hK' => ?_
 obtain ⟨w3, hrun, h1, h2⟩ := h.2 w r g c hgr hloc hgap hown
 unfold Oper.wp
 simp [execOp, hop, hm, hx, hy, goInt, hrun, Result.andThen]
 simp only [goInt] at hrun
 rw [hrun]
 exact hK' _ _ (hK w3 h1 h2)
end Go.Proofs.YtdfpbhlnlkjjlaaGreat

/- Outlines: loops: the maps of a list of edges. -/
namespace Go.Proofs.YtdfpbhlnlkjjlaaGreat
open Go.RowKit Go.Maps
set_option linter.unusedVariables false
set_option linter.unusedSimpArgs false
theorem fromE_take {E : List Eg} {k : Nat} {e : Eg} (h : E[k]? = some e) (q : Pt) : fromE (E.take (k + 1)) q = fromE (E.take k) q ++ if q = e.1 then [e] else [] := by
 unfold fromE
 rw [List.take_add_one, h, Option.toList_some, List.filter_append]
 congr 1
 by_cases hq : q = e.1
 ·rw [if_pos hq, List.filter_cons_of_pos (by simp [hq])]
  rfl
 ·rw [if_neg hq, List.filter_cons_of_neg (by simpa using fun h5 => hq h5.symm)]
  rfl
theorem fromE_len (E : List Eg) (q : Pt) : (fromE E q).length ≤ E.length := List.length_filter_le _ _
theorem own_none_ne {v : Value} {b : Option Nat} (h : v.ownBlock = b → False) : v.ownBlock = none ∨ v.ownBlock ≠ b := .inr h
theorem okP.kin' {p : Pt} (h : okP p) : kin p := ⟨h.1.1, h.1.2, h.2.1, h.2.2⟩
theorem gv_own {B bM n0 n1 : Nat} {K : List Pt} {p : Pt → List Eg} {vals : Pt → Value} {w : World} (h : Gs B bM n0 n1 K p vals w) (hp : ∀ k, k ∉ K → p k = []) (k : Pt) : ∃ A c, gv K vals k = .slice A (p k).length c ∧ w.ownsRow B 74 4 (.slice A (p k).length c) (p k).length ((p k).flatMap encG) := by
 unfold gv
 by_cases hm : k ∈ K
 ·obtain ⟨g, c, e, _, hr⟩ := h.vs k hm
  rw [if_pos hm]
  exact ⟨_, _, e, by rw [← e]; exact hr⟩
 ·rw [if_neg hm, hp k hm]
  exact ⟨none, 0, rfl, World.ownsRow_nil _ _ _ _⟩
structure LpS (n : Nat) (v : Value) (p : Pt → List Eg) (op : Eg → Bool) (m me : Nat) (w wr : World) : Prop where
 low : Below n w wr
 cl : wr.cell? ⟨n, 0, none⟩ = some v
 cn : wr.cell? ⟨n + 2, 0, none⟩ = some (.map (some (n + 1)))
 co : wr.cell? ⟨n + 4, 0, none⟩ = some (.map (some (n + 3)))
 sz : n + 5 ≤ wr.heap.size
 gs : ∃ K vals, Gs (n + 5) (n + 1) 0 0 K p vals wr ∧ (∀ k, k ∉ K → p k = []) ∧ K.length ≤ m
 es : ∃ m2, Es (n + 3) m2 op wr ∧ m2 ≤ me
theorem LpS.below {n : Nat} {v : Value} {p : Pt → List Eg} {op : Eg → Bool} {m me : Nat} {w wr w2 : World} (h : LpS n v p op m me w wr) (hb : Below wr.heap.size wr w2) : LpS n v p op m me w w2 := by
 obtain ⟨K, vals, g1, g2, g3⟩ := h.gs
 obtain ⟨m2, e1, e2⟩ := h.es
 have hs := h.sz
 exact ⟨h.low.trans (hb.mono (by omega)), (hb.cell (p := ⟨n, 0, none⟩) (by show n < _; omega)).trans h.cl, (hb.cell (p := ⟨n + 2, 0, none⟩) (by show n + 2 < _; omega)).trans h.cn, (hb.cell (p := ⟨n + 4, 0, none⟩) (by show n + 4 < _; omega)).trans h.co, Nat.le_trans hs hb.size, ⟨K, vals, g1.below hb, g2, g3⟩, m2, e1.below hb, e2⟩
theorem LpS.next {n : Nat} {v : Value} {p : Pt → List Eg} {op : Eg → Bool} {m me : Nat} {w wr wE w9 w3 : World} {K : List Pt} {vals : Pt → Value} (h : LpS n v p op m me w wr) (hg : Gs (n + 5) (n + 1) 0 0 K p vals wr) (hK : K.length ≤ m) (hp : ∀ k, k ∉ K → p k = []) {e : Eg} {vals2 : Pt → Value}
  (gE : wr.grownBy wE (some (n + 1))) (gR : wE.grownBy w9 (gv K vals e.1).ownBlock) (g3 : w9.grownBy w3 (some (n + 1))) (gs3 : Gs (n + 5) (n + 1) 0 0 (addK K e.1) (fun k' => p k' ++ if k' = e.1 then [e] else []) vals2 w3) :
  LpS n v (fun k' => p k' ++ if k' = e.1 then [e] else []) op (m + 1) me w w3 := by
 obtain ⟨m2, e1, e2⟩ := h.es
 have hs := h.sz
 obtain ⟨A9, c9, ev, hrow⟩ := gv_own hg hp e.1
 have hrb : ∀ q, (gv K vals e.1).ownBlock = some q → n + 5 ≤ q := fun q hq => (hrow.lt q (by rw [← ev]; exact hq)).1
 have key : ∀ b, b < n + 5 → b ≠ n + 1 → w3.heap[b]? = wr.heap[b]? := fun b hb hne => by
  have s1 := gE.size
  have s2 := gR.size
  rw [g3.block b (by omega) (fun h5 => by injection h5 with h5; omega), gR.block b (by omega) (fun h5 => by have := hrb b h5.symm; omega), gE.block b (by omega) (fun h5 => by injection h5 with h5; omega)]
 have cell : ∀ b, b < n + 5 → b ≠ n + 1 → w3.cell? ⟨b, 0, none⟩ = wr.cell? ⟨b, 0, none⟩ := fun b hb hne => World.cell?_of_block (key b hb hne)
 have s1 := gE.size
 have s2 := gR.size
 have s3 := g3.size
 refine ⟨?_, (cell n (by omega) (by omega)).trans h.cl, (cell (n + 2) (by omega) (by omega)).trans h.cn, (cell (n + 4) (by omega) (by omega)).trans h.co, by omega, ⟨_, _, gs3, fun k hk => ?_, ?_⟩, m2, ?_, by omega⟩
 ·exact ((h.low.grown gE (by omega) fun q hq => by injection hq with hq; omega).grown gR (by omega) fun q hq => by have := hrb q hq; omega).grown g3 (by omega) fun q hq => by injection hq with hq; omega
 ·have h1 : k ∉ K := fun h5 => hk (by unfold addK; split; exact h5; exact List.mem_append_left _ h5)
  have h2 : k ≠ e.1 := fun h5 => hk (by subst h5; unfold addK; split; assumption; simp)
  rw [hp k h1, if_neg h2]
  rfl
 ·unfold addK
  split
  ·omega
  ·simp; omega
 ·have f1 := e1.grown gE (fun h5 => by injection h5 with h5; omega)
  have f2 := f1.grown gR (fun h5 => by have := hrb _ h5.symm; omega)
  exact f2.grown g3 (fun h5 => by injection h5 with h5; omega)
theorem LpS.opened {n : Nat} {v : Value} {p : Pt → List Eg} {op op2 : Eg → Bool} {m me m2 me2 : Nat} {w wr w3 : World} (h : LpS n v p op m me w wr) (g : wr.grownBy w3 (some (n + 3))) (he : Es (n + 3) m2 op2 w3) (hm2 : m2 ≤ me2) : LpS n v p op2 m me2 w w3 := by
 obtain ⟨K, vals, g1, g2, g3⟩ := h.gs
 have hs := h.sz
 have s1 := g.size
 have cell : ∀ b, b < n + 5 → b ≠ n + 3 → w3.cell? ⟨b, 0, none⟩ = wr.cell? ⟨b, 0, none⟩ := fun b hb hne => World.cell?_of_block (g.block b (by show b < _; omega) (fun h5 => by injection h5 with h5; exact hne h5))
 refine ⟨h.low.grown g (by omega) fun q hq => by injection hq with hq; omega, (cell n (by omega) (by omega)).trans h.cl, (cell (n + 2) (by omega) (by omega)).trans h.cn, (cell (n + 4) (by omega) (by omega)).trans h.co, by omega, ⟨K, vals, g1.grown g (fun h5 => by injection h5 with h5; omega) fun k hk h5 => ?_, g2, by omega⟩, m2, he, hm2⟩
 obtain ⟨q, c, e, _, hr⟩ := g1.vs k hk
 have := (hr.lt _ h5).1
 omega
theorem lps_start {w w0 : World} {v : Value} (h : w0 = ((((w.alloc (Obj.cells #[v] 66)).alloc (Obj.map #[] 0)).alloc (Obj.cells #[Value.map (some (w.heap.size + 1))] 90)).alloc (Obj.map #[] 0)).alloc (Obj.cells #[Value.map (some (w.heap.size + 1 + 1 + 1))] 91)) :
  LpS w.heap.size v (fromE []) (fun e => decide (e ∈ ([] : List Eg))) 0 0 w w0 := by
 have e1 : (w.alloc (Obj.cells #[v] 66)).heap.size = w.heap.size + 1 := by simp
 have e2 : (((w.alloc (Obj.cells #[v] 66)).alloc (Obj.map #[] 0)).alloc (Obj.cells #[Value.map (some (w.heap.size + 1))] 90)).heap.size = w.heap.size + 1 + 1 + 1 := by simp
 have m1 := Gs.made (w.alloc (Obj.cells #[v] 66)) (w.heap.size + 5) 0 0 (fromE []) (fun _ => .slice none 0 0)
 have m2 := Es.made (((w.alloc (Obj.cells #[v] 66)).alloc (Obj.map #[] 0)).alloc (Obj.cells #[Value.map (some (w.heap.size + 1))] 90)) (fun e => decide (e ∈ ([] : List Eg))) (fun e => by simp)
 rw [e1] at m1
 rw [e2] at m2
 refine ⟨?_, ?_, ?_, ?_, ?_, ⟨[], fun _ => .slice none 0 0, ?_, fun k _ => rfl, Nat.le_refl _⟩, 0, ?_, Nat.le_refl _⟩
 ·rw [h]
  repeat (first | with_reducible exact Below.refl _ _ | with_reducible refine Below.alloc ?_ (by first | omega | (simp; omega) | simp) _)
 ·rw [h]; simp [go_sem]
 ·rw [h]; simp [go_sem]
 ·rw [h]; simp [go_sem]
 ·rw [h]; simp
 ·rw [h]
  exact m1.below ((((Below.refl _ _).alloc (Nat.le_refl _) _).alloc (by simp) _).alloc (by simp) _)
 ·rw [h]
  exact m2.below ((Below.refl _ _).alloc (Nat.le_refl _) _)
set_option maxRecDepth 100000 in
set_option maxHeartbeats 8000000 in
theorem loops_any {w : World} {v : Value} {E : List Eg} (hr : RdK encG 4 w w.heap.size v E) (hl : E.length ≤ 100000) (hE : ∀ e ∈ E, okE e) :
    Calls Tryz.prog 34 #[v] w fun r w' => ∃ bf, r = .returned (.func (.func 61) #[] #[.pointer (some ⟨w.heap.size, 0, none⟩), .pointer (some ⟨w.heap.size + 4, 0, none⟩), .pointer (some ⟨bf, 0, none⟩)]) ∧
      LpS w.heap.size v (fromE E) (fun e => decide (e ∈ E)) E.length E.length w w' ∧ w'.cell? ⟨bf, 0, none⟩ = some (.func (.func 58) #[] #[.pointer (some ⟨w.heap.size + 2, 0, none⟩)]) ∧ w.heap.size + 5 ≤ bf := by
  obtain ⟨i1, gi, gz0, gz1, gz2⟩ := info_parts infoEg
  obtain ⟨A, c, rfl, hc⟩ := hr
  have HR := hide hc
  have HE := hide hE
  clear hc hE
  have hmm := @run_makeMap Tryz.prog
  go_enter Tryz.func34, Tryz.ntmps34
  go_upto_region 3 with fail
  refine wp_name fun w1 hw1 => ?_
  have HL1 := hide (lps_start hw1)
  have c0 := HL1.out.cl
  clear hw1 hmm
  go_wp2
  go_loopw [6, 12] (fun _ i wr => ∃ k : Nat, k ≤ E.length ∧ i = .int .i64 k ∧ Hid (LpS w.heap.size (.slice A E.length c) (fromE (E.take k)) (fun e => decide (e ∈ E.take k)) k k w wr)) (fun _ i _ => E.length - (intOf i).toNat)
  case atStart => exact ⟨0, Nat.zero_le _, rfl, HL1⟩
  case round =>
    obtain ⟨k, hk, rfl, HL⟩ := hrel
    by_cases hlt : k < E.length
    · have kz : (k : Int) < (E.length : Int) := by omega
      obtain ⟨⟨⟨a0, a1⟩, a2, a3⟩, ht⟩ : ∃ t, E[k]? = some t := ⟨_, List.getElem?_eq_getElem hlt⟩
      obtain ⟨b, o, rfl, hb, kc⟩ := HR.out (by intro e; rw [e] at hlt; simp at hlt)
      have d0 : wr.cell? ⟨b, o + k * 4, none⟩ = some (.int .i64 a0) := (HL.out.low.cell (p := ⟨b, _, none⟩) hb).trans (kc k _ ht 0 _ rfl)
      have d1 : wr.cell? ⟨b, o + k * 4 + 1, none⟩ = some (.int .i64 a1) := (HL.out.low.cell (p := ⟨b, _, none⟩) hb).trans (kc k _ ht 1 _ rfl)
      have d2 : wr.cell? ⟨b, o + k * 4 + 2, none⟩ = some (.int .i64 a2) := (HL.out.low.cell (p := ⟨b, _, none⟩) hb).trans (kc k _ ht 2 _ rfl)
      have d3 : wr.cell? ⟨b, o + k * 4 + 3, none⟩ = some (.int .i64 a3) := (HL.out.low.cell (p := ⟨b, _, none⟩) hb).trans (kc k _ ht 3 _ rfl)
      have HFT := hide (fromE_take ht)
      have HMT : Hid (∀ e : Eg, (decide (e = ((a0, a1), a2, a3)) || decide (e ∈ E.take k)) = decide (e ∈ E.take (k + 1))) := hide (fun e => by
        rw [List.take_add_one, ht]
        by_cases h5 : e = ((a0, a1), a2, a3) <;> by_cases h6 : e ∈ E.take k <;> simp [h5, h6])
      have HOK := hide (HE.out _ (List.mem_of_getElem? ht))
      clear ht kc
      go_upto_region 6 with fail
      refine wp_name fun w5 hw5 => ?_
      obtain ⟨q, hq⟩ : ∃ q, wr.heap.size = q := ⟨_, rfl⟩
      have hb5 : Below wr.heap.size wr w5 := by
        rw [hw5]
        repeat (first | with_reducible exact Below.refl _ _ | with_reducible refine Below.setCell ?_ (by first | (simp; done) | (simp; omega)) _ | with_reducible refine Below.alloc ?_ (by first | omega | (simp; omega) | simp) _)
      have e0 : w5.cell? ⟨q, 0, none⟩ = some (.int .i64 a0) := by rw [hw5, ← hq]; simp [go_sem]
      have e1 : w5.cell? ⟨q, 1, none⟩ = some (.int .i64 a1) := by rw [hw5, ← hq]; simp [go_sem]
      have e2 : w5.cell? ⟨q, 2, none⟩ = some (.int .i64 a2) := by rw [hw5, ← hq]; simp [go_sem]
      have e3 : w5.cell? ⟨q, 3, none⟩ = some (.int .i64 a3) := by rw [hw5, ← hq]; simp [go_sem]
      have HL5 := hide (HL.out.below hb5)
      have hq5 : q < w5.heap.size := lt_of_cell e0
      obtain ⟨K, vals, hgs0, hp0, hK0⟩ := HL.out.gs
      have HGL := hide (fun k => (gv_own hgs0 hp0 k))
      have HQR : Hid (∀ g, (gv K vals (a0, a1)).ownBlock = some g → w.heap.size + 5 ≤ g ∧ g < q) := hide (fun g hg => by
        obtain ⟨A9, c9, ev, hrow⟩ := gv_own hgs0 hp0 (a0, a1)
        rw [ev] at hg
        rw [← hq]
        exact hrow.lt g hg)
      have HGS5 := hide (hgs0.below hb5)
      obtain ⟨A9, c9, ev, hrow⟩ := gv_own HGS5.out hp0 (a0, a1)
      have HEV := hide ev
      have HROW := hide hrow
      have HP0 := hide hp0
      have HK0 := hide hK0
      have hq55 : w.heap.size + 5 ≤ q := by rw [← hq]; exact HL.out.sz
      have hpl := fromE_len (E.take k) (a0, a1)
      rw [List.length_take] at hpl
      have f0 : w5.cell? ⟨w.heap.size + 1 + 1, 0, none⟩ = some (.map (some (w.heap.size + 1))) := HL5.out.cn
      have hn5 : w.heap.size + 5 ≤ w5.heap.size := HL5.out.sz
      rw [hq]
      clear hw5 hb5 hq d0 d1 d2 d3 HL hgs0 hp0 hK0 ev hrow HGL
      have HNF : Hid (∀ (wE : World), (w5.alloc (.cells #[.int .i64 a0, .int .i64 a1, .int .i64 a2, .int .i64 a3] 74)).grownBy wE (some (w.heap.size + 1)) → ∀ j u, ([.int .i64 a0, .int .i64 a1, .int .i64 a2, .int .i64 a3] : List Value)[j]? = some u → wE.cell? ((⟨w5.heap.size, 0, none⟩ : Addr).add j) = some u) := hide (fun wE gE j u hj => by
        have h9 := news_new w5 [.int .i64 a0, .int .i64 a1, .int .i64 a2, .int .i64 a3] 74 w5.heap.size rfl j u hj
        rw [addr_add] at h9 ⊢
        exact World.grownBy.cell gE (a := ⟨w5.heap.size, j, none⟩) h9 (fun e => by
          have e9 : w5.heap.size = w.heap.size + 1 := by injection e
          omega))
      have HRF : Hid (∀ (o : Obj) (wE : World), (w5.alloc o).grownBy wE (some (w.heap.size + 1)) → wE.ownsRow (w.heap.size + 5) 74 4 (.slice A9 (fromE (E.take k) (a0, a1)).length c9) (fromE (E.take k) (a0, a1)).length ((fromE (E.take k) (a0, a1)).flatMap encG)) := hide (fun o wE gE =>
        (World.ownsRow.alloc HROW.out o).kept gE (own_none_ne (fun e => by
          have h9 := (HQR.out _ (by rw [HEV.out]; exact e)).1
          omega)))
      have HSF : Hid (∀ (o : Obj) (wE : World), wE.heap.size = (w5.alloc o).heap.size → w5.heap.size < wE.heap.size) := hide (fun o wE sE => by rw [sE]; simp)
      have HX9 : Hid ((fromE (E.take k) (a0, a1)).flatMap encG ++ [.int .i64 a0, .int .i64 a1, .int .i64 a2, .int .i64 a3] = (fromE (E.take k) (a0, a1) ++ [((a0, a1), a2, a3)]).flatMap encG) := hide (by simp [encG])
      have HCQ : Hid (∀ (o : Obj) (wE w9 w3 : World), (w5.alloc o).grownBy wE (some (w.heap.size + 1)) → wE.grownBy w9 (gv K vals (a0, a1)).ownBlock → w9.grownBy w3 (some (w.heap.size + 1)) → ∀ j, w3.cell? ⟨q, j, none⟩ = w5.cell? ⟨q, j, none⟩) := hide (fun o wE w9 w3 g1 g2 g3 j => by
        have s1 := g1.size
        have s2 := g2.size
        simp only [World.size_alloc] at s1
        refine World.cell?_of_block ?_
        rw [g3.block q (by omega) (fun h5 => by injection h5 with h5; omega), g2.block q (by omega) (fun h5 => by have := (HQR.out q h5.symm).2; omega), g1.block q (by simp; omega) (fun h5 => by injection h5 with h5; omega)]
        exact Below.heap_alloc _ _ _ hq5)
      go_wp2_with (first
        | (refine wpList_entry_grp rfl _ _ rfl rfl (HGS5.out.below ((Below.refl _ _).alloc (Nat.le_refl _) _)) (a0, a1) rfl (okP.kin' HOK.out.1) (by have := HK0.out; unfold maxLen; omega) (HP0.out _) (by simp) _ HEV.out ?_
           intro st wE gE sE mE
           have HROWE := hide (HRF.out _ _ gE)
           have HNWE := hide (HNF.out _ gE)
           have hE5 : w5.heap.size < wE.heap.size := HSF.out _ _ sE
           have HGE := hide gE
           have HME := hide mE
           clear gE sE mE)
        | (at_builtin; refine wpList_append_lies _ rfl (.tmp 19) (.tmp 21) 66 rfl (w.heap.size + 5) 74 i1 (.agg #[.int .i64 0, .int .i64 0, .int .i64 0, .int .i64 0]) 4 32 Tryz.underlying66 gi gz0 gz1 gz2 rfl (by decide) _ (fromE (E.take k) (a0, a1)).length _ rfl HROWE.out ⟨w5.heap.size, 0, none⟩ 1 1 [.int .i64 a0, .int .i64 a1, .int .i64 a2, .int .i64 a3] rfl rfl HNWE.out (ints_one rfl) (by omega) (by unfold maxLen; omega) (by omega) (by omega) _ rfl ?_
           intro g9 cap9 w9 hown9 hgrow9 hor9 hlt9
           rw [HX9.out] at hown9
           have HO9 := hide hown9
           have HGR9 : Hid (wE.grownBy w9 (gv K vals (a0, a1)).ownBlock) := hide (by rw [HEV.out]; exact hgrow9)
           have HLOC : Hid ((gv K vals (a0, a1)).ownBlock = some g9 ∨ wE.heap.size ≤ g9) := hide (by rw [HEV.out]; rcases hor9 with h | h; exact .inl h; exact .inr (by omega))
           clear hown9 hgrow9 hor9 hlt9)
        | (refine wpList_store_grp rfl _ _ _ rfl HME.out rfl rfl ((a0, a1), a2, a3) g9 cap9 rfl HGR9.out HLOC.out (.inr (Nat.zero_le _)) HO9.out ?_
           intro w3 g3 gs3
           have HL3 := hide ((HL5.out.below ((Below.refl _ _).alloc (Nat.le_refl _) _)).next (e := ((a0, a1), a2, a3)) (HGS5.out.below ((Below.refl _ _).alloc (Nat.le_refl _) _)) HK0.out HP0.out HGE.out HGR9.out g3 gs3)
           replace e0 := (HCQ.out _ _ _ _ HGE.out HGR9.out g3 0).trans e0
           replace e1 := (HCQ.out _ _ _ _ HGE.out HGR9.out g3 1).trans e1
           replace e2 := (HCQ.out _ _ _ _ HGE.out HGR9.out g3 2).trans e2
           replace e3 := (HCQ.out _ _ _ _ HGE.out HGR9.out g3 3).trans e3
           have f1 : w3.cell? ⟨w.heap.size + 1 + 1 + 1 + 1, 0, none⟩ = some (.map (some (w.heap.size + 1 + 1 + 1))) := HL3.out.co
           obtain ⟨m2, he3, hm3⟩ := HL3.out.es
           have HES3 := hide he3
           have HM3 := hide hm3
           clear g3 gs3 he3 hm3 f0)
        | (refine wpList_set_es rfl _ _ _ rfl rfl HES3.out (by have := HM3.out; unfold maxLen; omega) ((a0, a1), a2, a3) rfl rfl HOK.out ?_
           intro w7 g7 es7
           have HL7 := hide (HL3.out.opened (me2 := k + 1) g7 es7 (by have := HM3.out; omega))
           clear g7 es7))
      go_roundw
      case rel =>
        refine ⟨k + 1, by omega, by go_num, hide ?_⟩
        have h9 := HL7.out
        have ef : (fun e : Eg => decide (e = ((a0, a1), a2, a3)) || decide (e ∈ E.take k)) = fun e => decide (e ∈ E.take (k + 1)) := funext HMT.out
        have ep : (fun k' => fromE (E.take k) k' ++ if k' = ((a0, a1), a2, a3).1 then [((a0, a1), a2, a3)] else []) = fromE (E.take (k + 1)) := funext fun k' => (HFT.out k').symm
        rw [ef, ep] at h9
        exact h9
      case measure => simp [intOf]; omega
    · have kz : ¬ (k : Int) < (E.length : Int) := by omega
      obtain rfl : k = E.length := by omega
      rw [List.take_length] at HL
      go_wp2
      go_ret
      refine ⟨wr.heap.size, rfl, HL.out.below ((Below.refl _ _).alloc (Nat.le_refl _) _), by simp [go_sem], HL.out.sz⟩
end Go.Proofs.YtdfpbhlnlkjjlaaGreat

/- Outlines: loops's follow: which edge comes next. -/
namespace Go.Proofs.YtdfpbhlnlkjjlaaGreat
open Go.RowKit Go.Maps
set_option linter.unusedVariables false
set_option linter.unusedSimpArgs false
theorem enter_loops11 : ∀ args w, (callFunc 60 args).run Tryz.prog w = .ok (.enter 60 args) w := enters_of Tryz.func60 (by kernel_rfl) rfl
def leftB (m : Nat) (q : Pt) (f : Eg) : Bool := decide (1 < m) && decide (wayF f = q)
set_option maxRecDepth 100000 in
set_option maxHeartbeats 4000000 in
theorem leftB_any {w : World} {b1 b2 m : Nat} {A : Option Addr} {c : Nat} (q : Pt) (h1 : w.cell? ⟨b1, 0, none⟩ = some (.slice A m c)) (h2 : w.cell? ⟨b2, 0, none⟩ = some (.int .i64 q.1)) (h3 : w.cell? ⟨b2, 1, none⟩ = some (.int .i64 q.2)) (f : Eg) :
  Calls Tryz.prog 60 #[.agg (encG f).toArray, .pointer (some ⟨b1, 0, none⟩), .pointer (some ⟨b2, 0, none⟩)] w fun r w' => r = .returned (.bool (leftB m q f)) ∧ Below w.heap.size w w' := by
 have hb1 := lt_of_cell h1
 have hb2 := lt_of_cell h2
 obtain ⟨⟨a0, a1⟩, a2, a3⟩ := f
 obtain ⟨qx, qy⟩ := q
 simp only at h2 h3
 have HL : Hid (leftB m (qx, qy) ((a0, a1), a2, a3) = (decide (1 < m) && decide (wayF ((a0, a1), a2, a3) = (qx, qy)))) := hide rfl
 have g : Tryz.prog.eqGuardType Tryz.prog.depth 53 = false := by kernel_rfl
 go_enter Tryz.func60, Tryz.ntmps60
 go_upto_region 1 with fail
 refine wp_name fun w1 hw1 => ?_
 have hbx : Below w.heap.size w w1 := by
  rw [hw1]
  repeat (first | with_reducible exact Below.refl _ _ | with_reducible refine Below.alloc ?_ (by first | omega | (simp; omega) | simp) _)
 have e0 : w1.cell? ⟨w.heap.size, 0, none⟩ = some (.int .i64 a0) := by rw [hw1]; simp [go_sem, encG]
 have e1 : w1.cell? ⟨w.heap.size, 1, none⟩ = some (.int .i64 a1) := by rw [hw1]; simp [go_sem, encG]
 have e2 : w1.cell? ⟨w.heap.size, 2, none⟩ = some (.int .i64 a2) := by rw [hw1]; simp [go_sem, encG]
 have e3 : w1.cell? ⟨w.heap.size, 3, none⟩ = some (.int .i64 a3) := by rw [hw1]; simp [go_sem, encG]
 replace h1 := (hbx.cell (p := ⟨b1, 0, none⟩) hb1).trans h1
 replace h2 := (hbx.cell (p := ⟨b2, 0, none⟩) hb2).trans h2
 replace h3 := (hbx.cell (p := ⟨b2, 1, none⟩) hb2).trans h3
 have hs1 : w.heap.size < w1.heap.size := lt_of_cell e0
 have hb1' : b1 < w1.heap.size := by omega
 have hb2' : b2 < w1.heap.size := by omega
 have HB := hide hbx
 obtain ⟨W0, hW0⟩ : ∃ x, wayF ((a0, a1), a2, a3) = x := ⟨_, rfl⟩
 have HW := hide (fun y : Above w1 => above_of (x := y) (way_any ((a0, a1), a2, a3) y.get))
 rw [hW0] at HW HL
 obtain ⟨wx, wy⟩ := W0
 simp only at HW
 clear hw1 hbx hb1 hb2 hW0
 by_cases hm : 1 < m
 ·have zm : (m : Int) > 1 := by omega
  by_cases x0 : wx = qx
  rotate_left 1
  ·have HR : Hid (leftB m (qx, qy) ((a0, a1), a2, a3) = false) := hide (by rw [HL.out]; simp [x0])
   refine wp_hab fun hab => ?_
   refine wp_region_above (by kernel_rfl) (by kernel_rfl) ?_
   repeat (go_big_quiet_step ((go_at_call 41; exact HW.out _)))
   refine wpQuiet_nil ?_
   refine above_ends fun w5 hb5 => ?_
   have HB5 := hide (HB.out.trans (hb5.mono HB.out.size))
   clear hab hb5
   go_wp2
   go_ret
   exact ⟨ret_eq (bool_eq HR.out.symm), HB5.out⟩
  by_cases x1 : wy = qy
  rotate_left 1
  ·have HR : Hid (leftB m (qx, qy) ((a0, a1), a2, a3) = false) := hide (by rw [HL.out]; simp [x1])
   subst x0
   refine wp_hab fun hab => ?_
   refine wp_region_above (by kernel_rfl) (by kernel_rfl) ?_
   repeat (go_big_quiet_step ((go_at_call 41; exact HW.out _)))
   refine wpQuiet_nil ?_
   refine above_ends fun w5 hb5 => ?_
   have HB5 := hide (HB.out.trans (hb5.mono HB.out.size))
   clear hab hb5
   go_wp2
   go_ret
   exact ⟨ret_eq (bool_eq HR.out.symm), HB5.out⟩
  have HR : Hid (leftB m (qx, qy) ((a0, a1), a2, a3) = true) := hide (by rw [HL.out]; simp [x0, x1, hm])
  subst x0
  subst x1
  refine wp_hab fun hab => ?_
  refine wp_region_above (by kernel_rfl) (by kernel_rfl) ?_
  repeat (go_big_quiet_step ((go_at_call 41; exact HW.out _)))
  refine wpQuiet_nil ?_
  refine above_ends fun w5 hb5 => ?_
  have HB5 := hide (HB.out.trans (hb5.mono HB.out.size))
  clear hab hb5
  go_wp2
  go_ret
  exact ⟨ret_eq (bool_eq HR.out.symm), HB5.out⟩
 ·have zm : ¬ (m : Int) > 1 := by omega
  have HR : Hid (leftB m (qx, qy) ((a0, a1), a2, a3) = false) := hide (by rw [HL.out]; simp [hm])
  refine wp_hab fun hab => ?_
  refine wp_region_above (by kernel_rfl) (by kernel_rfl) ?_
  repeat (go_big_quiet_step ((go_at_call 41; exact HW.out _)))
  refine wpQuiet_nil ?_
  refine above_ends fun w5 hb5 => ?_
  have HB5 := hide (HB.out.trans (hb5.mono HB.out.size))
  clear hab hb5
  go_wp2
  go_ret
  exact ⟨ret_eq (bool_eq HR.out.symm), HB5.out⟩
def FolR (A : Option Addr) (n c : Nat) (wx wy : Int) (w1 : World) (g4 g5 : Nat) (w' : World) : Prop := Below w1.heap.size w1 w' ∧ (g4 < w'.heap.size ∧ w'.cell? ⟨g4, 0, none⟩ = some (.slice A n c)) ∧ Bx2 w' g5 wx wy
theorem wp_join {P : Program} {c : Code} {Q : Exit → Act → World → Prop} {a : Act} {w : World} {F : Nat → Nat → Act} {R : Nat → Nat → World → Prop} (h1 : c.wp P (fun e a' w' => ∃ x y, e = .normal ∧ a' = F x y ∧ R x y w') a w) (h2 : ∀ x y w', R x y w' → Q .normal (F x y) w') : c.wp P Q a w :=
 wp_mono h1 fun e a' w' ⟨x, y, h3, h4, h5⟩ => by subst h3; subst h4; exact h2 x y w' h5
def Bq4 (W : World) (g : Nat) : Prop := g < W.heap.size ∧ ∀ i, i < 4 → (∃ u, W.cell? ⟨g, i, none⟩ = some u) ∧ W.frozen? ⟨g, i, none⟩ = false
theorem Bq4.below {W V : World} {g : Nat} (h : Bq4 W g) (hb : Below W.heap.size W V) : Bq4 V g := by
 obtain ⟨h1, h2⟩ := h
 refine ⟨Nat.lt_of_lt_of_le h1 hb.size, fun i hi => ?_⟩
 obtain ⟨⟨u, h3⟩, h4⟩ := h2 i hi
 exact ⟨⟨u, (hb.cell (p := ⟨g, i, none⟩) h1).trans h3⟩, (hb.frozen (p := ⟨g, i, none⟩) h1).trans h4⟩
def Bq1 (W : World) (g : Nat) : Prop := g < W.heap.size ∧ (∃ u, W.cell? ⟨g, 0, none⟩ = some u) ∧ W.frozen? ⟨g, 0, none⟩ = false
abbrev B1q (W : World) (g : Nat) (v : Value) : Prop := g < W.heap.size ∧ W.cell? ⟨g, 0, none⟩ = some v
theorem Bq1.below {W V : World} {g : Nat} (h : Bq1 W g) (hb : Below W.heap.size W V) : Bq1 V g := by
 obtain ⟨h1, ⟨u, h2⟩, h4⟩ := h
 exact ⟨Nat.lt_of_lt_of_le h1 hb.size, ⟨u, (hb.cell (p := ⟨g, 0, none⟩) h1).trans h2⟩, (hb.frozen (p := ⟨g, 0, none⟩) h1).trans h4⟩
theorem Bq1.made (W : World) : Bq1 (W.alloc (.cells #[.slice none 0 0] 66)) W.heap.size := ⟨by simp, ⟨_, by simp [go_sem]; rfl⟩, by simp [go_sem]⟩
theorem Bq1.set {W : World} {g : Nat} (h : Bq1 W g) (v : Value) : B1q (W.setCell ⟨g, 0, none⟩ v) g v := by
 obtain ⟨h1, ⟨u, h2⟩, h4⟩ := h
 exact ⟨by simpa using h1, by simp [go_sem, h2, h1]⟩
theorem B1q.far {W : World} {g k : Nat} {v : Value} {x y : Int} (h : B1q W g v) (hne : g ≠ k) : B1q ((W.setCell ⟨k, 0, none⟩ (.int .i64 x)).setCell ⟨k, 1, none⟩ (.int .i64 y)) g v := by
 have e : ((W.setCell ⟨k, 0, none⟩ (.int .i64 x)).setCell ⟨k, 1, none⟩ (.int .i64 y)).heap[g]? = W.heap[g]? := by rw [Go.Deep.blk_setCell_other _ _ _ _ hne, Go.Deep.blk_setCell_other _ _ _ _ hne]
 exact ⟨by simpa using h.1, (World.cell?_of_block e).trans h.2⟩
theorem Bq.made (W : World) : Bq (W.alloc (.cells #[.int .i64 0, .int .i64 0] 53)) W.heap.size := ⟨by simp, ⟨_, by simp [go_sem]; rfl⟩, ⟨_, by simp [go_sem]; rfl⟩, by simp [go_sem], by simp [go_sem]⟩
theorem Bq.far1 {W : World} {g k : Nat} {v : Value} (h : Bq W g) (hne : g ≠ k) : Bq (W.setCell ⟨k, 0, none⟩ v) g := by
 have e : (W.setCell ⟨k, 0, none⟩ v).heap[g]? = W.heap[g]? := Go.Deep.blk_setCell_other _ _ _ _ hne
 obtain ⟨h1, ⟨u, h2⟩, ⟨v, h3⟩, h4, h5⟩ := h
 exact ⟨by simpa using h1, ⟨u, (World.cell?_of_block e).trans h2⟩, ⟨v, (World.cell?_of_block e).trans h3⟩, (World.frozen?_of_block e).trans h4, (World.frozen?_of_block e).trans h5⟩
theorem Bq.set2 {W : World} {g : Nat} (h : Bq W g) (a b : Int) : Bx2 ((W.setCell ⟨g, 0, none⟩ (.int .i64 a)).setCell ⟨g, 1, none⟩ (.int .i64 b)) g a b := by
 obtain ⟨h1, ⟨u, h2⟩, ⟨v, h3⟩, h4, h5⟩ := h
 exact ⟨by simpa using h1, by simp [go_sem, h2, h3, h1], by simp [go_sem, h2, h3, h1]⟩
theorem run_maxO {P : Program} (w : World) (ts : Array TypeId) (t : TypeId) (a b : Int) : (Builtin.max_ ts t #[.int .i64 a, .int .i64 b]).run P w = .ok (.int .i64 (max a b)) w := by
 have k2 : ∀ (x y : Int) (v : World), Sem.run P (Builtin.max2 (.int .i64 x) (.int .i64 y)) v = .ok (.int .i64 (max x y)) v := fun x y v => by
  have k : (if y > x then y else x) = max x y := by
   by_cases h : y > x
   ·rw [if_pos h]; omega
   ·rw [if_neg h]; omega
  simp [Builtin.max2, k]
 simp only [Builtin.max_]
 simp [k2]
set_option maxRecDepth 100000 in
set_option maxHeartbeats 16000000 in
theorem follow_any {W : World} {bn bM B : Nat} {K : List Pt} {p : Pt → List Eg} {vals : Pt → Value} (hc : W.cell? ⟨bn, 0, none⟩ = some (.map (some bM))) (hg : Gs B bM 0 0 K p vals W) (hp : ∀ k, k ∉ K → p k = []) {e f : Eg} (he : okE e) (hl : (p e.2).length ≤ 100000) {j : Nat} (hf : (p e.2)[j]? = some f) (hj : max 0 (idxI (leftB (p e.2).length (leftP (wayF e))) (p e.2)) = (j : Int)) :
    Calls Tryz.prog 58 #[.agg (encG e).toArray, .pointer (some ⟨bn, 0, none⟩)] W fun r w' => r = .returned (.agg (encG f).toArray) ∧ Below W.heap.size W w' := by
  obtain ⟨⟨a0, a1⟩, a2, a3⟩ := e
  obtain ⟨⟨f0, f1⟩, f2, f3⟩ := f
  obtain ⟨A9, c9, ev, hrow⟩ := gv_own hg hp (a2, a3)
  have HRD := hide (own_rd (l := p (a2, a3)) hrow (fun _ => rfl))
  have HF := hide hf
  have HJ := hide hj
  have HHL := hide hl
  simp only at HF HJ HHL
  have hbn := lt_of_cell hc
  have HW0 := hide (fun W' => way_any ((a0, a1), a2, a3) W')
  have HWB : Hid (-1 ≤ (wayF ((a0, a1), a2, a3)).2 ∧ (wayF ((a0, a1), a2, a3)).2 ≤ 1) := hide (by
    unfold wayF cmpI
    simp only
    repeat' split
    all_goals omega)
  obtain ⟨W0, hW0⟩ : ∃ x, wayF ((a0, a1), a2, a3) = x := ⟨_, rfl⟩
  rw [hW0] at HJ HW0 HWB
  obtain ⟨wx, wy⟩ := W0
  have HK := hide (okP.kin' he.2)
  obtain ⟨L, hL⟩ : ∃ L, p (a2, a3) = L := ⟨_, rfl⟩
  rw [hL] at HF HJ HHL HRD ev
  have HEV := hide ev
  have HG := hide hg
  clear hW0 hrow hf hj hl he ev hg hp hL
  go_enter Tryz.func58, Tryz.ntmps58
  go_upto_region 1 with fail
  refine wp_name fun w1 hw1 => ?_
  have hb1 : Below W.heap.size W w1 := by
    rw [hw1]
    repeat (first | with_reducible exact Below.refl _ _ | with_reducible refine Below.alloc ?_ (by first | omega | (simp; omega) | simp) _)
  have HE : Hid ((w1.cell? ⟨W.heap.size, 0, none⟩ = some (.int .i64 a0) ∧ w1.cell? ⟨W.heap.size, 1, none⟩ = some (.int .i64 a1) ∧ w1.cell? ⟨W.heap.size, 2, none⟩ = some (.int .i64 a2) ∧ w1.cell? ⟨W.heap.size, 3, none⟩ = some (.int .i64 a3)) ∧ W.heap.size < w1.heap.size) := hide (by
    rw [hw1]
    refine ⟨⟨?_, ?_, ?_, ?_⟩, ?_⟩ <;> simp [go_sem, encG]
    try omega)
  have HB0 := hide hb1
  have HG1 := hide (HG.out.below hb1)
  have HC1 := hide ((hb1.cell (p := ⟨bn, 0, none⟩) hbn).trans hc)
  have HBN : Hid (bn < w1.heap.size) := hide (Nat.lt_of_lt_of_le hbn hb1.size)
  have HR3 : Hid (Bq4 w1 (W.heap.size + 1)) := hide (by
    rw [hw1]
    exact ⟨by simp, fun i hi => by
      obtain rfl | rfl | rfl | rfl : i = 0 ∨ i = 1 ∨ i = 2 ∨ i = 3 := by omega
      all_goals exact ⟨⟨.int .i64 0, by simp [go_sem]⟩, by simp [go_sem]⟩⟩)
  clear hw1 hb1 hc hbn HG
  have HW1 : Hid (∀ W : World, Calls Tryz.prog 41 #[.agg #[.int .i64 a0, .int .i64 a1, .int .i64 a2, .int .i64 a3]] W fun r w' => r = .returned (.agg #[.int .i64 wx, .int .i64 wy]) ∧ Below W.heap.size W w') := hide HW0.out
  obtain ⟨n9, hn9⟩ : ∃ n, L.length = n := ⟨_, rfl⟩
  rw [hn9] at HEV HRD HJ HHL
  have HN9 := hide hn9
  clear hn9 HW0
  apply wp_join (R := FolR A9 n9 c9 wx wy w1)
  · have HBC : Hid (Below w1.heap.size w1 w1.drew) := hide (Below.refl _ _).drew
    refine wp_region_ordN [0, 1, 2, 3, 4] 5 (.cons 5 (.cons 6 (.cons 7 (.cons 8 (.cons 9 .nil .nil) .nil) .nil) (.cons 7 (.cons 6 (.cons 8 (.cons 9 .nil .nil) .nil) .nil) .nil)) (.cons 6 (.cons 5 (.cons 7 (.cons 8 (.cons 9 .nil .nil) .nil) .nil) (.cons 7 (.cons 5 (.cons 8 (.cons 9 .nil .nil) .nil) .nil) .nil)) (.cons 7 (.cons 5 (.cons 6 (.cons 8 (.cons 9 .nil .nil) .nil) .nil) (.cons 6 (.cons 5 (.cons 8 (.cons 9 .nil .nil) .nil) .nil) .nil)) .nil))) (fun w' => Below w1.heap.size w1 w') (by kernel_rfl) (by kernel_rfl) HBC.out ?_
    simp only [List.map_cons, List.map_nil, opAt, List.getElem?_cons_succ, List.getElem?_cons_zero, Option.getD_some]
    obtain ⟨wc, hwc⟩ : ∃ y, w1.drew = y := ⟨_, rfl⟩
    rw [hwc] at HBC ⊢
    clear hwc
    iterate 5
      refine ⟨?_, Or.inl ⟨by rfl, ?_⟩, ?_⟩
      rotate_left 1
      · intro w' hSw
        obtain ⟨⟨z0, z1, z2, z3⟩, hzs⟩ := HE.out
        replace z0 := (hSw.cell (p := ⟨W.heap.size, 0, none⟩) hzs).trans z0
        replace z1 := (hSw.cell (p := ⟨W.heap.size, 1, none⟩) hzs).trans z1
        replace z2 := (hSw.cell (p := ⟨W.heap.size, 2, none⟩) hzs).trans z2
        replace z3 := (hSw.cell (p := ⟨W.heap.size, 3, none⟩) hzs).trans z3
        have zc := (hSw.cell (p := ⟨bn, 0, none⟩) HBN.out).trans HC1.out
        have hlk : (Instr.lookup 90 (.map (some bM)) (.agg #[.int .i64 a2, .int .i64 a3]) false).run Tryz.prog w' = .ok (.slice A9 n9 c9) w' := by
          have h9 := (HG1.out.below hSw).look (k := (a2, a3)) HK.out
          rw [HEV.out] at h9
          exact h9
        clear hSw
        go_simp
        first | done | with_reducible rfl
      simp only [Act.put, List.setIfInBounds_toArray, List.set_cons_zero, List.set_cons_succ]
    simp only [wpReads, wpOrdN, wpOne, opAt, List.getElem?_cons_succ, List.getElem?_cons_zero, Option.getD_some]
    repeat' (first
      | with_reducible exact trivial
      | with_reducible refine ⟨?_, ?_⟩
      | (with_reducible intro K0 hK
         try obtain ⟨hz1, ⟨u1, hz2⟩, hz4⟩ := HZ4.out
         try obtain ⟨hy1, ⟨x1, hy2⟩, ⟨x2, hy3⟩, hy4, hy5⟩ := HZ5.out
         simp only [Act.put, List.setIfInBounds_toArray, List.set_cons_zero, List.set_cons_succ] at hK ⊢
         go_simp
         try clear hz1 hz2 hz4
         try clear hy1 hy2 hy3 hy4 hy5
         first
           | (refine (HW1.out _).mono ?_
              rintro e wn ⟨rfl, hbn⟩
              replace HBC := hide (HBC.out.trans (hbn.mono HBC.out.size))
              try replace HZ4 := hide (HZ4.out.below hbn)
              try replace HZ5 := hide (HZ5.out.below hbn)
              clear hbn
              clear wc
              obtain ⟨wc, hwc⟩ : ∃ y, y = wn := ⟨_, rfl⟩
              subst hwc
              refine hK _ _ ⟨fun _ => HBC.out, ?_⟩
              clear hK K0)
           | (obtain ⟨wd, hwd⟩ : ∃ y, wc.setCell ⟨g4, 0, none⟩ (.slice A9 n9 c9) = y := ⟨_, rfl⟩
              rw [hwd]
              have HX4 : Hid (B1q wd g4 (.slice A9 n9 c9)) := hide (by rw [← hwd]; exact HZ4.out.set _)
              replace HBC : Hid (Below w1.heap.size w1 wd) := hide (by rw [← hwd]; exact HBC.out.setCell HG4.out _)
              replace HZ5 : Hid (Bq wd g5) := hide (by rw [← hwd]; exact HZ5.out.far1 (Ne.symm HNE.out))
              clear hwd HZ4
              clear wc
              obtain ⟨wc, hwc⟩ : ∃ y, y = wd := ⟨_, rfl⟩
              subst hwc
              refine hK _ _ ⟨fun _ => HBC.out, ?_⟩
              clear hK K0)
           | (obtain ⟨wd, hwd⟩ : ∃ y, (wc.setCell ⟨g5, 0, none⟩ (.int .i64 wx)).setCell ⟨g5, 1, none⟩ (.int .i64 wy) = y := ⟨_, rfl⟩
              rw [hwd]
              have HX5 : Hid (Bx2 wd g5 wx wy) := hide (by rw [← hwd]; exact HZ5.out.set2 _ _)
              replace HX4 : Hid (B1q wd g4 (.slice A9 n9 c9)) := hide (by rw [← hwd]; exact HX4.out.far HNE.out)
              replace HBC : Hid (Below w1.heap.size w1 wd) := hide (by rw [← hwd]; exact (HBC.out.setCell HG5.out _).setCell HG5.out _)
              clear hwd HZ5
              refine hK _ _ ⟨fun h => absurd h (by decide), ?_⟩
              clear hK K0
              refine NoPanic.normal ?_
              exact ⟨g4, g5, rfl, rfl, HBC.out, HX4.out, HX5.out⟩)
           | (have HZ4 : Hid (Bq1 (wc.alloc (.cells #[.slice none 0 0] 66)) wc.heap.size) := hide (Bq1.made wc)
              have hbn : Below wc.heap.size wc (wc.alloc (.cells #[.slice none 0 0] 66)) := (Below.refl _ _).alloc (Nat.le_refl _) _
              have HG4 : Hid (w1.heap.size ≤ wc.heap.size) := hide HBC.out.size
              have HNE : Hid (wc.heap.size ≠ g5) := hide (Nat.ne_of_gt HZ5.out.1)
              replace HZ5 := hide (HZ5.out.below hbn)
              replace HBC := hide (HBC.out.trans (hbn.mono HBC.out.size))
              obtain ⟨g4, hg4⟩ : ∃ g, wc.heap.size = g := ⟨_, rfl⟩
              rw [hg4] at HZ4 HG4 HNE ⊢
              clear hbn hg4
              obtain ⟨wc, hwc⟩ : ∃ y, wc.alloc (.cells #[.slice none 0 0] 66) = y := ⟨_, rfl⟩
              rw [hwc] at HZ4 HBC HZ5 ⊢
              clear hwc
              refine hK _ _ ⟨fun _ => HBC.out, ?_⟩
              clear hK K0)
           | (have HZ4 : Hid (Bq1 (wc.alloc (.cells #[.slice none 0 0] 66)) wc.heap.size) := hide (Bq1.made wc)
              have hbn : Below wc.heap.size wc (wc.alloc (.cells #[.slice none 0 0] 66)) := (Below.refl _ _).alloc (Nat.le_refl _) _
              have HG4 : Hid (w1.heap.size ≤ wc.heap.size) := hide HBC.out.size
              replace HBC := hide (HBC.out.trans (hbn.mono HBC.out.size))
              obtain ⟨g4, hg4⟩ : ∃ g, wc.heap.size = g := ⟨_, rfl⟩
              rw [hg4] at HZ4 HG4 ⊢
              clear hbn hg4
              obtain ⟨wc, hwc⟩ : ∃ y, wc.alloc (.cells #[.slice none 0 0] 66) = y := ⟨_, rfl⟩
              rw [hwc] at HZ4 HBC ⊢
              clear hwc
              refine hK _ _ ⟨fun _ => HBC.out, ?_⟩
              clear hK K0)
           | (have HZ5 : Hid (Bq (wc.alloc (.cells #[.int .i64 0, .int .i64 0] 53)) wc.heap.size) := hide (Bq.made wc)
              have hbn : Below wc.heap.size wc (wc.alloc (.cells #[.int .i64 0, .int .i64 0] 53)) := (Below.refl _ _).alloc (Nat.le_refl _) _
              have HG5 : Hid (w1.heap.size ≤ wc.heap.size) := hide HBC.out.size
              have HNE : Hid (g4 ≠ wc.heap.size) := hide (Nat.ne_of_lt HZ4.out.1)
              replace HZ4 := hide (HZ4.out.below hbn)
              replace HBC := hide (HBC.out.trans (hbn.mono HBC.out.size))
              obtain ⟨g5, hg5⟩ : ∃ g, wc.heap.size = g := ⟨_, rfl⟩
              rw [hg5] at HZ5 HG5 HNE ⊢
              clear hbn hg5
              obtain ⟨wc, hwc⟩ : ∃ y, wc.alloc (.cells #[.int .i64 0, .int .i64 0] 53) = y := ⟨_, rfl⟩
              rw [hwc] at HZ5 HBC HZ4 ⊢
              clear hwc
              refine hK _ _ ⟨fun _ => HBC.out, ?_⟩
              clear hK K0)
           | (have HZ5 : Hid (Bq (wc.alloc (.cells #[.int .i64 0, .int .i64 0] 53)) wc.heap.size) := hide (Bq.made wc)
              have hbn : Below wc.heap.size wc (wc.alloc (.cells #[.int .i64 0, .int .i64 0] 53)) := (Below.refl _ _).alloc (Nat.le_refl _) _
              have HG5 : Hid (w1.heap.size ≤ wc.heap.size) := hide HBC.out.size
              replace HBC := hide (HBC.out.trans (hbn.mono HBC.out.size))
              obtain ⟨g5, hg5⟩ : ∃ g, wc.heap.size = g := ⟨_, rfl⟩
              rw [hg5] at HZ5 HG5 ⊢
              clear hbn hg5
              obtain ⟨wc, hwc⟩ : ∃ y, wc.alloc (.cells #[.int .i64 0, .int .i64 0] 53) = y := ⟨_, rfl⟩
              rw [hwc] at HZ5 HBC ⊢
              clear hwc
              refine hK _ _ ⟨fun _ => HBC.out, ?_⟩
              clear hK K0))
      | fail)
  intro g4 g5 w5 hR5
  obtain ⟨hb5, ⟨hg4, x4⟩, hg5, x50, x51⟩ := hR5
  have zy : IntKind.i64.wrap (-wy) = -wy := by simp [IntKind.wrap, IntKind.bits, IntKind.signed]; have := HWB.out; omega
  have HB5 := hide (HB0.out.trans (hb5.mono HB0.out.size))
  have HRD5 := hide ((((HRD.out.below HB0.out).mono HB0.out.size).below hb5).mono hb5.size)
  have HR35 := hide (HR3.out.below hb5)
  clear HRD HR3 HB0 hb5 HE HC1 HG1 HW1
  go_upto_region 3 with fail
  refine wp_name fun w6 hw6 => ?_
  have hb6 : Below w5.heap.size w5 w6 := by
    rw [hw6]
    repeat (first | with_reducible exact Below.refl _ _ | with_reducible refine Below.setCell ?_ (by first | (simp; done) | (simp; omega)) _ | with_reducible refine Below.alloc ?_ (by first | omega | (simp; omega) | simp) _)
  obtain ⟨g6, hg6⟩ : ∃ g, w5.heap.size = g := ⟨_, rfl⟩
  have y0 : w6.cell? ⟨g6, 0, none⟩ = some (.int .i64 (-wy)) := by rw [hw6, ← hg6]; simp [go_sem]
  have y1 : w6.cell? ⟨g6, 1, none⟩ = some (.int .i64 wx) := by rw [hw6, ← hg6]; simp [go_sem]
  replace x4 := (hb6.cell (p := ⟨g4, 0, none⟩) hg4).trans x4
  have HX4 := hide x4
  have HY := hide (And.intro y0 y1)
  have hg64 : g4 < w6.heap.size := lt_of_cell x4
  have hg66 : g6 < w6.heap.size := lt_of_cell y0
  have HB6 := hide (HB5.out.trans (hb6.mono HB5.out.size))
  have HRD6 : Hid (RdK encG 4 w6 w6.heap.size (.slice A9 n9 c9) L) := hide ((HRD5.out.below hb6).mono hb6.size)
  have HR36 := hide (HR35.out.below hb6)
  rw [hg6]
  clear hw6 hb6 hg6 x50 x51 hg5 HRD5 HR35 HB5 zy
  clear x4 y0 y1
  have hjl : j < L.length := (List.getElem?_eq_some_iff.1 HF.out).1
  have hjn : j < n9 := by rw [← HN9.out]; exact hjl
  have hn0 : L ≠ [] := List.ne_nil_of_length_pos (by omega)
  obtain ⟨A8, c8, hv8, hk9⟩ := HRD6.out
  injection hv8 with e1 e2 e3
  subst e1
  obtain ⟨b9, o9, rfl, hb9, k9⟩ := hk9 hn0
  have HD9 : Hid (w6.cell? ⟨b9, o9 + j * 4, none⟩ = some (.int .i64 f0) ∧ w6.cell? ⟨b9, o9 + j * 4 + 1, none⟩ = some (.int .i64 f1) ∧ w6.cell? ⟨b9, o9 + j * 4 + 2, none⟩ = some (.int .i64 f2) ∧ w6.cell? ⟨b9, o9 + j * 4 + 3, none⟩ = some (.int .i64 f3)) := hide ⟨k9 j _ HF.out 0 _ rfl, k9 j _ HF.out 1 _ rfl, k9 j _ HF.out 2 _ rfl, k9 j _ HF.out 3 _ rfl⟩
  clear hk9 k9 e2 e3
  have HBK : Hid (Below w6.heap.size w6 w6.drew) := hide (Below.refl _ _).drew
  refine wp_region_mix [0, 1, 2] [3, 4, 5, 6, 7] (fun w' => Below w6.heap.size w6 w') (by kernel_rfl) (by kernel_rfl) HBK.out ?_
  simp only [List.map_cons, List.map_nil, opAt, List.getElem?_cons_succ, List.getElem?_cons_zero, Option.getD_some]
  generalize w6.drew = wk at *
  iterate 3
    refine ⟨?_, Or.inl ⟨by rfl, ?_⟩, ?_⟩
    rotate_left 1
    · intro w' hSw
      have z4 := (hSw.cell (p := ⟨g4, 0, none⟩) hg64).trans HX4.out
      clear hSw
      go_simp
      first | done | with_reducible rfl
    simp only [Act.put, List.setIfInBounds_toArray, List.set_cons_zero, List.set_cons_succ]
  simp only [wpReads]
  have HIX := hide (idxEg_any ((HRD6.out.below HBK.out).mono HBK.out.size) (by rw [HN9.out]; have := HHL.out; omega) 60 #[.pointer (some ⟨g4, 0, none⟩), .pointer (some ⟨g6, 0, none⟩)] (leftB n9 (leftP (wx, wy))) enter_loops11 (fun V x _ hV => leftB_any (leftP (wx, wy)) ((hV.cell (p := ⟨g4, 0, none⟩) (Nat.lt_of_lt_of_le hg64 HBK.out.size)).trans ((HBK.out.cell (p := ⟨g4, 0, none⟩) hg64).trans HX4.out)) ((hV.cell (p := ⟨g6, 0, none⟩) (Nat.lt_of_lt_of_le hg66 HBK.out.size)).trans ((HBK.out.cell (p := ⟨g6, 0, none⟩) hg66).trans HY.out.1)) ((hV.cell (p := ⟨g6, 1, none⟩) (Nat.lt_of_lt_of_le hg66 HBK.out.size)).trans ((HBK.out.cell (p := ⟨g6, 1, none⟩) hg66).trans HY.out.2)) x))
  obtain ⟨ix, hix⟩ : ∃ x, idxI (leftB n9 (leftP (wx, wy))) L = x := ⟨_, rfl⟩
  rw [hix] at HIX HJ
  clear hix
  intro K hK
  simp only [Act.put, List.setIfInBounds_toArray, List.set_cons_zero, List.set_cons_succ] at hK ⊢
  go_simp
  refine HIX.out.mono ?_
  rintro e wx7 ⟨rfl, hb7⟩
  have HB7 := hide (HBK.out.trans (hb7.mono HBK.out.size))
  refine hK _ _ (fun _ => HB7.out) ?_
  clear hK K HIX hb7
  have hmx := @run_maxO Tryz.prog
  intro K hK
  simp only [Act.put, List.setIfInBounds_toArray, List.set_cons_zero, List.set_cons_succ] at hK ⊢
  go_simp
  rw [HJ.out]
  refine hK _ _ (fun _ => HB7.out) ?_
  clear hK K hmx
  have jz : (j : Int) < (n9 : Int) := by omega
  have j0 : (0 : Int) ≤ (j : Int) := by omega
  intro K hK
  simp only [Act.put, List.setIfInBounds_toArray, List.set_cons_zero, List.set_cons_succ] at hK ⊢
  go_simp
  refine hK _ _ (fun _ => HB7.out) ?_
  clear hK K
  intro K hK
  simp only [Act.put, List.setIfInBounds_toArray, List.set_cons_zero, List.set_cons_succ] at hK ⊢
  obtain ⟨q0, q1, q2, q3⟩ := HD9.out
  replace q0 := (HB7.out.cell (p := ⟨b9, _, none⟩) hb9).trans q0
  replace q1 := (HB7.out.cell (p := ⟨b9, _, none⟩) hb9).trans q1
  replace q2 := (HB7.out.cell (p := ⟨b9, _, none⟩) hb9).trans q2
  replace q3 := (HB7.out.cell (p := ⟨b9, _, none⟩) hb9).trans q3
  go_simp
  refine hK _ _ (fun _ => HB7.out) ?_
  clear hK K q0 q1 q2 q3
  have HR37 := hide (HR36.out.below HB7.out)
  obtain ⟨hr, hr4⟩ := HR37.out
  obtain ⟨⟨r0, p0⟩, s0⟩ := hr4 0 (by omega)
  obtain ⟨⟨r1, p1⟩, s1⟩ := hr4 1 (by omega)
  obtain ⟨⟨r2, p2⟩, s2⟩ := hr4 2 (by omega)
  obtain ⟨⟨r3, p3⟩, s3⟩ := hr4 3 (by omega)
  clear hr4
  intro K hK
  simp only [Act.put, List.setIfInBounds_toArray, List.set_cons_zero, List.set_cons_succ] at hK ⊢
  go_simp
  refine hK _ _ (fun h => absurd rfl h) ?_
  clear hK K
  refine NoPanic.normal ?_
  go_wp2
  refine bodyPost_ret (v := .agg #[.int .i64 f0, .int .i64 f1, .int .i64 f2, .int .i64 f3]) (by simp [results, Tryz.results58, go_sem, p0, p1, p2, p3, hr]) rfl ⟨rfl, ?_⟩
  have hb7 := HB6.out.trans (HB7.out.mono HB6.out.size)
  exact (((hb7.setCell (by simp) _).setCell (by simp) _).setCell (by simp) _).setCell (by simp) _
end Go.Proofs.YtdfpbhlnlkjjlaaGreat

/- Outlines, plain: which edge follow picks; the trips in the order in which loops yields them. -/
namespace Go.Proofs.YtdfpbhlnlkjjlaaGreat
set_option linter.unusedVariables false
set_option linter.unusedSimpArgs false
theorem mem_fromE {E : List Eg} {p : Pt} {f : Eg} : f ∈ fromE E p ↔ f ∈ E ∧ f.1 = p := by unfold fromE; rw [List.mem_filter, decide_eq_true_eq]
theorem idx_none {α : Type} {p : α → Bool} {l : List α} (h : ∀ x ∈ l, p x = false) : idxI p l = -1 := by
 unfold idxI
 rw [if_neg (by rw [List.any_eq_true]; rintro ⟨y, hy, hpy⟩; rw [h y hy] at hpy; cases hpy)]
theorem idx_some {α : Type} {p : α → Bool} {l : List α} (h : ∃ x ∈ l, p x = true) : ∃ j x, idxI p l = (j : Nat) ∧ l[j]? = some x ∧ p x = true := by
 obtain ⟨x, hx, hp⟩ := h
 have hany : l.any p = true := List.any_eq_true.2 ⟨x, hx, hp⟩
 have hlt : l.findIdx p < l.length := List.findIdx_lt_length_of_exists ⟨x, hx, hp⟩
 refine ⟨l.findIdx p, l[l.findIdx p], by unfold idxI; rw [if_pos hany], List.getElem?_eq_getElem hlt, List.findIdx_getElem (w := hlt)⟩
theorem EdgesOf.pick {S : Cs} {E : List Eg} (h : EdgesOf S E) {e : Eg} (he : e ∈ E) : ∃ f ∈ E, uE f 0 = nx S (uE e (lnE e - 1)) ∧ ∃ j : Nat, (fromE E e.2)[j]? = some f ∧ max 0 (idxI (leftB (fromE E e.2).length (leftP (wayF e))) (fromE E e.2)) = (j : Int) := by
 obtain ⟨f, hf, ef, hn, hall⟩ := h.follow he
 refine ⟨f, hf, hn, ?_⟩
 have hm : f ∈ fromE E e.2 := mem_fromE.2 ⟨hf, ef⟩
 have hnd : (fromE E e.2).Nodup := List.Pairwise.filter _ h.nodup
 have hmem := fun g => @mem_fromE E e.2 g
 generalize fromE E e.2 = L at *
 by_cases hl : 1 < L.length
 ·obtain ⟨g, hg, hne⟩ : ∃ g ∈ L, g ≠ f := Classical.byContradiction fun hcon => by
   have hallf : ∀ g ∈ L, g = f := fun g hg => Classical.byContradiction fun h5 => hcon ⟨g, hg, h5⟩
   have h0 := hallf L[0] (List.getElem_mem (by omega))
   have h1 := hallf L[1] (List.getElem_mem hl)
   exact List.pairwise_iff_getElem.1 hnd 0 1 (by omega) hl (by omega) (h0.trans h1.symm)
  have hd : dE f = (dE e).l := by
   obtain ⟨h1, h2⟩ := (hmem g).1 hg
   rcases hall g h1 h2 with h5 | h5
   ·exact absurd h5 hne
   ·exact h5.1
  have hleft : leftP (wayF e) = ((dE e).l).v := by rw [(h.at_ he).2.2.1, leftP_v]
  have hpf : leftB L.length (leftP (wayF e)) f = true := by
   unfold leftB
   rw [(h.at_ hf).2.2.1, hleft, hd]
   simp [hl]
  obtain ⟨j, x, h1, h2, h3⟩ := idx_some ⟨f, hm, hpf⟩
  have hx : x = f := by
   obtain ⟨x1, x2⟩ := (hmem x).1 (List.mem_of_getElem? h2)
   rcases hall x x1 x2 with h5 | h5
   ·exact h5
   ·exfalso
    unfold leftB at h3
    rw [(h.at_ x1).2.2.1, hleft] at h3
    simp only [Bool.and_eq_true, decide_eq_true_eq] at h3
    exact h5.2 (v_inj h3.2)
  subst hx
  exact ⟨j, h2, by rw [h1]; omega⟩
 ·have h1 : idxI (leftB L.length (leftP (wayF e))) L = -1 := idx_none fun x _ => by unfold leftB; simp [hl]
  refine ⟨0, ?_, by rw [h1]; rfl⟩
  obtain ⟨i, hi, ei⟩ := List.getElem_of_mem hm
  obtain rfl : i = 0 := by omega
  rw [List.getElem?_eq_getElem hi, ei]
open Classical in
noncomputable def cyN (S : Cs) (u : Un) : Nat := if h : ∃ n, Cyc S u n then Classical.choose h else 0
theorem cyN_eq {S : Cs} {u : Un} {n : Nat} (h : Cyc S u n) : cyN S u = n := by
 unfold cyN
 rw [dif_pos ⟨n, h⟩]
 exact (Classical.choose_spec (⟨n, h⟩ : ∃ n, Cyc S u n)).len h
def freeE (S : Cs) (vs : List (Un × Nat)) (e : Eg) : Prop := ∀ q ∈ vs, ¬ inCy S q.1 q.2 (uE e 0)
open Classical in
noncomputable def vsF (S : Cs) (E : List Eg) : Nat → List (Un × Nat)
 | 0 => []
 | k + 1 => match E[k]? with
  | none => vsF S E k
  | some e => if freeE S (vsF S E k) e then vsF S E k ++ [(uE e 0, cyN S (uE e 0))] else vsF S E k
section
variable {S : Cs} {E : List Eg}
open Classical in
theorem vsF_free {k : Nat} {e : Eg} (he : E[k]? = some e) (hf : freeE S (vsF S E k) e) : vsF S E (k + 1) = vsF S E k ++ [(uE e 0, cyN S (uE e 0))] := by
 show (match E[k]? with | none => vsF S E k | some e => if freeE S (vsF S E k) e then vsF S E k ++ [(uE e 0, cyN S (uE e 0))] else vsF S E k) = _
 rw [he]
 show (if freeE S (vsF S E k) e then _ else _) = _
 rw [if_pos hf]
open Classical in
theorem vsF_shut {k : Nat} {e : Eg} (he : E[k]? = some e) (hf : ¬ freeE S (vsF S E k) e) : vsF S E (k + 1) = vsF S E k := by
 show (match E[k]? with | none => vsF S E k | some e => if freeE S (vsF S E k) e then vsF S E k ++ [(uE e 0, cyN S (uE e 0))] else vsF S E k) = _
 rw [he]
 show (if freeE S (vsF S E k) e then _ else _) = _
 rw [if_neg hf]
open Classical in
theorem vsF_step (k : Nat) : ∃ t, vsF S E (k + 1) = vsF S E k ++ t := by
 rcases he : E[k]? with _ | e
 ·refine ⟨[], ?_⟩
  show (match E[k]? with | none => vsF S E k | some e => if freeE S (vsF S E k) e then vsF S E k ++ [(uE e 0, cyN S (uE e 0))] else vsF S E k) = _
  rw [he, List.append_nil]
 ·by_cases hf : freeE S (vsF S E k) e
  ·exact ⟨_, vsF_free he hf⟩
  ·exact ⟨[], by rw [vsF_shut he hf, List.append_nil]⟩
theorem vsF_le {j k : Nat} (h : j ≤ k) : ∃ t, vsF S E k = vsF S E j ++ t := by
 induction k with
 | zero =>
  obtain rfl : j = 0 := by omega
  exact ⟨[], by simp⟩
 | succ k ih =>
  rcases Nat.lt_or_ge k j with h1 | h1
  ·obtain rfl : j = k + 1 := by omega
   exact ⟨[], by simp⟩
  ·obtain ⟨t, ht⟩ := ih h1
   obtain ⟨s, hs⟩ := vsF_step (S := S) (E := E) k
   exact ⟨t ++ s, by rw [hs, ht, List.append_assoc]⟩
theorem vsF_ok (h : EdgesOf S E) {M : Nat} (hM : bdC S M) : ∀ k, k ≤ E.length → (∀ q ∈ vsF S E k, Cyc S q.1 q.2) ∧ ((vsF S E k).Pairwise fun a b => ∀ z, ¬ (inCy S a.1 a.2 z ∧ inCy S b.1 b.2 z)) ∧ ∀ e ∈ E.take k, ¬ freeE S (vsF S E k) e
 | 0, _ => ⟨fun q hq => by simp [vsF] at hq, by simp [vsF], fun e he => by simp at he⟩
 | k + 1, hk => by
  obtain ⟨h1, h2, h3⟩ := vsF_ok h hM k (by omega)
  have he : E[k]? = some E[k] := List.getElem?_eq_getElem (by omega)
  have hin := List.mem_of_getElem? he
  have hmem : ∀ e ∈ E.take (k + 1), e ∈ E.take k ∨ e = E[k] := fun e h5 => by
   rw [List.take_add_one, he] at h5
   rcases List.mem_append.1 h5 with h6 | h6
   ·exact .inl h6
   ·exact .inr (by simpa using h6)
  by_cases hf : freeE S (vsF S E k) E[k]
  ·have hb := (h.at_ hin).2.2.2 0 (h.at_ hin).1
   obtain ⟨n, hn⟩ := cyc_ex hM hb
   rw [vsF_free he hf, cyN_eq hn]
   refine ⟨fun q hq => ?_, List.pairwise_append.2 ⟨h2, by simp, fun a ha b hb' z hz => ?_⟩, fun e h5 => ?_⟩
   ·rcases List.mem_append.1 hq with hq | hq
    ·exact h1 q hq
    ·rw [List.mem_singleton.1 hq]; exact hn
   ·rw [List.mem_singleton.1 hb'] at hz
    exact hf a ha (((h1 a ha).share hn hz.1 hz.2).2 _ |>.2 hn.refl_in)
   ·rcases hmem e h5 with h6 | h6
    ·exact fun h7 => h3 e h6 fun q hq => h7 q (by simp [hq])
    ·subst h6
     exact fun h7 => h7 (uE E[k] 0, n) (by simp) hn.refl_in
  ·rw [vsF_shut he hf]
   refine ⟨h1, h2, fun e h5 => ?_⟩
   rcases hmem e h5 with h6 | h6
   ·exact h3 e h6
   ·subst h6; exact hf
theorem vsF_follow (h : EdgesOf S E) {M : Nat} (hM : bdC S M) : Follow S (vsF S E E.length) := by
 obtain ⟨h1, h2, h3⟩ := vsF_ok h hM E.length (Nat.le_refl _)
 refine ⟨h1, h2, fun z hz => ?_⟩
 obtain ⟨f, hf, i, hi, rfl⟩ := h.one hz
 have h4 := h3 f (by rw [List.take_length]; exact hf)
 obtain ⟨q, hq, h5⟩ : ∃ q ∈ vsF S E E.length, inCy S q.1 q.2 (uE f 0) := Classical.byContradiction fun h5 => h4 fun q hq hi => h5 ⟨q, hq, hi⟩
 refine ⟨q, hq, ?_⟩
 have := h.run_it hf (v := uE f 0) (m := 0) rfl i hi
 rw [Nat.zero_add] at this
 rw [← this]
 exact cyc_fwd (h1 q hq) h5 i
abbrev cnP (S : Cs) (q : Un × Nat) : List Pt := cnr S q.1 q.2
noncomputable def trL (S : Cs) (E : List Eg) (k : Nat) : List (List Pt) := (vsF S E k).map (cnP S)
theorem trL_post {k : Nat} {e : Eg} (he : E[k]? = some e) (hf : freeE S (vsF S E k) e) {m : Nat} (hc : Cyc S (uE e 0) m) : trL S E (k + 1) = trL S E k ++ [cnr S (uE e 0) m] ∧ ∃ post, trL S E E.length = trL S E k ++ cnr S (uE e 0) m :: post := by
 have h1 : trL S E (k + 1) = trL S E k ++ [cnr S (uE e 0) m] := by
  unfold trL
  rw [vsF_free he hf, cyN_eq hc, List.map_append]
  rfl
 refine ⟨h1, ?_⟩
 obtain ⟨t, ht⟩ := vsF_le (S := S) (E := E) (j := k + 1) (k := E.length) (List.getElem?_eq_some_iff.1 he).1
 refine ⟨t.map (cnP S), ?_⟩
 have : trL S E E.length = trL S E (k + 1) ++ t.map (cnP S) := by unfold trL; rw [ht, List.map_append]
 rw [this, h1, List.append_assoc]
 rfl
theorem trL_shut {k : Nat} {e : Eg} (he : E[k]? = some e) (hf : ¬ freeE S (vsF S E k) e) : trL S E (k + 1) = trL S E k := by
 unfold trL
 rw [vsF_shut he hf]
end
def opN (E : List Eg) (op : Eg → Bool) : Nat := (E.filter op).length
theorem opN_del {E : List Eg} (hnd : E.Nodup) {op op2 : Eg → Bool} {e : Eg} (he : e ∈ E) (ho : op e = true) (h2 : ∀ g, op2 g = (op g && decide (g ≠ e))) : opN E op2 + 1 = opN E op := by
 have e2 : op2 = fun g => op g && decide (g ≠ e) := funext h2
 subst e2
 clear h2
 unfold opN
 induction E with
 | nil => simp at he
 | cons a E ih =>
  obtain ⟨n1, n2⟩ := List.nodup_cons.1 hnd
  rcases List.mem_cons.1 he with rfl | he
  ·have hr : E.filter (fun g => op g && decide (g ≠ e)) = E.filter op := List.filter_congr fun g hg => by
    have : g ≠ e := fun h5 => n1 (h5 ▸ hg)
    simp [this]
   rw [List.filter_cons_of_neg (by simp), List.filter_cons_of_pos (by simpa using ho), hr, List.length_cons]
  ·have hae : a ≠ e := fun h5 => n1 (h5 ▸ he)
   have := ih n2 he
   cases ha : op a
   ·rw [List.filter_cons_of_neg (by simp [ha]), List.filter_cons_of_neg (by simp [ha])]
    exact this
   ·rw [List.filter_cons_of_pos (by simp [ha, hae]), List.filter_cons_of_pos (by simpa using ha), List.length_cons, List.length_cons]
    omega
theorem opN_le (E : List Eg) (op : Eg → Bool) : opN E op ≤ E.length := List.length_filter_le _ _
end Go.Proofs.YtdfpbhlnlkjjlaaGreat

/- A range over a function that turns a block of its own. -/
namespace Go.Proofs.YtdfpbhlnlkjjlaaGreat
open Go.RowKit
set_option linter.unusedVariables false
set_option linter.unusedSimpArgs false
def IterM (mO : Nat) (P : Program) (gf : Nat) (lb : Array Value) {α : Type} (xs : List α) (Ok : α → Array Value → World → Prop) (Kp : World → World → Prop) (w0 : World) : Prop :=
 ∀ (l : Nat) (J Jx : List α → World → Prop) (W : World), Below w0.heap.size w0 W →
  (∀ pre A B, J pre A → A.grownBy B (some mO) → J pre B) →
  (∀ pre x args A, J pre A → (∃ post, xs = pre ++ x :: post) → Ok x args A → YieldAt Fence.wide 0 P l args A fun e B => (e = .returned (.bool true) ∧ J (pre ++ [x]) B ∧ Kp A B) ∨ (e = .returned (.bool false) ∧ Jx (pre ++ [x]) B)) →
  J [] W →
  CallsIn Fence.wide 0 P gf (#[.func (.yield l) #[] #[]] ++ lb) W fun e B => (∃ v, e = .returned v) ∧ (J xs B ∨ ∃ pre, Jx pre B)
theorem wp_rangeM {P : Program} {mO : Nat} {α : Type} {g : Operand} {ps : Array Tmp} {assign body : Code} {Q : Exit → Act → World → Prop} {a : Act} {w : World} {gf : Nat} {lb : Array Value}
  (hg : a.eval g = .func (.func gf) #[] lb) (eg : ∀ args w, (callFunc gf args).run P w = .ok (.enter gf args) w)
  {xs : List α} {Ok : α → Array Value → World → Prop} {Kp : World → World → Prop} {w0 : World} (hit : IterM mO P gf lb xs Ok Kp w0) (hmO : mO < w.heap.size) (hb0 : Below w0.heap.size w0 w)
  (hps : ∀ x args A, Ok x args A → args.size = ps.size)
  (hKt : ∀ {A B C : World}, Kp A B → Kp B C → Kp A C) (hKb : ∀ (A : World) (l : Nat) (o o' : Obj), w.heap.size ≤ l → A.heap[l]? = some o → o.isCells = false → o'.isCells = false → Kp A (A.putObj l o'))
  (I Ix : List α → World → Prop)
  (hI : ∀ pre A B, I pre A → A.grownBy B (some mO) → I pre B)
  (hIp : ∀ pre A l o o', I pre A → w.heap.size ≤ l → A.heap[l]? = some o → o.isCells = false → o'.isCells = false → I pre (A.putObj l o'))
  (hIxp : ∀ pre A l o o', Ix pre A → w.heap.size ≤ l → A.heap[l]? = some o → o.isCells = false → o'.isCells = false → Ix pre (A.putObj l o'))
  (h0 : I [] w)
  (hround : ∀ l pre x args A, I pre A → (∃ post, xs = pre ++ x :: post) → Ok x args A → w.heap.size < l → (∃ o, A.heap[l]? = some o ∧ o.isCells = false) →
   assign.wpIn (Fence.wide.inRound l) 0 P (Exit.then (roundMid P w.heap.size l Kp body I Ix (pre ++ [x]) A) (fun _ _ _ => False)) { tmps := (ps.zip args).foldl (fun t (p, v) => t.setIfInBounds p v) a.tmps, defers := [] } A)
  (hdone : ∀ D W, w.heap.size ≤ D → I xs W → W.heap[D]? = some (.deferred (some [])) → Q .normal { a with defers := { target := .collected D, args := #[] } :: a.defers } W)
  (hstop : ∀ D pre W, w.heap.size ≤ D → Ix pre W → W.heap[D]? = some (.deferred (some [])) → Q .ret { a with defers := { target := .collected D, args := #[] } :: a.defers } W) :
  (Code.rangeFunc g ps assign body).wpIn Fence.wide 0 P Q a w := by
 refine wpIn_rangeFunc ?_
 intro fn _
 obtain ⟨rec, hrec⟩ : ∃ rec : LoopState → Option Code → Loop, rec = fun st pe => { state := st, pending := pe, fn, tmps := a.tmps, params := ps, assign, body, defers := w.heap.size } := ⟨_, rfl⟩
 obtain ⟨W1, hW1⟩ : ∃ W1, (w.alloc (.deferred (some []))).alloc (.loop (rec .ready none)) = W1 := ⟨_, rfl⟩
 have hL1 : W1.heap[w.heap.size + 1]? = some (.loop (rec .ready none)) := by
  rw [← hW1]; have := World.alloc_heap_new (w.alloc (.deferred (some []))) (.loop (rec .ready none)); rwa [World.size_alloc] at this
 have hK1 : W1.heap[w.heap.size]? = some (.deferred (some [])) := by
  rw [← hW1]; exact (Below.heap_alloc _ _ _ (by simp)).trans (World.alloc_heap_new w _)
 have hbw : Below w.heap.size w W1 := by rw [← hW1]; exact ((Below.refl _ w).alloc (Nat.le_refl _) _).alloc (by simp) _
 have hI1 : I [] W1 := hI _ _ _ h0 ⟨hbw.os, hbw.tape, hbw.output, hbw.size, fun q hq _ => hbw.block q hq⟩
 refine ⟨w.heap.size + 1, [{ target := .collected w.heap.size, args := #[] }], W1, { target := .fn (.func gf) lb, args := #[.func (.yield (w.heap.size + 1)) #[] #[]] }, W1, gf,
  #[.func (.yield (w.heap.size + 1)) #[] #[]] ++ lb, W1, ?_, ?_, fun _ _ => trivial, ?_, (fun h => by cases h), ?_⟩
 ·rw [← hW1, hrec]; exact run_enterLoop_outer _ _ _ _ _
 ·simp only [resolve, hg]
  simp [go_sem]
 ·simp [invoke, go_sem, eg]
 ·refine (hit (w.heap.size + 1)
   (fun pre W => I pre W ∧ W.heap[w.heap.size + 1]? = some (.loop (rec .ready none)) ∧ W.heap[w.heap.size]? = some (.deferred (some [])))
   (fun pre W => Ix pre W ∧ W.heap[w.heap.size + 1]? = some (.loop (rec .done (some .ret))) ∧ W.heap[w.heap.size]? = some (.deferred (some [])))
   W1 (hb0.trans (hbw.mono hb0.size)) ?_ ?_ ⟨hI1, hL1, hK1⟩).mono ?_
  ·rintro pre A B ⟨i1, i2, i3⟩ hb
   exact ⟨hI _ _ _ i1 hb, (hb.block _ (Array.getElem?_eq_some_iff.1 i2).1 (fun h5 => by injection h5 with h5; omega)).trans i2, (hb.block _ (Array.getElem?_eq_some_iff.1 i3).1 (fun h5 => by injection h5 with h5; omega)).trans i3⟩
  ·rintro pre x args W ⟨hi, hl, hk⟩ hpost hok
   have hy := run_yield (P := P) (args := args) hl (by rw [hrec]; exact hps x args W hok)
   rw [hrec] at hy
   refine ⟨fn, _, assign, body, hy, roundIn_of_wpIn trivial (wpIn_mono (hround (w.heap.size + 1) pre x args W hi hpost hok (by omega) ⟨_, hl, rfl⟩) ?_)⟩
   clear hy
   rintro ex a1 A1 hp
   cases ex with
   | normal =>
    obtain ⟨k1, k2, k3⟩ := hp
    replace hl := k1.same _ _ (by omega) hl rfl
    replace hk := k1.same _ _ (Nat.le_refl _) hk rfl
    have hlt : w.heap.size + 1 < A1.heap.size := (Array.getElem?_eq_some_iff.1 hl).1
    refine ⟨_, run_beginRound hl (by rw [hrec]), ?_⟩
    have hl2 : (A1.putObj (w.heap.size + 1) (.loop { rec .ready none with state := .busy })).heap[w.heap.size + 1]? = some (.loop { rec .ready none with state := .busy }) := World.putObj_heap_same hlt
    have hk2 : (A1.putObj (w.heap.size + 1) (.loop { rec .ready none with state := .busy })).heap[w.heap.size]? = some (.deferred (some [])) := (World.putObj_heap_other (by omega)).trans hk
    have hc2 := cell_putObj (o' := .loop { rec .ready none with state := .busy }) hl rfl rfl
    have hw2 : Kp A1 (A1.putObj (w.heap.size + 1) (.loop { rec .ready none with state := .busy })) := hKb _ _ _ _ (by omega) hl rfl rfl
    refine wpIn_mono (k3 _ (grownBy_putObj' _ _ _) (by simp) (fun p => (hc2 p).1) (fun p => (hc2 p).2)) ?_
    rintro e a3 W3 hp
    cases e with
    | normal =>
     obtain ⟨hk3, hkp3, hi3⟩ := hp
     have hl3 := hk3.same _ _ (by omega) hl2 rfl
     have hk3' := hk3.same _ _ (Nat.le_refl _) hk2 rfl
     have hlt3 := (Array.getElem?_eq_some_iff.1 hl3).1
     refine ⟨_, _, run_endRound (P := P) none hl3, .inl ⟨rfl, ⟨hIp _ _ _ _ _ hi3 (by omega) hl3 rfl rfl, ?_, (World.putObj_heap_other (by omega)).trans hk3'⟩, ?_⟩⟩
     ·rw [World.putObj_heap_same hlt3, hrec]; rfl
     ·exact hKt k2 (hKt hw2 (hKt hkp3 (hKb _ _ _ _ (by omega) hl3 rfl rfl)))
    | ret =>
     obtain ⟨hk3, hi3⟩ := hp
     have hl3 := hk3.same _ _ (by omega) hl2 rfl
     have hk3' := hk3.same _ _ (Nat.le_refl _) hk2 rfl
     have hlt3 := (Array.getElem?_eq_some_iff.1 hl3).1
     refine ⟨_, _, run_endRound (P := P) (some .ret) hl3, .inr ⟨rfl, hIxp _ _ _ _ _ hi3 (by omega) hl3 rfl rfl, ?_, (World.putObj_heap_other (by omega)).trans hk3'⟩⟩
     rw [World.putObj_heap_same hlt3, hrec]; rfl
    | exit id => exact hp.elim
    | goto t => exact hp.elim
    | panic c => exact hp.elim
    | outgrown => exact hp.elim
   | exit id => exact hp.elim
   | goto t => exact hp.elim
   | ret => exact hp.elim
   | panic c => exact hp.elim
   | outgrown => exact hp.elim
  ·rintro e W2 ⟨⟨v, rfl⟩, (⟨hi, hl, hk⟩ | ⟨pre, hi, hl, hk⟩)⟩
   ·refine ⟨none, _, ?_, hdone _ _ (Nat.le_refl _) (hIp _ _ (w.heap.size + 1) _ (.loop { rec .ready none with state := .exhausted }) hi (by omega) hl rfl rfl) ((World.putObj_heap_other (by omega)).trans hk)⟩
    have := run_endLoop (P := P) hl (by rw [hrec]; simp)
    exact this.trans (by rw [hrec])
   ·refine ⟨some .ret, _, ?_, wpIn_ret (hstop _ pre _ (Nat.le_refl _) (hIxp _ _ (w.heap.size + 1) _ (.loop { rec .done (some .ret) with state := .exhausted }) hi (by omega) hl rfl rfl) ((World.putObj_heap_other (by omega)).trans hk))⟩
    have := run_endLoop (P := P) hl (by rw [hrec]; simp)
    exact this.trans (by rw [hrec])
end Go.Proofs.YtdfpbhlnlkjjlaaGreat
