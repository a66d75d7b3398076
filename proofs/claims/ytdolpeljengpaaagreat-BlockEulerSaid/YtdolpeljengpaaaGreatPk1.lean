/- Texts laid together: MapR, Kit, Rd, Own, MSpan, MRegion, RegA, StrM, MStr. Lemmas for the statements of this seat; no condition. -/
import Derived.Maps.RangeWalk
import Derived.Test.YtdolpeljengpaaaGreatRows
import Derived.WalkKit
import Derived.WalkSpells
import Derived.WalkLawsBesides
import Derived.Deep.QuietTactic
import Derived.BigQuiet
import Derived.IntWalk
import Derived.Lib.Hide
import Derived.Deep.RegionHeld3
import Derived.Outline
import Derived.Deep.AppendLies
import Derived.Laws.OwnMore
import Derived.Maps.AppendAt
import Derived.Shelf.SlSortCmp.NoneTotal
import Derived.Below
import Derived.Maps.OwnSet

/- A store at a key that is there, inside a range over the map: the range goes on with the same entries to come. -/
namespace Go.Proofs.YtdolpeljengpaaaGreat
open Go Go.ChangeMaps Go.MapKept Go.WideShapes Go.Maps
open Go.WideElems (Fit rd rg pl rd_key rd_val rg_of rd_mk)
set_option linter.unusedVariables false
set_option linter.unusedSimpArgs false

theorem left_borns {l l' : List MapEntry} (seen : Array Nat) (h : l'.map MapEntry.born = l.map MapEntry.born) : (l'.filter fun e => !seen.contains e.born).length = (l.filter fun e => !seen.contains e.born).length := by
  have e : ∀ a : List MapEntry, (a.filter fun e => !seen.contains e.born).length = (a.map MapEntry.born).countP fun b => !seen.contains b := fun a => by
    rw [← List.countP_eq_length_filter, List.countP_map]
    rfl
  rw [e, e, h]
theorem ranges_store {H : Type} {P : Program} {k : TypeId} {R : Value → Option (DataW H × List MemPlace)} {w : World} {b r n : Nat} {D : DataW H} {left : Lit → Bool} {cnt : Nat} {t e : TypeId} (h : w.ranges P k R b r n D left cnt) (K : Keyed P k) (ht : P.underlying t = some (.map k e)) (hn : n < maxLen) {key val : Value} {kl : Lit} {yv : DataW H × List MemPlace}
    (hkey : keyOf P k key = some kl) (hthere : ∃ y, ∀ zd, D.atKey kl zd = y) (hv : R val = some yv) :
    ∃ w', (Instr.mapUpdate t (.map (some b)) key val).run P w = .ok () w' ∧ w'.ranges P k R b r n (D.put kl yv.1) left cnt ∧ w.grownBy w' (some b) ∧ w'.heap.size = w.heap.size := by
  have hne := h.ne
  obtain ⟨es, clock, since, seen, c0, hb, F, hs, rfl, hr, hold, rfl, hl1, hl2, hsc, hsk⟩ := h
  obtain ⟨es', clock', hrun, F', hput, _⟩ := Maps.fit_store (R' := R) K ht hb F (Nat.lt_of_le_of_lt hs hn) (fun _ _ _ _ hz => hz) hkey hv
  rcases K.find w hkey es.toList F.keys with ⟨h1, h2⟩ | ⟨j, e0, h1, h2, h3⟩
  · exfalso
    obtain ⟨y, hy⟩ := hthere
    have hno := (atKey_sorted (es.toList.map (rg P k R)) (Maps.fit_rising K F) kl (K.key hkey)).1 fun p hp hpk => by
      obtain ⟨x, hx, rfl⟩ := List.mem_map.1 hp
      obtain ⟨z, hz⟩ := F.reads x hx
      rw [rg_of hz] at hpk
      exact h2 x hx (K.inj (rd_key hz) (hpk ▸ hkey))
    have e1 := hy (.map [])
    have e2 := hy .nil
    rw [hno] at e1 e2
    rw [← e2] at e1
    cases e1
  · have hj : es[j]? = some e0 := by simpa using h2
    have hrun2 : (Instr.mapUpdate t (.map (some b)) key val).run P w = .ok () (setBlock w b (.map (es.modify j (fun e' => { e' with key := key, val := val })) clock)) := by
      simp [Instr.mapUpdate, run_underlying ht, MapKept.run_getObj_map hb, K.check w false hkey, h1, hj, h3, K.stays w hkey, MapKept.run_setObj_map _ hb, Result.andThen, setBlock]
    have hw : setBlock w b (.map es' clock') = setBlock w b (.map (es.modify j (fun e' => { e' with key := key, val := val })) clock) := by
      rw [hrun] at hrun2
      simpa using hrun2
    have hm1 := heap_setBlock_same hb (.map es' clock')
    rw [hw, heap_setBlock_same hb] at hm1
    obtain ⟨rfl, rfl⟩ : es' = es.modify j (fun e' => { e' with key := key, val := val }) ∧ clock' = clock := by simpa using hm1.symm
    have hlist : (es.modify j (fun e' => { e' with key := key, val := val })).toList = es.toList.set j { e0 with key := key, val := val } := by
      rw [Array.toList_modify]
      refine List.ext_getElem? fun i => ?_
      rw [List.getElem?_modify, List.getElem?_set]
      by_cases e1 : j = i
      · subst e1
        have hlt := (List.getElem?_eq_some_iff.1 h2).1
        have hjs : j < es.size := by simpa using hlt
        rw [h2]
        simp [hjs]
      · simp [e1]
    have hjl : j < es.toList.length := (List.getElem?_eq_some_iff.1 h2).1
    have hborn : ((es.modify j (fun e' => { e' with key := key, val := val })).toList).map MapEntry.born = es.toList.map MapEntry.born := by
      rw [hlist]
      refine List.ext_getElem? fun i => ?_
      rw [List.getElem?_map, List.getElem?_map, List.getElem?_set]
      by_cases e1 : j = i
      · subst e1
        rw [h2]
        have hjs : j < es.size := by simpa using hjl
        simp [hjs]
      · simp [e1]
    have hrg0 : (rg P k R e0).1 = kl := by
      obtain ⟨z, hz⟩ := F.reads e0 (List.mem_of_getElem? h2)
      rw [rg_of hz]
      have := rd_key hz
      rw [h3, hkey] at this
      exact (Option.some.inj this).symm
    have hrg1 : (rg P k R { e0 with key := key, val := val }).1 = kl := by rw [rg_of (rd_mk hkey hv)]
    have who : ∀ x ∈ (es.modify j (fun e' => { e' with key := key, val := val })).toList, ∃ y ∈ es.toList, y.born = x.born ∧ (rg P k R y).1 = (rg P k R x).1 := by
      intro x hx
      rw [hlist] at hx
      obtain ⟨i, hi⟩ := List.getElem?_of_mem hx
      rw [List.getElem?_set] at hi
      by_cases e1 : j = i
      · rw [if_pos e1, if_pos hjl] at hi
        obtain rfl := Option.some.inj hi
        exact ⟨e0, List.mem_of_getElem? h2, rfl, by rw [hrg0, hrg1]⟩
      · rw [if_neg e1] at hi
        exact ⟨x, List.mem_of_getElem? hi, rfl, rfl⟩
    have who2 : ∀ y ∈ es.toList, ∃ x ∈ (es.modify j (fun e' => { e' with key := key, val := val })).toList, (rg P k R x).1 = (rg P k R y).1 := by
      intro y hy
      rw [hlist]
      obtain ⟨i, hi⟩ := List.getElem?_of_mem hy
      by_cases e1 : j = i
      · subst e1
        rw [h2] at hi
        obtain rfl := Option.some.inj hi
        exact ⟨_, List.mem_of_getElem? (i := j) (by rw [List.getElem?_set, if_pos rfl, if_pos hjl]), by rw [hrg0, hrg1]⟩
      · exact ⟨y, List.mem_of_getElem? (i := i) (by rw [List.getElem?_set, if_neg e1]; exact hi), rfl⟩
    refine ⟨_, hrun, ⟨_, _, since, seen, c0, heap_setBlock_same hb _, F', by simpa using hs, by rw [DataW.put_eq, hput], (heap_setBlock_other hb _ hne).trans hr, fun x hx => ?_, ?_, fun x hx => ?_, fun kl' hkl => ?_, hsc, hsk⟩, ⟨rfl, rfl, rfl, by simp [setBlock], fun i _ hi => heap_setBlock_other hb _ (fun e => hi (by rw [e]))⟩, by simp [setBlock]⟩
    · obtain ⟨y, hy, e1, _⟩ := who x hx
      rw [← e1]
      exact hold y hy
    · have e1 : ∀ a : Array MapEntry, (leftOf a seen).size = (a.toList.filter fun e => !seen.contains e.born).length := fun a => by
        unfold leftOf
        rw [← Array.toList_filter, Array.length_toList]
      rw [e1, e1]
      exact left_borns seen hborn
    · obtain ⟨y, hy, e1, e2⟩ := who x hx
      rw [← e2, hl1 y hy, e1]
    · obtain ⟨y, hy, e1⟩ := hl2 kl' hkl
      obtain ⟨x, hx, e2⟩ := who2 y hy
      exact ⟨x, hx, e2.trans e1⟩
end Go.Proofs.YtdolpeljengpaaaGreat

/- Small words that every walk of this seat uses. -/
namespace Go.Proofs.YtdolpeljengpaaaGreat
open Go.RowKit
set_option linter.unusedVariables false
set_option linter.unusedSimpArgs false

theorem bcell {W w1 : World} (hb : Below W.heap.size W w1) : (∀ b o, b < W.heap.size → w1.cell? ⟨b, o, none⟩ = W.cell? ⟨b, o, none⟩) ∧ (∀ b o, b < W.heap.size → w1.frozen? ⟨b, o, none⟩ = W.frozen? ⟨b, o, none⟩) :=
  ⟨fun b o h => hb.cell (p := ⟨b, o, none⟩) h, fun b o h => hb.frozen (p := ⟨b, o, none⟩) h⟩
theorem ret_eq {a b : Value} (h : a = b) : Ending.returned a = .returned b := by rw [h]
theorem int_eq {k : IntKind} {a b : Int} (h : a = b) : Value.int k a = Value.int k b := by rw [h]
theorem bool_eq {a b : Bool} (h : a = b) : Value.bool a = Value.bool b := by rw [h]
theorem hide {p : Prop} (h : p) : Hid p := h

/-! A region that draws its order, whose operations read and call, and whose callees may make memory: one walk, over the class of all worlds that keep what lay in w. -/
structure Above (w : World) where
  get : World
  keeps : Below w.heap.size w get
instance {w : World} : Nonempty (Above w) := ⟨⟨w, Below.refl _ _⟩⟩
theorem above_cell {w : World} (x : Above w) {b : Nat} (o : Nat) (h : b < w.heap.size) : x.get.cell? ⟨b, o, none⟩ = w.cell? ⟨b, o, none⟩ := x.keeps.cell (p := ⟨b, o, none⟩) h
theorem wp_hab {P : Program} {c : Code} {Q : Exit → Act → World → Prop} {a : Act} {W : World} (h : (∀ (x : Above W) (b o : Nat), b < W.heap.size → x.get.cell? ⟨b, o, none⟩ = W.cell? ⟨b, o, none⟩) → c.wp P Q a W) : c.wp P Q a W :=
  h fun x _ o hb => above_cell x o hb
theorem wp_name {P : Program} {c : Code} {Q : Exit → Act → World → Prop} {a : Act} {W : World} (h : ∀ w, w = W → c.wp P Q a w) : c.wp P Q a W := h W rfl
theorem wp_region_above {P : Program} {id : Nat} {Q : Exit → Act → World → Prop} {a : Act} {w : World} {l : List Oper} (hm : P.follows .mixedOrders = true) (hB : Region.lexB .any l.toArray = true)
    (h : wpQuiet P l.toArray (fun w' => ∃ x : Above w, w' = x.get) (fun a' => ∀ w', (∃ x : Above w, w' = x.get) → Q .normal a' w') l a) : (Code.region id l.toArray true).wp P Q a w :=
  wp_region_quiet (C := fun w' => ∃ x : Above w, w' = x.get) hm hB ⟨⟨w.drew, (Below.refl _ _).drew⟩, rfl⟩ (by simpa using h)
theorem above_ends {w : World} {Q : World → Prop} (h : ∀ w', Below w.heap.size w w' → Q w') : ∀ w', (∃ x : Above w, w' = x.get) → Q w' := fun w' ⟨x, hx⟩ => h w' (hx ▸ x.keeps)
theorem above_of {P : Program} {f : FuncId} {args : Array Value} {w : World} {x : Above w} {v : Value}
    (h : Calls P f args x.get fun e w' => e = .returned v ∧ Below x.get.heap.size x.get w') : Calls P f args x.get fun e w'' => e = .returned v ∧ ∃ y : Above w, w'' = y.get :=
  h.mono fun _ w'' ⟨he, hb⟩ => ⟨he, ⟨w'', x.keeps.trans (hb.mono x.keeps.size)⟩, rfl⟩
theorem above_same {P : Program} {f : FuncId} {args : Array Value} {w : World} {x : Above w} {v : Value}
    (h : Calls P f args x.get fun e w' => e = .returned v ∧ x.get = w') : Calls P f args x.get fun e w'' => e = .returned v ∧ ∃ y : Above w, w'' = y.get :=
  h.mono fun _ _ ⟨he, hb⟩ => ⟨he, x, hb.symm⟩
end Go.Proofs.YtdolpeljengpaaaGreat

/- A slice that reads as a list of structs (or of integers), nil let in. -/
namespace Go.Proofs.YtdolpeljengpaaaGreat
open Go.RowKit
set_option linter.unusedVariables false
set_option linter.unusedSimpArgs false

/-- The first place at which p holds, or -1. -/
def idxI {α : Type} (p : α → Bool) (l : List α) : Int := if l.any p then ((l.findIdx p : Nat) : Int) else -1
/-- The slice v reads as the list l, each element being k cells; its cells lie below block B. -/
def RdK {α : Type} (enc : α → List Value) (k : Nat) (w : World) (B : Nat) (v : Value) (l : List α) : Prop :=
  ∃ A c, v = .slice A l.length c ∧ (l ≠ [] → ∃ b off, A = some ⟨b, off, none⟩ ∧ b < B ∧ ∀ j x, l[j]? = some x → ∀ i u, (enc x)[i]? = some u → w.cell? ⟨b, off + j * k + i, none⟩ = some u)
section
variable {α : Type} {enc : α → List Value} {k : Nat} {w w' : World} {B B' : Nat} {v : Value} {l : List α}
theorem RdK.keep (h : RdK enc k w B v l) (hk : ∀ b o, b < B → w'.cell? ⟨b, o, none⟩ = w.cell? ⟨b, o, none⟩) : RdK enc k w' B v l := by
  obtain ⟨A, c, hv, h⟩ := h
  refine ⟨A, c, hv, fun hl => ?_⟩
  obtain ⟨b, off, hA, hb, hc⟩ := h hl
  exact ⟨b, off, hA, hb, fun j x hx i u hu => (hk b _ hb).trans (hc j x hx i u hu)⟩
theorem RdK.mono (h : RdK enc k w B v l) (hB : B ≤ B') : RdK enc k w B' v l := by
  obtain ⟨A, c, hv, h⟩ := h
  refine ⟨A, c, hv, fun hl => ?_⟩
  obtain ⟨b, off, hA, hb, hc⟩ := h hl
  exact ⟨b, off, hA, by omega, hc⟩
theorem RdK.below (h : RdK enc k w B v l) (hb : Below B w w') : RdK enc k w' B v l := h.keep fun b o hlt => hb.cell (p := ⟨b, o, none⟩) hlt
theorem RdK.nil (A : Option Addr) (c : Nat) : RdK enc k w B (.slice A 0 c) ([] : List α) := ⟨A, c, rfl, fun h => absurd rfl h⟩
end
end Go.Proofs.YtdolpeljengpaaaGreat

/- Rows of the call's own (append), read as lists of structs; and what slices.SortFunc leaves of them. -/
namespace Go.Proofs.YtdolpeljengpaaaGreat
open Go.RowKit Go.Sort
set_option linter.unusedVariables false
set_option linter.unusedSimpArgs false

theorem addr_add (g j : Nat) : (⟨g, 0, none⟩ : Addr).add j = ⟨g, j, none⟩ := by unfold Addr.add; split <;> simp_all

/-- The cells of a block that has just been laid, in the words of append's law. -/
theorem news_new (w : World) (cs : List Value) (t : TypeId) (B : Nat) (hB : w.heap.size = B) : ∀ j u, cs[j]? = some u → (w.alloc (.cells cs.toArray t)).cell? ((⟨B, 0, none⟩ : Addr).add j) = some u := by
  subst hB
  exact fun j u hu => World.news_of_block (heap_alloc_new w _) j u (by simpa using hu)
def isInt : Value → Bool | .int _ _ => true | _ => false
theorem ints_one {l : List Value} (h : l.all isInt = true) : ∀ u ∈ l, u.oneCell' = true := fun u hu => by
  have := List.all_eq_true.1 h u hu
  cases u <;> first | rfl | cases this

theorem flat_get {α : Type} {enc : α → List Value} {k : Nat} (hk : ∀ x, (enc x).length = k) : ∀ (l : List α) (j : Nat) (x : α) (i : Nat) (u : Value), l[j]? = some x → (enc x)[i]? = some u → (l.flatMap enc)[j * k + i]? = some u
  | [], j, x, i, u, h, _ => by simp at h
  | y :: l, 0, x, i, u, h, hu => by
    simp at h; subst h
    have hi : i < (enc y).length := (List.getElem?_eq_some_iff.1 hu).1
    rw [List.flatMap_cons, Nat.zero_mul, Nat.zero_add, List.getElem?_append_left hi, hu]
  | y :: l, j + 1, x, i, u, h, hu => by
    have := flat_get hk l j x i u (by simpa using h) hu
    rw [List.flatMap_cons, List.getElem?_append_right (by rw [hk, Nat.add_mul]; omega), ← this]
    congr 1
    rw [hk, Nat.add_mul]; omega
theorem flat_len {α : Type} {enc : α → List Value} {k : Nat} (hk : ∀ x, (enc x).length = k) (l : List α) : (l.flatMap enc).length = l.length * k := by
  induction l with
  | nil => simp
  | cons y l ih => rw [List.flatMap_cons, List.length_append, ih, hk, List.length_cons, Nat.add_mul]; omega
theorem own_len {α : Type} {enc : α → List Value} {w : World} {base k : Nat} {e : TypeId} {v : Value} {n : Nat} {l : List α} (h : w.ownsRow base e k v n (l.flatMap enc)) (hk : ∀ x, (enc x).length = k) (k0 : 0 < k) : n = l.length := by
  have := h.1
  rw [flat_len hk] at this
  exact (Nat.eq_of_mul_eq_mul_right k0 this).symm
/-- A row of the call's own is read as a list. -/
theorem own_rd {α : Type} {enc : α → List Value} {w : World} {base k : Nat} {e : TypeId} {v : Value} {l : List α} (h : w.ownsRow base e k v l.length (l.flatMap enc)) (hk : ∀ x, (enc x).length = k) : RdK enc k w w.heap.size v l := by
  rcases h.2 with ⟨rfl, h0⟩ | ⟨g, cap, cur, rfl, hb, hg, hnc, hcm, hcs, ht⟩
  · exact ⟨none, 0, by rw [h0], fun hl => absurd (List.eq_nil_of_length_eq_zero h0) hl⟩
  · refine ⟨some ⟨g, 0, none⟩, cap, rfl, fun hl => ⟨g, 0, rfl, (Array.getElem?_eq_some_iff.1 hg).1, fun j x hj i u hu => ?_⟩⟩
    have := (h.cells (g := g) rfl) _ _ (flat_get hk l j x i u hj hu)
    rw [addr_add] at this
    rwa [Nat.zero_add]

theorem flatK_toList {α : Type} [Inhabited α] {enc : α → List Value} {k : Nat} (hk : ∀ x, (enc x).length = k) (l : List α) : (flatK enc k l.toArray).toList = l.flatMap enc := by
  apply List.ext_getElem?
  intro t
  by_cases ht : t < l.length * k
  · have k0 : 0 < k := by rcases Nat.eq_zero_or_pos k with h | h; · subst h; simp at ht
                          · exact h
    have hj : t / k < l.length := (Nat.div_lt_iff_lt_mul k0).2 ht
    have hi : t % k < k := Nat.mod_lt _ k0
    have e : t = t / k * k + t % k := by rw [Nat.mul_comm]; exact (Nat.div_add_mod t k).symm
    have g := get_flatK enc k l.toArray t (by simpa using ht)
    rw [getElem!_pos _ t (by simpa using ht), getElem!_pos _ (t / k) (by simpa using hj), getElem!_pos _ (t % k) (by rw [hk]; exact hi)] at g
    rw [Array.getElem?_toList, Array.getElem?_eq_getElem (by simpa using ht), g]
    conv => rhs; rw [e]
    rw [flat_get hk l (t / k) (l[t / k]) (t % k) _ (List.getElem?_eq_getElem hj) (List.getElem?_eq_getElem (by rw [hk]; exact hi))]
    simp
  · rw [List.getElem?_eq_none (by simpa using Nat.le_of_not_lt ht), List.getElem?_eq_none (by rw [flat_len hk]; omega)]

/-- A row of the call's own holds its elements, in the sort's words. -/
theorem own_holds {α : Type} [Inhabited α] {enc : α → List Value} {w : World} {base k : Nat} {e : TypeId} {g n cap : Nat} {l : List α} (hk : ∀ x, (enc x).length = k) (h : w.ownsRow base e k (.slice (some ⟨g, 0, none⟩) n cap) n (l.flatMap enc)) : HoldsK enc k w g 0 l.toArray := by
  intro j hj
  have hj' : j < (l.flatMap enc).length := by rw [flat_len hk]; simpa using hj
  have e1 : (flatK enc k l.toArray)[j]! = (l.flatMap enc)[j] := by
    rw [getElem!_pos _ j hj]
    have := flatK_toList (enc := enc) hk l
    rw [← Array.getElem_toList]
    exact List.getElem_of_eq this (by simpa using hj)
  refine ⟨?_, h.frozenAt _⟩
  have := (h.cells (g := g) rfl) j _ (List.getElem?_eq_getElem hj')
  rw [addr_add] at this
  rw [e1, Nat.zero_add]
  exact this

/-- What a sort leaves: the row owns the new elements, all else is as it was. -/
theorem own_sorted {α : Type} [Inhabited α] {enc : α → List Value} {w : World} {base k : Nat} {e : TypeId} {g cap n : Nat} {l l' : List α} (hk : ∀ x, (enc x).length = k) (os : Array Obj)
    (h : w.ownsRow base e k (.slice (some ⟨g, 0, none⟩) l.length cap) l.length (l.flatMap enc)) (hl : l'.length = l.length) :
    (sortWorldK enc k w g 0 n l'.toArray os).ownsRow base e k (.slice (some ⟨g, 0, none⟩) l'.length cap) l'.length (l'.flatMap enc) ∧ w.grownBy (sortWorldK enc k w g 0 n l'.toArray os) (some g) := by
  rcases h.2 with ⟨e0, _⟩ | ⟨g', cap', cur, e0, hb, hg, hn, hm, hs, ht⟩
  · cases e0
  · injection e0 with e1 _ e3
    injection e1 with e1
    injection e1 with e1
    subst e1; subst e3
    have hlt : g < w.heap.size := (Array.getElem?_eq_some_iff.1 hg).1
    have hrow : ∀ b, (sortWorldK enc k w g 0 n l'.toArray os).heap[b]? = if b < w.heap.size then (putRow id w g 0 (flatK enc k l'.toArray)).heap[b]? else os[b - w.heap.size]? := by
      intro b
      show ((putRow id w g 0 (flatK enc k l'.toArray)).heap ++ os)[b]? = _
      rw [Array.getElem?_append]
      simp
    refine ⟨⟨flat_len hk l', .inr ⟨g, cap, putCells id 0 (flatK enc k l'.toArray) cur, rfl, hb, ?_, by omega, hm, by simpa [putCells] using hs, ?_⟩⟩, ⟨rfl, rfl, rfl, ?_, fun b hb' hne => ?_⟩⟩
    · rw [hrow, if_pos hlt]
      simp [putRow, mapBlock, Array.getElem?_modify, hg, onCells]
    · rw [← flatK_toList hk l']
      apply List.ext_getElem?
      intro j
      have hle : l'.length * k ≤ cap * k := Nat.mul_le_mul_right k (by omega)
      rw [List.getElem?_take, Array.getElem?_toList, Array.getElem?_toList]
      by_cases hj : j < l'.length * k
      · have hjc : j < cur.size := by omega
        simp only [if_pos hj, putCells, Array.getElem?_mapIdx, Array.getElem?_eq_getElem hjc, Option.map_some]
        rw [if_pos (by simp; omega), Array.getElem?_eq_getElem (by simpa using hj)]
        simp [getElem!_pos, hj]
      · rw [if_neg hj, Array.getElem?_eq_none (by simpa using Nat.le_of_not_lt hj)]
    · show w.heap.size ≤ ((putRow id w g 0 (flatK enc k l'.toArray)).heap ++ os).size
      simp
    · rw [hrow, if_pos hb']
      have : g ≠ b := fun e => hne (by rw [e])
      simp [putRow, mapBlock, Array.getElem?_modify, this]
theorem own_base {w : World} {base B : Nat} {e : TypeId} {size : Nat} {v : Value} {n : Nat} {xs : List Value} (h : w.ownsRow B e size v n xs) (hb : base ≤ B) : w.ownsRow base e size v n xs := by
  refine ⟨h.1, ?_⟩
  rcases h.2 with hn | ⟨g, cap, cur, hv, hg, r⟩
  · exact .inl hn
  · exact .inr ⟨g, cap, cur, hv, by omega, r⟩
theorem own_n {w : World} {B : Nat} {e : TypeId} {size : Nat} {v : Value} {n n' : Nat} {xs : List Value} (h : w.ownsRow B e size v n xs) (hn : n = n') : w.ownsRow B e size v n' xs := hn ▸ h
end Go.Proofs.YtdolpeljengpaaaGreat

/- Plain law: sets of integers as canonical lists of spans; what the sweep over the ends of spans gives. No Go in sight. -/
namespace Go.Proofs.YtdolpeljengpaaaGreat
set_option linter.unusedVariables false
set_option linter.unusedSimpArgs false

abbrev Sp := Int × Int
/-- x belongs to one of the spans. -/
def smem (s : List Sp) (x : Int) : Prop := ∃ p ∈ s, p.1 ≤ x ∧ x < p.2
instance (s : List Sp) (x : Int) : Decidable (smem s x) := by unfold smem; infer_instance
/-- Canonical: no span is empty; each ends ahead of the next, with a gap. -/
def SCan (s : List Sp) : Prop := (∀ p ∈ s, p.1 < p.2) ∧ s.Pairwise (fun p q => p.2 < q.1)
instance (s : List Sp) : Decidable (SCan s) := by unfold SCan; infer_instance

theorem smem_nil {x : Int} : ¬ smem [] x := by simp [smem]
theorem smem_cons {p : Sp} {s : List Sp} {x : Int} : smem (p :: s) x ↔ (p.1 ≤ x ∧ x < p.2) ∨ smem s x := by simp [smem]
theorem smem_append {s t : List Sp} {x : Int} : smem (s ++ t) x ↔ smem s x ∨ smem t x := by
  simp only [smem, List.mem_append]
  constructor
  · rintro ⟨p, hp | hp, h⟩
    · exact .inl ⟨p, hp, h⟩
    · exact .inr ⟨p, hp, h⟩
  · rintro (⟨p, hp, h⟩ | ⟨p, hp, h⟩)
    · exact ⟨p, .inl hp, h⟩
    · exact ⟨p, .inr hp, h⟩
theorem SCan.nil : SCan [] := by simp [SCan]
theorem SCan.tail {p : Sp} {s : List Sp} (h : SCan (p :: s)) : SCan s := ⟨fun q hq => h.1 q (by simp [hq]), (List.pairwise_cons.1 h.2).2⟩
theorem SCan.head {p : Sp} {s : List Sp} (h : SCan (p :: s)) : p.1 < p.2 := h.1 p (by simp)
theorem SCan.gt {p : Sp} {s : List Sp} {x : Int} (h : SCan (p :: s)) (hx : smem s x) : p.2 < x := by
  obtain ⟨q, hq, h1, h2⟩ := hx
  have := (List.pairwise_cons.1 h.2).1 q hq
  omega
theorem SCan.snoc {s : List Sp} {p : Sp} : SCan (s ++ [p]) ↔ SCan s ∧ p.1 < p.2 ∧ ∀ q ∈ s, q.2 < p.1 := by
  unfold SCan
  rw [List.pairwise_append]
  constructor
  · rintro ⟨h1, h2, _, h4⟩
    exact ⟨⟨fun q hq => h1 q (by simp [hq]), h2⟩, h1 p (by simp), fun q hq => h4 q hq p (by simp)⟩
  · rintro ⟨⟨h1, h2⟩, h3, h4⟩
    refine ⟨?_, h2, by simp, ?_⟩
    · intro q hq
      rcases List.mem_append.1 hq with h | h
      · exact h1 q h
      · simp at h; subst h; exact h3
    · intro a ha b hb
      simp at hb; subst hb; exact h4 a ha
/-- A canonical list is known by its integers. -/
theorem SCan.ext : ∀ {s t : List Sp}, SCan s → SCan t → (∀ x, smem s x ↔ smem t x) → s = t
  | [], [], _, _, _ => rfl
  | [], q :: t, _, ht, h => by
    have := (h q.1).2 (smem_cons.2 (.inl ⟨by omega, ht.head⟩))
    exact (smem_nil this).elim
  | p :: s, [], hs, _, h => by
    have := (h p.1).1 (smem_cons.2 (.inl ⟨by omega, hs.head⟩))
    exact (smem_nil this).elim
  | p :: s, q :: t, hs, ht, h => by
    have ps := hs.head
    have qt := ht.head
    have e1 : p.1 = q.1 := by
      have a := (h p.1).1 (smem_cons.2 (.inl ⟨by omega, ps⟩))
      have b := (h q.1).2 (smem_cons.2 (.inl ⟨by omega, qt⟩))
      rcases smem_cons.1 a with a | a <;> rcases smem_cons.1 b with b | b
      · omega
      · have := hs.gt b; omega
      · have := ht.gt a; omega
      · have := hs.gt b; have := ht.gt a; omega
    have e2 : p.2 = q.2 := by
      rcases Int.lt_trichotomy p.2 q.2 with hl | hl | hl
      · have := (h p.2).2 (smem_cons.2 (.inl ⟨by omega, hl⟩))
        rcases smem_cons.1 this with a | a
        · omega
        · have := hs.gt a; omega
      · exact hl
      · have := (h q.2).1 (smem_cons.2 (.inl ⟨by omega, hl⟩))
        rcases smem_cons.1 this with a | a
        · omega
        · have := ht.gt a; omega
    have e : p = q := Prod.ext e1 e2
    subst e
    have : s = t := SCan.ext hs.tail ht.tail fun x => by
      constructor
      · intro hx
        have g := hs.gt hx
        rcases smem_cons.1 ((h x).1 (smem_cons.2 (.inr hx))) with a | a
        · omega
        · exact a
      · intro hx
        have g := ht.gt hx
        rcases smem_cons.1 ((h x).2 (smem_cons.2 (.inr hx))) with a | a
        · omega
        · exact a
    rw [this]

/-! ### One more span at the end, joined to the last one if it begins where that ends -/
def sext (out : List Sp) (last e : Int) : List Sp :=
  match out.getLast? with
  | some q => if q.2 = last then out.dropLast ++ [(q.1, e)] else out ++ [(last, e)]
  | none => out ++ [(last, e)]
theorem sext_ok {out : List Sp} {last e : Int} (h : SCan out) (hl : ∀ q ∈ out, q.2 ≤ last) (he : last < e) :
    SCan (sext out last e) ∧ (∀ q ∈ sext out last e, q.2 ≤ e) ∧ ∀ x, smem (sext out last e) x ↔ smem out x ∨ (last ≤ x ∧ x < e) := by
  unfold sext
  cases hg : out.getLast? with
  | none =>
    have : out = [] := List.getLast?_eq_none_iff.1 hg
    subst this
    refine ⟨by simp [SCan, he], by simp, fun x => ?_⟩
    simp [smem]
  | some q =>
    obtain ⟨o, rfl⟩ := List.getLast?_eq_some_iff.1 hg
    obtain ⟨h1, h2, h3⟩ := SCan.snoc.1 h
    have hq := hl q (by simp)
    simp only [List.dropLast_concat]
    by_cases hb : q.2 = last
    · rw [if_pos hb]
      refine ⟨SCan.snoc.2 ⟨h1, by simp; omega, fun r hr => h3 r hr⟩, ?_, fun x => ?_⟩
      · intro r hr
        rcases List.mem_append.1 hr with hr | hr
        · have := hl r (by simp [hr]); omega
        · simp at hr; subst hr; simp
      · rw [smem_append, smem_append]
        simp only [smem_cons, smem_nil, or_false]
        constructor
        · rintro (a | a)
          · exact .inl (.inl a)
          · by_cases hx : x < q.2
            · exact .inl (.inr ⟨a.1, hx⟩)
            · exact .inr ⟨by omega, a.2⟩
        · rintro ((a | a) | a)
          · exact .inl a
          · exact .inr ⟨a.1, by omega⟩
          · exact .inr ⟨by omega, a.2⟩
    · rw [if_neg hb]
      refine ⟨SCan.snoc.2 ⟨h, he, fun r hr => ?_⟩, ?_, fun x => ?_⟩
      · rcases List.mem_append.1 hr with hr' | hr'
        · have := h3 r hr'; show r.2 < last; omega
        · simp at hr'; subst hr'; show r.2 < last; omega
      · intro r hr
        rcases List.mem_append.1 hr with hr | hr
        · have := hl r hr; omega
        · simp at hr; subst hr; simp
      · rw [smem_append (t := [(last, e)])]
        simp only [smem_cons, smem_nil, or_false]

/-! ### The ends of spans, and how many are open -/
abbrev En := Int × Int × Int
def evs (i : Int) : List Sp → List En
  | [] => []
  | p :: s => (p.1, i, 1) :: (p.2, i, -1) :: evs i s
def cnt (i x : Int) : List En → Int
  | [] => 0
  | e :: r => (if e.2.1 = i ∧ e.1 ≤ x then e.2.2 else 0) + cnt i x r
theorem cnt_append (i x : Int) : ∀ (A B : List En), cnt i x (A ++ B) = cnt i x A + cnt i x B
  | [], B => by simp [cnt]
  | e :: A, B => by simp only [List.cons_append, cnt, cnt_append i x A B]; omega
theorem cnt_perm (i x : Int) {A B : List En} (h : A.Perm B) : cnt i x A = cnt i x B := by
  induction h with
  | nil => rfl
  | cons e _ ih => simp only [cnt, ih]
  | swap a b l => simp only [cnt]; omega
  | trans _ _ h1 h2 => exact h1.trans h2
theorem cnt_far (i x : Int) : ∀ (A : List En), (∀ e ∈ A, x < e.1) → cnt i x A = 0
  | [], _ => rfl
  | e :: A, h => by
    have h1 := h e (by simp)
    simp only [cnt, cnt_far i x A (fun e he => h e (by simp [he]))]
    rw [if_neg (by omega)]; rfl
theorem cnt_near (i x y : Int) (hxy : y ≤ x) : ∀ (A : List En), (∀ e ∈ A, e.1 ≤ y) → cnt i x A = cnt i y A
  | [], _ => rfl
  | e :: A, h => by
    have h1 := h e (by simp)
    simp only [cnt, cnt_near i x y hxy A (fun e he => h e (by simp [he]))]
    by_cases hi : e.2.1 = i
    · rw [if_pos ⟨hi, by omega⟩, if_pos ⟨hi, h1⟩]
    · rw [if_neg (fun g => hi g.1), if_neg (fun g => hi g.1)]
theorem cnt_evs_other {i j : Int} (hij : i ≠ j) (x : Int) : ∀ (s : List Sp), cnt j x (evs i s) = 0
  | [] => rfl
  | p :: s => by simp [evs, cnt, hij, cnt_evs_other hij x s]
theorem cnt_evs (i x : Int) : ∀ (s : List Sp), (∀ p ∈ s, p.1 < p.2) → 0 ≤ cnt i x (evs i s) ∧ (0 < cnt i x (evs i s) ↔ smem s x)
  | [], _ => by simp [evs, cnt, smem_nil]
  | p :: s, h => by
    have hp := h p (by simp)
    obtain ⟨h1, h2⟩ := cnt_evs i x s (fun q hq => h q (by simp [hq]))
    simp only [evs, cnt, true_and, smem_cons, ← h2]
    by_cases a : p.1 ≤ x <;> by_cases b : p.2 ≤ x <;> simp [a, b] <;> omega
theorem cnt_evs_end (i x : Int) : ∀ (s : List Sp), (∀ e ∈ evs i s, e.1 ≤ x) → cnt i x (evs i s) = 0
  | [], _ => rfl
  | p :: s, h => by
    have h1 : p.1 ≤ x := h (p.1, i, 1) (by simp [evs])
    have h2 : p.2 ≤ x := h (p.2, i, -1) (by simp [evs])
    have h3 := cnt_evs_end i x s (fun e he => h e (by simp [evs, he]))
    simp [evs, cnt, h1, h2, h3]

/-- The state of the sweep. -/
structure JS where
  o0 : Int
  o1 : Int
  out : List Sp
  last : Int
  inn : Bool
def js0 : JS := ⟨0, 0, [], 0, false⟩
def jclose (st : JS) (e : Int) : List Sp := if st.inn = true ∧ st.last ≠ e then sext st.out st.last e else st.out
def jstep (h : Bool → Bool → Bool) (st : JS) (e : En) : JS :=
  let o0 := if e.2.1 = 0 then st.o0 + e.2.2 else st.o0
  let o1 := if e.2.1 = 1 then st.o1 + e.2.2 else st.o1
  ⟨o0, o1, jclose st e.1, e.1, h (decide (0 < o0)) (decide (0 < o1))⟩
def jfold (h : Bool → Bool → Bool) (E : List En) : JS := E.foldl (jstep h) js0

def jH (h : Bool → Bool → Bool) (E : List En) (x : Int) : Bool := h (decide (0 < cnt 0 x E)) (decide (0 < cnt 1 x E))
structure JInv (h : Bool → Bool → Bool) (E P : List En) (st : JS) : Prop where
  can : SCan st.out
  ends : ∀ q ∈ st.out, q.2 ≤ st.last
  near : ∀ e ∈ P, e.1 ≤ st.last
  c0 : st.o0 = cnt 0 st.last P
  c1 : st.o1 = cnt 1 st.last P
  inn : st.inn = h (decide (0 < st.o0)) (decide (0 < st.o1))
  mem : ∀ x, smem st.out x ↔ x < st.last ∧ jH h E x = true

theorem jinv_step {h : Bool → Bool → Bool} {E P R : List En} {e : En} {st : JS} (hE : E = P ++ (e :: R)) (hs : E.Pairwise (fun a b => a.1 ≤ b.1)) (hle : st.last ≤ e.1) (hI : JInv h E P st) : JInv h E (P ++ [e]) (jstep h st e) := by
  have hR : ∀ r ∈ e :: R, e.1 ≤ r.1 := by
    rw [hE, List.pairwise_append] at hs
    intro r hr
    rcases List.mem_cons.1 hr with rfl | hr
    · omega
    · exact (List.pairwise_cons.1 hs.2.1).1 r hr
  have hmid : ∀ x, st.last ≤ x → x < e.1 → jH h E x = st.inn := by
    intro x h1 h2
    have k : ∀ i, cnt i x E = cnt i st.last P := fun i => by
      rw [hE, cnt_append, cnt_far i x (e :: R) (fun r hr => by have := hR r hr; omega), cnt_near i x st.last h1 P hI.near]; omega
    unfold jH
    rw [k, k, hI.inn, hI.c0, hI.c1]
  have hnear : ∀ r ∈ P ++ [e], r.1 ≤ e.1 := by
    intro r hr
    rcases List.mem_append.1 hr with hr | hr
    · have := hI.near r hr; omega
    · simp at hr; subst hr; omega
  have hc : ∀ i, cnt i e.1 (P ++ [e]) = cnt i st.last P + (if e.2.1 = i then e.2.2 else 0) := by
    intro i
    rw [cnt_append, cnt_near i e.1 st.last hle P hI.near]
    simp [cnt]
  have hcl : SCan (jclose st e.1) ∧ (∀ q ∈ jclose st e.1, q.2 ≤ e.1) ∧ ∀ x, smem (jclose st e.1) x ↔ x < e.1 ∧ jH h E x = true := by
    unfold jclose
    by_cases hb : st.inn = true ∧ st.last ≠ e.1
    · rw [if_pos hb]
      obtain ⟨a1, a2, a3⟩ := sext_ok hI.can hI.ends (show st.last < e.1 by omega)
      refine ⟨a1, a2, fun x => ?_⟩
      rw [a3, hI.mem]
      constructor
      · rintro (⟨b1, b2⟩ | ⟨b1, b2⟩)
        · exact ⟨by omega, b2⟩
        · exact ⟨b2, by rw [hmid x b1 b2]; exact hb.1⟩
      · rintro ⟨b1, b2⟩
        by_cases b3 : x < st.last
        · exact .inl ⟨b3, b2⟩
        · exact .inr ⟨by omega, b1⟩
    · rw [if_neg hb]
      refine ⟨hI.can, fun q hq => by have := hI.ends q hq; omega, fun x => ?_⟩
      rw [hI.mem]
      constructor
      · rintro ⟨b1, b2⟩
        exact ⟨by omega, b2⟩
      · rintro ⟨b1, b2⟩
        refine ⟨?_, b2⟩
        rcases Int.lt_or_le x st.last with b3 | b3
        · exact b3
        · exfalso
          rw [hmid x b3 b1] at b2
          exact hb ⟨b2, by omega⟩
  refine ⟨hcl.1, hcl.2.1, hnear, ?_, ?_, rfl, hcl.2.2⟩
  · show (if e.2.1 = 0 then st.o0 + e.2.2 else st.o0) = cnt 0 e.1 (P ++ [e])
    rw [hc, hI.c0]; split <;> omega
  · show (if e.2.1 = 1 then st.o1 + e.2.2 else st.o1) = cnt 1 e.1 (P ++ [e])
    rw [hc, hI.c1]; split <;> omega

theorem jinv_first {h : Bool → Bool → Bool} (h0 : h false false = false) {E R : List En} {e : En} (hE : E = e :: R) (hs : E.Pairwise (fun a b => a.1 ≤ b.1)) : JInv h E [e] (jstep h js0 e) := by
  have hR : ∀ r ∈ E, e.1 ≤ r.1 := by
    rw [hE] at hs ⊢
    intro r hr
    rcases List.mem_cons.1 hr with rfl | hr
    · omega
    · exact (List.pairwise_cons.1 hs).1 r hr
  refine ⟨?_, ?_, by simp [jstep], ?_, ?_, rfl, fun x => ?_⟩
  · simp [jstep, jclose, js0, SCan.nil]
  · simp [jstep, jclose, js0]
  · simp [jstep, js0, cnt]
  · simp [jstep, js0, cnt]
  · simp only [jstep, jclose, js0, Bool.false_eq_true, false_and, if_false]
    constructor
    · exact fun g => (smem_nil g).elim
    · rintro ⟨b1, b2⟩
      exfalso
      unfold jH at b2
      rw [cnt_far 0 x E (fun r hr => by have := hR r hr; omega), cnt_far 1 x E (fun r hr => by have := hR r hr; omega)] at b2
      simp [h0] at b2
theorem jinv_all {h : Bool → Bool → Bool} {E : List En} (hs : E.Pairwise (fun a b => a.1 ≤ b.1)) : ∀ (R P : List En) (st : JS), E = P ++ R → P ≠ [] → JInv h E P st → (∃ e, P.getLast? = some e ∧ st.last = e.1) → JInv h E E (R.foldl (jstep h) st)
  | [], P, st, hE, _, hI, _ => by rw [List.append_nil] at hE; subst hE; exact hI
  | e :: R, P, st, hE, hP, hI, hl => by
    have hle : st.last ≤ e.1 := by
      obtain ⟨q, hq, hq'⟩ := hl
      obtain ⟨o, rfl⟩ := List.getLast?_eq_some_iff.1 hq
      rw [hE, List.pairwise_append] at hs
      rw [hq']
      exact hs.2.2 q (by simp) e (by simp)
    exact jinv_all hs R (P ++ [e]) (jstep h st e) (by rw [hE]; simp) (by simp) (jinv_step hE hs hle hI) ⟨e, by simp, rfl⟩

/-- **The sweep over the ends of two lists of spans, in order, gives the canonical list of the integers for which the decision holds.** -/
theorem jfold_ok {h : Bool → Bool → Bool} (h0 : h false false = false) {a b : List Sp} (ha : ∀ p ∈ a, p.1 < p.2) (hb : ∀ p ∈ b, p.1 < p.2) {E : List En} (hp : E.Perm (evs 0 a ++ evs 1 b)) (hs : E.Pairwise (fun a b => a.1 ≤ b.1)) :
    SCan (jfold h E).out ∧ ∀ x, smem (jfold h E).out x ↔ h (decide (smem a x)) (decide (smem b x)) = true := by
  have hH : ∀ x, jH h E x = h (decide (smem a x)) (decide (smem b x)) := by
    intro x
    unfold jH
    have e0 : cnt 0 x E = cnt 0 x (evs 0 a) := by rw [cnt_perm 0 x hp, cnt_append, cnt_evs_other (by omega) x b]; omega
    have e1 : cnt 1 x E = cnt 1 x (evs 1 b) := by rw [cnt_perm 1 x hp, cnt_append, cnt_evs_other (by omega) x a]; omega
    rw [e0, e1]
    congr 1
    · exact decide_eq_decide.2 (cnt_evs 0 x a ha).2
    · exact decide_eq_decide.2 (cnt_evs 1 x b hb).2
  cases hE : E with
  | nil =>
    refine ⟨SCan.nil, fun x => ?_⟩
    rw [← hH, hE]
    constructor
    · exact fun g => (smem_nil g).elim
    · intro g
      simp [jH, cnt, h0] at g
  | cons e R =>
    have hI := jinv_all hs R [e] (jstep h js0 e) (by rw [hE]; rfl) (by simp) (jinv_first h0 hE hs) ⟨e, by simp, rfl⟩
    have hI' : JInv h E E (jfold h E) := by
      have : jfold h E = R.foldl (jstep h) (jstep h js0 e) := by rw [hE]; rfl
      rw [this]; exact hI
    rw [← hE]
    refine ⟨hI'.can, fun x => ?_⟩
    rw [hI'.mem, hH]
    constructor
    · exact fun g => g.2
    · intro g
      refine ⟨?_, g⟩
      rcases Int.lt_or_le x (jfold h E).last with hx | hx
      · exact hx
      · exfalso
        rw [← hH] at g
        unfold jH at g
        have z : ∀ e ∈ evs 0 a ++ evs 1 b, e.1 ≤ x := fun e he => by have := hI'.near e (hp.mem_iff.2 he); omega
        rw [cnt_perm 0 x hp, cnt_perm 1 x hp, cnt_append, cnt_append, cnt_evs_other (i := 1) (j := 0) (by omega) x b, cnt_evs_other (i := 0) (j := 1) (by omega) x a,
          cnt_evs_end 0 x a (fun e he => z e (by simp [he])), cnt_evs_end 1 x b (fun e he => z e (by simp [he]))] at g
        simp [h0] at g
end Go.Proofs.YtdolpeljengpaaaGreat

/- Plain law: regions of the plane as canonical lists of rectangles; a canonical list is known by its points; the sweep over cuts. No Go in sight. -/
namespace Go.Proofs.YtdolpeljengpaaaGreat
set_option linter.unusedVariables false
set_option linter.unusedSimpArgs false

structure R4 where
  x0 : Int
  y0 : Int
  x1 : Int
  y1 : Int
deriving DecidableEq
def rin (r : R4) (x y : Int) : Prop := r.x0 ≤ x ∧ x < r.x1 ∧ r.y0 ≤ y ∧ y < r.y1
instance (r : R4) (x y : Int) : Decidable (rin r x y) := by unfold rin; infer_instance
def pmem (l : List R4) (x y : Int) : Prop := ∃ r ∈ l, rin r x y
instance (l : List R4) (x y : Int) : Decidable (pmem l x y) := by unfold pmem; infer_instance
theorem pmem_nil {x y : Int} : ¬ pmem [] x y := by simp [pmem]
theorem pmem_cons {r : R4} {l : List R4} {x y : Int} : pmem (r :: l) x y ↔ rin r x y ∨ pmem l x y := by simp [pmem]
theorem pmem_append {l m : List R4} {x y : Int} : pmem (l ++ m) x y ↔ pmem l x y ∨ pmem m x y := by
  simp only [pmem, List.mem_append]
  constructor
  · rintro ⟨p, hp | hp, h⟩
    · exact .inl ⟨p, hp, h⟩
    · exact .inr ⟨p, hp, h⟩
  · rintro (⟨p, hp, h⟩ | ⟨p, hp, h⟩)
    · exact ⟨p, .inl hp, h⟩
    · exact ⟨p, .inr hp, h⟩

/-- A slab: from f to t, with a cross-section. -/
structure Slab where
  f : Int
  t : Int
  s : List Sp
def Slab.has (a : Slab) (x y : Int) : Prop := a.f ≤ x ∧ x < a.t ∧ smem a.s y
def inS (S : List Slab) (x y : Int) : Prop := ∃ a ∈ S, a.has x y
def flat1 (a : Slab) : List R4 := a.s.map fun p => ⟨a.f, p.1, a.t, p.2⟩
def flat (S : List Slab) : List R4 := S.flatMap flat1
theorem pmem_flat1 {a : Slab} {x y : Int} : pmem (flat1 a) x y ↔ a.has x y := by
  unfold pmem flat1 Slab.has smem rin
  constructor
  · rintro ⟨r, hr, h1, h2, h3, h4⟩
    obtain ⟨p, hp, rfl⟩ := List.mem_map.1 hr
    exact ⟨h1, h2, p, hp, h3, h4⟩
  · rintro ⟨h1, h2, p, hp, h3, h4⟩
    exact ⟨_, List.mem_map.2 ⟨p, hp, rfl⟩, h1, h2, h3, h4⟩
theorem pmem_flat {S : List Slab} {x y : Int} : pmem (flat S) x y ↔ inS S x y := by
  induction S with
  | nil => simp [flat, pmem, inS]
  | cons a S ih =>
    have : flat (a :: S) = flat1 a ++ flat S := by simp [flat]
    rw [this, pmem_append, ih, pmem_flat1]
    simp [inS]

def okS (a : Slab) : Prop := a.f < a.t ∧ a.s ≠ [] ∧ SCan a.s
def Rl (a b : Slab) : Prop := a.t ≤ b.f ∧ (a.t = b.f → a.s ≠ b.s)
def SOK : List Slab → Prop
  | [] => True
  | [a] => okS a
  | a :: b :: r => okS a ∧ Rl a b ∧ SOK (b :: r)
theorem SOK.head {a : Slab} : ∀ {S : List Slab}, SOK (a :: S) → okS a
  | [], h => h
  | _ :: _, h => h.1
theorem SOK.tail {a : Slab} : ∀ {S : List Slab}, SOK (a :: S) → SOK S
  | [], _ => trivial
  | _ :: _, h => h.2.2
theorem SOK.after : ∀ {S : List Slab} {a : Slab}, SOK (a :: S) → ∀ b ∈ S, a.t ≤ b.f
  | c :: S, a, h, b, hb => by
    have h1 := h.2.1.1
    rcases List.mem_cons.1 hb with rfl | hb
    · exact h1
    · have h2 := SOK.after h.2.2 b hb
      have h3 := h.2.2.head.1
      omega
theorem SOK.all : ∀ {S : List Slab}, SOK S → ∀ a ∈ S, okS a
  | b :: S, h, a, ha => by
    rcases List.mem_cons.1 ha with rfl | ha
    · exact h.head
    · exact SOK.all h.tail a ha
theorem SOK.snoc {b : Slab} : ∀ {S : List Slab}, SOK (S ++ [b]) ↔ SOK S ∧ okS b ∧ ∀ a, S.getLast? = some a → Rl a b
  | [] => by simp [SOK]
  | [a] => by
    show SOK [a, b] ↔ _
    simp only [SOK, List.getLast?_singleton, Option.some.injEq]
    constructor
    · rintro ⟨h1, h2, h3⟩
      exact ⟨h1, h3, fun c hc => hc ▸ h2⟩
    · rintro ⟨h1, h2, h3⟩
      exact ⟨h1, h3 a rfl, h2⟩
  | a :: c :: S => by
    have ih := @SOK.snoc b (c :: S)
    show (okS a ∧ Rl a c ∧ SOK ((c :: S) ++ [b])) ↔ _
    rw [ih]
    simp only [SOK, List.getLast?_cons_cons]
    constructor
    · rintro ⟨h1, h2, h3, h4, h5⟩
      exact ⟨⟨h1, h2, h3⟩, h4, h5⟩
    · rintro ⟨⟨h1, h2, h3⟩, h4, h5⟩
      exact ⟨h1, h2, h3, h4, h5⟩

/-- The cross-section at x. -/
def cr : List Slab → Int → List Sp
  | [], _ => []
  | a :: S, x => if a.f ≤ x ∧ x < a.t then a.s else cr S x
theorem cr_far : ∀ {S : List Slab} {x : Int}, (∀ a ∈ S, x < a.f ∨ a.t ≤ x) → cr S x = []
  | [], _, _ => rfl
  | a :: S, x, h => by
    have := h a (by simp)
    simp only [cr]
    rw [if_neg (by omega)]
    exact cr_far fun b hb => h b (by simp [hb])
theorem cr_can : ∀ {S : List Slab} (x : Int), SOK S → SCan (cr S x)
  | [], _, _ => SCan.nil
  | a :: S, x, h => by
    simp only [cr]
    split
    · exact h.head.2.2
    · exact cr_can x h.tail
theorem inS_cr : ∀ {S : List Slab} {x y : Int}, SOK S → (inS S x y ↔ smem (cr S x) y)
  | [], x, y, _ => by simp [inS, cr, smem]
  | a :: S, x, y, h => by
    have ih := inS_cr (x := x) (y := y) h.tail
    have e : inS (a :: S) x y ↔ a.has x y ∨ inS S x y := by simp [inS]
    rw [e, ih]
    simp only [cr]
    by_cases hx : a.f ≤ x ∧ x < a.t
    · rw [if_pos hx, cr_far (S := S) (fun b hb => .inl (by have := h.after b hb; omega))]
      simp only [smem_nil, or_false]
      exact ⟨fun g => g.2.2, fun g => ⟨hx.1, hx.2, g⟩⟩
    · rw [if_neg hx]
      constructor
      · rintro (g | g)
        · exact (hx ⟨g.1, g.2.1⟩).elim
        · exact g
      · exact .inr
theorem cr_head {a : Slab} {S : List Slab} (h : SOK (a :: S)) {x : Int} (h1 : a.f ≤ x) (h2 : x < a.t) : cr (a :: S) x = a.s := by simp [cr, h1, h2]
theorem cr_before {a : Slab} {S : List Slab} (h : SOK (a :: S)) {x : Int} (h1 : x < a.f) : cr (a :: S) x = [] := by
  refine cr_far fun b hb => .inl ?_
  rcases List.mem_cons.1 hb with rfl | hb
  · exact h1
  · have := h.after b hb; have := h.head.1; omega
theorem cr_end {a : Slab} {S : List Slab} (h : SOK (a :: S)) : cr (a :: S) a.t ≠ a.s := by
  intro e
  simp only [cr] at e
  rw [if_neg (by omega)] at e
  cases S with
  | nil => exact h.head.2.1 e.symm
  | cons c S =>
    have hr := h.2.1
    by_cases hc : a.t = c.f
    · rw [cr_head h.2.2 (by omega) (by have := h.2.2.head.1; omega)] at e
      exact hr.2 hc e.symm
    · rw [cr_before h.2.2 (by have := hr.1; omega)] at e
      exact h.head.2.1 e.symm
theorem cr_ext : ∀ {S T : List Slab}, SOK S → SOK T → (∀ x, cr S x = cr T x) → S = T
  | [], [], _, _, _ => rfl
  | [], b :: T, _, ht, h => by
    have := h b.f
    rw [cr_head ht (by omega) ht.head.1] at this
    exact (ht.head.2.1 this.symm).elim
  | a :: S, [], hs, _, h => by
    have := h a.f
    rw [cr_head hs (by omega) hs.head.1] at this
    exact (hs.head.2.1 this).elim
  | a :: S, b :: T, hs, ht, h => by
    have hsa := hs.head
    have htb := ht.head
    have e1 : a.f = b.f := by
      rcases Int.lt_trichotomy a.f b.f with g | g | g
      · have := h a.f
        rw [cr_head hs (by omega) hsa.1, cr_before ht g] at this
        exact (hsa.2.1 this).elim
      · exact g
      · have := h b.f
        rw [cr_head ht (by omega) htb.1, cr_before hs g] at this
        exact (htb.2.1 this.symm).elim
    have e2 : a.s = b.s := by
      have := h a.f
      rw [cr_head hs (by omega) hsa.1, cr_head ht (by omega) (by have := htb.1; omega)] at this
      exact this
    have e3 : a.t = b.t := by
      rcases Int.lt_trichotomy a.t b.t with g | g | g
      · have := h a.t
        rw [cr_head ht (by have := hsa.1; omega) g] at this
        exact (cr_end hs (by rw [this, e2])).elim
      · exact g
      · have := h b.t
        rw [cr_head hs (by have := htb.1; omega) g] at this
        exact (cr_end ht (by rw [← this, e2])).elim
    have e : a = b := by
      cases a; cases b
      simp only at e1 e2 e3
      subst e1; subst e2; subst e3
      rfl
    subst e
    have : S = T := cr_ext hs.tail ht.tail fun x => by
      by_cases hx : x < a.t
      · rw [cr_far (S := S) (fun b hb => .inl (by have := hs.after b hb; omega)), cr_far (S := T) (fun b hb => .inl (by have := ht.after b hb; omega))]
      · have := h x
        simp only [cr] at this
        rwa [if_neg (by omega), if_neg (by omega)] at this
    rw [this]

/-- Canonical lists of rectangles. -/
def RCan (l : List R4) : Prop := ∃ S, SOK S ∧ l = flat S
theorem RCan.nil : RCan [] := ⟨[], trivial, rfl⟩
/-- **A canonical list of rectangles is known by its points.** -/
theorem RCan.ext {l m : List R4} (hl : RCan l) (hm : RCan m) (h : ∀ x y, pmem l x y ↔ pmem m x y) : l = m := by
  obtain ⟨S, hS, rfl⟩ := hl
  obtain ⟨T, hT, rfl⟩ := hm
  have : S = T := cr_ext hS hT fun x => SCan.ext (cr_can x hS) (cr_can x hT) fun y => by
    rw [← inS_cr hS, ← inS_cr hT, ← pmem_flat, ← pmem_flat]
    exact h x y
  rw [this]

/-! ### Slabs from the least x on, joined where they fit -/
def addS (S : List Slab) (f t : Int) (s : List Sp) : List Slab :=
  if s = [] then S else
  match S.getLast? with
  | some a => if a.t = f ∧ a.s = s then S.dropLast ++ [⟨a.f, t, s⟩] else S ++ [⟨f, t, s⟩]
  | none => [⟨f, t, s⟩]
theorem inS_append {S T : List Slab} {x y : Int} : inS (S ++ T) x y ↔ inS S x y ∨ inS T x y := by
  simp only [inS, List.mem_append]
  constructor
  · rintro ⟨p, hp | hp, h⟩
    · exact .inl ⟨p, hp, h⟩
    · exact .inr ⟨p, hp, h⟩
  · rintro (⟨p, hp, h⟩ | ⟨p, hp, h⟩)
    · exact ⟨p, .inl hp, h⟩
    · exact ⟨p, .inr hp, h⟩
theorem inS_one {a : Slab} {x y : Int} : inS [a] x y ↔ a.has x y := by simp [inS]
theorem addS_ok {S : List Slab} {f t : Int} {s : List Sp} (h : SOK S) (hf : ∀ a ∈ S, a.t ≤ f) (hft : f < t) (hs : SCan s) :
    SOK (addS S f t s) ∧ (∀ a ∈ addS S f t s, a.t ≤ t) ∧ ∀ x y, inS (addS S f t s) x y ↔ inS S x y ∨ (f ≤ x ∧ x < t ∧ smem s y) := by
  unfold addS
  by_cases h0 : s = []
  · rw [if_pos h0]
    subst h0
    refine ⟨h, fun a ha => by have := hf a ha; omega, fun x y => ?_⟩
    simp [smem_nil]
  rw [if_neg h0]
  cases hg : S.getLast? with
  | none =>
    have : S = [] := List.getLast?_eq_none_iff.1 hg
    subst this
    refine ⟨⟨hft, h0, hs⟩, by simp, fun x y => ?_⟩
    simp only [inS_one, Slab.has]
    simp [inS]
  | some a =>
    obtain ⟨o, rfl⟩ := List.getLast?_eq_some_iff.1 hg
    obtain ⟨h1, h2, h3⟩ := SOK.snoc.1 h
    have ha := hf a (by simp)
    simp only [List.dropLast_concat]
    by_cases hb : a.t = f ∧ a.s = s
    · rw [if_pos hb]
      obtain ⟨hb1, rfl⟩ := hb
      refine ⟨SOK.snoc.2 ⟨h1, ⟨by have := h2.1; show a.f < t; omega, h2.2.1, h2.2.2⟩, fun c hc => h3 c hc⟩, ?_, fun x y => ?_⟩
      · intro b hb
        rcases List.mem_append.1 hb with hb | hb
        · have := hf b (by simp [hb]); omega
        · simp at hb; subst hb; simp
      · rw [inS_append, inS_append, inS_one, inS_one]
        simp only [Slab.has]
        constructor
        · rintro (g | g)
          · exact .inl (.inl g)
          · by_cases hx : x < a.t
            · exact .inl (.inr ⟨g.1, hx, g.2.2⟩)
            · exact .inr ⟨by omega, g.2.1, g.2.2⟩
        · rintro ((g | g) | g)
          · exact .inl g
          · exact .inr ⟨g.1, by omega, g.2.2⟩
          · exact .inr ⟨by have := h2.1; omega, g.2.1, g.2.2⟩
    · rw [if_neg hb]
      refine ⟨SOK.snoc.2 ⟨h, ⟨hft, h0, hs⟩, fun c hc => ?_⟩, ?_, fun x y => ?_⟩
      · rw [List.getLast?_concat] at hc
        simp only [Option.some.injEq] at hc
        subst hc
        exact ⟨ha, fun e1 e2 => hb ⟨e1, e2⟩⟩
      · intro b hb
        rcases List.mem_append.1 hb with hb | hb
        · have := hf b hb; omega
        · simp at hb; subst hb; simp
      · rw [inS_append (S := o ++ [a]), inS_one (a := ⟨f, t, s⟩)]
        rfl

/-- The sweep over cuts, g telling the cross-section from a cut on. -/
def sweep (g : Int → List Sp) : List Slab → List Int → List Slab
  | acc, c :: d :: r => sweep g (addS acc c d (g c)) (d :: r)
  | acc, _ => acc
theorem sweep_from {g : Int → List Sp} {H : Int → Int → Prop} {cs : List Int} (hs : cs.Pairwise (· < ·)) (hg : ∀ c ∈ cs, SCan (g c))
    (hH : ∀ c d x y, c ∈ cs → d ∈ cs → c < d → (∀ e ∈ cs, e ≤ c ∨ d ≤ e) → c ≤ x → x < d → (H x y ↔ smem (g c) y)) (hhi : ∀ x y, (∀ c ∈ cs, c ≤ x) → ¬ H x y) :
    ∀ (r : List Int) (A : List Int) (c : Int) (acc : List Slab), cs = A ++ c :: r → SOK acc → (∀ a ∈ acc, a.t ≤ c) → (∀ x y, inS acc x y ↔ x < c ∧ H x y) →
      SOK (sweep g acc (c :: r)) ∧ ∀ x y, inS (sweep g acc (c :: r)) x y ↔ H x y
  | [], A, c, acc, hcs, h1, h2, h3 => by
    refine ⟨h1, fun x y => ?_⟩
    show inS acc x y ↔ _
    rw [h3]
    constructor
    · exact fun q => q.2
    · intro q
      refine ⟨?_, q⟩
      rcases Int.lt_or_le x c with hx | hx
      · exact hx
      · exfalso
        refine hhi x y (fun e he => ?_) q
        rw [hcs] at he hs
        rcases List.mem_append.1 he with he | he
        · have := (List.pairwise_append.1 hs).2.2 e he c (by simp); omega
        · simp at he; omega
  | d :: r, A, c, acc, hcs, h1, h2, h3 => by
    have hc : c ∈ cs := by rw [hcs]; simp
    have hd : d ∈ cs := by rw [hcs]; simp
    have hs' := hs
    rw [hcs, List.pairwise_append] at hs'
    have hcd : c < d := (List.pairwise_cons.1 hs'.2.1).1 d (by simp)
    have hgap : ∀ e ∈ cs, e ≤ c ∨ d ≤ e := by
      intro e he
      rw [hcs] at he
      rcases List.mem_append.1 he with he | he
      · have := hs'.2.2 e he c (by simp); omega
      · rcases List.mem_cons.1 he with rfl | he
        · omega
        · rcases List.mem_cons.1 he with rfl | he
          · omega
          · have := (List.pairwise_cons.1 (List.pairwise_cons.1 hs'.2.1).2).1 e he; omega
    obtain ⟨a1, a2, a3⟩ := addS_ok h1 h2 hcd (hg c hc)
    refine sweep_from hs hg hH hhi r (A ++ [c]) d _ (by rw [hcs]; simp) a1 a2 fun x y => ?_
    rw [a3, h3]
    constructor
    · rintro (⟨q1, q2⟩ | ⟨q1, q2, q3⟩)
      · exact ⟨by omega, q2⟩
      · exact ⟨q2, (hH c d x y hc hd hcd hgap q1 q2).2 q3⟩
    · rintro ⟨q1, q2⟩
      by_cases hx : x < c
      · exact .inl ⟨hx, q2⟩
      · exact .inr ⟨by omega, q1, (hH c d x y hc hd hcd hgap (by omega) q1).1 q2⟩
theorem sweep_ok {g : Int → List Sp} {H : Int → Int → Prop} {cs : List Int} (hs : cs.Pairwise (· < ·)) (hg : ∀ c ∈ cs, SCan (g c))
    (hH : ∀ c d x y, c ∈ cs → d ∈ cs → c < d → (∀ e ∈ cs, e ≤ c ∨ d ≤ e) → c ≤ x → x < d → (H x y ↔ smem (g c) y)) (hhi : ∀ x y, (∀ c ∈ cs, c ≤ x) → ¬ H x y) (hlo : ∀ x y, (∀ c ∈ cs, x < c) → ¬ H x y) :
    RCan (flat (sweep g [] cs)) ∧ ∀ x y, pmem (flat (sweep g [] cs)) x y ↔ H x y := by
  cases cs with
  | nil =>
    refine ⟨⟨[], trivial, rfl⟩, fun x y => ?_⟩
    have := hhi x y (by simp)
    simp [sweep, flat, pmem, this]
  | cons c r =>
    obtain ⟨h1, h2⟩ := sweep_from hs hg hH hhi r [] c [] rfl trivial (by simp) (fun x y => by
      constructor
      · rintro ⟨a, ha, _⟩
        simp at ha
      · rintro ⟨q1, q2⟩
        exfalso
        refine hlo x y (fun e he => ?_) q2
        rcases List.mem_cons.1 he with rfl | he
        · exact q1
        · have := (List.pairwise_cons.1 hs).1 e he; omega)
    exact ⟨⟨_, h1, rfl⟩, fun x y => by rw [pmem_flat]; exact h2 x y⟩

/-! ### Two lists of rectangles, joined by a decision -/
def crossL (l : List R4) (c : Int) : List Sp := (l.filter fun r => decide (r.x0 ≤ c) && decide (c < r.x1)).map fun r => (r.y0, r.y1)
theorem smem_crossL {l : List R4} {x y : Int} : smem (crossL l x) y ↔ pmem l x y := by
  unfold smem crossL pmem rin
  constructor
  · rintro ⟨p, hp, h1, h2⟩
    obtain ⟨r, hr, rfl⟩ := List.mem_map.1 hp
    obtain ⟨hr1, hr2⟩ := List.mem_filter.1 hr
    simp at hr2
    exact ⟨r, hr1, hr2.1, hr2.2, h1, h2⟩
  · rintro ⟨r, hr, h1, h2, h3, h4⟩
    exact ⟨(r.y0, r.y1), List.mem_map.2 ⟨r, List.mem_filter.2 ⟨hr, by simp [h1, h2]⟩, rfl⟩, h3, h4⟩
def wf4 (r : R4) : Prop := r.x0 < r.x1 ∧ r.y0 < r.y1
theorem crossL_wf {l : List R4} (h : ∀ r ∈ l, wf4 r) (c : Int) : ∀ p ∈ crossL l c, p.1 < p.2 := by
  intro p hp
  obtain ⟨r, hr, rfl⟩ := List.mem_map.1 hp
  exact (h r (List.mem_filter.1 hr).1).2
/-- xs of the rectangles, as the cuts are gathered. -/
def cutsL (l : List R4) : List Int := l.flatMap fun r => [r.x0, r.x1]
theorem mem_cutsL {l : List R4} {r : R4} (h : r ∈ l) : r.x0 ∈ cutsL l ∧ r.x1 ∈ cutsL l := by
  unfold cutsL
  exact ⟨List.mem_flatMap.2 ⟨r, h, by simp⟩, List.mem_flatMap.2 ⟨r, h, by simp⟩⟩
theorem crossL_same {l : List R4} {cs : List Int} (hcs : ∀ c ∈ cutsL l, c ∈ cs) {c d x : Int} (hgap : ∀ e ∈ cs, e ≤ c ∨ d ≤ e) (h1 : c ≤ x) (h2 : x < d) : crossL l x = crossL l c := by
  unfold crossL
  congr 1
  refine List.filter_congr fun r hr => ?_
  obtain ⟨m0, m1⟩ := mem_cutsL hr
  have g0 := hgap _ (hcs _ m0)
  have g1 := hgap _ (hcs _ m1)
  rw [Bool.eq_iff_iff]
  simp only [Bool.and_eq_true, decide_eq_true_eq]
  omega
theorem crossL_hi {l : List R4} {cs : List Int} (hcs : ∀ c ∈ cutsL l, c ∈ cs) {x y : Int} (h : ∀ c ∈ cs, c ≤ x) : ¬ pmem l x y := by
  rintro ⟨r, hr, h1, h2, _⟩
  have := h _ (hcs _ (mem_cutsL hr).2); omega
theorem crossL_lo {l : List R4} {cs : List Int} (hcs : ∀ c ∈ cutsL l, c ∈ cs) {x y : Int} (h : ∀ c ∈ cs, x < c) : ¬ pmem l x y := by
  rintro ⟨r, hr, h1, h2, _⟩
  have := h _ (hcs _ (mem_cutsL hr).1); omega

/-- **Whatever strictly increasing cuts hold all xs, and whatever canonical cross-sections have the points of the joined set: the sweep's list is canonical and has them.** -/
theorem sweep_join {h : Bool → Bool → Bool} (h0 : h false false = false) {a b : List R4} {cs : List Int} {g : Int → List Sp} (hs : cs.Pairwise (· < ·))
    (ha : ∀ c ∈ cutsL a, c ∈ cs) (hb : ∀ c ∈ cutsL b, c ∈ cs) (hg : ∀ c ∈ cs, SCan (g c) ∧ ∀ y, smem (g c) y ↔ h (decide (smem (crossL a c) y)) (decide (smem (crossL b c) y)) = true) :
    RCan (flat (sweep g [] cs)) ∧ ∀ x y, pmem (flat (sweep g [] cs)) x y ↔ h (decide (pmem a x y)) (decide (pmem b x y)) = true := by
  refine sweep_ok (H := fun x y => h (decide (pmem a x y)) (decide (pmem b x y)) = true) hs (fun c hc => (hg c hc).1) ?_ ?_ ?_
  · intro c d x y hc hd hcd hgap h1 h2
    rw [(hg c hc).2 y, ← crossL_same ha hgap h1 h2, ← crossL_same hb hgap h1 h2]
    have e1 : decide (pmem a x y) = decide (smem (crossL a x) y) := decide_eq_decide.2 smem_crossL.symm
    have e2 : decide (pmem b x y) = decide (smem (crossL b x) y) := decide_eq_decide.2 smem_crossL.symm
    rw [e1, e2]
  · intro x y hx
    rw [decide_eq_false (crossL_hi ha hx), decide_eq_false (crossL_hi hb hx), h0]
    exact Bool.false_ne_true
  · intro x y hx
    rw [decide_eq_false (crossL_lo ha hx), decide_eq_false (crossL_lo hb hx), h0]
    exact Bool.false_ne_true

/-! ### The joined list as a function -/
def ins (e : En) : List En → List En
  | [] => [e]
  | a :: l => if e.1 ≤ a.1 then e :: a :: l else a :: ins e l
def isort : List En → List En
  | [] => []
  | e :: l => ins e (isort l)
theorem ins_perm (e : En) : ∀ (l : List En), (ins e l).Perm (e :: l)
  | [] => .refl _
  | a :: l => by
    simp only [ins]
    split
    · exact .refl _
    · exact ((ins_perm e l).cons a).trans (.swap e a l)
theorem isort_perm : ∀ (l : List En), (isort l).Perm l
  | [] => .refl _
  | e :: l => (ins_perm e _).trans ((isort_perm l).cons e)
theorem ins_sorted (e : En) : ∀ (l : List En), l.Pairwise (fun a b => a.1 ≤ b.1) → (ins e l).Pairwise (fun a b => a.1 ≤ b.1)
  | [], _ => by simp [ins]
  | a :: l, h => by
    obtain ⟨h1, h2⟩ := List.pairwise_cons.1 h
    simp only [ins]
    split
    · rename_i he
      refine List.pairwise_cons.2 ⟨fun b hb => ?_, h⟩
      rcases List.mem_cons.1 hb with rfl | hb
      · exact he
      · have := h1 b hb; omega
    · rename_i he
      refine List.pairwise_cons.2 ⟨fun b hb => ?_, ins_sorted e l h2⟩
      rcases List.mem_cons.1 ((ins_perm e l).mem_iff.1 hb) with rfl | hb
      · omega
      · exact h1 b hb
theorem isort_sorted : ∀ (l : List En), (isort l).Pairwise (fun a b => a.1 ≤ b.1)
  | [] => by simp [isort]
  | e :: l => ins_sorted e _ (isort_sorted l)
/-- The canonical list of the integers for which the decision about two lists of spans holds. -/
def sjoin (h : Bool → Bool → Bool) (a b : List Sp) : List Sp := (jfold h (isort (evs 0 a ++ evs 1 b))).out
theorem sjoin_ok {h : Bool → Bool → Bool} (h0 : h false false = false) {a b : List Sp} (ha : ∀ p ∈ a, p.1 < p.2) (hb : ∀ p ∈ b, p.1 < p.2) :
    SCan (sjoin h a b) ∧ ∀ x, smem (sjoin h a b) x ↔ h (decide (smem a x)) (decide (smem b x)) = true :=
  jfold_ok h0 ha hb (isort_perm _) (isort_sorted _)
theorem sjoin_eq {h : Bool → Bool → Bool} (h0 : h false false = false) {a b s : List Sp} (ha : ∀ p ∈ a, p.1 < p.2) (hb : ∀ p ∈ b, p.1 < p.2) (hs : SCan s) (hm : ∀ x, smem s x ↔ h (decide (smem a x)) (decide (smem b x)) = true) : s = sjoin h a b :=
  hs.ext (sjoin_ok h0 ha hb).1 fun x => by rw [hm, (sjoin_ok h0 ha hb).2]

def insI (c : Int) : List Int → List Int
  | [] => [c]
  | a :: l => if c < a then c :: a :: l else if c = a then a :: l else a :: insI c l
def isortI : List Int → List Int
  | [] => []
  | e :: l => insI e (isortI l)
theorem mem_insI (c x : Int) : ∀ (l : List Int), x ∈ insI c l ↔ x = c ∨ x ∈ l
  | [] => by simp [insI]
  | a :: l => by
    simp only [insI]
    split
    · simp
    · split
      · rename_i h; subst h; simp
      · simp only [List.mem_cons, mem_insI c x l]
        constructor
        · rintro (h | h | h)
          · exact .inr (.inl h)
          · exact .inl h
          · exact .inr (.inr h)
        · rintro (h | h | h)
          · exact .inr (.inl h)
          · exact .inl h
          · exact .inr (.inr h)
theorem mem_isortI (x : Int) : ∀ (l : List Int), x ∈ isortI l ↔ x ∈ l
  | [] => .rfl
  | e :: l => by simp only [isortI, mem_insI, mem_isortI x l, List.mem_cons]
theorem insI_sorted (c : Int) : ∀ (l : List Int), l.Pairwise (· < ·) → (insI c l).Pairwise (· < ·)
  | [], _ => by simp [insI]
  | a :: l, h => by
    obtain ⟨h1, h2⟩ := List.pairwise_cons.1 h
    simp only [insI]
    split
    · rename_i he
      refine List.pairwise_cons.2 ⟨fun b hb => ?_, h⟩
      rcases List.mem_cons.1 hb with rfl | hb
      · exact he
      · have := h1 b hb; omega
    · split
      · exact h
      · refine List.pairwise_cons.2 ⟨fun b hb => ?_, insI_sorted c l h2⟩
        rcases (mem_insI c b l).1 hb with rfl | hb
        · omega
        · exact h1 b hb
theorem isortI_sorted : ∀ (l : List Int), (isortI l).Pairwise (· < ·)
  | [] => by simp [isortI]
  | e :: l => insI_sorted e _ (isortI_sorted l)

/-- Two lists of rectangles joined by a decision, in canonical form. -/
def rjoin (h : Bool → Bool → Bool) (a b : List R4) : List R4 := flat (sweep (fun c => sjoin h (crossL a c) (crossL b c)) [] (isortI (cutsL a ++ cutsL b)))
theorem rjoin_ok {h : Bool → Bool → Bool} (h0 : h false false = false) {a b : List R4} (ha : ∀ r ∈ a, wf4 r) (hb : ∀ r ∈ b, wf4 r) :
    RCan (rjoin h a b) ∧ ∀ x y, pmem (rjoin h a b) x y ↔ h (decide (pmem a x y)) (decide (pmem b x y)) = true :=
  sweep_join h0 (isortI_sorted _) (fun c hc => (mem_isortI c _).2 (by simp [hc])) (fun c hc => (mem_isortI c _).2 (by simp [hc]))
    fun c _ => sjoin_ok h0 (crossL_wf ha c) (crossL_wf hb c)
theorem rjoin_eq {h : Bool → Bool → Bool} (h0 : h false false = false) {a b s : List R4} (ha : ∀ r ∈ a, wf4 r) (hb : ∀ r ∈ b, wf4 r) (hs : RCan s) (hm : ∀ x y, pmem s x y ↔ h (decide (pmem a x y)) (decide (pmem b x y)) = true) : s = rjoin h a b :=
  hs.ext (rjoin_ok h0 ha hb).1 fun x y => by rw [hm, (rjoin_ok h0 ha hb).2]
end Go.Proofs.YtdolpeljengpaaaGreat

/- The walks of region's small functions. -/
namespace Go.Proofs.YtdolpeljengpaaaGreat
open Go.RowKit
set_option linter.unusedVariables false
set_option linter.unusedSimpArgs false

def encR (r : R4) : List Value := [.int .i64 r.x0, .int .i64 r.y0, .int .i64 r.x1, .int .i64 r.y1]
def encS (p : Sp) : List Value := [.int .i64 p.1, .int .i64 p.2]
def encE (e : En) : List Value := [.int .i64 e.1, .int .i64 e.2.1, .int .i64 e.2.2]
def fineP (x : Int) : Prop := -1000000 ≤ x ∧ x ≤ 1000000
def valid4 (r : R4) : Prop := r.x0 < r.x1 ∧ r.y0 < r.y1 ∧ fineP r.x0 ∧ fineP r.x1 ∧ fineP r.y0 ∧ fineP r.y1
instance (r : R4) : Decidable (valid4 r) := by unfold valid4 fineP; infer_instance
def validS (p : Sp) : Prop := p.1 < p.2 ∧ -1000000 ≤ p.1 ∧ p.2 ≤ 1000000
instance (p : Sp) : Decidable (validS p) := by unfold validS; infer_instance

set_option maxHeartbeats 1000000 in
theorem valid_any (r : R4) (w : World) :
    Calls Tryz.prog 92 #[.agg (encR r).toArray] w fun e w' => e = .returned (.bool (decide (valid4 r))) ∧ Below w.heap.size w w' := by
  obtain ⟨a, b, c, d⟩ := r
  show Calls Tryz.prog 92 #[.agg #[.int .i64 a, .int .i64 b, .int .i64 c, .int .i64 d]] w _
  go_enter Tryz.func92, Tryz.ntmps92
  go_wp2
  all_goals
    go_ret
    refine ⟨ret_eq (bool_eq ?_), (Below.refl _ _).alloc (Nat.le_refl _) _⟩
    first
      | exact (decide_eq_false (by simp only [valid4, fineP]; omega)).symm
      | exact (decide_eq_true (by simp only [valid4, fineP]; omega)).symm
      | exact decide_eq_decide.2 (by simp only [valid4, fineP]; omega)

set_option maxHeartbeats 1000000 in
theorem validS_any (p : Sp) (w : World) :
    Calls Tryz.prog 183 #[.agg (encS p).toArray] w fun e w' => e = .returned (.bool (decide (validS p))) ∧ Below w.heap.size w w' := by
  obtain ⟨a, b⟩ := p
  show Calls Tryz.prog 183 #[.agg #[.int .i64 a, .int .i64 b]] w _
  go_enter Tryz.func183, Tryz.ntmps183
  go_wp2
  all_goals
    go_ret
    refine ⟨ret_eq (bool_eq ?_), (Below.refl _ _).alloc (Nat.le_refl _) _⟩
    first
      | exact (decide_eq_false (by simp only [validS]; omega)).symm
      | exact (decide_eq_true (by simp only [validS]; omega)).symm
      | exact decide_eq_decide.2 (by simp only [validS]; omega)
end Go.Proofs.YtdolpeljengpaaaGreat

/- A map from ints to slices of spans that the call itself has made: what lies in it, look-up, store, and the range over it. -/
namespace Go.Proofs.YtdolpeljengpaaaGreat
open Go.RowKit Go.Maps Go.WideElems
open Go.ChangeMaps (setBlock heap_setBlock_same heap_setBlock_other)
set_option linter.unusedVariables false
set_option linter.unusedSimpArgs false

theorem lawIS : Keyed Tryz.prog 3 := int_keyed Tryz.underlying3
def okK (k : Int) : Prop := -9223372036854775808 ≤ k ∧ k ≤ 9223372036854775807
theorem keyI {k : Int} (h : okK k) : keyOf Tryz.prog 3 (.int .i64 k) = some (.int .i64 k) := keyOf_int_mk Tryz.underlying3 (WalkArith.wf_i64 (by unfold okK at h; omega))
/-- A slice's words, whatever lies behind it. -/
def slE : Value → DataW Unit
  | .slice none n c => .agg [.lit (.int .i64 n), .lit (.int .i64 c)]
  | .slice (some ⟨g, o, none⟩) n c => .agg [.lit (.int .i64 g), .lit (.int .i64 o), .lit (.int .i64 n), .lit (.int .i64 c)]
  | _ => .nil
def slD : Value → Option (DataW Unit × List MemPlace)
  | .slice none n c => some (slE (.slice none n c), [])
  | .slice (some ⟨g, o, none⟩) n c => some (slE (.slice (some ⟨g, o, none⟩) n c), [])
  | _ => none
theorem slD_inj {u v : Value} {d : DataW Unit} {p q : List MemPlace} (h1 : slD u = some (d, p)) (h2 : slD v = some (d, q)) : u = v := by
  unfold slD at h1 h2
  split at h1 <;> split at h2 <;> simp only [Option.some.injEq, Prod.mk.injEq, reduceCtorEq] at h1 h2 <;> obtain ⟨e1, _⟩ := h1 <;> obtain ⟨e2, _⟩ := h2 <;> rw [← e1] at e2 <;> simp only [slE, DataW.agg.injEq, List.cons.injEq, DataW.lit.injEq, Lit.int.injEq, true_and, and_true, reduceCtorEq, and_false, Int.natCast_inj] at e2
  · obtain ⟨rfl, rfl⟩ := e2; rfl
  · obtain ⟨rfl, rfl, rfl, rfl⟩ := e2; rfl
theorem slD_own {w : World} {B : Nat} {e : TypeId} {s : Nat} {v : Value} {n : Nat} {xs : List Value} (h : w.ownsRow B e s v n xs) : slD v = some (slE v, []) := by
  rcases h.2 with ⟨rfl, _⟩ | ⟨g, cap, cur, rfl, _⟩ <;> rfl
theorem slD_inv {v : Value} {y : DataW Unit × List MemPlace} (h : slD v = some y) : y = (slE v, []) := by
  unfold slD at h
  split at h <;> simp only [Option.some.injEq, reduceCtorEq] at h <;> exact h.symm
abbrev ownsMS (b n : Nat) (D : DataW Unit) (w : World) : Prop := w.ownsMap Tryz.prog 3 slD b n D
theorem zeroM (w : World) : (zeroValue 182).run Tryz.prog w = .ok (.slice none 0 0) w := by kernel_rfl
def gvI (K : List Int) (vals : Int → Value) (k : Int) : Value := if k ∈ K then vals k else .slice none 0 0
def addI (K : List Int) (k : Int) : List Int := if k ∈ K then K else K ++ [k]
theorem mem_addI {K : List Int} {k k' : Int} : k' ∈ addI K k ↔ k' = k ∨ k' ∈ K := by
  unfold addI
  split
  · rename_i hm
    constructor
    · exact .inr
    · rintro (rfl | h1)
      · exact hm
      · exact h1
  · rw [List.mem_append, List.mem_singleton]
    exact Or.comm
/-- What a map's datum says of keys and values. -/
structure MD (K : List Int) (vals : Int → Value) (D : DataW Unit) : Prop where
  size : Maps.size D = K.length
  at' : ∀ k ∈ K, ∀ z, D.atKey (.int .i64 k) z = slE (vals k)
  has : ∀ l, Maps.has D l = true ↔ ∃ k ∈ K, l = .int .i64 k
theorem MD.has_iff {K : List Int} {vals : Int → Value} {D : DataW Unit} (h : MD K vals D) {k : Int} : Maps.has D (.int .i64 k) = true ↔ k ∈ K := by
  rw [h.has]
  constructor
  · rintro ⟨k', hk', e⟩
    injection e with _ e
    rw [e]; exact hk'
  · intro hm; exact ⟨k, hm, rfl⟩
theorem MD.put {K : List Int} {vals : Int → Value} {D : DataW Unit} (h : MD K vals D) (hm : IsMap D) (ht : Tidy D) {k : Int} (hk : okK k) (v : Value) : MD (addI K k) (fun k' => if k' = k then v else vals k') (D.put (.int .i64 k) (slE v)) := by
  refine ⟨?_, fun k' hk' z => ?_, fun l => ?_⟩
  · rw [size_put ht]
    unfold addI
    by_cases hm : k ∈ K
    · rw [if_pos (h.has_iff.2 hm), if_pos hm, h.size]
    · rw [if_neg (fun e => hm (h.has_iff.1 e)), if_neg hm, h.size]; simp
  · by_cases e : k' = k
    · subst e
      simp only [if_true]
      rw [atKey_put_same hm (lawIS.key (keyI hk))]
    · simp only [if_neg e]
      rw [atKey_put_other (fun e2 => e (by injection e2))]
      rcases mem_addI.1 hk' with h1 | h1
      · exact absurd h1 e
      · exact h.at' k' h1 z
  · by_cases e : l = .int .i64 k
    · subst e
      rw [has_put_same hm (lawIS.key (keyI hk))]
      exact ⟨fun _ => ⟨k, mem_addI.2 (.inl rfl), rfl⟩, fun _ => rfl⟩
    · rw [has_put_other e, h.has]
      constructor
      · rintro ⟨k', h1, h2⟩; exact ⟨k', mem_addI.2 (.inr h1), h2⟩
      · rintro ⟨k', h1, h2⟩
        rcases mem_addI.1 h1 with h3 | h3
        · subst h3; exact absurd h2 e
        · exact ⟨k', h3, h2⟩
/-- The rows behind a map's values. -/
structure MV (B : Nat) (K : List Int) (p : Int → List Sp) (vals : Int → Value) (w : World) : Prop where
  vs : ∀ k ∈ K, w.ownsRow B 188 2 (vals k) (p k).length ((p k).flatMap encS)
  apart : ∀ a ∈ K, ∀ b ∈ K, a ≠ b → (vals a).ownBlock = none ∨ (vals a).ownBlock ≠ (vals b).ownBlock
  rng : ∀ k ∈ K, okK k
  nd : K.Nodup
/-- Block bM maps each key of K to a slice that owns the spans p. -/
structure Ms (B bM : Nat) (K : List Int) (p : Int → List Sp) (vals : Int → Value) (w : World) : Prop where
  map : ∃ D, ownsMS bM K.length D w ∧ MD K vals D
  mv : MV B K p vals w
/-- The same, while a range over the map is under way. -/
structure Mr (B bM r : Nat) (K : List Int) (p : Int → List Sp) (vals : Int → Value) (left : Lit → Bool) (cnt : Nat) (w : World) : Prop where
  map : ∃ D, w.ranges Tryz.prog 3 slD bM r K.length D left cnt ∧ MD K vals D
  mv : MV B K p vals w
theorem Mr.ms {B bM r : Nat} {K : List Int} {p : Int → List Sp} {vals : Int → Value} {left : Lit → Bool} {cnt : Nat} {w : World} (h : Mr B bM r K p vals left cnt w) : Ms B bM K p vals w := by
  obtain ⟨D, d1, d2⟩ := h.map
  exact ⟨⟨D, d1.owns, d2⟩, h.mv⟩
theorem Ms.made (w : World) (B : Nat) (p : Int → List Sp) (vals : Int → Value) : Ms B w.heap.size [] p vals (w.alloc (.map #[] 0)) :=
  ⟨⟨.map [], World.ownsMap_made w _ _ _, rfl, fun k h => (List.not_mem_nil h).elim, fun l => by rw [has_eq]; simp⟩, fun k h => (List.not_mem_nil h).elim, fun a h => (List.not_mem_nil h).elim, fun k h => (List.not_mem_nil h).elim, by simp⟩
theorem MV.grown {B : Nat} {K : List Int} {p : Int → List Sp} {vals : Int → Value} {w w' : World} (h : MV B K p vals w) {row : Option Nat} (hg : w.grownBy w' row) (h2 : ∀ k ∈ K, (vals k).ownBlock = none ∨ (vals k).ownBlock ≠ row) : MV B K p vals w' :=
  ⟨fun k hk => (h.vs k hk).kept hg (h2 k hk), h.apart, h.rng, h.nd⟩
theorem Ms.grown {B bM : Nat} {K : List Int} {p : Int → List Sp} {vals : Int → Value} {w w' : World} (h : Ms B bM K p vals w) {row : Option Nat} (hg : w.grownBy w' row) (h1 : some bM ≠ row) (h2 : ∀ k ∈ K, (vals k).ownBlock = none ∨ (vals k).ownBlock ≠ row) : Ms B bM K p vals w' := by
  obtain ⟨D, d1, d2⟩ := h.map
  exact ⟨⟨D, d1.kept hg h1, d2⟩, h.mv.grown hg h2⟩
theorem Mr.grown {B bM r : Nat} {K : List Int} {p : Int → List Sp} {vals : Int → Value} {left : Lit → Bool} {cnt : Nat} {w w' : World} (h : Mr B bM r K p vals left cnt w) {row : Option Nat} (hg : w.grownBy w' row) (h1 : some bM ≠ row) (h3 : some r ≠ row) (h2 : ∀ k ∈ K, (vals k).ownBlock = none ∨ (vals k).ownBlock ≠ row) : Mr B bM r K p vals left cnt w' := by
  obtain ⟨D, d1, d2⟩ := h.map
  exact ⟨⟨D, d1.kept hg h1 h3, d2⟩, h.mv.grown hg h2⟩
theorem own_none_or {v : Value} : v.ownBlock = none ∨ v.ownBlock ≠ none := by
  by_cases h : v.ownBlock = none
  · exact .inl h
  · exact .inr h
theorem below_grow {w w' : World} (hb : Below w.heap.size w w') : w.grownBy w' none := ⟨hb.os, hb.tape, hb.output, hb.size, fun k hk _ => hb.block k hk⟩
theorem Ms.below {B bM : Nat} {K : List Int} {p : Int → List Sp} {vals : Int → Value} {w w' : World} (h : Ms B bM K p vals w) (hb : Below w.heap.size w w') : Ms B bM K p vals w' := h.grown (below_grow hb) (by simp) fun k hk => own_none_or
theorem Mr.below {B bM r : Nat} {K : List Int} {p : Int → List Sp} {vals : Int → Value} {left : Lit → Bool} {cnt : Nat} {w w' : World} (h : Mr B bM r K p vals left cnt w) (hb : Below w.heap.size w w') : Mr B bM r K p vals left cnt w' := h.grown (below_grow hb) (by simp) (by simp) fun k hk => own_none_or
theorem Ms.bM_lt {B bM : Nat} {K : List Int} {p : Int → List Sp} {vals : Int → Value} {w : World} (h : Ms B bM K p vals w) : bM < w.heap.size := by
  obtain ⟨D, d1, _⟩ := h.map
  exact d1.lt
/-- The map's block holds no cells: no row is it. -/
theorem Ms.not_map {B bM : Nat} {K : List Int} {p : Int → List Sp} {vals : Int → Value} {w : World} (h : Ms B bM K p vals w) {b n : Nat} {e : TypeId} {s : Nat} {v : Value} {xs : List Value} (ho : w.ownsRow b e s v n xs) : some bM ≠ v.ownBlock := by
  obtain ⟨D, ⟨es, clock, hb, _⟩, _⟩ := h.map
  rcases ho.2 with ⟨rfl, _⟩ | ⟨g, cap, cur, rfl, _, hg, _⟩
  · simp [Value.ownBlock]
  · intro e1
    have : g = bM := by simpa [Value.ownBlock] using e1.symm
    subst this
    rw [hg] at hb
    cases hb
/-- What a look-up asks: the map alone. -/
def MsL (bM : Nat) (K : List Int) (vals : Int → Value) (w : World) : Prop := ∃ D, ownsMS bM K.length D w ∧ MD K vals D
theorem MsL.look {bM : Nat} {K : List Int} {vals : Int → Value} {w : World} (h : MsL bM K vals w) (hs : ∀ k ∈ K, slD (vals k) = some (slE (vals k), [])) {k : Int} (hk : okK k) : (Instr.lookup 161 (.map (some bM)) (.int .i64 k) false).run Tryz.prog w = .ok (gvI K vals k) w := by
  obtain ⟨D, d1, d2⟩ := h
  obtain ⟨v, ps, hrun, hR⟩ := d1.lookup lawIS Tryz.underlying161 (zeroM w) (show slD (.slice none 0 0) = some (slE (.slice none 0 0), []) from rfl) (keyI hk)
  suffices e : v = gvI K vals k by rw [← e]; exact hrun
  by_cases hm : k ∈ K
  · rw [d2.at' k hm] at hR
    unfold gvI
    rw [if_pos hm]
    exact slD_inj hR (hs k hm)
  · have hno : Maps.has D (.int .i64 k) = false := by
      rw [← Bool.not_eq_true, d2.has_iff]
      exact hm
    rw [atKey_of_not_has hno] at hR
    unfold gvI
    rw [if_neg hm]
    exact slD_inj hR (q := []) rfl
theorem MV.sl {B : Nat} {K : List Int} {p : Int → List Sp} {vals : Int → Value} {w : World} (h : MV B K p vals w) : ∀ k ∈ K, slD (vals k) = some (slE (vals k), []) := fun k hk => slD_own (h.vs k hk)
theorem Ms.look {B bM : Nat} {K : List Int} {p : Int → List Sp} {vals : Int → Value} {w : World} (h : Ms B bM K p vals w) {k : Int} (hk : okK k) : (Instr.lookup 161 (.map (some bM)) (.int .i64 k) false).run Tryz.prog w = .ok (gvI K vals k) w := MsL.look h.map h.mv.sl hk
theorem MsL.grown {bM : Nat} {K : List Int} {vals : Int → Value} {w w' : World} (h : MsL bM K vals w) {row : Option Nat} (hg : w.grownBy w' row) (h1 : some bM ≠ row) : MsL bM K vals w' := by
  obtain ⟨D, d1, d2⟩ := h
  exact ⟨D, d1.kept hg h1, d2⟩
/-- A value is laid anew: the rows behind it are those that were, and the new one. -/
theorem MV.store {B : Nat} {K : List Int} {p : Int → List Sp} {vals : Int → Value} {w w2 w3 : World} (h : MV B K p vals w) {k : Int} (hk : okK k) {row bM : Option Nat} (hg : w.grownBy w2 row) (hg3 : w2.grownBy w3 bM) (hnb : ∀ k' ∈ K, (vals k').ownBlock = none ∨ (vals k').ownBlock ≠ bM)
    (hrow : ∀ k' ∈ K, k' ≠ k → (vals k').ownBlock = none ∨ (vals k').ownBlock ≠ row) {q : List Sp} {v : Value} (hv : w2.ownsRow B 188 2 v q.length (q.flatMap encS)) (hvb : v.ownBlock = none ∨ v.ownBlock ≠ bM)
    (hloc : v.ownBlock = none ∨ v.ownBlock = (gvI K vals k).ownBlock ∨ ∀ g, v.ownBlock = some g → w.heap.size ≤ g) : MV B (addI K k) (fun k' => if k' = k then q else p k') (fun k' => if k' = k then v else vals k') w3 := by
  have hvo : v.ownBlock = none ∨ ∀ k' ∈ K, k' ≠ k → (vals k').ownBlock = none ∨ (vals k').ownBlock ≠ v.ownBlock := by
    rcases hloc with hl | hl | hl
    · exact .inl hl
    · by_cases hm : k ∈ K
      · right
        intro k' hk' hne
        rw [hl]
        unfold gvI
        rw [if_pos hm]
        exact h.apart k' hk' k hm hne
      · left
        rw [hl]
        unfold gvI
        rw [if_neg hm]
        rfl
    · right
      intro k' hk' hne
      rcases hb : (vals k').ownBlock with _ | g'
      · exact .inl rfl
      · right
        intro e
        have h1 := (h.vs k' hk').lt g' hb
        have h2 := hl g' e.symm
        omega
  refine ⟨fun k' hk' => ?_, fun a ha b hb hne => ?_, fun k' hk' => ?_, ?_⟩
  · by_cases e : k' = k
    · subst e
      simp only [if_true]
      exact hv.kept hg3 hvb
    · rcases mem_addI.1 hk' with h1 | h1
      · exact absurd h1 e
      · simp only [if_neg e]
        exact ((h.vs k' h1).kept hg (hrow k' h1 e)).kept hg3 (hnb k' h1)
  · by_cases ea : a = k
    · subst ea
      rw [if_pos rfl, if_neg (Ne.symm hne)]
      rcases mem_addI.1 hb with h1 | h1
      · exact absurd h1.symm hne
      · rcases hvo with h2 | h2
        · exact .inl h2
        · rcases own_none_or (v := v) with h4 | h4
          · exact .inl h4
          · rcases h2 b h1 (Ne.symm hne) with h3 | h3
            · exact .inr (fun e => h4 (e.trans h3))
            · exact .inr (fun e => h3 e.symm)
    · rw [if_neg ea]
      rcases mem_addI.1 ha with h1 | h1
      · exact absurd h1 ea
      · by_cases eb : b = k
        · subst eb
          rw [if_pos rfl]
          rcases hvo with h2 | h2
          · rcases own_none_or (v := vals a) with h4 | h4
            · exact .inl h4
            · exact .inr (fun e => h4 (e.trans h2))
          · exact h2 a h1 hne
        · rw [if_neg eb]
          rcases mem_addI.1 hb with h2 | h2
          · exact absurd h2 eb
          · exact h.apart a h1 b h2 hne
  · rcases mem_addI.1 hk' with rfl | h1
    · exact hk
    · exact h.rng k' h1
  · unfold addI
    split
    · exact h.nd
    · rename_i hm
      rw [List.nodup_append]
      refine ⟨h.nd, by simp, fun a ha b hb e => ?_⟩
      rw [List.mem_singleton] at hb
      subst hb; subst e
      exact hm ha
theorem Ms.notmap {B bM : Nat} {K : List Int} {p : Int → List Sp} {vals : Int → Value} {w : World} (h : Ms B bM K p vals w) : ∀ k ∈ K, (vals k).ownBlock = none ∨ (vals k).ownBlock ≠ some bM := fun k hk => .inr fun e => h.not_map (h.mv.vs k hk) e.symm
theorem own_not_map {w : World} {bM n : Nat} {D : DataW Unit} (hm : ownsMS bM n D w) {b m : Nat} {e : TypeId} {s : Nat} {v : Value} {xs : List Value} (ho : w.ownsRow b e s v m xs) : v.ownBlock = none ∨ v.ownBlock ≠ some bM := by
  obtain ⟨es, clock, hb, _⟩ := hm
  rcases ho.2 with ⟨rfl, _⟩ | ⟨g, cap, cur, rfl, _, hg, _⟩
  · exact .inl rfl
  · right
    intro e1
    have : g = bM := by simpa [Value.ownBlock] using e1
    subst this
    rw [hg] at hb
    cases hb
/-- 'm[k] = v', v a row that has grown out of what lay at k, or a new one. -/
theorem Ms.store {B bM : Nat} {K : List Int} {p : Int → List Sp} {vals : Int → Value} {w w2 : World} (h : Ms B bM K p vals w) {k : Int} (hk : okK k) (hn : K.length < maxLen) {row : Option Nat} (hg : w.grownBy w2 row) (hrb : some bM ≠ row)
    (hrow : ∀ k' ∈ K, k' ≠ k → (vals k').ownBlock = none ∨ (vals k').ownBlock ≠ row) {q : List Sp} {v : Value} (hv : w2.ownsRow B 188 2 v q.length (q.flatMap encS))
    (hloc : v.ownBlock = none ∨ v.ownBlock = (gvI K vals k).ownBlock ∨ ∀ g, v.ownBlock = some g → w.heap.size ≤ g) :
    ∃ w3, (Instr.mapUpdate 161 (.map (some bM)) (.int .i64 k) v).run Tryz.prog w2 = .ok () w3 ∧ w2.grownBy w3 (some bM) ∧ Ms B bM (addI K k) (fun k' => if k' = k then q else p k') (fun k' => if k' = k then v else vals k') w3 := by
  obtain ⟨D, d1, d2⟩ := h.map
  have d3 := d1.kept hg hrb
  obtain ⟨w3, hrun, o3, g3⟩ := d3.update lawIS Tryz.underlying161 hn (keyI hk) (slD_own hv)
  refine ⟨w3, hrun, g3, ⟨D.put (.int .i64 k) (slE v), ?_, d2.put d1.isMap (d1.tidy lawIS) hk v⟩, h.mv.store hk hg g3 h.notmap hrow hv (own_not_map d3 hv) hloc⟩
  have hsz := (d2.put d1.isMap (d1.tidy lawIS) hk v).size
  obtain ⟨es, clock, hb, F, hs, hD⟩ := o3
  refine ⟨es, clock, hb, F, ?_, hD⟩
  rw [← hsz, hD, Maps.size_eq, length_sorted]
  simp
/-- 'm[k] = v' at a key that is there, while a range over m is under way. -/
theorem Mr.store {B bM r : Nat} {K : List Int} {p : Int → List Sp} {vals : Int → Value} {left : Lit → Bool} {cnt : Nat} {w w2 : World} (h : Mr B bM r K p vals left cnt w) {k : Int} (hm : k ∈ K) (hn : K.length < maxLen) (hb : Below w.heap.size w w2) {q : List Sp} {v : Value} (hv : w2.ownsRow w.heap.size 188 2 v q.length (q.flatMap encS)) (hB : B ≤ w.heap.size) :
    ∃ w3, (Instr.mapUpdate 161 (.map (some bM)) (.int .i64 k) v).run Tryz.prog w2 = .ok () w3 ∧ w2.grownBy w3 (some bM) ∧ w3.heap.size = w2.heap.size ∧ Mr B bM r K (fun k' => if k' = k then q else p k') (fun k' => if k' = k then v else vals k') left cnt w3 := by
  have hk := h.mv.rng k hm
  have hg := below_grow hb
  obtain ⟨D, d1, d2⟩ := h.map
  have d3 := d1.kept hg (by simp) (by simp)
  obtain ⟨w3, hrun, o3, g3, s3⟩ := ranges_store d3 lawIS Tryz.underlying161 hn (keyI hk) ⟨_, d2.at' k hm⟩ (slD_own hv)
  have e : addI K k = K := by unfold addI; rw [if_pos hm]
  have hp := d2.put d1.owns.isMap (d1.owns.tidy lawIS) hk v
  have hmv := h.mv.store (v := v) hk hg g3 h.ms.notmap (fun k' hk' _ => own_none_or) (own_base hv hB) (own_not_map d3.owns hv) (.inr (.inr fun g hgv => (hv.lt g hgv).1))
  rw [e] at hp hmv
  exact ⟨w3, hrun, g3, s3, ⟨_, o3, hp⟩, hmv⟩
theorem key_left {K : List Int} {vals : Int → Value} {D : DataW Unit} {w : World} {bM r n cnt : Nat} {left : Lit → Bool} (h : w.ranges Tryz.prog 3 slD bM r n D left cnt) (hd : MD K vals D) {x : Int} {kl : Lit} {y : DataW Unit × List MemPlace} (hk : keyOf Tryz.prog 3 (.int .i64 x) = some kl) (hat : ∀ zd, D.atKey kl zd = y.1) : kl = .int .i64 x ∧ x ∈ K := by
  obtain ⟨x', e1, rfl, hw⟩ := Maps.keyOf_int_inv Tryz.underlying3 hk
  injection e1 with _ e1
  subst e1
  refine ⟨rfl, ?_⟩
  rw [← hd.has_iff]
  cases hh : Maps.has D (.int .i64 x)
  · have e1 := hat (.map [])
    have e2 := hat .nil
    rw [atKey_of_not_has hh] at e1 e2
    rw [← e2] at e1
    cases e1
  · rfl
/-- The step of a range over such a map, at the operation. -/
theorem wpList_next_ms {w : World} {ops : Array Oper} {rest : List Oper} {o : Oper} {a : Act} {Q : Exit → Act → World → Prop} (hg : o.guard = none) (it : Operand) (hop : o.op = Op.next it false) {B bM r : Nat} {K : List Int} {p : Int → List Sp} {vals : Int → Value} {left : Lit → Bool} {cnt : Nat}
    (hit : a.eval it = .pointer (some ⟨r, 0, none⟩)) (h : Mr B bM r K p vals left cnt w)
    (hDone : cnt = 0 → (∀ kl, left kl = false) → wpList Tryz.prog ops Q rest (a.put o.dst (.tuple #[.bool false])) w)
    (hMore : ∀ (x : Int) (w' : World) (cnt' : Nat), x ∈ K → left (.int .i64 x) = true → Mr B bM r K p vals (fun z => left z && !z.sameKey (.int .i64 x)) cnt' w' → cnt' < cnt → w.grownBy w' (some r) → w'.heap.size = w.heap.size → (Instr.entry (.pointer (some ⟨r, 0, none⟩))).run Tryz.prog w' = .ok (.tuple #[.int .i64 x, vals x]) w' →
      wpList Tryz.prog ops Q rest (a.put o.dst (.tuple #[.bool true, .int .i64 x, vals x])) w') : wpList Tryz.prog ops Q (o :: rest) a w := by
  obtain ⟨D, d1, d2⟩ := h.map
  refine wpList_next_ranges w hg it hop 3 lawIS slD (Value.int .i64) id (fun key kl hkey => by obtain ⟨x, rfl, _⟩ := Maps.keyOf_int_inv Tryz.underlying3 hkey; exact ⟨x, rfl⟩) (fun v y hv => ⟨v, rfl⟩) bM r K.length D left cnt hit d1 hDone ?_
  intro x c kl y w' cnt' hkey hlk hR hat hrg hlt hgr hsz hen
  obtain ⟨rfl, hx⟩ := key_left d1 d2 hkey hat
  have hy := slD_inv hR
  have hc : c = vals x := by
    refine slD_inj (q := []) (hR.trans (by rw [hy])) (p := []) ?_
    rw [h.mv.sl x hx, ← d2.at' x hx .nil, hat, hy]
  subst hc
  refine hMore x w' cnt' hx hlk ⟨⟨D, hrg, d2⟩, h.mv.grown hgr fun k hk => ?_⟩ hlt hgr hsz hen
  rcases hb : (vals k).ownBlock with _ | g
  · exact .inl rfl
  · right
    intro e
    have e2 : g = r := by simpa using e
    subst e2
    obtain ⟨es, clock, since, seen, c0, _, _, _, _, hr, _⟩ := d1
    rcases (h.mv.vs k hk).2 with ⟨e3, _⟩ | ⟨g', cap, cur, e3, _, hh, _⟩
    · rw [e3] at hb; simp [Value.ownBlock] at hb
    · rw [e3] at hb
      have : g' = g := by simpa [Value.ownBlock] using hb
      subst this
      rw [hh] at hr
      cases hr
/-- 'range m' over such a map, at the operation. -/
theorem wpList_range_ms {w : World} {ops : Array Oper} {rest : List Oper} {o : Oper} {a : Act} {Q : Exit → Act → World → Prop} (hg : o.guard = none) (m : Operand) (hop : o.op = Op.range 161 m) {B bM : Nat} {K : List Int} {p : Int → List Sp} {vals : Int → Value}
    (hm : a.eval m = .map (some bM)) (h : Ms B bM K p vals w)
    (hK : ∀ w' left, Mr B bM w.heap.size K p vals left K.length w' → (∀ x ∈ K, left (.int .i64 x) = true) → w.grownBy w' none → w'.heap.size = w.heap.size + 1 → wpList Tryz.prog ops Q rest (a.put o.dst (.pointer (some ⟨w.heap.size, 0, none⟩))) w') : wpList Tryz.prog ops Q (o :: rest) a w := by
  obtain ⟨D, d1, d2⟩ := h.map
  refine wpList_range_own w hg m _ hop 3 _ lawIS Tryz.underlying161 slD bM K.length D hm d1 fun w' hr hgr hs => ?_
  refine hK w' _ ⟨⟨D, by rw [← d2.size]; rw [d2.size]; exact (d2.size ▸ hr), d2⟩, h.mv.grown hgr fun k hk => own_none_or⟩ (fun x hx => d2.has_iff.2 hx) hgr hs
end Go.Proofs.YtdolpeljengpaaaGreat

/- Plain: networks of segments along the axes: unit lines, nodes, edges; the edges to the left and down are those to the right and up. No Go in sight. -/
namespace Go.Proofs.YtdolpeljengpaaaGreat
set_option linter.unusedVariables false
set_option linter.unusedSimpArgs false

abbrev Pt := Int × Int
structure Sg where
  ax : Int
  ay : Int
  cx : Int
  cy : Int
deriving DecidableEq
def finS (x : Int) : Prop := -1000000 ≤ x ∧ x ≤ 1000000
instance (x : Int) : Decidable (finS x) := by unfold finS; infer_instance
/-- A segment: along an axis, not empty, in range. -/
def okSg (s : Sg) : Prop := (finS s.ax ∧ finS s.ay ∧ finS s.cx ∧ finS s.cy) ∧ ((s.ax = s.cx) ↔ ¬ (s.ay = s.cy))
instance (s : Sg) : Decidable (okSg s) := by unfold okSg; infer_instance
def rowSp (l : List Sg) (y : Int) : List Sp := (l.filter fun s => decide (s.ay = s.cy) && decide (s.ay = y)).map fun s => (min s.ax s.cx, max s.ax s.cx)
def colSp (l : List Sg) (x : Int) : List Sp := (l.filter fun s => !decide (s.ay = s.cy) && decide (s.ax = x)).map fun s => (min s.ay s.cy, max s.ay s.cy)
/-- The unit line to the right of (x, y); the one upwards. -/
def htB (l : List Sg) (x y : Int) : Bool := decide (smem (rowSp l y) x)
def vtB (l : List Sg) (x y : Int) : Bool := decide (smem (colSp l x) y)
def nodeG (h v : Int → Int → Bool) (p : Pt) : Bool := !((h p.1 p.2 == h (p.1 - 1) p.2) && (v p.1 p.2 == v p.1 (p.2 - 1)) && !(h p.1 p.2 && v p.1 p.2))
def ptLt (a b : Pt) : Prop := a.1 < b.1 ∨ a.1 = b.1 ∧ a.2 < b.2
instance (a b : Pt) : Decidable (ptLt a b) := by unfold ptLt; infer_instance
def xsOf (l : List Sg) : List Int := l.flatMap fun s => [s.ax, s.cx]
def ysOf (l : List Sg) : List Int := l.flatMap fun s => [s.ay, s.cy]
def nodesF (l : List Sg) : List Pt := ((isortI (xsOf l)).flatMap fun x => (isortI (ysOf l)).map fun y => (x, y)).filter (nodeG (htB l) (vtB l))
theorem row_mem {l : List Sg} {x y : Int} : htB l x y = true ↔ ∃ s ∈ l, s.ay = s.cy ∧ s.ay = y ∧ min s.ax s.cx ≤ x ∧ x < max s.ax s.cx := by
  unfold htB
  rw [decide_eq_true_eq]
  unfold smem rowSp
  constructor
  · rintro ⟨p, hp, h1, h2⟩
    obtain ⟨s, hs, rfl⟩ := List.mem_map.1 hp
    rw [List.mem_filter] at hs
    simp only [Bool.and_eq_true, decide_eq_true_eq] at hs
    exact ⟨s, hs.1, hs.2.1, hs.2.2, h1, h2⟩
  · rintro ⟨s, hs, h1, h2, h3, h4⟩
    exact ⟨_, List.mem_map.2 ⟨s, List.mem_filter.2 ⟨hs, by simp [h1, h2]; omega⟩, rfl⟩, h3, h4⟩
theorem col_mem {l : List Sg} {x y : Int} : vtB l x y = true ↔ ∃ s ∈ l, ¬ s.ay = s.cy ∧ s.ax = x ∧ min s.ay s.cy ≤ y ∧ y < max s.ay s.cy := by
  unfold vtB
  rw [decide_eq_true_eq]
  unfold smem colSp
  constructor
  · rintro ⟨p, hp, h1, h2⟩
    obtain ⟨s, hs, rfl⟩ := List.mem_map.1 hp
    rw [List.mem_filter] at hs
    simp only [Bool.and_eq_true, Bool.not_eq_true', decide_eq_false_iff_not, decide_eq_true_eq] at hs
    exact ⟨s, hs.1, hs.2.1, hs.2.2, h1, h2⟩
  · rintro ⟨s, hs, h1, h2, h3, h4⟩
    exact ⟨_, List.mem_map.2 ⟨s, List.mem_filter.2 ⟨hs, by simp [h1, h2]⟩, rfl⟩, h3, h4⟩
theorem ptLt_trans {a b c : Pt} (h1 : ptLt a b) (h2 : ptLt b c) : ptLt a c := by unfold ptLt at *; omega
theorem ptLt_irrefl (a : Pt) : ¬ ptLt a a := by unfold ptLt; omega
theorem ptLt_tri (a b : Pt) : ptLt a b ∨ a = b ∨ ptLt b a := by
  obtain ⟨a1, a2⟩ := a
  obtain ⟨b1, b2⟩ := b
  unfold ptLt
  simp only [Prod.mk.injEq]
  omega
/-- Sorted lists with the same entries are one. -/
theorem sorted_ext {α : Type} {R : α → α → Prop} (hi : ∀ a, ¬ R a a) (ht : ∀ a b c, R a b → R b c → R a c) : ∀ {l m : List α}, l.Pairwise R → m.Pairwise R → (∀ x, x ∈ l ↔ x ∈ m) → l = m
  | [], [], _, _, _ => rfl
  | [], b :: m, _, _, h => absurd ((h b).2 (by simp)) (by simp)
  | a :: l, [], _, _, h => absurd ((h a).1 (by simp)) (by simp)
  | a :: l, b :: m, h1, h2, h => by
    obtain ⟨p1, p2⟩ := List.pairwise_cons.1 h1
    obtain ⟨q1, q2⟩ := List.pairwise_cons.1 h2
    have hab : a = b := by
      rcases List.mem_cons.1 ((h a).1 (by simp)) with e | e
      · exact e
      · rcases List.mem_cons.1 ((h b).2 (by simp)) with e2 | e2
        · exact e2.symm
        · exact absurd (ht _ _ _ (q1 a e) (p1 b e2)) (hi b)
    subst hab
    rw [sorted_ext hi ht p2 q2 fun x => ?_]
    have hx := h x
    simp only [List.mem_cons] at hx
    constructor
    · intro hm
      rcases hx.1 (.inr hm) with e | e
      · subst e; exact absurd (p1 x hm) (hi x)
      · exact e
    · intro hm
      rcases hx.2 (.inr hm) with e | e
      · subst e; exact absurd (q1 x hm) (hi x)
      · exact e
theorem node_in {l : List Sg} (hv : ∀ s ∈ l, okSg s) {x y : Int} (h : nodeG (htB l) (vtB l) (x, y) = true) : x ∈ xsOf l ∧ y ∈ ysOf l ∧ ((∃ s ∈ l, (s.ax = x ∧ s.ay = y) ∨ (s.cx = x ∧ s.cy = y)) ∨ ∃ s ∈ l, ∃ t ∈ l, s.ax = x ∧ t.ay = y) := by
  have mx : ∀ s ∈ l, s.ax ∈ xsOf l ∧ s.cx ∈ xsOf l := fun s hs => ⟨List.mem_flatMap.2 ⟨s, hs, by simp⟩, List.mem_flatMap.2 ⟨s, hs, by simp⟩⟩
  have my : ∀ s ∈ l, s.ay ∈ ysOf l ∧ s.cy ∈ ysOf l := fun s hs => ⟨List.mem_flatMap.2 ⟨s, hs, by simp⟩, List.mem_flatMap.2 ⟨s, hs, by simp⟩⟩
  -- the ends of a row's line
  have rowE : ∀ s ∈ l, s.ay = s.cy → s.ay = y → (s.ax = x ∨ s.cx = x) → x ∈ xsOf l ∧ y ∈ ysOf l ∧ ((∃ s ∈ l, (s.ax = x ∧ s.ay = y) ∨ (s.cx = x ∧ s.cy = y)) ∨ ∃ s ∈ l, ∃ t ∈ l, s.ax = x ∧ t.ay = y) := fun s hs e1 e2 e3 => by
    rcases e3 with e3 | e3
    · exact ⟨e3 ▸ (mx s hs).1, e2 ▸ (my s hs).1, .inl ⟨s, hs, .inl ⟨e3, e2⟩⟩⟩
    · exact ⟨e3 ▸ (mx s hs).2, e2 ▸ (my s hs).1, .inl ⟨s, hs, .inr ⟨e3, e1 ▸ e2⟩⟩⟩
  have colE : ∀ s ∈ l, ¬ s.ay = s.cy → s.ax = x → (s.ay = y ∨ s.cy = y) → x ∈ xsOf l ∧ y ∈ ysOf l ∧ ((∃ s ∈ l, (s.ax = x ∧ s.ay = y) ∨ (s.cx = x ∧ s.cy = y)) ∨ ∃ s ∈ l, ∃ t ∈ l, s.ax = x ∧ t.ay = y) := fun s hs e1 e2 e3 => by
    have e4 : s.ax = s.cx := (hv s hs).2.2 e1
    rcases e3 with e3 | e3
    · exact ⟨e2 ▸ (mx s hs).1, e3 ▸ (my s hs).1, .inl ⟨s, hs, .inl ⟨e2, e3⟩⟩⟩
    · exact ⟨e2 ▸ (mx s hs).1, e3 ▸ (my s hs).2, .inl ⟨s, hs, .inr ⟨e4 ▸ e2, e3⟩⟩⟩
  unfold nodeG at h
  simp only at h
  cases a0 : htB l x y <;> cases a2 : htB l (x - 1) y <;> cases a1 : vtB l x y <;> cases a3 : vtB l x (y - 1) <;> rw [a0, a1, a2, a3] at h <;> (first | (exact absurd h (by decide)) | skip)
  all_goals first
    | (obtain ⟨s, hs, b1, b2, b3, b4⟩ := row_mem.1 a0
       have hno : ¬ (min s.ax s.cx ≤ x - 1 ∧ x - 1 < max s.ax s.cx) := fun hh => by
         rw [row_mem.2 ⟨s, hs, b1, b2, hh.1, hh.2⟩] at a2; exact Bool.noConfusion a2
       exact rowE s hs b1 b2 (by omega))
    | (obtain ⟨s, hs, b1, b2, b3, b4⟩ := row_mem.1 a2
       have hno : ¬ (min s.ax s.cx ≤ x ∧ x < max s.ax s.cx) := fun hh => by
         rw [row_mem.2 ⟨s, hs, b1, b2, hh.1, hh.2⟩] at a0; exact Bool.noConfusion a0
       exact rowE s hs b1 b2 (by omega))
    | (obtain ⟨s, hs, b1, b2, b3, b4⟩ := col_mem.1 a1
       have hno : ¬ (min s.ay s.cy ≤ y - 1 ∧ y - 1 < max s.ay s.cy) := fun hh => by
         rw [col_mem.2 ⟨s, hs, b1, b2, hh.1, hh.2⟩] at a3; exact Bool.noConfusion a3
       exact colE s hs b1 b2 (by omega))
    | (obtain ⟨s, hs, b1, b2, b3, b4⟩ := col_mem.1 a3
       have hno : ¬ (min s.ay s.cy ≤ y ∧ y < max s.ay s.cy) := fun hh => by
         rw [col_mem.2 ⟨s, hs, b1, b2, hh.1, hh.2⟩] at a1; exact Bool.noConfusion a1
       exact colE s hs b1 b2 (by omega))
    | (obtain ⟨s, hs, b1, b2, b3, b4⟩ := row_mem.1 a0
       obtain ⟨t, ht, c1, c2, c3, c4⟩ := col_mem.1 a1
       exact ⟨c2 ▸ (mx t ht).1, b2 ▸ (my s hs).1, .inr ⟨t, ht, s, hs, c2, b2⟩⟩)
theorem nodesF_ok {l : List Sg} (hv : ∀ s ∈ l, okSg s) : (nodesF l).Pairwise ptLt ∧ ∀ p, p ∈ nodesF l ↔ nodeG (htB l) (vtB l) p = true := by
  constructor
  · unfold nodesF
    refine List.Pairwise.filter _ ?_
    rw [List.pairwise_flatMap]
    refine ⟨fun x _ => ?_, ?_⟩
    · rw [List.pairwise_map]
      exact (isortI_sorted _).imp fun h => .inr ⟨rfl, h⟩
    · refine (isortI_sorted _).imp fun {a b} h p hp q hq => ?_
      obtain ⟨_, _, rfl⟩ := List.mem_map.1 hp
      obtain ⟨_, _, rfl⟩ := List.mem_map.1 hq
      exact .inl h
  · intro p
    unfold nodesF
    rw [List.mem_filter]
    refine ⟨fun h => h.2, fun h => ⟨?_, h⟩⟩
    obtain ⟨x, y⟩ := p
    obtain ⟨h1, h2, _⟩ := node_in hv h
    exact List.mem_flatMap.2 ⟨x, (mem_isortI _ _).2 h1, List.mem_map.2 ⟨y, (mem_isortI _ _).2 h2, rfl⟩⟩
theorem nodes_ext {l m : List Sg} (hl : ∀ s ∈ l, okSg s) (hm : ∀ s ∈ m, okSg s) (h1 : ∀ x y, htB l x y = htB m x y) (h2 : ∀ x y, vtB l x y = vtB m x y) : nodesF l = nodesF m := by
  obtain ⟨p1, p2⟩ := nodesF_ok hl
  obtain ⟨q1, q2⟩ := nodesF_ok hm
  refine sorted_ext ptLt_irrefl (fun _ _ _ => ptLt_trans) p1 q1 fun p => ?_
  rw [p2, q2, show htB l = htB m from funext fun x => funext fun y => h1 x y, show vtB l = vtB m from funext fun x => funext fun y => h2 x y]
/-- Far away there are no lines. -/
theorem row_far {l : List Sg} (hv : ∀ s ∈ l, okSg s) {x y : Int} (h : x < -1000000 ∨ 1000000 ≤ x) : htB l x y = false := by
  cases e : htB l x y
  · rfl
  · obtain ⟨s, hs, _, _, h3, h4⟩ := row_mem.1 e
    obtain ⟨⟨⟨_, _⟩, ⟨_, _⟩, ⟨_, _⟩, _, _⟩, _⟩ := hv s hs
    omega
theorem col_far {l : List Sg} (hv : ∀ s ∈ l, okSg s) {x y : Int} (h : y < -1000000 ∨ 1000000 ≤ y) : vtB l x y = false := by
  cases e : vtB l x y
  · rfl
  · obtain ⟨s, hs, _, _, h3, h4⟩ := col_mem.1 e
    obtain ⟨⟨⟨_, _⟩, ⟨_, _⟩, ⟨_, _⟩, _, _⟩, _⟩ := hv s hs
    omega
/-- What is no node goes straight on. -/
theorem node_no {h v : Int → Int → Bool} {x y : Int} (hn : nodeG h v (x, y) = false) : h x y = h (x - 1) y ∧ v x y = v x (y - 1) := by
  unfold nodeG at hn
  simp only [Bool.not_eq_false', Bool.and_eq_true, beq_iff_eq] at hn
  exact hn.1
theorem row_on {h v : Int → Int → Bool} {y x0 : Int} : ∀ (n : Nat), (∀ x, x0 < x → x ≤ x0 + n → nodeG h v (x, y) = false) → h (x0 + n) y = h x0 y
  | 0, _ => by rw [show x0 + ((0 : Nat) : Int) = x0 by omega]
  | n + 1, hn => by
    have ih := row_on n fun x a b => hn x a (by omega)
    have := (node_no (hn (x0 + ((n + 1 : Nat) : Int)) (by omega) (by omega))).1
    rw [show x0 + ((n + 1 : Nat) : Int) - 1 = x0 + n by omega] at this
    rw [this, ih]
theorem col_on {h v : Int → Int → Bool} {x y0 : Int} : ∀ (n : Nat), (∀ y, y0 < y → y ≤ y0 + n → nodeG h v (x, y) = false) → v x (y0 + n) = v x y0
  | 0, _ => by rw [show y0 + ((0 : Nat) : Int) = y0 by omega]
  | n + 1, hn => by
    have ih := col_on n fun x a b => hn x a (by omega)
    have := (node_no (hn (y0 + ((n + 1 : Nat) : Int)) (by omega) (by omega))).2
    rw [show y0 + ((n + 1 : Nat) : Int) - 1 = y0 + n by omega] at this
    rw [this, ih]
theorem row_to {h v : Int → Int → Bool} {y x0 x1 : Int} (hle : x0 ≤ x1) (hn : ∀ x, x0 < x → x ≤ x1 → nodeG h v (x, y) = false) : h x1 y = h x0 y := by
  have := row_on (h := h) (v := v) (y := y) (x0 := x0) (x1 - x0).toNat fun x a b => hn x a (by omega)
  rwa [show x0 + ((x1 - x0).toNat : Int) = x1 by omega] at this
theorem col_to {h v : Int → Int → Bool} {x y0 y1 : Int} (hle : y0 ≤ y1) (hn : ∀ y, y0 < y → y ≤ y1 → nodeG h v (x, y) = false) : v x y1 = v x y0 := by
  have := col_on (h := h) (v := v) (x := x) (y0 := y0) (y1 - y0).toNat fun x a b => hn x a (by omega)
  rwa [show y0 + ((y1 - y0).toNat : Int) = y1 by omega] at this
end Go.Proofs.YtdolpeljengpaaaGreat
