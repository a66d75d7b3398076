/- Texts laid together: Rd, Own, SortE, Range, Values, Ends, Close, Join, IdxC, SpanB, MMade. Lemmas for the statements of this seat; no condition. -/
import Derived.Test.YtikojiciilambaaGreatPk1
import Derived.Deep.AppendLies
import Derived.Laws.OwnMore
import Derived.Maps.AppendAt
import Derived.Shelf.SlSortCmp.NoneTotal
import Derived.Test.YtikojiciilambaaGreatShelf
import Derived.RangeFuncNested
import Derived.RangeFuncLeaves
import Derived.OwnWalkIn
import Derived.TacticsInMore
import Derived.LoopNIn
import Derived.LoopIn
import Derived.StillTailTactics
import Derived.OwnWalk
import Derived.Laws.EntriesVeiled
import Derived.StillTactics
import Derived.Deep.LoopGhost
import Derived.Shelf.Abstract

/- A slice that reads as a list of structs (or of integers), nil let in. -/
namespace Go.Proofs.YtikojiciilambaaGreat
open Go.RowKit
set_option linter.unusedVariables false
set_option linter.unusedSimpArgs false
def idxI {α : Type} (p : α → Bool) (l : List α) : Int := if l.any p then ((l.findIdx p : Nat) : Int) else -1
def RdK {α : Type} (enc : α → List Value) (k : Nat) (w : World) (B : Nat) (v : Value) (l : List α) : Prop :=
 ∃ A c, v = .slice A l.length c ∧ (l ≠ [] → ∃ b off, A = some ⟨b, off, none⟩ ∧ b < B ∧ ∀ j x, l[j]? = some x → ∀ i u, (enc x)[i]? = some u → w.cell? ⟨b, off + j * k + i, none⟩ = some u)
section
variable {α : Type} {enc : α → List Value} {k : Nat} {w w' : World} {B B' : Nat} {v : Value} {l : List α}
theorem RdK.keep (h : RdK enc k w B v l) (hk : ∀ b o, b < B → w'.cell? ⟨b, o, none⟩ = w.cell? ⟨b, o, none⟩) : RdK enc k w' B v l := by
 obtain ⟨A, c, hv, h⟩ := h
 refine ⟨A, c, hv, fun hl => ?_⟩
 obtain ⟨b, off, hA, hb, hc⟩ := h hl
 exact ⟨b, off, hA, hb, fun j x hx i u hu => (hk b _ hb).trans (hc j x hx i u hu)⟩
theorem RdK.mono (h : RdK enc k w B v l) (hB : B ≤ B') : RdK enc k w B' v l := by
 obtain ⟨A, c, hv, h⟩ := h
 refine ⟨A, c, hv, fun hl => ?_⟩
 obtain ⟨b, off, hA, hb, hc⟩ := h hl
 exact ⟨b, off, hA, by omega, hc⟩
theorem RdK.below (h : RdK enc k w B v l) (hb : Below B w w') : RdK enc k w' B v l := h.keep fun b o hlt => hb.cell (p := ⟨b, o, none⟩) hlt
theorem RdK.nil (A : Option Addr) (c : Nat) : RdK enc k w B (.slice A 0 c) ([] : List α) := ⟨A, c, rfl, fun h => absurd rfl h⟩
end
end Go.Proofs.YtikojiciilambaaGreat

/- Rows of the call's own (append), read as lists of structs; and what slices.SortFunc leaves of them. -/
namespace Go.Proofs.YtikojiciilambaaGreat
open Go.RowKit Go.Sort
set_option linter.unusedVariables false
set_option linter.unusedSimpArgs false
theorem addr_add (g j : Nat) : (⟨g, 0, none⟩ : Addr).add j = ⟨g, j, none⟩ := by unfold Addr.add; split <;> simp_all
theorem news_new (w : World) (cs : List Value) (t : TypeId) (B : Nat) (hB : w.heap.size = B) : ∀ j u, cs[j]? = some u → (w.alloc (.cells cs.toArray t)).cell? ((⟨B, 0, none⟩ : Addr).add j) = some u := by
 subst hB
 exact fun j u hu => World.news_of_block (heap_alloc_new w _) j u (by simpa using hu)
def isInt : Value → Bool | .int _ _ => true | _ => false
theorem ints_one {l : List Value} (h : l.all isInt = true) : ∀ u ∈ l, u.oneCell' = true := fun u hu => by
 have := List.all_eq_true.1 h u hu
 cases u <;> first | rfl | cases this
theorem flat_get {α : Type} {enc : α → List Value} {k : Nat} (hk : ∀ x, (enc x).length = k) : ∀ (l : List α) (j : Nat) (x : α) (i : Nat) (u : Value), l[j]? = some x → (enc x)[i]? = some u → (l.flatMap enc)[j * k + i]? = some u
 | [], j, x, i, u, h, _ => by simp at h
 | y :: l, 0, x, i, u, h, hu => by
  simp at h; subst h
  have hi : i < (enc y).length := (List.getElem?_eq_some_iff.1 hu).1
  rw [List.flatMap_cons, Nat.zero_mul, Nat.zero_add, List.getElem?_append_left hi, hu]
 | y :: l, j + 1, x, i, u, h, hu => by
  have := flat_get hk l j x i u (by simpa using h) hu
  rw [List.flatMap_cons, List.getElem?_append_right (by rw [hk, Nat.add_mul]; omega), ← this]
  congr 1
  rw [hk, Nat.add_mul]; omega
theorem flat_len {α : Type} {enc : α → List Value} {k : Nat} (hk : ∀ x, (enc x).length = k) (l : List α) : (l.flatMap enc).length = l.length * k := by
 induction l with
 | nil => simp
 | cons y l ih => rw [List.flatMap_cons, List.length_append, ih, hk, List.length_cons, Nat.add_mul]; omega
theorem own_len {α : Type} {enc : α → List Value} {w : World} {base k : Nat} {e : TypeId} {v : Value} {n : Nat} {l : List α} (h : w.ownsRow base e k v n (l.flatMap enc)) (hk : ∀ x, (enc x).length = k) (k0 : 0 < k) : n = l.length := by
 have := h.1
 rw [flat_len hk] at this
 exact (Nat.eq_of_mul_eq_mul_right k0 this).symm
theorem own_rd {α : Type} {enc : α → List Value} {w : World} {base k : Nat} {e : TypeId} {v : Value} {l : List α} (h : w.ownsRow base e k v l.length (l.flatMap enc)) (hk : ∀ x, (enc x).length = k) : RdK enc k w w.heap.size v l := by
 rcases h.2 with ⟨rfl, h0⟩ | ⟨g, cap, cur, rfl, hb, hg, hnc, hcm, hcs, ht⟩
 ·exact ⟨none, 0, by rw [h0], fun hl => absurd (List.eq_nil_of_length_eq_zero h0) hl⟩
 ·refine ⟨some ⟨g, 0, none⟩, cap, rfl, fun hl => ⟨g, 0, rfl, (Array.getElem?_eq_some_iff.1 hg).1, fun j x hj i u hu => ?_⟩⟩
  have := (h.cells (g := g) rfl) _ _ (flat_get hk l j x i u hj hu)
  rw [addr_add] at this
  rwa [Nat.zero_add]
theorem flatK_toList {α : Type} [Inhabited α] {enc : α → List Value} {k : Nat} (hk : ∀ x, (enc x).length = k) (l : List α) : (flatK enc k l.toArray).toList = l.flatMap enc := by
  apply List.ext_getElem?
  intro t
  by_cases ht : t < l.length * k
  · have k0 : 0 < k := by rcases Nat.eq_zero_or_pos k with h | h; · subst h; simp at ht
                          · exact h
    have hj : t / k < l.length := (Nat.div_lt_iff_lt_mul k0).2 ht
    have hi : t % k < k := Nat.mod_lt _ k0
    have e : t = t / k * k + t % k := by rw [Nat.mul_comm]; exact (Nat.div_add_mod t k).symm
    have g := get_flatK enc k l.toArray t (by simpa using ht)
    rw [getElem!_pos _ t (by simpa using ht), getElem!_pos _ (t / k) (by simpa using hj), getElem!_pos _ (t % k) (by rw [hk]; exact hi)] at g
    rw [Array.getElem?_toList, Array.getElem?_eq_getElem (by simpa using ht), g]
    conv => rhs; rw [e]
    rw [flat_get hk l (t / k) (l[t / k]) (t % k) _ (List.getElem?_eq_getElem hj) (List.getElem?_eq_getElem (by rw [hk]; exact hi))]
    simp
  · rw [List.getElem?_eq_none (by simpa using Nat.le_of_not_lt ht), List.getElem?_eq_none (by rw [flat_len hk]; omega)]
theorem own_holds {α : Type} [Inhabited α] {enc : α → List Value} {w : World} {base k : Nat} {e : TypeId} {g n cap : Nat} {l : List α} (hk : ∀ x, (enc x).length = k) (h : w.ownsRow base e k (.slice (some ⟨g, 0, none⟩) n cap) n (l.flatMap enc)) : HoldsK enc k w g 0 l.toArray := by
 intro j hj
 have hj' : j < (l.flatMap enc).length := by rw [flat_len hk]; simpa using hj
 have e1 : (flatK enc k l.toArray)[j]! = (l.flatMap enc)[j] := by
  rw [getElem!_pos _ j hj]
  have := flatK_toList (enc := enc) hk l
  rw [← Array.getElem_toList]
  exact List.getElem_of_eq this (by simpa using hj)
 refine ⟨?_, h.frozenAt _⟩
 have := (h.cells (g := g) rfl) j _ (List.getElem?_eq_getElem hj')
 rw [addr_add] at this
 rw [e1, Nat.zero_add]
 exact this
theorem own_sorted {α : Type} [Inhabited α] {enc : α → List Value} {w : World} {base k : Nat} {e : TypeId} {g cap n : Nat} {l l' : List α} (hk : ∀ x, (enc x).length = k) (os : Array Obj)
  (h : w.ownsRow base e k (.slice (some ⟨g, 0, none⟩) l.length cap) l.length (l.flatMap enc)) (hl : l'.length = l.length) :
  (sortWorldK enc k w g 0 n l'.toArray os).ownsRow base e k (.slice (some ⟨g, 0, none⟩) l'.length cap) l'.length (l'.flatMap enc) ∧ w.grownBy (sortWorldK enc k w g 0 n l'.toArray os) (some g) := by
 rcases h.2 with ⟨e0, _⟩ | ⟨g', cap', cur, e0, hb, hg, hn, hm, hs, ht⟩
 ·cases e0
 ·injection e0 with e1 _ e3
  injection e1 with e1
  injection e1 with e1
  subst e1; subst e3
  have hlt : g < w.heap.size := (Array.getElem?_eq_some_iff.1 hg).1
  have hrow : ∀ b, (sortWorldK enc k w g 0 n l'.toArray os).heap[b]? = if b < w.heap.size then (putRow id w g 0 (flatK enc k l'.toArray)).heap[b]? else os[b - w.heap.size]? := by
   intro b
   show ((putRow id w g 0 (flatK enc k l'.toArray)).heap ++ os)[b]? = _
   rw [Array.getElem?_append]
   simp
  refine ⟨⟨flat_len hk l', .inr ⟨g, cap, putCells id 0 (flatK enc k l'.toArray) cur, rfl, hb, ?_, by omega, hm, by simpa [putCells] using hs, ?_⟩⟩, ⟨rfl, rfl, rfl, ?_, fun b hb' hne => ?_⟩⟩
  ·rw [hrow, if_pos hlt]
   simp [putRow, mapBlock, Array.getElem?_modify, hg, onCells]
  ·rw [← flatK_toList hk l']
   apply List.ext_getElem?
   intro j
   have hle : l'.length * k ≤ cap * k := Nat.mul_le_mul_right k (by omega)
   rw [List.getElem?_take, Array.getElem?_toList, Array.getElem?_toList]
   by_cases hj : j < l'.length * k
   ·have hjc : j < cur.size := by omega
    simp only [if_pos hj, putCells, Array.getElem?_mapIdx, Array.getElem?_eq_getElem hjc, Option.map_some]
    rw [if_pos (by simp; omega), Array.getElem?_eq_getElem (by simpa using hj)]
    simp [getElem!_pos, hj]
   ·rw [if_neg hj, Array.getElem?_eq_none (by simpa using Nat.le_of_not_lt hj)]
  ·show w.heap.size ≤ ((putRow id w g 0 (flatK enc k l'.toArray)).heap ++ os).size
   simp
  ·rw [hrow, if_pos hb']
   have : g ≠ b := fun e => hne (by rw [e])
   simp [putRow, mapBlock, Array.getElem?_modify, this]
theorem own_base {w : World} {base B : Nat} {e : TypeId} {size : Nat} {v : Value} {n : Nat} {xs : List Value} (h : w.ownsRow B e size v n xs) (hb : base ≤ B) : w.ownsRow base e size v n xs := by
 refine ⟨h.1, ?_⟩
 rcases h.2 with hn | ⟨g, cap, cur, hv, hg, r⟩
 ·exact .inl hn
 ·exact .inr ⟨g, cap, cur, hv, by omega, r⟩
theorem own_n {w : World} {B : Nat} {e : TypeId} {size : Nat} {v : Value} {n n' : Nat} {xs : List Value} (h : w.ownsRow B e size v n xs) (hn : n = n') : w.ownsRow B e size v n' xs := hn ▸ h
end Go.Proofs.YtikojiciilambaaGreat

/- slices.SortFunc at span.end, by its closure. -/
namespace Go.Proofs.YtikojiciilambaaGreat
open Go.RowKit Go.Sort
set_option linter.unusedVariables false
set_option linter.unusedSimpArgs false
abbrev BE := { e : En // -1000000 ≤ e.1 ∧ e.1 ≤ 1000000 }
instance : Inhabited BE := ⟨⟨(0, 0, 0), by decide⟩⟩
def encB (e : BE) : List Value := encE e.1
def cfE (x y : BE) : Int := x.1.1 - y.1.1
theorem lift_be : ∀ (E : List En), (∀ e ∈ E, -1000000 ≤ e.1 ∧ e.1 ≤ 1000000) → ∃ L : List BE, L.map (·.1) = E
 | [], _ => ⟨[], rfl⟩
 | e :: E, h => by
  obtain ⟨L, hL⟩ := lift_be E fun x hx => h x (by simp [hx])
  exact ⟨⟨e, h e (by simp)⟩ :: L, by simp [hL]⟩
theorem flat_be (L : List BE) : L.flatMap encB = (L.map (·.1)).flatMap encE := by
 rw [List.flatMap_map]; rfl
theorem swoE : SWO (ltOf cfE) where
 irrefl x := by simp [ltOf, cfE]
 trans x y z h1 h2 := by
  unfold ltOf cfE at *
  have a := of_decide_eq_true h1
  have b := of_decide_eq_true h2
  exact decide_eq_true (by omega)
 ntrans x y z h1 h2 := by
  unfold ltOf cfE at *
  have a := of_decide_eq_false h1
  have b := of_decide_eq_false h2
  exact decide_eq_false (by omega)
set_option maxHeartbeats 1000000 in
theorem cmpE_any (x y : BE) (W : World) : Calls Tryz.prog 213 #[.agg (encB x).toArray, .agg (encB y).toArray] W fun e w' => e = .returned (.int .i64 (cfE x y)) ∧ ∃ q os', w' = grow (W.drewN q) os' := by
 obtain ⟨⟨a, b, c⟩, hx⟩ := x
 obtain ⟨⟨d, e, f⟩, hy⟩ := y
 show Calls Tryz.prog 213 #[.agg #[.int .i64 a, .int .i64 b, .int .i64 c], .agg #[.int .i64 d, .int .i64 e, .int .i64 f]] W fun r w' => r = .returned (.int .i64 (a - d)) ∧ ∃ q os', w' = grow (W.drewN q) os'
 simp only at hx hy
 obtain ⟨x1, x2⟩ := hx
 obtain ⟨y1, y2⟩ := hy
 go_enter Tryz.func213, Tryz.ntmps213
 go_wp2
 go_ret
 exact ⟨rfl, 0, _, by rw [alloc_eq_grow, alloc_eq_grow, grow_grow]; rfl⟩
theorem sortE_any (base : Nat) (v : Value) (E : List En) (hB : ∀ e ∈ E, -1000000 ≤ e.1 ∧ e.1 ≤ 1000000) (w : World) (hown : w.ownsRow base 251 3 v E.length (E.flatMap encE)) (hsz : E.length < 4611686018427387904) :
  Calls Tryz.prog 212 #[v, .func (.func 213) #[] #[]] w fun e w' => e = .returned (.tuple #[]) ∧
   ∃ E' : List En, E'.Perm E ∧ E'.Pairwise (fun a b => a.1 ≤ b.1) ∧ w'.ownsRow base 251 3 v E'.length (E'.flatMap encE) ∧ w.grownBy w' v.ownBlock := by
 by_cases h0 : E = []
 ·subst h0
  obtain ⟨p, cap, hv⟩ : ∃ p cap, v = .slice p 0 cap := by
   rcases hown.2 with ⟨rfl, _⟩ | ⟨g, cap, cur, rfl, _⟩
   ·exact ⟨_, _, rfl⟩
   ·exact ⟨_, _, rfl⟩
  subst hv
  have h := AnyF.slices_SortFunc_none Tryz.sortEnd p cap (.func (.func 213) #[] #[]) w
  change Calls Tryz.prog 212 _ _ _ at h
  refine h.mono ?_
  rintro e w' ⟨rfl, rfl⟩
  exact ⟨rfl, [], .refl _, .nil, hown, ⟨rfl, rfl, rfl, Nat.le_refl _, fun _ _ _ => rfl⟩⟩
 ·obtain ⟨L, hL⟩ := lift_be E hB
  have hlen : L.length = E.length := by rw [← hL]; simp
  have hown0 := hown
  rw [← hL, ← flat_be, List.length_map] at hown
  obtain ⟨g, cap, rfl, hbg, hg⟩ := hown.form (by rw [hlen]; exact List.length_pos_iff.2 h0)
  have hk : ∀ x : BE, (encB x).length = 3 := fun _ => rfl
  have hcon := AnyQ.slices_SortFunc Tryz.sortEnd 3 Tryz.isAgg251 Tryz.sizeOf251 encB hk (fun x v hv => by simp [encB, encE] at hv; rcases hv with rfl | rfl | rfl <;> rfl) cfE swoE 213 #[] g 0 cap L.toArray w
   (enters_of Tryz.func213 (by kernel_rfl) rfl) (fun _ _ _ _ x y => cmpE_any x y _) (own_holds hk hown) hg (by simpa [hlen] using hsz)
  change Calls Tryz.prog 212 _ _ _ at hcon
  rw [List.size_toArray] at hcon
  refine hcon.mono ?_
  rintro e w' ⟨rfl, d', n, os, hp, hs, rfl⟩
  obtain ⟨hp1, _, hp3⟩ := hp
  have hsz' : d'.toList.length = L.length := by simpa using hp1
  have hperm : d'.toList.Perm L := by
   have e1 : (d'.extract 0 L.length).toList = d'.toList := by
    rw [Array.toList_extract, List.extract_eq_take_drop, List.drop_zero, Nat.sub_zero, ← hsz', List.take_length]
   have e2 : (L.toArray.extract 0 L.length).toList = L := by
    simp [List.extract]
   rw [e1, e2] at hp3
   exact hp3
  obtain ⟨o1, o2⟩ := own_sorted (n := n) (l' := d'.toList) hk os hown hsz'
  have eW : d'.toList.toArray = d' := by simp
  rw [eW] at o1 o2
  refine ⟨rfl, d'.toList.map (·.1), ?_, ?_, ?_, o2⟩
  ·rw [← hL]; exact hperm.map _
  ·rw [List.pairwise_map, List.pairwise_iff_getElem]
   intro i j hi hj hij
   have := hs i j (Nat.zero_le _) hij (by rw [← hsz']; exact hj)
   have hi' : i < d'.size := by simpa using hi
   have hj' : j < d'.size := by simpa using hj
   rw [getElem!_pos d' i hi', getElem!_pos d' j hj'] at this
   unfold ltOf cfE at this
   have := of_decide_eq_false this
   rw [Array.getElem_toList, Array.getElem_toList]
   omega
  ·rw [List.length_map, ← flat_be, ← hsz']
   rw [hsz'] at o1 ⊢
   exact o1
end Go.Proofs.YtikojiciilambaaGreat

/- A range over a function, at the wide fence: the iterator has a contract over a list of items, the caller an invariant and one walk of its body. And: a region that draws its order, inside a round. -/
namespace Go.Proofs.YtikojiciilambaaGreat
open Go.RowKit
set_option linter.unusedVariables false
set_option linter.unusedSimpArgs false
theorem below_putObj {B : Nat} {w W : World} (h : Below B w W) {l : Nat} (hl : B ≤ l) (o : Obj) : Below B w (W.putObj l o) :=
 ⟨h.os, h.tape, h.output, by simpa using h.size, fun k hk => (World.putObj_heap_other (by omega)).trans (h.block k hk)⟩
theorem cell_putObj {A : World} {l : Nat} {o o' : Obj} (h : A.heap[l]? = some o) (ho : o.isCells = false) (ho' : o'.isCells = false) (p : Addr) : (A.putObj l o').cell? p = A.cell? p ∧ (A.putObj l o').frozen? p = A.frozen? p := by
 by_cases hp : p.block = l
 ·have h1 : (A.putObj l o').heap[p.block]? = some o' := by rw [hp]; exact World.putObj_heap_same (Array.getElem?_eq_some_iff.1 h).1
  have h2 : A.heap[p.block]? = some o := by rw [hp]; exact h
  constructor
  ·unfold World.cell?
   rw [h1, h2]
   cases o <;> cases o' <;> simp_all [Obj.isCells]
  ·unfold World.frozen?
   rw [h1, h2]
   cases o <;> cases o' <;> simp_all [Obj.isCells]
 ·exact ⟨World.cell?_of_block (World.putObj_heap_other hp), World.frozen?_of_block (World.putObj_heap_other hp)⟩
theorem lt_of_cell {w : World} {b o : Nat} {v : Value} (h : w.cell? ⟨b, o, none⟩ = some v) : b < w.heap.size := by
 obtain ⟨ob, ho, _⟩ := cells_of_cell h
 exact (Array.getElem?_eq_some_iff.1 ho).1
def Iter (P : Program) (gf : Nat) (lb : Array Value) {α : Type} (xs : List α) (Ok : α → Array Value → World → Prop) (Kp : World → World → Prop) (w0 : World) : Prop :=
 ∀ (l : Nat) (J Jx : List α → World → Prop) (W : World), Below w0.heap.size w0 W →
  (∀ pre A B, J pre A → Below A.heap.size A B → J pre B) →
  (∀ pre x args A, J pre A → (∃ post, xs = pre ++ x :: post) → Ok x args A → YieldAt Fence.wide 0 P l args A fun e B => (e = .returned (.bool true) ∧ J (pre ++ [x]) B ∧ Kp A B) ∨ (e = .returned (.bool false) ∧ Jx (pre ++ [x]) B)) →
  J [] W →
  CallsIn Fence.wide 0 P gf (#[.func (.yield l) #[] #[]] ++ lb) W fun e B => (∃ v, e = .returned v) ∧ (J xs B ∨ ∃ pre, Jx pre B)
def roundEnd {α : Type} (B : Nat) (Kp : World → World → Prop) (I Ix : List α → World → Prop) (xs : List α) (A : World) : Exit → Act → World → Prop
 | .normal, _, W => KeepsFrom B A W ∧ Kp A W ∧ I xs W
 | .ret, _, W => KeepsFrom B A W ∧ Ix xs W
 | _, _, _ => False
def roundMid {α : Type} (P : Program) (B l : Nat) (Kp : World → World → Prop) (body : Code) (I Ix : List α → World → Prop) (xs : List α) (A : World) (a1 : Act) (A1 : World) : Prop :=
 KeepsFrom B A A1 ∧ Kp A A1 ∧ ∀ A2, A1.grownBy A2 (some l) → A2.heap.size = A1.heap.size → (∀ p, A2.cell? p = A1.cell? p) → (∀ p, A2.frozen? p = A1.frozen? p) →
  body.wpIn (Fence.wide.inRound l) 0 P (roundEnd B Kp I Ix xs A2) a1 A2
theorem wp_range {P : Program} {α : Type} {g : Operand} {ps : Array Tmp} {assign body : Code} {Q : Exit → Act → World → Prop} {a : Act} {w : World} {gf : Nat} {lb : Array Value}
  (hg : a.eval g = .func (.func gf) #[] lb) (eg : ∀ args w, (callFunc gf args).run P w = .ok (.enter gf args) w)
  {xs : List α} {Ok : α → Array Value → World → Prop} {Kp : World → World → Prop} {w0 : World} (hit : Iter P gf lb xs Ok Kp w0) (hb0 : Below w0.heap.size w0 w)
  (hps : ∀ x args A, Ok x args A → args.size = ps.size)
  (hKt : ∀ {A B C : World}, Kp A B → Kp B C → Kp A C) (hKb : ∀ (A : World) (l : Nat) (o o' : Obj), w.heap.size ≤ l → A.heap[l]? = some o → o.isCells = false → o'.isCells = false → Kp A (A.putObj l o'))
  (I Ix : List α → World → Prop)
  (hI : ∀ pre A B, I pre A → Below A.heap.size A B → I pre B)
  (hIp : ∀ pre A l o o', I pre A → w.heap.size ≤ l → A.heap[l]? = some o → o.isCells = false → o'.isCells = false → I pre (A.putObj l o'))
  (hIxp : ∀ pre A l o o', Ix pre A → w.heap.size ≤ l → A.heap[l]? = some o → o.isCells = false → o'.isCells = false → Ix pre (A.putObj l o'))
  (h0 : I [] w)
  (hround : ∀ l pre x args A, I pre A → (∃ post, xs = pre ++ x :: post) → Ok x args A → w.heap.size < l → (∃ o, A.heap[l]? = some o ∧ o.isCells = false) →
   assign.wpIn (Fence.wide.inRound l) 0 P (Exit.then (roundMid P w.heap.size l Kp body I Ix (pre ++ [x]) A) (fun _ _ _ => False)) { tmps := (ps.zip args).foldl (fun t (p, v) => t.setIfInBounds p v) a.tmps, defers := [] } A)
  (hdone : ∀ D W, w.heap.size ≤ D → I xs W → W.heap[D]? = some (.deferred (some [])) → Q .normal { a with defers := { target := .collected D, args := #[] } :: a.defers } W)
  (hstop : ∀ D pre W, w.heap.size ≤ D → Ix pre W → W.heap[D]? = some (.deferred (some [])) → Q .ret { a with defers := { target := .collected D, args := #[] } :: a.defers } W) :
  (Code.rangeFunc g ps assign body).wpIn Fence.wide 0 P Q a w := by
 refine wpIn_rangeFunc ?_
 intro fn _
 obtain ⟨rec, hrec⟩ : ∃ rec : LoopState → Option Code → Loop, rec = fun st pe => { state := st, pending := pe, fn, tmps := a.tmps, params := ps, assign, body, defers := w.heap.size } := ⟨_, rfl⟩
 obtain ⟨W1, hW1⟩ : ∃ W1, (w.alloc (.deferred (some []))).alloc (.loop (rec .ready none)) = W1 := ⟨_, rfl⟩
 have hL1 : W1.heap[w.heap.size + 1]? = some (.loop (rec .ready none)) := by
  rw [← hW1]; have := World.alloc_heap_new (w.alloc (.deferred (some []))) (.loop (rec .ready none)); rwa [World.size_alloc] at this
 have hK1 : W1.heap[w.heap.size]? = some (.deferred (some [])) := by
  rw [← hW1]; exact (Below.heap_alloc _ _ _ (by simp)).trans (World.alloc_heap_new w _)
 have hbw : Below w.heap.size w W1 := by rw [← hW1]; exact ((Below.refl _ w).alloc (Nat.le_refl _) _).alloc (by simp) _
 have hI1 : I [] W1 := hI _ _ _ h0 hbw
 refine ⟨w.heap.size + 1, [{ target := .collected w.heap.size, args := #[] }], W1, { target := .fn (.func gf) lb, args := #[.func (.yield (w.heap.size + 1)) #[] #[]] }, W1, gf,
  #[.func (.yield (w.heap.size + 1)) #[] #[]] ++ lb, W1, ?_, ?_, fun _ _ => trivial, ?_, (fun h => by cases h), ?_⟩
 ·rw [← hW1, hrec]; exact run_enterLoop_outer _ _ _ _ _
 ·simp only [resolve, hg]
  simp [go_sem]
 ·simp [invoke, go_sem, eg]
 ·refine (hit (w.heap.size + 1)
   (fun pre W => I pre W ∧ W.heap[w.heap.size + 1]? = some (.loop (rec .ready none)) ∧ W.heap[w.heap.size]? = some (.deferred (some [])))
   (fun pre W => Ix pre W ∧ W.heap[w.heap.size + 1]? = some (.loop (rec .done (some .ret))) ∧ W.heap[w.heap.size]? = some (.deferred (some [])))
   W1 (hb0.trans (hbw.mono hb0.size)) ?_ ?_ ⟨hI1, hL1, hK1⟩).mono ?_
  ·rintro pre A B ⟨i1, i2, i3⟩ hb
   exact ⟨hI _ _ _ i1 hb, (hb.block _ (Array.getElem?_eq_some_iff.1 i2).1).trans i2, (hb.block _ (Array.getElem?_eq_some_iff.1 i3).1).trans i3⟩
  ·rintro pre x args W ⟨hi, hl, hk⟩ hpost hok
   have hy := run_yield (P := P) (args := args) hl (by rw [hrec]; exact hps x args W hok)
   rw [hrec] at hy
   refine ⟨fn, _, assign, body, hy, roundIn_of_wpIn trivial (wpIn_mono (hround (w.heap.size + 1) pre x args W hi hpost hok (by omega) ⟨_, hl, rfl⟩) ?_)⟩
   clear hy
   rintro ex a1 A1 hp
   cases ex with
   | normal =>
    obtain ⟨k1, k2, k3⟩ := hp
    replace hl := k1.same _ _ (by omega) hl rfl
    replace hk := k1.same _ _ (Nat.le_refl _) hk rfl
    have hlt : w.heap.size + 1 < A1.heap.size := (Array.getElem?_eq_some_iff.1 hl).1
    refine ⟨_, run_beginRound hl (by rw [hrec]), ?_⟩
    have hl2 : (A1.putObj (w.heap.size + 1) (.loop { rec .ready none with state := .busy })).heap[w.heap.size + 1]? = some (.loop { rec .ready none with state := .busy }) := World.putObj_heap_same hlt
    have hk2 : (A1.putObj (w.heap.size + 1) (.loop { rec .ready none with state := .busy })).heap[w.heap.size]? = some (.deferred (some [])) := (World.putObj_heap_other (by omega)).trans hk
    have hc2 := cell_putObj (o' := .loop { rec .ready none with state := .busy }) hl rfl rfl
    have hw2 : Kp A1 (A1.putObj (w.heap.size + 1) (.loop { rec .ready none with state := .busy })) := hKb _ _ _ _ (by omega) hl rfl rfl
    refine wpIn_mono (k3 _ (grownBy_putObj' _ _ _) (by simp) (fun p => (hc2 p).1) (fun p => (hc2 p).2)) ?_
    rintro e a3 W3 hp
    cases e with
    | normal =>
     obtain ⟨hk3, hkp3, hi3⟩ := hp
     have hl3 := hk3.same _ _ (by omega) hl2 rfl
     have hk3' := hk3.same _ _ (Nat.le_refl _) hk2 rfl
     have hlt3 := (Array.getElem?_eq_some_iff.1 hl3).1
     refine ⟨_, _, run_endRound (P := P) none hl3, .inl ⟨rfl, ⟨hIp _ _ _ _ _ hi3 (by omega) hl3 rfl rfl, ?_, (World.putObj_heap_other (by omega)).trans hk3'⟩, ?_⟩⟩
     ·rw [World.putObj_heap_same hlt3, hrec]; rfl
     ·exact hKt k2 (hKt hw2 (hKt hkp3 (hKb _ _ _ _ (by omega) hl3 rfl rfl)))
    | ret =>
     obtain ⟨hk3, hi3⟩ := hp
     have hl3 := hk3.same _ _ (by omega) hl2 rfl
     have hk3' := hk3.same _ _ (Nat.le_refl _) hk2 rfl
     have hlt3 := (Array.getElem?_eq_some_iff.1 hl3).1
     refine ⟨_, _, run_endRound (P := P) (some .ret) hl3, .inr ⟨rfl, hIxp _ _ _ _ _ hi3 (by omega) hl3 rfl rfl, ?_, (World.putObj_heap_other (by omega)).trans hk3'⟩⟩
     rw [World.putObj_heap_same hlt3, hrec]; rfl
    | exit id => exact hp.elim
    | goto t => exact hp.elim
    | panic c => exact hp.elim
    | outgrown => exact hp.elim
   | exit id => exact hp.elim
   | goto t => exact hp.elim
   | ret => exact hp.elim
   | panic c => exact hp.elim
   | outgrown => exact hp.elim
  ·rintro e W2 ⟨⟨v, rfl⟩, (⟨hi, hl, hk⟩ | ⟨pre, hi, hl, hk⟩)⟩
   ·refine ⟨none, _, ?_, hdone _ _ (Nat.le_refl _) (hIp _ _ (w.heap.size + 1) _ (.loop { rec .ready none with state := .exhausted }) hi (by omega) hl rfl rfl) ((World.putObj_heap_other (by omega)).trans hk)⟩
    have := run_endLoop (P := P) hl (by rw [hrec]; simp)
    exact this.trans (by rw [hrec])
   ·refine ⟨some .ret, _, ?_, wpIn_ret (hstop _ pre _ (Nat.le_refl _) (hIxp _ _ (w.heap.size + 1) _ (.loop { rec .done (some .ret) with state := .exhausted }) hi (by omega) hl rfl rfl) ((World.putObj_heap_other (by omega)).trans hk))⟩
    have := run_endLoop (P := P) hl (by rw [hrec]; simp)
    exact this.trans (by rw [hrec])
theorem oper_round {P : Program} {o : Oper} {a : Act} {w : World} {K K' : Act → World → Prop} {Q : Exit → Act → World → Prop} {l n : Nat} (hnd : ∀ c, o.op ≠ .defer c) (hK : ∀ a w, K a w → K' a w) (h : o.wp P a w K Q) :
  o.wpIn (Fence.wide.inRound l) n P a w K' Q := by
 refine ⟨fun _ _ => trivial, ?_⟩
 have hs : o.semAt (Fence.wide.inRound l).round a.eval = execOp a.eval o := Oper.semAt_some l _ _ hnd
 rw [hs]
 unfold Oper.wp at h
 generalize (execOp a.eval o).run P w = r at *
 cases r with
 | ok x w' =>
  cases x <;> simp only [Oper.upon] at h <;> simp only [Oper.uponIn]
  case value v => exact hK _ _ h
  case skip => exact hK _ _ h
  case defer d => exact hK _ _ h
  case enter f args =>
   refine ⟨(fun h => by cases h), ?_⟩
   refine CallsIn.inRound l (callsIn_wide.2 (Calls.mono h fun e w'' he => ?_))
   cases e <;> first | exact hK _ _ he | exact he
  case row row args =>
   refine ⟨(fun h => by cases h), fun c cs _ => ?_⟩
   obtain ⟨v, w'', hv, hst⟩ := h c cs
   exact ⟨v, w'', hK _ _ hv, stepsIn_wide.2 hst⟩
 | halt x w' => cases x <;> simp only [Oper.upon] at h <;> simp only [Oper.uponIn] <;> exact h
theorem wpAny_round {P : Program} {ops : Array Oper} {md : Region.Mode} {Q : Exit → Act → World → Prop} {l n : Nat} (hnd : ∀ (i : Nat) (o : Oper), ops[i]? = some o → ∀ c, o.op ≠ .defer c) (hout : ∀ a w, ¬ Q .outgrown a w) :
  ∀ (fuel : Nat) (listed : Array Bool) (a : Act) (w : World), wpAny P md ops Q fuel listed a w → wpAnyIn (Fence.wide.inRound l) n P md ops Q fuel listed a w
 | 0, _, _, _, h => h
 | fuel + 1, listed, a, w, h => by
  refine ⟨h.1, fun i hi => ?_⟩
  have h2 := h.2 i hi
  unfold wpOp at h2
  unfold wpOpIn
  cases ho : ops[i]? with
  | none =>
   simp only [ho] at h2 ⊢
   exact wpAny_round hnd hout fuel _ a w h2
  | some o =>
   simp only [ho] at h2 ⊢
   by_cases hw : Region.wanted o (yielded ops a.tmps) = true
   ·simp only [hw, if_true] at h2 ⊢
    rcases h2 with h2 | ⟨_, a0, w0, hq⟩
    ·exact oper_round (hnd i o ho) (fun a' w' h' => wpAny_round hnd hout fuel _ a' w' h') h2
    ·exact (hout _ _ hq).elim
   ·simp only [hw] at h2 ⊢
    exact ⟨fun _ _ => trivial, wpAny_round hnd hout fuel _ _ w h2⟩
def noDefer (ops : List Oper) : Bool := ops.all fun o => match o.op with | .defer _ => false | _ => true
theorem noDefer_spec {ops : List Oper} (h : noDefer ops = true) : ∀ (i : Nat) (o : Oper), ops.toArray[i]? = some o → ∀ c, o.op ≠ .defer c := by
 intro i o ho c hc
 have hm : o ∈ ops := by
  have := Array.mem_of_getElem? ho
  simpa using this
 have := List.all_eq_true.1 h o hm
 rw [hc] at this
 cases this
theorem wpIn_region_tail_round {P : Program} {id : Nat} {Q : Exit → Act → World → Prop} {a : Act} {w : World} {l : List Oper} {r m : Nat} (n : Nat) (hm : P.follows .mixedOrders = true) (hB : Region.lexTailB .any l.toArray n = true) (hnd : noDefer l = true) (hout : ∀ a w, ¬ Q .outgrown a w)
  (h : wpStill P l.toArray { w with drawn := w.drawn + 1 } (fun a' => wpList P l.toArray Q (l.drop n) a' { w with drawn := w.drawn + 1 }) (l.take n) a) : (Code.region id l.toArray true).wpIn (Fence.wide.inRound r) m P Q a w := by
 simp only [Region.lexTailB, Bool.and_eq_true, decide_eq_true_eq] at hB
 obtain ⟨⟨⟨⟨hsel, hn⟩, hs⟩, hc⟩, hlex⟩ := hB
 have hn' : n < l.length := by simpa using hn
 have htl : (l.take n).length = n := by simp; omega
 have hdl : (l.drop n).length = l.toArray.size - n := by simp
 have inv0 : HeadInv .any l.toArray n (Array.replicate l.toArray.size false) :=
  ⟨by simp, fun j oj _ hl => (by rw [getD_replicate_false] at hl; cases hl), fun t _ ht => getD_in (by simpa using ht) (getD_replicate_false _ _)⟩
 have H := wpAnyL_lex (md := .any) (g := l.toArray.size - n) hsel hs hc hn (l.take n) 0 _ a (fun j hj => by
  have hj' : j < n := by rw [htl] at hj; exact hj
  simp [hj']) (by simpa using htl) inv0 (by rw [htl]; exact hlex) h
 refine wpIn_region_any hm (wpAny_round (noDefer_spec hnd) hout _ _ _ _ ?_)
 have := wpAny_of_head (Q' := Q) (g := l.toArray.size - n) (fun listed a' hL => by
  obtain ⟨h1, h2⟩ := hL
  have := wpAny_of_seq (md := .any) (Q' := Q) (l.drop n) n listed a' { w with drawn := w.drawn + 1 } (fun j => by simp) (by rw [hdl]; exact h1) h2
  rw [hdl] at this
  exact this) (l.take n).length (Array.replicate l.toArray.size false) a H
 rw [htl] at this
 rwa [show n + (l.toArray.size - n) = l.toArray.size by have : n < l.toArray.size := hn; omega] at this
theorem wpIn_region_tail_named {P : Program} {id : Nat} {Q : Exit → Act → World → Prop} {a : Act} {w : World} {l : List Oper} {r m : Nat} (n : Nat) (hm : P.follows .mixedOrders = true) (hB : Region.lexTailB .any l.toArray n = true) (hnd : noDefer l = true) (hout : ∀ a w, ¬ Q .outgrown a w)
  (h : ∀ w', w' = w.drew → wpStill P l.toArray w' (fun a' => wpList P l.toArray Q (l.drop n) a' w') (l.take n) a) : (Code.region id l.toArray true).wpIn (Fence.wide.inRound r) m P Q a w :=
 wpIn_region_tail_round n hm hB hnd hout (h _ rfl)
theorem KeepsFrom.of_below {B : Nat} {A W : World} (h : Below A.heap.size A W) : KeepsFrom B A W :=
 ⟨h.size, fun k o _ hk _ => (h.block k (Array.getElem?_eq_some_iff.1 hk).1).trans hk⟩
theorem own_putObj {w : World} {B : Nat} {e : TypeId} {size : Nat} {v : Value} {n : Nat} {xs : List Value} (h : w.ownsRow B e size v n xs) {l : Nat} {o o' : Obj} (hl : w.heap[l]? = some o) (ho : o.isCells = false) : (w.putObj l o').ownsRow B e size v n xs := by
 refine ⟨h.1, ?_⟩
 rcases h.2 with hn | ⟨g, cap, cur, hv, hg, hh, r⟩
 ·exact .inl hn
 ·exact .inr ⟨g, cap, cur, hv, hg, (World.putObj_heap_other (fun e => by subst e; rw [hl] at hh; injection hh with hh; subst hh; cases ho)).trans hh, r⟩
end Go.Proofs.YtikojiciilambaaGreat

/- slices.Values at span.end: the library's iterator over a slice, by its contract. -/
namespace Go.Proofs.YtikojiciilambaaGreat
open Go.RowKit
set_option linter.unusedVariables false
set_option linter.unusedSimpArgs false
attribute [local go_sem] Oper.semAt_some
def KpB (b : Nat) (A B : World) : Prop := ∀ o, B.cell? ⟨b, o, none⟩ = A.cell? ⟨b, o, none⟩
theorem KpB.trans {b : Nat} {A B C : World} (h : KpB b A B) (k : KpB b B C) : KpB b A C := fun o => (k o).trans (h o)
set_option maxHeartbeats 1000000 in
theorem values1_iter (Bx b off c : Nat) (xs : List En) (w0 : World) (hn : xs.length ≤ 1000000000) (A : Option Addr) (hBx : Bx < w0.heap.size) (hbox : w0.cell? ⟨Bx, 0, none⟩ = some (.slice A xs.length c))
  (hA : xs ≠ [] → A = some ⟨b, off, none⟩ ∧ b < w0.heap.size ∧ ∀ j x, xs[j]? = some x → ∀ i u, (encE x)[i]? = some u → w0.cell? ⟨b, off + j * 3 + i, none⟩ = some u) :
  Iter Tryz.prog 231 #[.pointer (some ⟨Bx, 0, none⟩)] xs (fun x args _ => args = #[.agg (encE x).toArray]) (KpB b) w0 := by
 intro l J Jx W hW hJ hY h0
 have hboxW : W.cell? ⟨Bx, 0, none⟩ = some (.slice A xs.length c) := (hW.cell (p := ⟨Bx, 0, none⟩) hBx).trans hbox
 refine callsIn_of_wp Tryz.func231 rfl trivial ?_
 simp only [Tryz.ntmps231, List.size_toArray, List.length_cons, List.length_nil, Nat.reduceAdd, Nat.reduceSub, Array.replicate_succ, Array.replicate_zero, List.push_toArray, List.append_toArray, List.nil_append, List.cons_append]
 clear hbox
 gi_wp2
 gi_loopw [4, 7] (fun _ p wr => ∃ k : Nat, k ≤ xs.length ∧ p = .int .i64 k ∧ Hid (J (xs.take k) wr) ∧ Hid (xs ≠ [] → ∀ o, wr.cell? ⟨b, o, none⟩ = w0.cell? ⟨b, o, none⟩)) (fun _ p _ => xs.length - (intOf p).toNat)
 case atStart => exact ⟨0, Nat.zero_le _, rfl, hide (by simpa using h0), hide fun hx o => hW.cell (p := ⟨b, o, none⟩) (hA hx).2.1⟩
 case round =>
  obtain ⟨k, hk, rfl, HJ, HC⟩ := hrel
  by_cases hlt : k < xs.length
  ·have hltz : (k : Int) < (xs.length : Int) := by omega
   have hne : xs ≠ [] := by intro e; rw [e] at hlt; simp at hlt
   obtain ⟨rfl, hb, hcell⟩ := hA hne
   have hx : xs[k]? = some xs[k] := List.getElem?_eq_getElem hlt
   obtain ⟨x, hxe⟩ : ∃ x, xs[k] = x := ⟨_, rfl⟩
   rw [hxe] at hx
   have c0 : wr.cell? ⟨b, off + k * 3, none⟩ = some (.int .i64 x.1) := (HC.out hne _).trans (hcell k x hx 0 _ rfl)
   have c1 : wr.cell? ⟨b, off + k * 3 + 1, none⟩ = some (.int .i64 x.2.1) := (HC.out hne _).trans (hcell k x hx 1 _ rfl)
   have c2 : wr.cell? ⟨b, off + k * 3 + 2, none⟩ = some (.int .i64 x.2.2) := (HC.out hne _).trans (hcell k x hx 2 _ rfl)
   have hfi : xs.take (k + 1) = xs.take k ++ [x] := by rw [List.take_succ_eq_append_getElem hlt, hxe]
   have hpost : ∃ post, xs = xs.take k ++ x :: post := ⟨xs.drop (k + 1), by rw [← hxe, ← List.drop_eq_getElem_cons hlt, List.take_append_drop]⟩
   have hJ2 := hJ _ _ (wr.alloc (.cells #[.int .i64 x.1, .int .i64 x.2.1, .int .i64 x.2.2] 251)) HJ.out ((Below.refl _ _).alloc (Nat.le_refl _) _)
   have hkp : ∀ o, (wr.alloc (.cells #[.int .i64 x.1, .int .i64 x.2.1, .int .i64 x.2.2] 251)).cell? ⟨b, o, none⟩ = wr.cell? ⟨b, o, none⟩ := fun o => World.cell?_alloc_lt wr _ ⟨b, o, none⟩ (lt_of_cell c0)
   obtain ⟨fn, tmps, assign, body, hy, hR⟩ := hY (xs.take k) x #[.agg #[.int .i64 x.1, .int .i64 x.2.1, .int .i64 x.2.2]] _ hJ2 hpost rfl
   have FI := hide hfi
   have HKP := hide hkp
   clear hx hxe hfi hcell hpost hJ hY h0 hA hkp
   gi_wp2
   refine ⟨rfl, hR.mono ?_⟩
   rintro e W3 (⟨rfl, hJ3, hk3⟩ | ⟨rfl, hJx3⟩)
   ·gi_wp2
    go_roundw
    case rel =>
     exact ⟨k + 1, by omega, by go_num, hide (by rw [FI.out]; exact hJ3), hide fun hx o => ((hk3 o).trans (HKP.out o)).trans (HC.out hx o)⟩
    case measure => simp [intOf]; omega
   ·gi_wp2
    refine bodyPost_ret (results_none rfl _ _ _) rfl ?_
    exact ⟨⟨_, rfl⟩, .inr ⟨_, hJx3⟩⟩
  ·have hltz : ¬ (k : Int) < (xs.length : Int) := by omega
   have hk' : xs.take k = xs := List.take_of_length_le (by omega)
   have HK := hide hk'
   clear hk' hJ hY h0 hA
   gi_wp2
   go_end0
   exact ⟨⟨_, rfl⟩, .inl (by have := HJ.out; rw [HK.out] at this; exact this)⟩
set_option maxHeartbeats 400000 in
theorem values_any (v : Value) (w : World) (hv : v.oneCell' = true) :
  Calls Tryz.prog 214 #[v] w fun e w' => e = .returned (.func (.func 231) #[] #[.pointer (some ⟨w.heap.size, 0, none⟩)]) ∧ w.alloc (.cells #[v] 273) = w' := by
 go_enter Tryz.func214, Tryz.ntmps214
 go_wp2
 go_ret
 exact ⟨rfl, rfl⟩
end Go.Proofs.YtikojiciilambaaGreat

/- span.ends: the ends of the spans of two lists, in order, as an iterator. -/
namespace Go.Proofs.YtikojiciilambaaGreat
open Go.RowKit Go.Sort
set_option linter.unusedVariables false
set_option linter.unusedSimpArgs false
theorem evs_append (i : Int) (s t : List Sp) : evs i (s ++ t) = evs i s ++ evs i t := by
 induction s with
 | nil => rfl
 | cons p s ih => simp [evs, ih]
theorem evs_length (i : Int) (s : List Sp) : (evs i s).length = 2 * s.length := by
 induction s with
 | nil => rfl
 | cons p s ih => simp [evs, ih]; omega
theorem evs_take (i : Int) (s : List Sp) (m : Nat) (p : Sp) (h : s[m]? = some p) : evs i (s.take (m + 1)) = evs i (s.take m) ++ [(p.1, i, 1), (p.2, i, -1)] := by
 obtain ⟨hm, hp⟩ := List.getElem?_eq_some_iff.1 h
 rw [List.take_succ_eq_append_getElem hm, hp, evs_append]; rfl
theorem evs_mem {i : Int} {s : List Sp} {e : En} (h : e ∈ evs i s) : ∃ p ∈ s, (e.1 = p.1 ∨ e.1 = p.2) ∧ e.2.1 = i ∧ (e.2.2 = 1 ∨ e.2.2 = -1) := by
 induction s with
 | nil => simp [evs] at h
 | cons p s ih =>
  simp only [evs, List.mem_cons] at h
  rcases h with rfl | rfl | h
  ·exact ⟨p, by simp, by simp⟩
  ·exact ⟨p, by simp, by simp⟩
  ·obtain ⟨q, hq, h⟩ := ih h
   exact ⟨q, by simp [hq], h⟩
def evK (a b : List Sp) (k : Nat) : List En := if k = 0 then [] else if k = 1 then evs 0 a else evs 0 a ++ evs 1 b
theorem infoE : (Tryz.prog.info? 251).map (fun i => (i.zero, i.size, i.bytes)) = some (some (.agg #[.int .i64 0, .int .i64 0, .int .i64 0]), 3, 24) := by kernel_rfl
theorem rel_push {w1 : World} {base : Nat} {v1 : Value} {P : List En} {x y : En} {cells : List Value} (h : w1.ownsRow base 251 3 v1 (P.length + 2) (P.flatMap encE ++ cells)) (hc : cells = encE x ++ encE y) :
  w1.ownsRow base 251 3 v1 (P ++ [x, y]).length ((P ++ [x, y]).flatMap encE) := by
 rw [List.flatMap_append, List.length_append]
 subst hc
 simpa using h
set_option maxHeartbeats 2000000 in
theorem ends_loop (a b : List Sp) (L c : Nat) (va vb : Value) (w : World) (hL : L < w.heap.size) (h0 : w.cell? ⟨L, 0, none⟩ = some va) (h1 : w.cell? ⟨L, 1, none⟩ = some vb)
  (ra : RdK encS 2 w w.heap.size va a) (rb : RdK encS 2 w w.heap.size vb b) (na : a.length ≤ 100000000) (nb : b.length ≤ 100000000) (ba : ∀ p ∈ a, validS p) (bb : ∀ p ∈ b, validS p) :
  Calls Tryz.prog 188 #[.slice (some ⟨L, 0, none⟩) 2 c] w fun e w' => ∃ (E : List En) (Bx rw : Nat), e = .returned (.func (.func 231) #[] #[.pointer (some ⟨Bx, 0, none⟩)]) ∧
   E.Perm (evs 0 a ++ evs 1 b) ∧ E.Pairwise (fun a b => a.1 ≤ b.1) ∧ Below w.heap.size w w' ∧ w.heap.size ≤ rw ∧ rw < w'.heap.size ∧
   Iter Tryz.prog 231 #[.pointer (some ⟨Bx, 0, none⟩)] E (fun x args _ => args = #[.agg (encE x).toArray]) (KpB rw) w' := by
 obtain ⟨i0, hi, hz0, hz1, hz2⟩ := info_parts infoE
 go_enter Tryz.func188, Tryz.ntmps188
 go_wp2
 go_loopw [3, 10] (fun v i wr => ∃ k : Nat, k ≤ 2 ∧ i = .int .i64 k ∧ wr.ownsRow w.heap.size 251 3 v (evK a b k).length ((evK a b k).flatMap encE) ∧ Below w.heap.size w wr)
  (fun _ i _ => 2 - (intOf i).toNat)
 case atStart => exact ⟨0, by omega, rfl, World.ownsRow_nil _ _ _ _, Below.refl _ _⟩
 case round =>
  obtain ⟨k, hk, rfl, hown, hb⟩ := hrel
  by_cases hlt : k < 2
  ·obtain ⟨l, v, hc, hr, hn, hv, hK, hnK⟩ : ∃ l v, wr.cell? ⟨L, k, none⟩ = some v ∧ RdK encS 2 w w.heap.size v l ∧ l.length ≤ 100000000 ∧ (∀ p ∈ l, validS p) ∧ evK a b (k + 1) = evK a b k ++ evs k l ∧ (evK a b k).length ≤ 2000000000 := by
    rcases (show k = 0 ∨ k = 1 by omega) with rfl | rfl
    ·exact ⟨a, va, (hb.cell (p := ⟨L, 0, none⟩) hL).trans h0, ra, na, ba, rfl, by simp [evK]⟩
    ·exact ⟨b, vb, (hb.cell (p := ⟨L, 1, none⟩) hL).trans h1, rb, nb, bb, rfl, by show (evs 0 a).length ≤ _; rw [evs_length]; omega⟩
   obtain ⟨A, c0, rfl, hcl⟩ := hr
   have HK := hide hK
   have HV := hide hv
   have HR := hide hcl
   generalize evK a b k = P at *
   generalize wr = w1 at *
   clear hK hv hcl h0 h1 ra rb na nb ba bb
   have hkz : (k : Int) < 2 := by omega
   go_wp2
   go_loopw [3, 17] (fun u j wi => ∃ m : Nat, m ≤ l.length ∧ j = .int .i64 m ∧ wi.ownsRow w.heap.size 251 3 u (P ++ evs k (l.take m)).length ((P ++ evs k (l.take m)).flatMap encE) ∧ Below w.heap.size w wi)
    (fun _ j _ => l.length - (intOf j).toNat)
   case atStart => exact ⟨0, by omega, rfl, by simpa [evs] using hown, hb⟩
   case round =>
    obtain ⟨m, hm, rfl, hownm, hbm⟩ := hrel
    by_cases hml : m < l.length
    ·obtain ⟨p, hp⟩ : ∃ p, l[m]? = some p := ⟨_, List.getElem?_eq_getElem hml⟩
     obtain ⟨x, y⟩ := p
     have hne : l ≠ [] := by intro e; rw [e] at hml; simp at hml
     obtain ⟨bk, off, rfl, hbk, hcell⟩ := HR.out hne
     have c0' : wr.cell? ⟨bk, off + m * 2, none⟩ = some (.int .i64 x) := (hbm.cell hbk).trans (hcell m _ hp 0 _ rfl)
     have c1' : wr.cell? ⟨bk, off + m * 2 + 1, none⟩ = some (.int .i64 y) := (hbm.cell hbk).trans (hcell m _ hp 1 _ rfl)
     have hmz : (m : Int) < (l.length : Int) := by omega
     clear hcell
     have hlenE : (P ++ evs k (l.take m)).length ≤ 4000000000 := by rw [List.length_append, evs_length, List.length_take]; omega
     have hbs := hbm.size
     have HE : Hid (P ++ evs k (l.take (m + 1)) = P ++ evs k (l.take m) ++ [(x, (k : Int), 1), (y, (k : Int), -1)]) := hide (by rw [evs_take k l m _ hp, List.append_assoc])
     generalize P ++ evs k (l.take m) = E0 at *
     go_wp2_with (at_builtin; go_loud (refine wpList_append_lies _ rfl (.tmp 21) (.tmp 30) 273 rfl w.heap.size 251 i0 (.agg #[.int .i64 0, .int .i64 0, .int .i64 0]) 3 24 Tryz.underlying273 hi hz0 hz1 hz2 rfl (by decide) _ _ _ rfl ((hownm.alloc _).alloc _) ⟨wr.heap.size + 1, 0, none⟩ 2 2 [.int .i64 x, .int .i64 k, .int .i64 1, .int .i64 y, .int .i64 k, .int .i64 (-1)] rfl rfl (news_new (wr.alloc _) _ _ _ (by simp)) (ints_one rfl) (by omega) (by unfold maxLen; omega) (by omega) (by simp; omega) _ rfl ?_))
     intro g cap w2 hown2 hgrow _ _
     have R := rel_push (x := (x, (k : Int), 1)) (y := (y, (k : Int), -1)) hown2 rfl
     rw [← HE.out] at R
     have hb2 : Below w.heap.size w w2 := ((hbm.alloc (by omega) _).alloc (by simp; omega) _).grown hgrow (by simp; omega) fun k h => (hownm.lt k h).1
     clear hown2 hgrow hownm hown
     go_wp2
     go_roundw
     case rel => exact ⟨m + 1, by omega, by go_num, R, hb2⟩
     case measure => simp [intOf]; omega
    ·have hme : ¬ (m : Int) < (l.length : Int) := by omega
     have hmt : l.take m = l := List.take_of_length_le (by omega)
     rw [hmt, ← HK.out] at hownm
     clear hmt hown
     go_wp2
     go_roundw
     case rel => exact ⟨k + 1, by omega, by go_num, hownm, hbm⟩
     case measure => simp [intOf]; omega
  ·obtain rfl : k = 2 := by omega
   have hE : evK a b 2 = evs 0 a ++ evs 1 b := rfl
   rw [hE] at hown
   have hl : (evs 0 a ++ evs 1 b).length ≤ 400000000 := by rw [List.length_append, evs_length, evs_length]; omega
   have hin : ∀ e ∈ evs 0 a ++ evs 1 b, -1000000 ≤ e.1 ∧ e.1 ≤ 1000000 := by
    intro e he
    have key : ∃ p, validS p ∧ (e.1 = p.1 ∨ e.1 = p.2) := by
     rcases List.mem_append.1 he with he | he
     ·obtain ⟨p, hp, h, _⟩ := evs_mem he
      exact ⟨p, ba p hp, h⟩
     ·obtain ⟨p, hp, h, _⟩ := evs_mem he
      exact ⟨p, bb p hp, h⟩
    obtain ⟨p, ⟨v1, v2, v3⟩, h⟩ := key
    omega
   clear hE h0 h1 ra rb na nb ba bb
   have HE : ∃ E0, Hid (evs 0 a ++ evs 1 b = E0) := ⟨_, hide rfl⟩
   obtain ⟨E0, HE⟩ := HE
   rw [HE.out] at hown hin hl
   obtain ⟨A0, c0, hv, _⟩ := own_rd hown (fun _ => rfl)
   subst hv
   go_wp2_with (first
    | (go_at_call 212; refine (sortE_any w.heap.size _ E0 hin _ hown (by omega)).mono ?_; rintro e w1 ⟨rfl, E1, hp, hs, ho, hg⟩)
    | (go_at_call 214; refine (values_any _ _ rfl).mono ?_; rintro e w2 ⟨rfl, rfl⟩))
   go_ret
   have hb1 : Below w.heap.size w w1 := hb.grown hg hb.size fun k h => (hown.lt k h).1
   have hlen : E1.length = E0.length := hp.length_eq
   have hrd := own_rd ho (fun _ => rfl)
   obtain ⟨A1, c1, e1, hcl⟩ := hrd
   rw [hlen] at e1
   injection e1 with e2 _ e3
   subst e2; subst e3
   have hw2 : ∀ b o, b < w1.heap.size → (w1.alloc (.cells #[.slice A0 E0.length c0] 273)).cell? ⟨b, o, none⟩ = w1.cell? ⟨b, o, none⟩ := fun b o h => World.cell?_alloc_lt w1 _ ⟨b, o, none⟩ h
   have hbx : (w1.alloc (.cells #[.slice A0 E0.length c0] 273)).cell? ⟨w1.heap.size, 0, none⟩ = some (.slice A0 E1.length c0) := by rw [hlen]; simp [go_sem]
   by_cases h0 : E1 = []
   ·refine ⟨E1, w1.heap.size, w1.heap.size, rfl, HE.out ▸ hp, hs, hb1.alloc hb1.size _, hb1.size, by simp, ?_⟩
    exact values1_iter w1.heap.size w1.heap.size 0 c0 E1 _ (by omega) A0 (by simp) hbx fun h => absurd h0 h
   ·obtain ⟨bk, off, rfl, hbk, hc⟩ := hcl h0
    refine ⟨E1, w1.heap.size, bk, rfl, HE.out ▸ hp, hs, hb1.alloc hb1.size _, (ho.lt bk rfl).1, by simp; omega, ?_⟩
    exact values1_iter w1.heap.size bk off c0 E1 _ (by omega) _ (by simp) hbx fun h => ⟨rfl, by simp; omega, fun j x hx i u hu => (hw2 _ _ hbk).trans (hc j x hx i u hu)⟩
end Go.Proofs.YtikojiciilambaaGreat

/- span.join's closure 'close': one more span at the end of the list. -/
namespace Go.Proofs.YtikojiciilambaaGreat
open Go.RowKit
set_option linter.unusedVariables false
set_option linter.unusedSimpArgs false
structure Upd (o : Nat) (row : Option Nat) (w w' : World) : Prop where
 os : w'.os = w.os
 tape : w'.tape = w.tape
 output : w'.output = w.output
 size : w.heap.size ≤ w'.heap.size
 block : ∀ k, k < w.heap.size → k ≠ o → row ≠ some k → w'.heap[k]? = w.heap[k]?
theorem Upd.refl (o : Nat) (row : Option Nat) (w : World) : Upd o row w w := ⟨rfl, rfl, rfl, Nat.le_refl _, fun _ _ _ _ => rfl⟩
theorem Upd.trans {o : Nat} {row : Option Nat} {a b c : World} (h : Upd o row a b) (k : Upd o row b c) : Upd o row a c :=
 ⟨k.os.trans h.os, k.tape.trans h.tape, k.output.trans h.output, Nat.le_trans h.size k.size, fun i hi ho hr => (k.block i (Nat.lt_of_lt_of_le hi h.size) ho hr).trans (h.block i hi ho hr)⟩
theorem Upd.of_below {o : Nat} {row : Option Nat} {a b : World} (h : Below a.heap.size a b) : Upd o row a b := ⟨h.os, h.tape, h.output, h.size, fun i hi _ _ => h.block i hi⟩
theorem Upd.of_grown {o : Nat} {row : Option Nat} {a b : World} (h : a.grownBy b row) : Upd o row a b := ⟨h.os, h.tape, h.output, h.size, fun i hi _ hr => h.block i hi (fun e => hr e.symm)⟩
theorem Upd.setCell {o : Nat} {row : Option Nat} {a b : World} (h : Upd o row a b) (off : Nat) (u : Value) : Upd o row a (b.setCell ⟨o, off, none⟩ u) :=
 h.trans ⟨rfl, rfl, rfl, by simp [World.setCell], fun k hk ho _ => Below.heap_setCell _ _ _ _ ho⟩
theorem Upd.setRow {o g : Nat} {a b : World} (h : Upd o (some g) a b) (off : Nat) (u : Value) : Upd o (some g) a (b.setCell ⟨g, off, none⟩ u) :=
 h.trans ⟨rfl, rfl, rfl, by simp [World.setCell], fun k hk _ hr => Below.heap_setCell _ _ _ _ (fun e => hr (by rw [e]))⟩
theorem Upd.cell {o : Nat} {row : Option Nat} {a b : World} (h : Upd o row a b) {k off : Nat} (hk : k < a.heap.size) (ho : k ≠ o) (hr : row ≠ some k) : b.cell? ⟨k, off, none⟩ = a.cell? ⟨k, off, none⟩ := World.cell?_of_block (w := a) (h.block k hk ho hr)
theorem Upd.frozen {o : Nat} {row : Option Nat} {a b : World} (h : Upd o row a b) {k off : Nat} (hk : k < a.heap.size) (ho : k ≠ o) (hr : row ≠ some k) : b.frozen? ⟨k, off, none⟩ = a.frozen? ⟨k, off, none⟩ := World.frozen?_of_block (w := a) (h.block k hk ho hr)
theorem Upd.below {o n : Nat} {row : Option Nat} {a b : World} (h : Upd o row a b) (hn : n ≤ o) (hB : n ≤ a.heap.size) (hr : ∀ k, row = some k → n ≤ k) : Below n a b :=
 ⟨h.os, h.tape, h.output, h.size, fun k hk => h.block k (by omega) (by omega) (fun e => by have := hr k e; omega)⟩
def jcl (inn : Bool) (last : Int) (out : List Sp) (e : Int) : List Sp := if inn = true ∧ last ≠ e then sext out last e else out
theorem infoS : (Tryz.prog.info? 141).map (fun i => (i.zero, i.size, i.bytes)) = some (some (.agg #[.int .i64 0, .int .i64 0]), 2, 16) := by kernel_rfl
theorem set_last (q : List Sp) (x y e : Int) : ((q ++ [(x, y)]).flatMap encS).set (q.length * 2 + 1) (.int .i64 e) = (q ++ [(x, e)]).flatMap encS := by
 have hl := flat_len (enc := encS) (k := 2) (fun _ => rfl) q
 rw [List.flatMap_append, List.flatMap_append, List.set_append_right _ _ (by omega)]
 congr 1
 rw [hl, show q.length * 2 + 1 - q.length * 2 = 1 by omega]
 rfl
theorem close_set {B o g cap : Nat} {w w1 : World} {q : List Sp} {x y e : Int} (kb : Upd o (some g) w w1) (hoB : o < B) (hBg : B ≤ g) (k3 : w1.cell? ⟨o, 0, none⟩ = some (.slice (some ⟨g, 0, none⟩) (q.length + 1) cap)) (k4 : w1.frozen? ⟨o, 0, none⟩ = false)
  (k5 : w1.ownsRow B 141 2 (.slice (some ⟨g, 0, none⟩) (q.length + 1) cap) (q.length + 1) ((q ++ [(x, y)]).flatMap encS)) :
  ∃ vo', (w1.setCell ⟨g, q.length * 2 + 1, none⟩ (.int .i64 e)).cell? ⟨o, 0, none⟩ = some vo' ∧ (w1.setCell ⟨g, q.length * 2 + 1, none⟩ (.int .i64 e)).frozen? ⟨o, 0, none⟩ = false ∧
   (w1.setCell ⟨g, q.length * 2 + 1, none⟩ (.int .i64 e)).ownsRow B 141 2 vo' (q ++ [(x, e)]).length ((q ++ [(x, e)]).flatMap encS) ∧ Upd o (some g) w (w1.setCell ⟨g, q.length * 2 + 1, none⟩ (.int .i64 e)) := by
 obtain ⟨s1, s2⟩ := k5.stored (q.length * 2 + 1) (.int .i64 e)
 rw [set_last] at s1
 have hb : Below B w1 (w1.setCell ⟨g, q.length * 2 + 1, none⟩ (.int .i64 e)) := (Below.refl B w1).setCell hBg _
 exact ⟨_, (hb.cell (p := ⟨o, 0, none⟩) hoB).trans k3, (hb.frozen (p := ⟨o, 0, none⟩) hoB).trans k4, by simpa using s1, kb.setRow _ _⟩
theorem close_fin {B o : Nat} {w w1 w2 : World} {row : Option Nat} {v2 x : Value} {out' : List Sp} {n : Nat} (kb : Upd o row w w1) (ks : B ≤ w1.heap.size) (hoB : o < B) (k3 : w1.cell? ⟨o, 0, none⟩ = some x) (k4 : w1.frozen? ⟨o, 0, none⟩ = false) (blk : Obj)
  (hgrow : (w1.alloc blk).grownBy w2 row) (hr : ∀ k, row = some k → B ≤ k) (hown2 : w2.ownsRow B 141 2 v2 n (out'.flatMap encS)) (hn : n = out'.length) :
  w2.cell? ⟨o, 0, none⟩ = some x ∧ w2.frozen? ⟨o, 0, none⟩ = false ∧ Hid (∃ vo', (w2.setCell ⟨o, 0, none⟩ v2).cell? ⟨o, 0, none⟩ = some vo' ∧ (w2.setCell ⟨o, 0, none⟩ v2).frozen? ⟨o, 0, none⟩ = false ∧
   (w2.setCell ⟨o, 0, none⟩ v2).ownsRow B 141 2 vo' out'.length (out'.flatMap encS) ∧ Upd o row w (w2.setCell ⟨o, 0, none⟩ v2)) := by
 have hb : Below B w1 w2 := ((Below.refl B w1).alloc ks _).grown hgrow (by simp; omega) hr
 have c := (hb.cell (p := ⟨o, 0, none⟩) hoB).trans k3
 have f := (hb.frozen (p := ⟨o, 0, none⟩) hoB).trans k4
 subst hn
 refine ⟨c, f, hide ⟨v2, by simp [go_sem, c], by simp [go_sem, f], ownsRow_setCell_below hown2 hoB _, (kb.trans ((Upd.of_below ((Below.refl _ _).alloc (Nat.le_refl _) blk)).trans (.of_grown hgrow))).setCell _ _⟩⟩
set_option maxHeartbeats 2000000 in
theorem close_any (B i l o : Nat) (vo : Value) (out : List Sp) (last e : Int) (inn : Bool) (w : World) (h1 : w.cell? ⟨i, 0, none⟩ = some (.bool inn)) (h2 : w.cell? ⟨l, 0, none⟩ = some (.int .i64 last)) (h3 : w.cell? ⟨o, 0, none⟩ = some vo) (h4 : w.frozen? ⟨o, 0, none⟩ = false)
  (hoB : o < B) (hB : B ≤ w.heap.size) (hown : w.ownsRow B 141 2 vo out.length (out.flatMap encS)) (hn : out.length ≤ 1000000000) :
  Calls Tryz.prog 187 #[.int .i64 e, .pointer (some ⟨i, 0, none⟩), .pointer (some ⟨l, 0, none⟩), .pointer (some ⟨o, 0, none⟩)] w fun r w' => r = .returned (.tuple #[]) ∧
   ∃ vo', w'.cell? ⟨o, 0, none⟩ = some vo' ∧ w'.frozen? ⟨o, 0, none⟩ = false ∧ w'.ownsRow B 141 2 vo' (jcl inn last out e).length ((jcl inn last out e).flatMap encS) ∧ Upd o vo.ownBlock w w' := by
 obtain ⟨i0, hi, hz0, hz1, hz2⟩ := info_parts infoS
 obtain ⟨A, c, hv, hcl⟩ := own_rd hown (fun _ => rfl)
 subst hv
 go_enter Tryz.func187, Tryz.ntmps187
 cases inn with
 | false =>
  go_wp2
  refine bodyPost_ret (results_none rfl _ _ _) rfl ?_
  exact ⟨rfl, _, h3, h4, hown, Upd.refl _ _ _⟩
 | true =>
  by_cases hle : last = e
  ·subst hle
   go_wp2
   refine bodyPost_ret (results_none rfl _ _ _) rfl ?_
   exact ⟨rfl, _, h3, h4, by simpa [jcl] using hown, Upd.refl _ _ _⟩
  ·have hj : jcl true last out e = sext out last e := if_pos ⟨rfl, hle⟩
   rw [hj]
   clear hj
   have hbe : (last == e) = false := by simpa using hle
   clear hle
   have nlt : ∀ (b : Nat), w.heap.size ≤ b → ¬ b = o := fun b h => by omega
   rcases List.eq_nil_or_concat out with rfl | ⟨q, p, rfl⟩
   ·have hs : sext [] last e = [(last, e)] := rfl
    rw [hs]
    clear hs nlt hcl
    simp only [List.length_nil, List.flatMap_nil] at *
    go_wp2
    have hg : decide ((0 : Int) < 0) = false := rfl
    go_quiet (fail)
    obtain ⟨w1, hw1⟩ : ∃ w1, w1 = w.drewN nq := ⟨_, rfl⟩
    rw [← hw1]
    have k2 : w1.cell? ⟨l, 0, none⟩ = some (.int .i64 last) := by rw [hw1]; exact h2
    have k3 : w1.cell? ⟨o, 0, none⟩ = some (.slice A 0 c) := by rw [hw1]; exact h3
    have k4 : w1.frozen? ⟨o, 0, none⟩ = false := by rw [hw1]; exact h4
    have k5 : w1.ownsRow B 141 2 (.slice A 0 c) 0 [] := by rw [hw1]; exact hown
    have kb : Upd o (Value.slice A 0 c).ownBlock w w1 := by rw [hw1]; exact ⟨rfl, rfl, rfl, Nat.le_refl _, fun _ _ _ _ => rfl⟩
    have ks : B ≤ w1.heap.size := by rw [hw1]; exact hB
    clear hw1 h1 h2 h3 h4 hown hg
    go_wp2_with (at_builtin; (refine wpList_append_lies _ rfl (.tmp 33) (.tmp 37) 136 rfl B 141 i0 (.agg #[.int .i64 0, .int .i64 0]) 2 16 Tryz.underlying136 hi hz0 hz1 hz2 rfl (by decide) _ _ _ rfl (k5.alloc _) ⟨w1.heap.size, 0, none⟩ 1 1 [.int .i64 last, .int .i64 e] rfl rfl (news_new w1 _ _ _ (by simp)) (ints_one rfl) (by omega) (by unfold maxLen; omega) (by omega) (by simp; omega) _ rfl ?_))
    intro g cap w2 hown2 hgrow _ _
    obtain ⟨c2, f2, HF⟩ := close_fin (out' := [(last, e)]) kb ks hoB k3 k4 _ hgrow (fun k h => (k5.lt k h).1) hown2 rfl
    clear hown2 hgrow k2 k3 k4 k5 kb
    go_wp2
    go_end0
    exact ⟨rfl, HF.out⟩
   ·obtain ⟨x, y⟩ := p
    rw [List.concat_eq_append] at *
    have hy : sext (q ++ [(x, y)]) last e = if y = last then q ++ [(x, e)] else q ++ [(x, y)] ++ [(last, e)] := by
     unfold sext
     simp [List.getLast?_append, List.dropLast_concat]
    rw [hy]
    clear hy nlt
    clear hcl
    obtain ⟨g, cap, hv, hBg, hgw⟩ := hown.form (by simp)
    injection hv with e1 _ e3
    subst e1; subst e3
    have cy : w.cell? ⟨g, q.length * 2 + 1, none⟩ = some (.int .i64 y) := by
     have := (hown.cells (g := g) rfl) _ _ (flat_get (k := 2) (fun _ => rfl) _ q.length (x, y) 1 _ (by simp) rfl)
     rwa [addr_add] at this
    have fy : w.frozen? ⟨g, q.length * 2 + 1, none⟩ = false := hown.frozenAt _
    simp only [List.length_append, List.length_cons, List.length_nil, Nat.zero_add] at hown h3 hn
    have hg : decide ((0 : Int) < (q.length : Int) + 1) = true := decide_eq_true (by omega)
    have q1 : (q.length : Int) < (q.length : Int) + 1 := by omega
    have q0 : (0 : Int) ≤ (q.length : Int) := by omega
    by_cases hyl : y = last
    ·rw [if_pos hyl]
     have hb2 : (y == last) = true := by simpa using hyl
     clear hyl
     go_wp2
     go_quiet (fail)
     obtain ⟨w1, hw1⟩ : ∃ w1, w1 = w.drewN nq := ⟨_, rfl⟩
     rw [← hw1]
     have k3 : w1.cell? ⟨o, 0, none⟩ = some (.slice (some ⟨g, 0, none⟩) (q.length + 1) c) := by rw [hw1]; exact h3
     have k4 : w1.frozen? ⟨o, 0, none⟩ = false := by rw [hw1]; exact h4
     have k5 : w1.ownsRow B 141 2 (.slice (some ⟨g, 0, none⟩) (q.length + 1) c) (q.length + 1) ((q ++ [(x, y)]).flatMap encS) := by rw [hw1]; exact hown
     have k6 : w1.cell? ⟨g, q.length * 2 + 1, none⟩ = some (.int .i64 y) := by rw [hw1]; exact cy
     have k7 : w1.frozen? ⟨g, q.length * 2 + 1, none⟩ = false := by rw [hw1]; exact fy
     have kb : Upd o (some g) w w1 := by rw [hw1]; exact ⟨rfl, rfl, rfl, Nat.le_refl _, fun _ _ _ _ => rfl⟩
     have HF := hide (close_set (e := e) kb hoB hBg k3 k4 k5)
     clear hw1 h1 h2 h3 h4 hown cy fy k5 kb hg
     go_wp2
     go_end0
     exact ⟨rfl, HF.out⟩
    ·rw [if_neg hyl]
     have hb2 : (y == last) = false := by simpa using hyl
     clear hyl
     go_wp2
     go_quiet (fail)
     obtain ⟨w1, hw1⟩ : ∃ w1, w1 = w.drewN nq := ⟨_, rfl⟩
     rw [← hw1]
     have k2 : w1.cell? ⟨l, 0, none⟩ = some (.int .i64 last) := by rw [hw1]; exact h2
     have k3 : w1.cell? ⟨o, 0, none⟩ = some (.slice (some ⟨g, 0, none⟩) (q.length + 1) c) := by rw [hw1]; exact h3
     have k4 : w1.frozen? ⟨o, 0, none⟩ = false := by rw [hw1]; exact h4
     have k5 : w1.ownsRow B 141 2 (.slice (some ⟨g, 0, none⟩) (q.length + 1) c) (q.length + 1) ((q ++ [(x, y)]).flatMap encS) := by rw [hw1]; exact hown
     have kb : Upd o (some g) w w1 := by rw [hw1]; exact ⟨rfl, rfl, rfl, Nat.le_refl _, fun _ _ _ _ => rfl⟩
     have ks : B ≤ w1.heap.size := by rw [hw1]; exact hB
     clear hw1 h1 h2 h3 h4 hown hg cy fy
     go_wp2_with (at_builtin; refine wpList_append_lies _ rfl (.tmp 33) (.tmp 37) 136 rfl B 141 i0 (.agg #[.int .i64 0, .int .i64 0]) 2 16 Tryz.underlying136 hi hz0 hz1 hz2 rfl (by decide) _ _ _ rfl (k5.alloc _) ⟨w1.heap.size, 0, none⟩ 1 1 [.int .i64 last, .int .i64 e] rfl rfl (news_new w1 _ _ _ (by simp)) (ints_one rfl) (by omega) (by unfold maxLen; omega) (by omega) (by simp; omega) _ rfl ?_)
     intro g2 cap w2 hown2 hgrow _ _
     rw [show q.flatMap encS ++ (encS (x, y) ++ [.int .i64 last, .int .i64 e]) = (q ++ [(x, y)] ++ [(last, e)]).flatMap encS by simp [encS]] at hown2
     obtain ⟨c2, f2, HF⟩ := close_fin (out' := q ++ [(x, y)] ++ [(last, e)]) kb ks hoB k3 k4 _ hgrow (fun k h => (k5.lt k h).1) hown2 (by simp)
     clear hown2 hgrow k2 k3 k4 k5 kb
     go_wp2
     go_end0
     exact ⟨rfl, HF.out⟩
end Go.Proofs.YtikojiciilambaaGreat

/- span.join: the sweep over the ends of two lists. -/
namespace Go.Proofs.YtikojiciilambaaGreat
open Go.RowKit
set_option linter.unusedVariables false
set_option linter.unusedSimpArgs false
attribute [local go_sem] Oper.semAt_some
def ptr (b : Nat) : Value := .pointer (some ⟨b, 0, none⟩)
structure JW (N B : Nat) (fv : Value) (st : JS) (W : World) : Prop where
 fb : W.cell? ⟨N, 0, none⟩ = some fv
 o0 : W.cell? ⟨N + 1, 0, none⟩ = some (.int .i64 st.o0)
 o1 : W.cell? ⟨N + 1, 1, none⟩ = some (.int .i64 st.o1)
 f0 : W.frozen? ⟨N + 1, 0, none⟩ = false
 f1 : W.frozen? ⟨N + 1, 1, none⟩ = false
 out : ∃ vo, W.cell? ⟨N + 2, 0, none⟩ = some vo ∧ W.ownsRow B 141 2 vo st.out.length (st.out.flatMap encS)
 fo : W.frozen? ⟨N + 2, 0, none⟩ = false
 la : W.cell? ⟨N + 3, 0, none⟩ = some (.int .i64 st.last)
 fl : W.frozen? ⟨N + 3, 0, none⟩ = false
 inn : W.cell? ⟨N + 4, 0, none⟩ = some (.bool st.inn)
 fi : W.frozen? ⟨N + 4, 0, none⟩ = false
 cl : W.cell? ⟨N + 5, 0, none⟩ = some (.func (.func 187) #[] #[ptr (N + 4), ptr (N + 3), ptr (N + 2)])
 low : N + 6 ≤ B
 size : B ≤ W.heap.size
theorem JW.keep {N B : Nat} {fv : Value} {st : JS} {W W' : World} (h : JW N B fv st W) (hs : W.heap.size ≤ W'.heap.size) (hk : ∀ (k : Nat) (o : Obj), W.heap[k]? = some o → o.isCells = true → W'.heap[k]? = some o) : JW N B fv st W' := by
 have key : ∀ {b o v}, W.cell? ⟨b, o, none⟩ = some v → W'.heap[b]? = W.heap[b]? := fun {b o v} e => by
  obtain ⟨ob, h1, h2⟩ := cells_of_cell e
  exact (hk b ob h1 h2).trans h1.symm
 have hc : ∀ {b o v}, W.cell? ⟨b, o, none⟩ = some v → W'.cell? ⟨b, o, none⟩ = some v := fun {b o v} e => (World.cell?_of_block (w := W) (a := ⟨b, o, none⟩) (key e)).trans e
 have hf : ∀ {b o v}, W.cell? ⟨b, 0, none⟩ = some v → W.frozen? ⟨b, o, none⟩ = false → W'.frozen? ⟨b, o, none⟩ = false := fun {b o v} c e => (World.frozen?_of_block (w := W) (a := ⟨b, o, none⟩) (key c)).trans e
 obtain ⟨vo, ho, hr⟩ := h.out
 refine ⟨hc h.fb, hc h.o0, hc h.o1, hf h.o0 h.f0, hf h.o0 h.f1, ⟨vo, hc ho, ?_⟩, hf ho h.fo, hc h.la, hf h.la h.fl, hc h.inn, hf h.inn h.fi, hc h.cl, h.low, Nat.le_trans h.size hs⟩
 refine ⟨hr.1, ?_⟩
 rcases hr.2 with hn | ⟨g, cap, cur, rfl, hb, hg, rest⟩
 ·exact .inl hn
 ·exact .inr ⟨g, cap, cur, rfl, hb, hk g _ hg rfl, rest⟩
theorem JW.below {N B : Nat} {fv : Value} {st : JS} {W W' : World} (h : JW N B fv st W) (hb : Below W.heap.size W W') : JW N B fv st W' :=
 h.keep hb.size fun k o hk _ => (hb.block k (Array.getElem?_eq_some_iff.1 hk).1).trans hk
theorem sum_jfold (h : Bool → Bool → Bool) : ∀ (E : List En) (st : JS) (n : Int), (∀ e ∈ E, e.2.2 = 1 ∨ e.2.2 = -1) → -n ≤ st.o0 → st.o0 ≤ n → -n ≤ st.o1 → st.o1 ≤ n →
  -(n + E.length) ≤ (E.foldl (jstep h) st).o0 ∧ (E.foldl (jstep h) st).o0 ≤ n + E.length ∧ -(n + E.length) ≤ (E.foldl (jstep h) st).o1 ∧ (E.foldl (jstep h) st).o1 ≤ n + E.length
 | [], st, n, _, h1, h2, h3, h4 => by simp; omega
 | e :: E, st, n, hE, h1, h2, h3, h4 => by
  have he := hE e (by simp)
  have := sum_jfold h E (jstep h st e) (n + 1) (fun x hx => hE x (by simp [hx])) (by simp only [jstep]; split <;> omega) (by simp only [jstep]; split <;> omega) (by simp only [jstep]; split <;> omega) (by simp only [jstep]; split <;> omega)
  simp only [List.foldl_cons, List.length_cons, Int.natCast_add, Int.natCast_one]
  omega
theorem jfold_snoc (h : Bool → Bool → Bool) (P : List En) (e : En) : jfold h (P ++ [e]) = jstep h (jfold h P) e := by
 unfold jfold
 rw [List.foldl_append]; rfl
theorem jout_len (h : Bool → Bool → Bool) (P : List En) (st : JS) : (P.foldl (jstep h) st).out.length ≤ st.out.length + P.length := by
 induction P generalizing st with
 | nil => simp
 | cons e P ih =>
  have := ih (jstep h st e)
  have h2 : (jstep h st e).out.length ≤ st.out.length + 1 := by
   show (jclose st e.1).length ≤ _
   unfold jclose sext
   split
   ·split
    ·split
     ·rename_i q hq _
      obtain ⟨o, ho⟩ := List.getLast?_eq_some_iff.1 hq
      rw [ho]; simp
     ·simp
    ·simp
   ·omega
  simp only [List.foldl_cons, List.length_cons]
  omega
theorem JW.putObj {N B : Nat} {fv : Value} {st : JS} {W : World} (h : JW N B fv st W) {l : Nat} {o o' : Obj} (hl : W.heap[l]? = some o) (ho : o.isCells = false) : JW N B fv st (W.putObj l o') :=
 h.keep (by simp) fun k x hk hx => (World.putObj_heap_other (fun hkl => by subst hkl; rw [hl] at hk; injection hk with hk; subst hk; rw [ho] at hx; cases hx)).trans hk
theorem jw_fin {N B rb : Nat} {fv vo vo' : Value} {st st' : JS} {W0 A2 A3 A7 : World} {b0 : Nat} (J2 : JW N B fv st A2) (hb2 : Below N W0 A2) (hown : A2.ownsRow B 141 2 vo st.out.length (st.out.flatMap encS)) (ho : A2.cell? ⟨N + 2, 0, none⟩ = some vo)
  (U : Upd (N + 2) vo.ownBlock A2 A3) (p1 : A3.cell? ⟨N + 2, 0, none⟩ = some vo') (p2 : A3.frozen? ⟨N + 2, 0, none⟩ = false) (p3 : A3.ownsRow B 141 2 vo' st'.out.length (st'.out.flatMap encS))
  (E7 : A7.os = A3.os ∧ A7.tape = A3.tape ∧ A7.output = A3.output ∧ A7.heap.size = A3.heap.size) (C7 : ∀ k, k ≠ N + 1 → k ≠ N + 3 → k ≠ N + 4 → A7.heap[k]? = A3.heap[k]?) (F7 : ∀ p, A7.frozen? p = A3.frozen? p)
  (z0 : A7.cell? ⟨N + 1, 0, none⟩ = some (.int .i64 st'.o0)) (z1 : A7.cell? ⟨N + 1, 1, none⟩ = some (.int .i64 st'.o1)) (z3 : A7.cell? ⟨N + 3, 0, none⟩ = some (.int .i64 st'.last)) (z4 : A7.cell? ⟨N + 4, 0, none⟩ = some (.bool st'.inn))
  (h1 : N + 7 ≤ rb) (h2 : rb < B) : KeepsFrom B A2 A7 ∧ KpB rb A2 A7 ∧ JW N B fv st' A7 ∧ Below N W0 A7 := by
 have hlow := J2.low
 have hsz := J2.size
 have hrow : ∀ k, vo.ownBlock = some k → B ≤ k := fun k hk => (hown.lt k hk).1
 have hsame : ∀ k, k < A2.heap.size → k ≠ N + 1 → k ≠ N + 2 → k ≠ N + 3 → k ≠ N + 4 → vo.ownBlock ≠ some k → A7.heap[k]? = A2.heap[k]? := fun k a b c d e f => (C7 k b d e).trans (U.block k a c f)
 have hc : ∀ k o, k < B → k ≠ N + 1 → k ≠ N + 2 → k ≠ N + 3 → k ≠ N + 4 → A7.cell? ⟨k, o, none⟩ = A2.cell? ⟨k, o, none⟩ := fun k o a b c d e => World.cell?_of_block (w := A2) (a := ⟨k, o, none⟩) (hsame k (by omega) b c d e fun f => by have := hrow k f; omega)
 have hf : ∀ k o, k < B → k ≠ N + 2 → A7.frozen? ⟨k, o, none⟩ = A2.frozen? ⟨k, o, none⟩ := fun k o a b => (F7 _).trans (U.frozen (by omega) b fun f => by have := hrow k f; omega)
 refine ⟨⟨by rw [E7.2.2.2]; exact U.size, fun k o hk ho' hco => ?_⟩, fun o => hc rb o h2 (by omega) (by omega) (by omega) (by omega), ?_, ?_⟩
 ·have hk2 := (Array.getElem?_eq_some_iff.1 ho').1
  have hnr : vo.ownBlock ≠ some k := by
   intro f
   rcases hown.2 with ⟨rfl, _⟩ | ⟨g, cap, cur, rfl, _, hg, _⟩
   ·simp [Value.ownBlock] at f
   ·simp [Value.ownBlock] at f
    subst f
    rw [hg] at ho'
    injection ho' with ho'
    subst ho'
    cases hco
  exact (hsame k hk2 (by omega) (by omega) (by omega) (by omega) hnr).trans ho'
 ·refine ⟨(hc N 0 (by omega) (by omega) (by omega) (by omega) (by omega)).trans J2.fb, z0, z1, (hf _ _ (by omega) (by omega)).trans J2.f0, (hf _ _ (by omega) (by omega)).trans J2.f1, ⟨vo', ?_, ?_⟩, ?_, z3, (hf _ _ (by omega) (by omega)).trans J2.fl, z4, (hf _ _ (by omega) (by omega)).trans J2.fi, (hc (N + 5) 0 (by omega) (by omega) (by omega) (by omega) (by omega)).trans J2.cl, hlow, ?_⟩
  ·exact (World.cell?_of_block (w := A3) (a := ⟨N + 2, 0, none⟩) (C7 (N + 2) (by omega) (by omega) (by omega))).trans p1
  ·refine ⟨p3.1, ?_⟩
   rcases p3.2 with hn | ⟨g, cap, cur, hv, hg, hh, r⟩
   ·exact .inl hn
   ·exact .inr ⟨g, cap, cur, hv, hg, (C7 g (by omega) (by omega) (by omega)).trans hh, r⟩
  ·exact (F7 _).trans p2
  ·rw [E7.2.2.2]; exact Nat.le_trans hsz U.size
 ·refine ⟨(E7.1.trans U.os).trans hb2.os, (E7.2.1.trans U.tape).trans hb2.tape, (E7.2.2.1.trans U.output).trans hb2.output, ?_, fun k hk => ?_⟩
  ·rw [E7.2.2.2]; exact Nat.le_trans hb2.size U.size
  ·exact (hsame k (by omega) (by omega) (by omega) (by omega) (by omega) fun f => by have := hrow k f; omega).trans (hb2.block k hk)
set_option maxRecDepth 100000 in
set_option maxHeartbeats 2000000 in
theorem join_any (a b : List Sp) (va vb : Value) (w : World) (g : Nat) (h : Bool → Bool → Bool) (eg : ∀ args w, (callFunc g args).run Tryz.prog w = .ok (.enter g args) w) (hg : ∀ (x y : Bool) (W : World), Calls Tryz.prog g #[.bool x, .bool y] W fun e w' => e = .returned (.bool (h x y)) ∧ W = w')
    (ra : RdK encS 2 w w.heap.size va a) (rb : RdK encS 2 w w.heap.size vb b) (na : a.length ≤ 100000000) (nb : b.length ≤ 100000000) (ba : ∀ p ∈ a, validS p) (bb : ∀ p ∈ b, validS p) :
    Calls Tryz.prog 148 #[va, vb, .func (.func g) #[] #[]] w fun e w' => ∃ (E : List En) (v : Value), e = .returned v ∧ E.Perm (evs 0 a ++ evs 1 b) ∧ E.Pairwise (fun a b => a.1 ≤ b.1) ∧ Below w.heap.size w w' ∧
      w'.ownsRow w.heap.size 141 2 v (jfold h E).out.length ((jfold h E).out.flatMap encS) := by
  obtain ⟨A0, c0, hva, hra⟩ := ra
  obtain ⟨A1, c1, hvb, hrb⟩ := rb
  subst hva; subst hvb
  have RA : Hid (RdK encS 2 w w.heap.size (.slice A0 a.length c0) a) := hide ⟨_, _, rfl, hra⟩
  have RB : Hid (RdK encS 2 w w.heap.size (.slice A1 b.length c1) b) := hide ⟨_, _, rfl, hrb⟩
  clear hra hrb
  refine (callsIn_wide (n := 0)).1 ?_
  refine callsIn_of_wp_marks Tryz.func148 rfl trivial ?_
  simp only [Tryz.ntmps148, List.size_toArray, List.length_cons, List.length_nil, Nat.reduceAdd, Nat.reduceSub, Array.replicate_succ, Array.replicate_zero, List.push_toArray, List.append_toArray, List.nil_append, List.cons_append]
  refine wpIn_wide.2 ?_
  go_wp2_with (fail)
  obtain ⟨w1, hw1⟩ : ∃ w1, w1 = ((((((w.alloc (Obj.cells #[Value.func (Fn.func g) #[] #[]] 192)).alloc (Obj.cells #[Value.int IntKind.i64 0, Value.int IntKind.i64 0] 246)).alloc (Obj.cells #[Value.slice none 0 0] 136)).alloc (Obj.cells #[Value.int IntKind.i64 0] 3)).alloc (Obj.cells #[Value.bool false] 4)).alloc
     (Obj.cells #[.func (.func 187) #[] #[ptr (w.heap.size + 1 + 1 + 1 + 1), ptr (w.heap.size + 1 + 1 + 1), ptr (w.heap.size + 1 + 1)]] 247)).alloc (.cells #[.slice A0 a.length c0, .slice A1 b.length c1] 136) := ⟨_, rfl⟩
  have hb1 : Below w.heap.size w w1 := by
    rw [hw1]
    exact (((((((Below.refl _ w).alloc (Nat.le_refl _) _).alloc (by simp) _).alloc (by simp; omega) _).alloc (by simp; omega) _).alloc (by simp; omega) _).alloc (by simp; omega) _).alloc (by simp; omega) _
  have hs1 : w1.heap.size = w.heap.size + 7 := by rw [hw1]; simp
  have hJ : ∀ (B : Nat) (W : World), Below w1.heap.size w1 W → w.heap.size + 6 ≤ B → B ≤ W.heap.size → JW w.heap.size B (.func (.func g) #[] #[]) js0 W := by
    intro B W hb hB1 hB2
    have hc : ∀ b o, b < w.heap.size + 7 → W.cell? ⟨b, o, none⟩ = w1.cell? ⟨b, o, none⟩ := fun b o h => hb.cell (p := ⟨b, o, none⟩) (by show b < _; omega)
    have hf : ∀ b o, b < w.heap.size + 7 → W.frozen? ⟨b, o, none⟩ = w1.frozen? ⟨b, o, none⟩ := fun b o h => hb.frozen (p := ⟨b, o, none⟩) (by show b < _; omega)
    refine ⟨?_, ?_, ?_, ?_, ?_, ⟨.slice none 0 0, ?_, World.ownsRow_nil _ _ _ _⟩, ?_, ?_, ?_, ?_, ?_, ?_, hB1, hB2⟩
    all_goals first
      | (refine (hc _ _ (by omega)).trans ?_; rw [hw1]; simp [go_sem, js0, ptr]; done)
      | (refine (hf _ _ (by omega)).trans ?_; rw [hw1]; simp [go_sem]; done)
  have hL0 : w1.cell? ⟨w.heap.size + 6, 0, none⟩ = some (.slice A0 a.length c0) := by rw [hw1]; simp [go_sem]
  have hL1 : w1.cell? ⟨w.heap.size + 6, 1, none⟩ = some (.slice A1 b.length c1) := by rw [hw1]; simp [go_sem]
  have hends := ends_loop a b (w.heap.size + 6) 2 (.slice A0 a.length c0) (.slice A1 b.length c1) w1 (by omega) hL0 hL1 ((RA.out.below hb1).mono (by omega)) ((RB.out.below hb1).mono (by omega)) na nb ba bb
  have HJ := hide hJ
  clear hJ hL0 hL1 RA RB
  simp only [ptr] at hw1
  rw [← hw1]
  clear hw1
  refine hends.mono ?_
  rintro e wE ⟨E, Bx, rw', rfl, hp, hs, hbE, hr1, hr2, hit⟩
  go_wp2_with (fail)
  have HW : Hid (Below w.heap.size w wE) := hide (hb1.trans (hbE.mono (by omega)))
  have hsE : w.heap.size + 7 ≤ wE.heap.size := by have := hbE.size; omega
  have hJ0 := HJ.out wE.heap.size wE hbE (by omega) (Nat.le_refl _)
  have hEl : E.length ≤ 400000000 := by rw [hp.length_eq, List.length_append, evs_length, evs_length]; omega
  have hby : ∀ e ∈ E, (e.2.1 = 0 ∨ e.2.1 = 1) ∧ (e.2.2 = 1 ∨ e.2.2 = -1) := by
    intro e he
    rcases List.mem_append.1 (hp.mem_iff.1 he) with h1 | h1
    · obtain ⟨_, _, _, q1, q2⟩ := evs_mem h1
      exact ⟨.inl q1, q2⟩
    · obtain ⟨_, _, _, q1, q2⟩ := evs_mem h1
      exact ⟨.inr q1, q2⟩
  have HP : Hid (E.Perm (evs 0 a ++ evs 1 b) ∧ E.Pairwise (fun a b => a.1 ≤ b.1)) := hide ⟨hp, hs⟩
  have HG := hide hg
  clear HJ hb1 hbE hp hs hg na nb ba bb
  refine (wpIn_wide (n := 0)).1 ?_
  refine wp_range rfl (enters_of Tryz.func231 (by kernel_rfl) rfl) hit (Below.refl _ _) (fun x args A hx => by rw [hx]; rfl) KpB.trans ?_
    (fun pre W => JW w.heap.size wE.heap.size (.func (.func g) #[] #[]) (jfold h pre) W ∧ Below w.heap.size w W) (fun _ _ => False) ?_ ?_ (fun _ _ _ _ _ h => h.elim) ⟨hJ0, HW.out⟩ ?_ ?_ (fun _ _ _ _ h => h.elim)
  · intro A l o o' _ h1 h2 h3 off
    exact (cell_putObj h1 h2 h3 _).1
  · intro pre A B h1 hb
    exact ⟨h1.1.below hb, h1.2.trans (hb.mono h1.2.size)⟩
  · intro pre A l o o' h1 hl h2 h3 h4
    exact ⟨h1.1.putObj h2 h3, below_putObj h1.2 (by omega) _⟩
  · rintro l pre x args A ⟨hJA, hbA⟩ hpost rfl hl1 ⟨ol, hl2, hl3⟩
    obtain ⟨at', li, by'⟩ := x
    have hll : l < A.heap.size := (Array.getElem?_eq_some_iff.1 hl2).1
    obtain ⟨post, hpost⟩ := hpost
    have hlen : pre.length ≤ 400000000 := by rw [hpost, List.length_append] at hEl; omega
    have hbo := sum_jfold h pre js0 0 (fun e he => (hby e (by rw [hpost]; simp [he])).2) (by simp [js0]) (by simp [js0]) (by simp [js0]) (by simp [js0])
    have hol := jout_len h pre js0
    change _ ∧ _ ∧ _ ∧ _ at hbo
    have hxx := hby (at', li, by') (by rw [hpost]; simp)
    have HS := hide (jfold_snoc h pre (at', li, by'))
    change JW _ _ _ (pre.foldl (jstep h) js0) A at hJA
    change Hid (_ = jstep h (pre.foldl (jstep h) js0) _) at HS
    generalize pre.foldl (jstep h) js0 = st at *
    have hpl : (js0.out.length) = 0 := rfl
    rw [hpl] at hol
    clear hby hpost hJ0 HW hpl
    simp only [encE]
    gi_wp2
    refine ⟨KeepsFrom.of_below ((Below.refl _ _).alloc (Nat.le_refl _) _), fun o => World.cell?_alloc_lt A _ ⟨rw', o, none⟩ (by show rw' < _; omega), ?_⟩
    intro A2 g2 s2 e2 f2
    have c20 : A2.cell? ⟨A.heap.size, 0, none⟩ = some (.int .i64 at') := (e2 _).trans (by simp [go_sem])
    have c21 : A2.cell? ⟨A.heap.size, 1, none⟩ = some (.int .i64 li) := (e2 _).trans (by simp [go_sem])
    have c22 : A2.cell? ⟨A.heap.size, 2, none⟩ = some (.int .i64 by') := (e2 _).trans (by simp [go_sem])
    have s3 : A2.heap.size = A.heap.size + 1 := by rw [s2]; simp
    have J2 : JW w.heap.size wE.heap.size (.func (.func g) #[] #[]) st A2 :=
      (hJA.below ((Below.refl _ _).alloc (Nat.le_refl _) (.cells #[.int .i64 at', .int .i64 li, .int .i64 by'] 251))).keep (by omega) fun k o hk ho => (g2.block k (Array.getElem?_eq_some_iff.1 hk).1 (fun e => by
        injection e with e; subst e; rw [Below.heap_alloc _ _ _ hll, hl2] at hk; injection hk with hk; subst hk; rw [hl3] at ho; cases ho)).trans hk
    have hb2 : Below w.heap.size w A2 := (hbA.alloc (by omega) (.cells #[.int .i64 at', .int .i64 li, .int .i64 by'] 251)).grown g2 (by simp; omega) (fun k e => by injection e with e; omega)
    obtain ⟨vo, ho, hown⟩ := J2.out
    have hAE := hJA.size
    have hrow : ∀ k, vo.ownBlock = some k → wE.heap.size ≤ k ∧ k < A.heap.size := by
      intro k hk
      obtain ⟨v0, q1, q2⟩ := hJA.out
      have e : A2.cell? ⟨w.heap.size + 2, 0, none⟩ = A.cell? ⟨w.heap.size + 2, 0, none⟩ := (e2 _).trans (World.cell?_alloc_lt A _ ⟨w.heap.size + 2, 0, none⟩ (by show w.heap.size + 2 < A.heap.size; omega))
      rw [ho, q1] at e
      injection e with e
      subst e
      exact q2.lt k hk
    have hclose := close_any wE.heap.size (w.heap.size + 4) (w.heap.size + 3) (w.heap.size + 2) vo st.out st.last at' st.inn A2 J2.inn J2.la ho J2.fo (by omega) J2.size hown (by omega)
    have k5 := J2.cl
    have hAsz := hbA.size
    simp only [ptr] at k5
    have HN := hide hown
    have HO2 := hide ho
    clear e2 f2 g2 s2 hl2 hit hends hJA hbA hl3 ho hown
    simp only [Nat.add_assoc, Nat.reduceAdd]
    gi_wp2_with (first | (refine ⟨trivial, rfl, ?_⟩) | (gi_at_call 187; go_loud (refine (CallsIn.inRound l (callsIn_wide.2 hclose)).mono ?_); rintro e A3 ⟨rfl, vo', p1, p2, p3, U⟩))
    have uc : ∀ b o, b < A2.heap.size → b ≠ w.heap.size + 2 → (wE.heap.size ≤ b → A.heap.size ≤ b) → A3.cell? ⟨b, o, none⟩ = A2.cell? ⟨b, o, none⟩ := fun b o h1 h2 h3 => U.cell h1 h2 fun e => by have := hrow b e; omega
    have uf : ∀ b o, b < A2.heap.size → b ≠ w.heap.size + 2 → (wE.heap.size ≤ b → A.heap.size ≤ b) → A3.frozen? ⟨b, o, none⟩ = A2.frozen? ⟨b, o, none⟩ := fun b o h1 h2 h3 => U.frozen h1 h2 fun e => by have := hrow b e; omega
    have m20 := (uc A.heap.size 0 (by omega) (by omega) (by omega)).trans c20
    have m21 := (uc A.heap.size 1 (by omega) (by omega) (by omega)).trans c21
    have m22 := (uc A.heap.size 2 (by omega) (by omega) (by omega)).trans c22
    have mfb := (uc w.heap.size 0 (by omega) (by omega) (by omega)).trans J2.fb
    have mo0 := (uc (w.heap.size + 1) 0 (by omega) (by omega) (by omega)).trans J2.o0
    have mo1 := (uc (w.heap.size + 1) 1 (by omega) (by omega) (by omega)).trans J2.o1
    have mf0 := (uf (w.heap.size + 1) 0 (by omega) (by omega) (by omega)).trans J2.f0
    have mf1 := (uf (w.heap.size + 1) 1 (by omega) (by omega) (by omega)).trans J2.f1
    have mla := (uc (w.heap.size + 3) 0 (by omega) (by omega) (by omega)).trans J2.la
    have mfl := (uf (w.heap.size + 3) 0 (by omega) (by omega) (by omega)).trans J2.fl
    have min := (uc (w.heap.size + 4) 0 (by omega) (by omega) (by omega)).trans J2.inn
    have mfi := (uf (w.heap.size + 4) 0 (by omega) (by omega) (by omega)).trans J2.fi
    have UU := hide U
    have P3 := hide p3
    have P1 := hide p1
    have P2 := hide p2
    have HC := hide (And.intro uc uf)
    clear U p1 p2 p3 uc uf c20 c21 c22 k5 hclose
    obtain ⟨hli, hby2⟩ := hxx
    rcases hli with rfl | rfl
    · refine wpIn_region_tail_named 8 (by kernel_rfl) (by kernel_rfl) (by kernel_rfl) (fun a w h => h) ?_
      intro A4 hA4
      have n20 : A4.cell? ⟨A.heap.size, 0, none⟩ = some (.int .i64 at') := by rw [hA4]; exact m20
      have n21 : A4.cell? ⟨A.heap.size, 1, none⟩ = some (.int .i64 0) := by rw [hA4]; exact m21
      have n22 : A4.cell? ⟨A.heap.size, 2, none⟩ = some (.int .i64 by') := by rw [hA4]; exact m22
      have no : A4.cell? ⟨w.heap.size + 1, 0, none⟩ = some (.int .i64 st.o0) := by rw [hA4]; exact mo0
      have nf : A4.frozen? ⟨w.heap.size + 1, 0, none⟩ = false := by rw [hA4]; exact mf0
      have no' : A4.cell? ⟨w.heap.size + 1, 1, none⟩ = some (.int .i64 st.o1) := by rw [hA4]; exact mo1
      have nfb : A4.cell? ⟨w.heap.size, 0, none⟩ = some (.func (.func g) #[] #[]) := by rw [hA4]; exact mfb
      have nla : A4.cell? ⟨w.heap.size + 3, 0, none⟩ = some (.int .i64 st.last) := by rw [hA4]; exact mla
      have nin : A4.cell? ⟨w.heap.size + 4, 0, none⟩ = some (.bool st.inn) := by rw [hA4]; exact min
      have nfl : A4.frozen? ⟨w.heap.size + 3, 0, none⟩ = false := by rw [hA4]; exact mfl
      have nfi : A4.frozen? ⟨w.heap.size + 4, 0, none⟩ = false := by rw [hA4]; exact mfi
      have HA4 := hide hA4
      have HB := hide hb2
      have HJ := hide J2
      clear hA4 m20 m21 m22 mo0 mo1 mf0 mf1 mfb mla min mfl mfi hb2 J2
      have b1 : -9223372036854775808 ≤ st.o0 + by' := by omega
      have b2 : st.o0 + by' ≤ 9223372036854775807 := by omega
      simp only [List.take_succ_cons, List.take_zero, List.drop_succ_cons, List.drop_zero]
      repeat still_step
      refine wpStill_nil ?_
      go_wp2_with (fail)
      obtain ⟨z, hz⟩ : ∃ z, st.o0 + by' = z := ⟨_, rfl⟩
      rw [hz]
      have HZ := hide hz
      have q0 : A.heap.size ≠ w.heap.size + 1 := by omega
      refine wpIn_region_tail_named 10 (by kernel_rfl) (by kernel_rfl) (by kernel_rfl) (fun a w h => h) ?_
      intro A5 hA5
      have k20 : A5.cell? ⟨A.heap.size, 0, none⟩ = some (.int .i64 at') := by rw [hA5]; simp [go_sem, n20, q0]
      have ko : A5.cell? ⟨w.heap.size + 1, 0, none⟩ = some (.int .i64 z) := by rw [hA5]; simp [go_sem, no]
      have ko' : A5.cell? ⟨w.heap.size + 1, 1, none⟩ = some (.int .i64 st.o1) := by rw [hA5]; simp [go_sem, no']
      have kfb : A5.cell? ⟨w.heap.size, 0, none⟩ = some (.func (.func g) #[] #[]) := by rw [hA5]; simp [go_sem, nfb]
      have kla : A5.cell? ⟨w.heap.size + 3, 0, none⟩ = some (.int .i64 st.last) := by rw [hA5]; simp [go_sem, nla]
      have kin : A5.cell? ⟨w.heap.size + 4, 0, none⟩ = some (.bool st.inn) := by rw [hA5]; simp [go_sem, nin]
      have kfl : A5.frozen? ⟨w.heap.size + 3, 0, none⟩ = false := by rw [hA5]; simp [go_sem, nfl]
      have kfi : A5.frozen? ⟨w.heap.size + 4, 0, none⟩ = false := by rw [hA5]; simp [go_sem, nfi]
      have HA5 := hide hA5
      clear hA5 n20 n21 n22 no nf no' nfb nla nin nfl nfi b1 b2 hz
      simp only [List.take_succ_cons, List.take_zero, List.drop_succ_cons, List.drop_zero]
      repeat still_step
      still_call ((HG.out _ _ _).mono fun _ _ q => ⟨q.1, q.2.symm⟩)
      refine wpStill_nil ?_
      go_wp2_with (fail)
      have hst : jstep h st (at', 0, by') = ⟨z, st.o1, jcl st.inn st.last st.out at', at', h (decide ((0 : Int) < z)) (decide ((0 : Int) < st.o1))⟩ := by
        have := HZ.out
        subst this
        rfl
      have hA5 := HA5.out
      have hA4 := HA4.out
      clear HA5 HA4 HZ
      refine ?fin
      case fin =>
        have R := jw_fin (rb := rw') (A7 := (A5.setCell ⟨w.heap.size + 3, 0, none⟩ (.int .i64 at')).setCell ⟨w.heap.size + 4, 0, none⟩ (.bool (h (decide ((0 : Int) < z)) (decide ((0 : Int) < st.o1))))) (st' := jstep h st (at', 0, by')) (b0 := 0) HJ.out HB.out HN.out HO2.out UU.out P1.out P2.out
          (by rw [hst]; exact P3.out) (by rw [hA5, hA4]; exact ⟨rfl, rfl, rfl, by simp [World.setCell]⟩)
          (fun k k1 k3 k4 => (Below.heap_setCell _ _ _ _ k4).trans ((Below.heap_setCell _ _ _ _ k3).trans (by rw [hA5, hA4]; exact Below.heap_setCell _ _ _ _ k1)))
          (fun p => by rw [hA5, hA4]; simp [go_sem]) (by rw [hst]; simp [go_sem, ko, ko']) (by rw [hst]; simp [go_sem, ko, ko']) (by rw [hst]; simp [go_sem, kla]) (by rw [hst]; simp [go_sem, kin]) (by omega) hr2
        exact ⟨R.1, R.2.1, by rw [HS.out]; exact R.2.2.1, R.2.2.2⟩
    · refine wpIn_region_tail_named 8 (by kernel_rfl) (by kernel_rfl) (by kernel_rfl) (fun a w h => h) ?_
      intro A4 hA4
      have n20 : A4.cell? ⟨A.heap.size, 0, none⟩ = some (.int .i64 at') := by rw [hA4]; exact m20
      have n21 : A4.cell? ⟨A.heap.size, 1, none⟩ = some (.int .i64 1) := by rw [hA4]; exact m21
      have n22 : A4.cell? ⟨A.heap.size, 2, none⟩ = some (.int .i64 by') := by rw [hA4]; exact m22
      have no : A4.cell? ⟨w.heap.size + 1, 1, none⟩ = some (.int .i64 st.o1) := by rw [hA4]; exact mo1
      have nf : A4.frozen? ⟨w.heap.size + 1, 1, none⟩ = false := by rw [hA4]; exact mf1
      have no' : A4.cell? ⟨w.heap.size + 1, 0, none⟩ = some (.int .i64 st.o0) := by rw [hA4]; exact mo0
      have nfb : A4.cell? ⟨w.heap.size, 0, none⟩ = some (.func (.func g) #[] #[]) := by rw [hA4]; exact mfb
      have nla : A4.cell? ⟨w.heap.size + 3, 0, none⟩ = some (.int .i64 st.last) := by rw [hA4]; exact mla
      have nin : A4.cell? ⟨w.heap.size + 4, 0, none⟩ = some (.bool st.inn) := by rw [hA4]; exact min
      have nfl : A4.frozen? ⟨w.heap.size + 3, 0, none⟩ = false := by rw [hA4]; exact mfl
      have nfi : A4.frozen? ⟨w.heap.size + 4, 0, none⟩ = false := by rw [hA4]; exact mfi
      have HA4 := hide hA4
      have HB := hide hb2
      have HJ := hide J2
      clear hA4 m20 m21 m22 mo0 mo1 mf0 mf1 mfb mla min mfl mfi hb2 J2
      have b1 : -9223372036854775808 ≤ st.o1 + by' := by omega
      have b2 : st.o1 + by' ≤ 9223372036854775807 := by omega
      simp only [List.take_succ_cons, List.take_zero, List.drop_succ_cons, List.drop_zero]
      repeat still_step
      refine wpStill_nil ?_
      go_wp2_with (fail)
      obtain ⟨z, hz⟩ : ∃ z, st.o1 + by' = z := ⟨_, rfl⟩
      rw [hz]
      have HZ := hide hz
      have q0 : A.heap.size ≠ w.heap.size + 1 := by omega
      refine wpIn_region_tail_named 10 (by kernel_rfl) (by kernel_rfl) (by kernel_rfl) (fun a w h => h) ?_
      intro A5 hA5
      have k20 : A5.cell? ⟨A.heap.size, 0, none⟩ = some (.int .i64 at') := by rw [hA5]; simp [go_sem, n20, q0]
      have ko : A5.cell? ⟨w.heap.size + 1, 1, none⟩ = some (.int .i64 z) := by rw [hA5]; simp [go_sem, no]
      have ko' : A5.cell? ⟨w.heap.size + 1, 0, none⟩ = some (.int .i64 st.o0) := by rw [hA5]; simp [go_sem, no']
      have kfb : A5.cell? ⟨w.heap.size, 0, none⟩ = some (.func (.func g) #[] #[]) := by rw [hA5]; simp [go_sem, nfb]
      have kla : A5.cell? ⟨w.heap.size + 3, 0, none⟩ = some (.int .i64 st.last) := by rw [hA5]; simp [go_sem, nla]
      have kin : A5.cell? ⟨w.heap.size + 4, 0, none⟩ = some (.bool st.inn) := by rw [hA5]; simp [go_sem, nin]
      have kfl : A5.frozen? ⟨w.heap.size + 3, 0, none⟩ = false := by rw [hA5]; simp [go_sem, nfl]
      have kfi : A5.frozen? ⟨w.heap.size + 4, 0, none⟩ = false := by rw [hA5]; simp [go_sem, nfi]
      have HA5 := hide hA5
      clear hA5 n20 n21 n22 no nf no' nfb nla nin nfl nfi b1 b2 hz
      simp only [List.take_succ_cons, List.take_zero, List.drop_succ_cons, List.drop_zero]
      repeat still_step
      still_call ((HG.out _ _ _).mono fun _ _ q => ⟨q.1, q.2.symm⟩)
      refine wpStill_nil ?_
      go_wp2_with (fail)
      have hst : jstep h st (at', 1, by') = ⟨st.o0, z, jcl st.inn st.last st.out at', at', h (decide ((0 : Int) < st.o0)) (decide ((0 : Int) < z))⟩ := by
        have := HZ.out
        subst this
        rfl
      have hA5 := HA5.out
      have hA4 := HA4.out
      clear HA5 HA4 HZ
      refine ?fin
      case fin =>
        have R := jw_fin (rb := rw') (A7 := (A5.setCell ⟨w.heap.size + 3, 0, none⟩ (.int .i64 at')).setCell ⟨w.heap.size + 4, 0, none⟩ (.bool (h (decide ((0 : Int) < st.o0)) (decide ((0 : Int) < z))))) (st' := jstep h st (at', 1, by')) (b0 := 0) HJ.out HB.out HN.out HO2.out UU.out P1.out P2.out
          (by rw [hst]; exact P3.out) (by rw [hA5, hA4]; exact ⟨rfl, rfl, rfl, by simp [World.setCell]⟩)
          (fun k k1 k3 k4 => (Below.heap_setCell _ _ _ _ k4).trans ((Below.heap_setCell _ _ _ _ k3).trans (by rw [hA5, hA4]; exact Below.heap_setCell _ _ _ _ k1)))
          (fun p => by rw [hA5, hA4]; simp [go_sem]) (by rw [hst]; simp [go_sem, ko, ko']) (by rw [hst]; simp [go_sem, ko, ko']) (by rw [hst]; simp [go_sem, kla]) (by rw [hst]; simp [go_sem, kin]) (by omega) hr2
        exact ⟨R.1, R.2.1, by rw [HS.out]; exact R.2.2.1, R.2.2.2⟩
  · rintro D W hD ⟨hJW, hbW⟩ hK
    obtain ⟨vo, ho, hown⟩ := hJW.out
    obtain ⟨Av, cv, hv, _⟩ := own_rd hown (fun _ => rfl)
    subst hv
    have HO := hide hown
    have HB := hide hbW
    clear hown hbW hJW
    simp only [Exit.inBlock, Exit.then]
    go_wp2_with (fail)
    refine ⟨by simp, .inl ⟨_, _, rfl, run_takeDeferred hK, ?_⟩⟩
    refine ⟨_, results_tmp rfl _ _ _, E, _, rfl, HP.out.1, HP.out.2, below_putObj HB.out (by omega) _, ?_⟩
    exact own_base (own_putObj HO.out hK rfl) (by omega)
end Go.Proofs.YtikojiciilambaaGreat

/- slices.IndexFunc and slices.ContainsFunc at the program's structs. -/
namespace Go.Proofs.YtikojiciilambaaGreat
open Go.RowKit Go.Shelf
set_option linter.unusedVariables false
set_option linter.unusedSimpArgs false
set_option maxHeartbeats 1000000 in
theorem cfSpan_idx {w : World} {v : Value} {l : List Sp} (h : RdK encS 2 w w.heap.size v l) (hl : l.length ≤ 1000000000) (g : Nat) (lb : Array Value) (p : Sp → Bool)
  (eg : ∀ args w, (callFunc g args).run Tryz.prog w = .ok (.enter g args) w)
  (hp : ∀ (W : World) (x : Sp), x ∈ l → Below w.heap.size w W → Calls Tryz.prog g (#[.agg (encS x).toArray] ++ lb) W fun e w' => e = .returned (.bool (p x)) ∧ Below W.heap.size W w') :
  Calls Tryz.prog 186 #[v, .func (.func g) #[] lb] w fun e w' => e = .returned (.int .i64 (idxI p l)) ∧ Below w.heap.size w w' := by
 obtain ⟨A, c, rfl, hc⟩ := h
 go_enter Tryz.func186, Tryz.ntmps186
 go_wp2
 go_loopg [5, 8] l.length (fun gg _ s8 wr => ∃ kk : Nat, kk ≤ l.length ∧ l.length - kk ≤ gg ∧ s8 = .int .i64 kk ∧ Hid (Below w.heap.size w wr) ∧ Hid (∀ x ∈ l.take kk, p x = false))
 case atStart => exact ⟨0, Nat.zero_le _, by omega, rfl, hide (Below.refl _ w), hide (by simp)⟩
 case round =>
  obtain ⟨kk, hkk, hg, rfl, BW, A'⟩ := hrel
  by_cases hlt : kk < l.length
  ·have hltz : (kk : Int) < (l.length : Int) := by omega
   obtain ⟨b, off, rfl, hb, hcell⟩ := hc (by intro e; rw [e] at hlt; simp at hlt)
   have hx : l[kk]? = some l[kk] := List.getElem?_eq_getElem hlt
   have hcall := hp wr l[kk] (List.getElem_mem hlt) BW.out
   have hfi : l.take (kk + 1) = l.take kk ++ [l[kk]] := List.take_succ_eq_append_getElem hlt
   have c0 : wr.cell? ⟨b, off + kk * 2, none⟩ = some (.int .i64 l[kk].1) := (BW.out.cell (p := ⟨b, off + kk * 2, none⟩) hb).trans (hcell kk _ hx 0 _ rfl)
   have c1 : wr.cell? ⟨b, off + kk * 2 + 1, none⟩ = some (.int .i64 l[kk].2) := (BW.out.cell (p := ⟨b, off + kk * 2 + 1, none⟩) hb).trans (hcell kk _ hx 1 _ rfl)
   clear hc hcell hp
   obtain ⟨x, hxe⟩ : ∃ x, l[kk] = x := ⟨_, rfl⟩
   have XE := hide hxe
   have FI := hide hfi
   rw [hxe] at hcall c0 c1
   clear hx hxe hfi
   cases hq : p x with
   | true =>
    have HQ := hide hq
    rw [hq] at hcall
    clear hq
    go_wp2_with (go_at_fn g; refine hcall.mono ?_; rintro e w' ⟨rfl, hb'⟩)
    go_ret
    refine ⟨ret_eq (int_eq ?_), BW.out.trans (hb'.mono BW.out.size)⟩
    have hxl : p l[kk] = true := by rw [XE.out]; exact HQ.out
    unfold idxI
    rw [if_pos (List.any_eq_true.2 ⟨l[kk], List.getElem_mem hlt, hxl⟩)]
    have : l.findIdx p = kk := by
     rw [List.findIdx_eq hlt]
     refine ⟨hxl, fun j hj => ?_⟩
     have := A'.out l[j] (by rw [List.mem_take_iff_getElem]; exact ⟨j, by omega, rfl⟩)
     simpa using this
    rw [this]
   | false =>
    have HQ := hide hq
    rw [hq] at hcall
    clear hq
    go_wp2_with (go_at_fn g; refine hcall.mono ?_; rintro e w' ⟨rfl, hb'⟩)
    go_roundg (l.length - (kk + 1))
    case measure => omega
    case rel =>
     refine ⟨kk + 1, by omega, by omega, by go_num, hide (BW.out.trans (hb'.mono BW.out.size)), hide fun y hy => ?_⟩
     rw [FI.out, List.mem_append] at hy
     rcases hy with hy | hy
     ·exact A'.out y hy
     ·simp only [List.mem_singleton] at hy
      rw [hy, XE.out]; exact HQ.out
  ·have hltz : ¬ (kk : Int) < (l.length : Int) := by omega
   have hk : kk = l.length := by omega
   go_wp2
   go_ret
   refine ⟨ret_eq (int_eq ?_), BW.out⟩
   have hA := A'.out
   rw [hk, List.take_length] at hA
   unfold idxI
   rw [if_neg (by rw [List.any_eq_true]; rintro ⟨y, hy, hpy⟩; rw [hA y hy] at hpy; cases hpy)]
set_option maxHeartbeats 400000 in
theorem cfSpan_any {w : World} {v : Value} {l : List Sp} (h : RdK encS 2 w w.heap.size v l) (hl : l.length ≤ 1000000000) (g : Nat) (lb : Array Value) (p : Sp → Bool)
  (eg : ∀ args w, (callFunc g args).run Tryz.prog w = .ok (.enter g args) w)
  (hp : ∀ (W : World) (x : Sp), x ∈ l → Below w.heap.size w W → Calls Tryz.prog g (#[.agg (encS x).toArray] ++ lb) W fun e w' => e = .returned (.bool (p x)) ∧ Below W.heap.size W w') :
  Calls Tryz.prog 145 #[v, .func (.func g) #[] lb] w fun e w' => e = .returned (.bool (l.any p)) ∧ Below w.heap.size w w' := by
 have hi := cfSpan_idx h hl g lb p eg hp
 obtain ⟨A, c, rfl, hc⟩ := h
 clear hp hc eg
 cases ha : l.any p with
 | true =>
  simp only [idxI, ha, if_true] at hi
  clear ha
  obtain ⟨n, hn⟩ : ∃ n, l.findIdx p = n := ⟨_, rfl⟩
  rw [hn] at hi
  clear hn
  have hn0 : decide ((0 : Int) ≤ (n : Int)) = true := by simp
  go_enter Tryz.func145, Tryz.ntmps145
  go_wp2_with (go_at_call 186; refine hi.mono ?_; rintro e w1 ⟨rfl, hb1⟩)
  go_ret
  exact ⟨rfl, hb1⟩
 | false =>
  simp only [idxI, ha, Bool.false_eq_true, if_false] at hi
  clear ha
  go_enter Tryz.func145, Tryz.ntmps145
  go_wp2_with (go_at_call 186; refine hi.mono ?_; rintro e w1 ⟨rfl, hb1⟩)
  go_ret
  exact ⟨rfl, hb1⟩
end Go.Proofs.YtikojiciilambaaGreat

/- span.Make, span.Check, span.Union .. by their contracts, at lists in range. -/
namespace Go.Proofs.YtikojiciilambaaGreat
open Go.RowKit
set_option linter.unusedVariables false
set_option linter.unusedSimpArgs false
theorem sjoin_any (a b : List Sp) (va vb : Value) (w : World) (g : Nat) (h : Bool → Bool → Bool) (h0 : h false false = false) (eg : ∀ args w, (callFunc g args).run Tryz.prog w = .ok (.enter g args) w)
  (hg : ∀ (x y : Bool) (W : World), Calls Tryz.prog g #[.bool x, .bool y] W fun e w' => e = .returned (.bool (h x y)) ∧ W = w')
  (ra : RdK encS 2 w w.heap.size va a) (rb : RdK encS 2 w w.heap.size vb b) (na : a.length ≤ 100000000) (nb : b.length ≤ 100000000) (ba : ∀ p ∈ a, validS p) (bb : ∀ p ∈ b, validS p) :
  Calls Tryz.prog 148 #[va, vb, .func (.func g) #[] #[]] w fun e w' => ∃ A c, e = .returned (.slice A (sjoin h a b).length c) ∧ w'.ownsRow w.heap.size 141 2 (.slice A (sjoin h a b).length c) (sjoin h a b).length ((sjoin h a b).flatMap encS) ∧ Below w.heap.size w w' := by
 refine (join_any a b va vb w g h eg hg ra rb na nb ba bb).mono ?_
 rintro e w' ⟨E, v, rfl, hp, hs, hb, ho⟩
 obtain ⟨j1, j2⟩ := jfold_ok (h := h) h0 (fun p hp => (ba p hp).1) (fun p hp => (bb p hp).1) hp hs
 have e := sjoin_eq h0 (fun p hp => (ba p hp).1) (fun p hp => (bb p hp).1) j1 j2
 rw [e] at ho
 obtain ⟨A, c, rfl, hc⟩ := own_rd ho (fun _ => rfl)
 exact ⟨A, c, rfl, ho, hb⟩
def hSub (a b : Bool) : Bool := a && !b
def hFst (a b : Bool) : Bool := a
theorem fst_any (x y : Bool) (W : World) : Calls Tryz.prog 149 #[.bool x, .bool y] W fun e w' => e = .returned (.bool (hFst x y)) ∧ W = w' := by
 go_enter Tryz.func149, Tryz.ntmps149
 go_wp2
 go_ret
 exact ⟨rfl, rfl⟩
theorem spInv_any (p : Sp) (w : World) :
  Calls Tryz.prog 146 #[.agg (encS p).toArray] w fun e w' => e = .returned (.bool (!decide (validS p))) ∧ Below w.heap.size w w' := by
 have hv := fun W => validS_any p W
 obtain ⟨a, b⟩ := p
 generalize decide (validS (a, b)) = r at hv ⊢
 show Calls Tryz.prog 146 #[.agg #[.int .i64 a, .int .i64 b]] w _
 change ∀ W, Calls Tryz.prog 147 #[.agg #[.int .i64 a, .int .i64 b]] W _ at hv
 go_enter Tryz.func146, Tryz.ntmps146
 go_wp2_with (go_at_call 147; refine (hv _).mono ?_; rintro e w1 ⟨rfl, hb⟩)
 go_ret
 exact ⟨rfl, ((Below.refl _ _).alloc (Nat.le_refl _) _).trans (hb.mono (by simp))⟩
theorem enter_fst : ∀ args w, (callFunc 149 args).run Tryz.prog w = .ok (.enter 149 args) w := enters_of Tryz.func149 (by kernel_rfl) rfl
theorem enter_spInv : ∀ args w, (callFunc 146 args).run Tryz.prog w = .ok (.enter 146 args) w := enters_of Tryz.func146 (by kernel_rfl) rfl
set_option maxHeartbeats 1000000 in
theorem spanMake_ok {w : World} {v : Value} {l : List Sp} (hr : RdK encS 2 w w.heap.size v l) (hl : l.length ≤ 400) (hv : ∀ p ∈ l, validS p) :
  Calls Tryz.prog 100 #[v] w fun e w' => ∃ A c, e = .returned (.tuple #[.slice A (sjoin hFst l []).length c, .int .i64 0]) ∧ w'.ownsRow w.heap.size 141 2 (.slice A (sjoin hFst l []).length c) (sjoin hFst l []).length ((sjoin hFst l []).flatMap encS) ∧ Below w.heap.size w w' := by
 have hcf := cfSpan_any hr (by omega) 146 #[] (fun p => !decide (validS p)) enter_spInv (fun W x _ _ => spInv_any x W)
 have hany : l.any (fun p => !decide (validS p)) = false := by
  rw [List.any_eq_false]
  intro p hp
  simp [hv p hp]
 rw [hany] at hcf
 have hj := fun (W : World) (hb : Below w.heap.size w W) => sjoin_any l [] v (.slice none 0 0) W 149 hFst rfl enter_fst fst_any ((hr.below hb).mono hb.size) (RdK.nil none 0) (by omega) (by simp) hv (by simp)
 obtain ⟨A, c, rfl, _⟩ := hr
 have HCF := hide hcf
 have HJ := hide hj
 clear hcf hj hv hany
 generalize sjoin hFst l [] = r at *
 have hlz : (l.length : Int) ≤ 400 := by omega
 go_enter Tryz.func100, Tryz.ntmps100
 go_wp2_with (first
  | (go_at_call 145; refine HCF.out.mono ?_; rintro e w1 ⟨rfl, hb1⟩)
  | (go_at_call 148; refine (HJ.out _ hb1).mono ?_; rintro e w2 ⟨A2, c2, rfl, hr2, hb2⟩))
 go_ret2
 exact ⟨A2, c2, rfl, own_base hr2 hb1.size, hb1.trans (hb2.mono hb1.size)⟩
end Go.Proofs.YtikojiciilambaaGreat

/- Plain law: what region.made computes. -/
namespace Go.Proofs.YtikojiciilambaaGreat
set_option linter.unusedVariables false
set_option linter.unusedSimpArgs false
theorem flat1_len (a : Slab) : (flat1 a).length = a.s.length := by simp [flat1]
theorem addS_len (S : List Slab) (f t : Int) (s : List Sp) : (flat (addS S f t s)).length ≤ (flat S).length + s.length := by
 unfold addS
 by_cases h0 : s = []
 ·rw [if_pos h0]; omega
 rw [if_neg h0]
 cases hg : S.getLast? with
 | none => simp only [flat_one, flat1_len]; omega
 | some a =>
  obtain ⟨o, rfl⟩ := List.getLast?_eq_some_iff.1 hg
  simp only [List.dropLast_concat]
  split
  ·rename_i hb
   rw [flat_append, flat_append, flat_one, flat_one, List.length_append, List.length_append, flat1_len, flat1_len]
   show _ + s.length ≤ _
   omega
  ·rw [flat_append, flat_one, List.length_append, flat1_len]
   show _ + s.length ≤ _
   omega
def swp (g : Int → List Sp) (ps : List (Int × Int)) : List Slab := ps.foldl (fun S p => addS S p.1 p.2 (g p.1)) []
theorem swp_snoc (g : Int → List Sp) (ps : List (Int × Int)) (x : Int × Int) : swp g (ps ++ [x]) = addS (swp g ps) x.1 x.2 (g x.1) := by simp [swp]
theorem swp_len_from (g : Int → List Sp) (m : Nat) (hg : ∀ c, (g c).length ≤ m) : ∀ (ps : List (Int × Int)) (S : List Slab), (flat (ps.foldl (fun S p => addS S p.1 p.2 (g p.1)) S)).length ≤ (flat S).length + ps.length * m
 | [], S => by simp
 | p :: ps, S => by
  have h1 := swp_len_from g m hg ps (addS S p.1 p.2 (g p.1))
  have h2 := addS_len S p.1 p.2 (g p.1)
  have h3 := hg p.1
  simp only [List.foldl_cons, List.length_cons, Nat.add_mul]
  omega
theorem swp_len (g : Int → List Sp) (m : Nat) (hg : ∀ c, (g c).length ≤ m) (ps : List (Int × Int)) : (flat (swp g ps)).length ≤ ps.length * m := by
 have := swp_len_from g m hg ps []
 simpa [swp, flat] using this
theorem swp_sweep (g : Int → List Sp) (cs : List Int) : swp g (prs cs) = sweep g [] cs := (sweep_prs g cs []).symm
theorem sjoin_len (h : Bool → Bool → Bool) (a b : List Sp) : (sjoin h a b).length ≤ 2 * a.length + 2 * b.length := by
 have h1 := jout_len h (isort (evs 0 a ++ evs 1 b)) js0
 have h2 := (isort_perm (evs 0 a ++ evs 1 b)).length_eq
 rw [List.length_append, evs_length, evs_length] at h2
 have h3 : js0.out.length = 0 := rfl
 unfold sjoin jfold
 omega
theorem crossL_len (l : List R4) (c : Int) : (crossL l c).length ≤ l.length := by
 unfold crossL
 rw [List.length_map]
 exact List.length_filter_le _ _
theorem prs_next : ∀ (cs : List Int) (pre : List (Int × Int)) (x : Int × Int) (post : List (Int × Int)), prs cs = pre ++ x :: post → (∀ p, pre.getLast? = some p → p.2 = x.1)
 | [], pre, x, post, h => by
  simp [prs] at h
 | [_], pre, x, post, h => by
  simp [prs] at h
 | c :: d :: r, [], x, post, h => by
  simp
 | c :: d :: r, q :: pre, x, post, h => by
  simp only [prs, List.cons_append, List.cons.injEq] at h
  obtain ⟨h1, h2⟩ := h
  intro p hp
  cases pre with
  | nil =>
   simp at hp
   subst hp
   subst h1
   cases r with
   | nil => simp [prs] at h2
   | cons e r =>
    simp only [prs, List.nil_append, List.cons.injEq] at h2
    rw [← h2.1]
  | cons q' pre => exact prs_next (d :: r) (q' :: pre) x post h2 p (by simpa [List.getLast?_cons_cons] using hp)
theorem prs_lt : ∀ (cs : List Int), cs.Pairwise (· < ·) → ∀ x ∈ prs cs, x.1 < x.2 ∧ x.1 ∈ cs
  | [], _, x, h => by simp [prs] at h
  | [_], _, x, h => by simp [prs] at h
  | c :: d :: r, hs, x, h => by
    simp only [prs, List.mem_cons] at h
    rcases h with rfl | h
    · exact ⟨(List.pairwise_cons.1 hs).1 d (by simp), by simp⟩
    · have := prs_lt (d :: r) (List.pairwise_cons.1 hs).2 x h
      exact ⟨this.1, by simp only [List.mem_cons] at this ⊢; exact .inr this.2⟩
theorem swp_join {h : Bool → Bool → Bool} (h0 : h false false = false) {a b : List R4} (ha : ∀ r ∈ a, wf4 r) (hb : ∀ r ∈ b, wf4 r) {cs : List Int} (hs : cs.Pairwise (· < ·)) (hca : ∀ c ∈ cutsL a, c ∈ cs) (hcb : ∀ c ∈ cutsL b, c ∈ cs) :
    flat (swp (fun c => sjoin h (crossL a c) (crossL b c)) (prs cs)) = rjoin h a b := by
  rw [swp_sweep]
  obtain ⟨h1, h2⟩ := sweep_join (g := fun c => sjoin h (crossL a c) (crossL b c)) h0 hs hca hcb (fun c _ => sjoin_ok h0 (crossL_wf ha c) (crossL_wf hb c))
  exact rjoin_eq h0 ha hb h1 h2
def madeF (l : List R4) : List R4 × Int := if 400 < (rjoin hFst l []).length then ([], 4) else (rjoin hFst l [], 0)
end Go.Proofs.YtikojiciilambaaGreat
