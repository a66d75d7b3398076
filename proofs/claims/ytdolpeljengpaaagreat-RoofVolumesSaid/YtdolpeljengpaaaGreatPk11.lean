/- Texts laid together: DelR, RdLit, OffG, OffI, SlabB, MixTwo. Lemmas for the statements of this seat; no condition. -/
import Derived.Test.YtdolpeljengpaaaGreatPk4
import Derived.Test.YtdolpeljengpaaaGreatPk5
import Derived.Lib.SliceRun
import Derived.Test.YtdolpeljengpaaaGreatPk1
import Derived.Test.YtdolpeljengpaaaGreatPk10
import Derived.Test.YtdolpeljengpaaaGreatPk3
import Derived.Test.YtdolpeljengpaaaGreatPk2

/- slices.DeleteFunc at []Rect, on a row of the call's own; and a rectangle stored in its place. -/
namespace Go.Proofs.YtdolpeljengpaaaGreat
open Go.RowKit
set_option linter.unusedVariables false
set_option linter.unusedSimpArgs false

theorem flat_set4 (r : R4) : ∀ (l : List R4) (k : Nat), k < l.length → ((((l.flatMap encR).set (k * 4) (.int .i64 r.x0)).set (k * 4 + 1) (.int .i64 r.y0)).set (k * 4 + 2) (.int .i64 r.x1)).set (k * 4 + 3) (.int .i64 r.y1) = (l.set k r).flatMap encR
  | [], k, h => by simp at h
  | a :: l, 0, _ => rfl
  | a :: l, k + 1, h => by
    have ih := flat_set4 r l k (by simpa using h)
    rw [List.set_cons_succ, List.flatMap_cons, List.flatMap_cons, ← ih]
    have hl : (encR a).length = 4 := rfl
    rw [List.set_append_right _ _ (by rw [hl]; omega), List.set_append_right _ _ (by rw [hl]; omega), List.set_append_right _ _ (by rw [hl]; omega), List.set_append_right _ _ (by rw [hl]; omega)]
    rw [hl, show (k + 1) * 4 - 4 = k * 4 by omega, show (k + 1) * 4 + 1 - 4 = k * 4 + 1 by omega, show (k + 1) * 4 + 2 - 4 = k * 4 + 2 by omega, show (k + 1) * 4 + 3 - 4 = k * 4 + 3 by omega]
/-- A rectangle stored in its place. -/
theorem own_set4 {w : World} {B g n cap : Nat} {l : List R4} (h : w.ownsRow B 69 4 (.slice (some ⟨g, 0, none⟩) n cap) n (l.flatMap encR)) {k : Nat} (hk : k < l.length) (a b c d : Int) :
    ((((w.setCell ⟨g, k * 4, none⟩ (.int .i64 a)).setCell ⟨g, k * 4 + 1, none⟩ (.int .i64 b)).setCell ⟨g, k * 4 + 2, none⟩ (.int .i64 c)).setCell ⟨g, k * 4 + 3, none⟩ (.int .i64 d)).ownsRow B 69 4 (.slice (some ⟨g, 0, none⟩) n cap) n ((l.set k ⟨a, b, c, d⟩).flatMap encR) ∧
      w.grownBy ((((w.setCell ⟨g, k * 4, none⟩ (.int .i64 a)).setCell ⟨g, k * 4 + 1, none⟩ (.int .i64 b)).setCell ⟨g, k * 4 + 2, none⟩ (.int .i64 c)).setCell ⟨g, k * 4 + 3, none⟩ (.int .i64 d)) (some g) := by
  obtain ⟨a1, a2⟩ := h.stored (k * 4) (.int .i64 a)
  obtain ⟨b1, b2⟩ := a1.stored (k * 4 + 1) (.int .i64 b)
  obtain ⟨c1, c2⟩ := b1.stored (k * 4 + 2) (.int .i64 c)
  obtain ⟨d1, d2⟩ := c1.stored (k * 4 + 3) (.int .i64 d)
  rw [flat_set4 ⟨a, b, c, d⟩ l k hk] at d1
  exact ⟨d1, a2.trans (b2.trans (c2.trans d2))⟩
theorem flat_takeR : ∀ (l : List R4) (m : Nat), (l.take m).flatMap encR = (l.flatMap encR).take (m * 4)
  | [], m => by simp
  | a :: l, 0 => by simp
  | a :: l, m + 1 => by
    have hl : (encR a).length = 4 := rfl
    rw [List.take_succ_cons, List.flatMap_cons, List.flatMap_cons, flat_takeR l m, List.take_append, hl, show (m + 1) * 4 - 4 = m * 4 by omega, List.take_of_length_le (l := encR a) (by rw [hl]; omega)]
theorem flat_set2 (a b : Int) : ∀ (l : List R4) (k : Nat) (x : R4), l[k]? = some x → ((l.flatMap encR).set (k * 4) (.int .i64 a)).set (k * 4 + 2) (.int .i64 b) = (l.set k ⟨a, x.y0, b, x.y1⟩).flatMap encR
  | [], k, x, h => by simp at h
  | y :: l, 0, x, h => by
    simp at h; subst h; rfl
  | y :: l, k + 1, x, h => by
    have ih := flat_set2 a b l k x (by simpa using h)
    rw [List.set_cons_succ, List.flatMap_cons, List.flatMap_cons, ← ih]
    have hl : (encR y).length = 4 := rfl
    rw [List.set_append_right _ _ (by rw [hl]; omega), List.set_append_right _ _ (by rw [hl]; omega), hl, show (k + 1) * 4 - 4 = k * 4 by omega, show (k + 1) * 4 + 2 - 4 = k * 4 + 2 by omega]
/-- The two ends in x stored in their places. -/
theorem own_set2 {w : World} {B g n cap : Nat} {l : List R4} (h : w.ownsRow B 69 4 (.slice (some ⟨g, 0, none⟩) n cap) n (l.flatMap encR)) {k : Nat} {x : R4} (hx : l[k]? = some x) (a b : Int) :
    ((w.setCell ⟨g, k * 4, none⟩ (.int .i64 a)).setCell ⟨g, k * 4 + 2, none⟩ (.int .i64 b)).ownsRow B 69 4 (.slice (some ⟨g, 0, none⟩) n cap) n ((l.set k ⟨a, x.y0, b, x.y1⟩).flatMap encR) ∧ w.grownBy ((w.setCell ⟨g, k * 4, none⟩ (.int .i64 a)).setCell ⟨g, k * 4 + 2, none⟩ (.int .i64 b)) (some g) := by
  obtain ⟨a1, a2⟩ := h.stored (k * 4) (.int .i64 a)
  obtain ⟨b1, b2⟩ := a1.stored (k * 4 + 2) (.int .i64 b)
  rw [flat_set2 a b l k x hx] at b1
  exact ⟨b1, a2.trans b2⟩
/-- A list of which the first places have been turned. -/
def part4 (f : R4 → R4) (L : List R4) (m : Nat) : List R4 := (L.take m).map f ++ L.drop m
theorem part4_len (f : R4 → R4) (L : List R4) (m : Nat) : (part4 f L m).length = L.length := by
  unfold part4
  rw [List.length_append, List.length_map, List.length_take, List.length_drop]; omega
theorem part4_zero (f : R4 → R4) (L : List R4) : part4 f L 0 = L := by simp [part4]
theorem part4_all (f : R4 → R4) (L : List R4) : part4 f L L.length = L.map f := by simp [part4]
theorem part4_get {f : R4 → R4} {L : List R4} {m : Nat} {x : R4} (h : L[m]? = some x) : (part4 f L m)[m]? = some x := by
  obtain ⟨hm, _⟩ := List.getElem?_eq_some_iff.1 h
  unfold part4
  rw [List.getElem?_append_right (by rw [List.length_map, List.length_take]; omega), List.length_map, List.length_take, Nat.min_eq_left (by omega), Nat.sub_self, List.getElem?_drop, Nat.add_zero, h]
theorem part4_set {f : R4 → R4} {L : List R4} {m : Nat} {x : R4} (h : L[m]? = some x) : (part4 f L m).set m (f x) = part4 f L (m + 1) := by
  obtain ⟨hm, he⟩ := List.getElem?_eq_some_iff.1 h
  unfold part4
  rw [List.set_append_right _ _ (by rw [List.length_map, List.length_take]; omega), List.length_map, List.length_take, Nat.min_eq_left (by omega), Nat.sub_self, List.take_succ_eq_append_getElem hm, List.map_append, he, List.append_assoc]
  congr 1
  rw [List.drop_eq_getElem_cons hm]
  rfl
/-- The first part of a row of one's own. -/
theorem own_short {w : World} {B g n cap m : Nat} {xs : List Value} (h : w.ownsRow B 69 4 (.slice (some ⟨g, 0, none⟩) n cap) n xs) (hm : m ≤ n) : w.ownsRow B 69 4 (.slice (some ⟨g, 0, none⟩) m cap) m (xs.take (m * 4)) := by
  refine ⟨by rw [List.length_take, h.1, Nat.min_eq_left (by omega)], ?_⟩
  rcases h.2 with ⟨e, _⟩ | ⟨g', cap', cur, e, r1, r2, r3, r4, r5, r6⟩
  · cases e
  · refine .inr ⟨g', cap', cur, ?_, r1, r2, by omega, r4, r5, ?_⟩
    · injection e with e1 e2 e3
      rw [e1, e3]
    · rw [← r6, List.take_take, Nat.min_eq_left (by omega)]
theorem own_cap {w : World} {B g n cap : Nat} {xs : List Value} (h : w.ownsRow B 69 4 (.slice (some ⟨g, 0, none⟩) n cap) n xs) : n ≤ cap := by
  rcases h.2 with ⟨e, _⟩ | ⟨g', cap', cur, e, r1, r2, r3, r4, r5, r6⟩
  · cases e
  · injection e with e1 e2 e3
    omega
theorem own_setCells {B g n cap : Nat} : ∀ (vs : List Value) (o : Nat) {w : World} {xs : List Value}, w.ownsRow B 69 4 (.slice (some ⟨g, 0, none⟩) n cap) n xs → ∃ ys, ys.take o = xs.take o ∧ (w.setCells g o vs).ownsRow B 69 4 (.slice (some ⟨g, 0, none⟩) n cap) n ys ∧ w.grownBy (w.setCells g o vs) (some g)
  | [], o, w, xs, h => ⟨xs, rfl, h, grown_refl _ _⟩
  | v :: vs, o, w, xs, h => by
    obtain ⟨a1, a2⟩ := h.stored o v
    obtain ⟨ys, h1, h2, h3⟩ := own_setCells vs (o + 1) a1
    refine ⟨ys, ?_, h2, a2.trans h3⟩
    have e : ys.take o = (ys.take (o + 1)).take o := by rw [List.take_take, Nat.min_eq_left (by omega)]
    rw [e, h1, List.take_take, Nat.min_eq_left (by omega), List.take_set, List.set_eq_of_length_le (by rw [List.length_take]; omega)]
/-- 'clear' of rectangles. -/
theorem run_clear_rects (w : World) (ty : TypeId) (b o n c : Nat) (hn : 0 < n) (hc : ∀ j, j < n * 4 → (w.cell? ⟨b, o + j, none⟩).isSome = true) (hf : ∀ j, j < n * 4 → w.frozen? ⟨b, o + j, none⟩ = false) :
    (Builtin.clear_ #[26] ty #[.slice (some ⟨b, o, none⟩) n c]).run Tryz.prog w = .ok (.tuple #[]) (w.setCells b o (List.replicate (n * 4) (.int .i64 0))) := by
  obtain ⟨i1, gi, gz0, gz1, gz2⟩ := info_parts infoRc
  have hv : ∀ w, (zeroValue 69).run Tryz.prog w = .ok (.agg #[.int .i64 0, .int .i64 0, .int .i64 0, .int .i64 0]) w := fun w => by kernel_rfl
  have hzc : (Builtin.zeroCells (Value.agg #[.int .i64 0, .int .i64 0, .int .i64 0, .int .i64 0]).cells n).toList = List.replicate (n * 4) (.int .i64 0) := by
    have : (Value.agg #[.int .i64 0, .int .i64 0, .int .i64 0, .int .i64 0]).cells = #[.int .i64 0, .int .i64 0, .int .i64 0, .int .i64 0] := by kernel_rfl
    rw [this]
    apply List.ext_getElem
    · simp [Builtin.zeroCells]
    · intro i h1 h2
      simp only [Builtin.zeroCells, Array.toList_map, List.getElem_map, List.getElem_replicate]
      have h4 : ∀ k, k < 4 → (#[Value.int .i64 0, .int .i64 0, .int .i64 0, .int .i64 0] : Array Value)[k]! = .int .i64 0 := by
        intro k hk
        match k, hk with
        | 0, _ => rfl
        | 1, _ => rfl
        | 2, _ => rfl
        | 3, _ => rfl
      exact h4 _ (Nat.mod_lt _ (by simp))
  have hst := run_storeCells_cells (P := Tryz.prog) b o (List.replicate (n * 4) (.int .i64 0)) 0 w (by simpa using hc) (by simpa using hf) (by intro v hv'; rw [List.eq_of_mem_replicate hv']; rfl)
  simp only [Nat.add_zero] at hst
  obtain ⟨m, rfl⟩ : ∃ m, n = m + 1 := ⟨n - 1, by omega⟩
  simp [Builtin.clear_, run_underlying Tryz.underlying26, hv, hzc, hst]
/-- Old blocks are as they were, but for the row's. -/
def KeepO (v : Value) (w W : World) : Prop := w.heap.size ≤ W.heap.size ∧ ∀ q, q < w.heap.size → v.ownBlock ≠ some q → W.heap[q]? = w.heap[q]?
theorem KeepO.below {v : Value} {w W W2 : World} (h : KeepO v w W) (hb : Below W.heap.size W W2) : KeepO v w W2 := ⟨Nat.le_trans h.1 hb.size, fun q hq hn => (hb.block q (by have := h.1; omega)).trans (h.2 q hq hn)⟩
theorem KeepO.grown {v : Value} {w W W2 : World} (h : KeepO v w W) (hg : W.grownBy W2 v.ownBlock) : KeepO v w W2 := ⟨Nat.le_trans h.1 hg.size, fun q hq hn => (hg.block q (by have := h.1; omega) (fun e => hn e.symm)).trans (h.2 q hq hn)⟩
theorem KeepO.refl (v : Value) (w : World) : KeepO v w w := ⟨Nat.le_refl _, fun _ _ _ => rfl⟩
theorem KeepO.cell {v : Value} {w W : World} (h : KeepO v w W) {q o : Nat} (hq : q < w.heap.size) (hn : v.ownBlock ≠ some q) : W.cell? ⟨q, o, none⟩ = w.cell? ⟨q, o, none⟩ := World.cell?_of_block (w := w) (a := ⟨q, o, none⟩) (h.2 q hq hn)
theorem filt_take {l : List R4} (p : R4 → Bool) {j : Nat} {x : R4} (h : l[j]? = some x) : (l.take (j + 1)).filter p = (l.take j).filter p ++ (if p x then [x] else []) := by
  rw [List.take_add_one, h, List.filter_append]
  simp only [Option.toList_some, List.filter_cons, List.filter_nil]
theorem filt_le (p : R4 → Bool) (l : List R4) (j : Nat) : ((l.take j).filter p).length ≤ j := by
  have h1 := List.length_filter_le p (l.take j)
  rw [List.length_take] at h1
  omega
set_option maxRecDepth 100000 in
set_option maxHeartbeats 4000000 in
/-- **slices.DeleteFunc here.** The predicate reads what lies below block B. -/
theorem delRect_any {w : World} {B c : Nat} {A : Option Addr} {l : List R4} (hown : w.ownsRow B 69 4 (.slice A l.length c) l.length (l.flatMap encR)) (hB : B ≤ w.heap.size) (hl : l.length ≤ 1000000) (f : Nat) (lb : Array Value) (p : R4 → Bool)
    (eg : ∀ args w, (callFunc f args).run Tryz.prog w = .ok (.enter f args) w)
    (hp : ∀ (W : World) (x : R4), x ∈ l → Below B w W → KeepO (.slice A l.length c) w W → Calls Tryz.prog f (#[.agg (encR x).toArray] ++ lb) W fun e w' => e = .returned (.bool (p x)) ∧ Below W.heap.size W w') :
    Calls Tryz.prog 173 #[.slice A l.length c, .func (.func f) #[] lb] w fun e w' => (∃ c, e = .returned (.slice A (l.filter fun x => !p x).length c) ∧ w'.ownsRow B 69 4 (.slice A (l.filter fun x => !p x).length c) (l.filter fun x => !p x).length ((l.filter fun x => !p x).flatMap encR)) ∧ Below B w w' ∧ KeepO (.slice A l.length c) w w' := by
  have hix := cfRect_idx (own_rd hown (fun _ => rfl)) (by omega) f lb p eg (fun W x hx hW => hp W x hx (hW.mono hB) ((KeepO.refl _ w).below hW))
  by_cases ha : l.any p = true
  · obtain ⟨x0, hx0, hpx0⟩ := List.any_eq_true.1 ha
    have hlt0 : l.findIdx p < l.length := List.findIdx_lt_length_of_exists ⟨x0, hx0, hpx0⟩
    have hid : idxI p l = (l.findIdx p : Nat) := by unfold idxI; rw [if_pos ha]
    have hpi : p l[l.findIdx p] = true := List.findIdx_getElem
    have hbf : ∀ j (hj : j < l.findIdx p), p (l[j]'(by omega)) = false := fun j hj => by
      have := List.not_of_lt_findIdx hj
      simpa using this
    have hf0 : (l.take (l.findIdx p + 1)).filter (fun x => !p x) = l.take (l.findIdx p) := by
      rw [filt_take (fun x => !p x) (List.getElem?_eq_getElem hlt0), hpi]
      simp only [Bool.not_true, Bool.false_eq_true, if_false, List.append_nil]
      refine List.filter_eq_self.2 fun a ha => ?_
      obtain ⟨j, hj, rfl⟩ := List.mem_iff_getElem.1 ha
      rw [List.length_take] at hj
      rw [List.getElem_take, hbf j (by omega)]
      rfl
    rw [hid] at hix
    clear hpi hbf hid
    generalize hn0 : l.findIdx p = n0 at *
    obtain ⟨g, cap, hv, hBg, hgw⟩ := hown.form (by omega)
    injection hv with e1 _ e3
    subst e1; subst e3
    have hcap := own_cap hown
    have HX := hide hix
    have HO := hide hown
    have HP := hide hp
    have HF0 := hide hf0
    have lz : (l.length : Int) ≤ 1000000 := by omega
    have hne1 : ((n0 : Int) == -1) = false := by simp
    clear hix hown hp hf0 ha hx0 hpx0 hn0
    go_enter Tryz.func173, Tryz.ntmps173
    go_wp2_with (fail)
    refine HX.out.mono ?_
    rintro e w1 ⟨rfl, hb1⟩
    have HB1 := hide (hb1.mono hB)
    have HO1 := hide (own_below HO.out hb1)
    have HK1 := hide ((KeepO.refl (.slice (some ⟨g, 0, none⟩) l.length c) w).below hb1)
    have hs1 : B ≤ w1.heap.size := Nat.le_trans hB hb1.size
    clear hb1 HO HX
    go_wp2_with (fail)
    go_loopw [5, 6] (fun iv jv wr => ∃ (i j : Nat) (L : List R4), j ≤ l.length ∧ i < j ∧ iv = .int .i64 i ∧ jv = .int .i64 j ∧ Hid (i = ((l.take j).filter fun x => !p x).length) ∧ L.length = l.length ∧ Hid (L.take i = (l.take j).filter fun x => !p x) ∧ Hid (∀ q, j ≤ q → L[q]? = l[q]?) ∧ Hid (wr.ownsRow B 69 4 (.slice (some ⟨g, 0, none⟩) l.length c) l.length (L.flatMap encR)) ∧ Hid (Below B w wr) ∧ Hid (KeepO (.slice (some ⟨g, 0, none⟩) l.length c) w wr)) (fun _ jv _ => l.length - (intOf jv).toNat)
    case atStart => exact ⟨n0, n0 + 1, l, by omega, by omega, rfl, by go_num, hide (by rw [HF0.out, List.length_take]; omega), rfl, hide (by rw [HF0.out]), hide (fun _ _ => rfl), HO1, HB1, HK1⟩
    case round =>
      clear HO1 HB1 HF0 HK1
      obtain ⟨i, j, L, hj, hij, rfl, rfl, HI, hLl, HT, HU, HO, HB, HKK⟩ := hrel
      have hBw : B ≤ wr.heap.size := by have := HB.out.size; omega
      by_cases hlt : j < l.length
      · have jz : (j : Int) < (l.length : Int) := by omega
        obtain ⟨x, hx⟩ : ∃ p, l[j]? = some p := ⟨_, List.getElem?_eq_getElem hlt⟩
        have hLx : L[j]? = some x := by rw [HU.out j (Nat.le_refl _), hx]
        have kc := fun (o : Nat) (u : Value) (hu : (encR x)[o]? = some u) => (HO.out.cells (g := g) rfl) _ _ (flat_get (k := 4) (fun _ => rfl) _ j x o u hLx hu)
        simp only [addr_add] at kc
        have d0 : wr.cell? ⟨g, j * 4, none⟩ = some (.int .i64 x.x0) := kc 0 _ rfl
        have d1 : wr.cell? ⟨g, j * 4 + 1, none⟩ = some (.int .i64 x.y0) := kc 1 _ rfl
        have d2 : wr.cell? ⟨g, j * 4 + 2, none⟩ = some (.int .i64 x.x1) := kc 2 _ rfl
        have d3 : wr.cell? ⟨g, j * 4 + 3, none⟩ = some (.int .i64 x.y1) := kc 3 _ rfl
        have HPX := hide (fun (W : World) (hW : Below B w W) (hk : KeepO (.slice (some ⟨g, 0, none⟩) l.length c) w W) => HP.out W x (List.mem_of_getElem? hx) hW hk)
        simp only [encR] at HPX
        have HFT := hide (filt_take (fun x => !p x) hx)
        have HX := hide hx
        clear kc hx hLx
        go_upto_region 8 with fail
        refine wp_name fun Z hZ => ?_
        have hbz : Below wr.heap.size wr Z := by rw [hZ]; exact (Below.refl _ _).alloc (Nat.le_refl _) _
        have z0 : Z.cell? ⟨wr.heap.size, 0, none⟩ = some (.int .i64 x.x0) := by rw [hZ]; simp [go_sem]
        have z1 : Z.cell? ⟨wr.heap.size, 1, none⟩ = some (.int .i64 x.y0) := by rw [hZ]; simp [go_sem]
        have z2 : Z.cell? ⟨wr.heap.size, 2, none⟩ = some (.int .i64 x.x1) := by rw [hZ]; simp [go_sem]
        have z3 : Z.cell? ⟨wr.heap.size, 3, none⟩ = some (.int .i64 x.y1) := by rw [hZ]; simp [go_sem]
        have hqz : wr.heap.size < Z.heap.size := by rw [hZ]; simp
        have HBZ := hide (HB.out.trans (hbz.mono hBw))
        have HOZ := hide (own_below HO.out hbz)
        have HKZ := hide (HKK.out.below hbz)
        have hBZs : B ≤ Z.heap.size := Nat.le_trans hBw hbz.size
        have hgq : g ≠ wr.heap.size := by have := (HO.out.lt g rfl).2; omega
        generalize hq9 : wr.heap.size = q9 at *
        clear hZ hbz d0 d1 d2 d3 HO HB HKK
        cases hpx : p x with
        | true =>
          have HPB := hide hpx
          have hcc := HPX.out Z HBZ.out HKZ.out
          rw [hpx] at hcc
          have HCC := hide hcc
          have HFT2 : Hid ((l.take (j + 1)).filter (fun x => !p x) = (l.take j).filter (fun x => !p x)) := hide (by rw [HFT.out, hpx]; simp)
          clear hcc hpx HPX HFT
          go_wp2_with (fail)
          refine HCC.out.mono ?_
          rintro e W2 ⟨rfl, hb2⟩
          have HB2 := hide (HBZ.out.trans (hb2.mono hBZs))
          have HO2 := hide (own_below HOZ.out hb2)
          have HK2 := hide (HKZ.out.below hb2)
          clear hb2 HCC HBZ HOZ z0 z1 z2 z3
          go_wp2_with (fail)
          go_roundw
          case rel => exact ⟨i, j + 1, L, by omega, by omega, rfl, by go_num, hide (by rw [HFT2.out]; exact HI.out), hLl, hide (by rw [HFT2.out]; exact HT.out), hide (fun q hq => HU.out q (by omega)), HO2, HB2, HK2⟩
          case measure => simp [intOf]; omega
        | false =>
          have HPB := hide hpx
          have hcc := HPX.out Z HBZ.out HKZ.out
          rw [hpx] at hcc
          have HCC := hide hcc
          have HFT2 : Hid ((l.take (j + 1)).filter (fun x => !p x) = (l.take j).filter (fun x => !p x) ++ [x]) := hide (by rw [HFT.out, hpx]; simp)
          clear hcc hpx HPX HFT
          go_wp2_with (fail)
          refine HCC.out.mono ?_
          rintro e W2 ⟨rfl, hb2⟩
          have HB2 := hide (HBZ.out.trans (hb2.mono hBZs))
          have HO2 := hide (own_below HOZ.out hb2)
          have HK2 := hide (HKZ.out.below hb2)
          have hB2s : B ≤ W2.heap.size := Nat.le_trans hBZs hb2.size
          have y0 := (hb2.cell (p := ⟨q9, 0, none⟩) hqz).trans z0
          have y1 := (hb2.cell (p := ⟨q9, 1, none⟩) hqz).trans z1
          have y2 := (hb2.cell (p := ⟨q9, 2, none⟩) hqz).trans z2
          have y3 := (hb2.cell (p := ⟨q9, 3, none⟩) hqz).trans z3
          have hiL : i < L.length := by omega
          obtain ⟨y, hy⟩ : ∃ p, L[i]? = some p := ⟨_, List.getElem?_eq_getElem hiL⟩
          have kc := fun (o : Nat) (u : Value) (hu : (encR y)[o]? = some u) => (HO2.out.cells (g := g) rfl) _ _ (flat_get (k := 4) (fun _ => rfl) _ i y o u hy hu)
          simp only [addr_add] at kc
          have s0 : W2.cell? ⟨g, i * 4, none⟩ = some (.int .i64 y.x0) := kc 0 _ rfl
          have s1 : W2.cell? ⟨g, i * 4 + 1, none⟩ = some (.int .i64 y.y0) := kc 1 _ rfl
          have s2 : W2.cell? ⟨g, i * 4 + 2, none⟩ = some (.int .i64 y.x1) := kc 2 _ rfl
          have s3 : W2.cell? ⟨g, i * 4 + 3, none⟩ = some (.int .i64 y.y1) := kc 3 _ rfl
          have f0 : W2.frozen? ⟨g, i * 4, none⟩ = false := HO2.out.frozenAt _
          have f1 : W2.frozen? ⟨g, i * 4 + 1, none⟩ = false := HO2.out.frozenAt _
          have f2 : W2.frozen? ⟨g, i * 4 + 2, none⟩ = false := HO2.out.frozenAt _
          have f3 : W2.frozen? ⟨g, i * 4 + 3, none⟩ = false := HO2.out.frozenAt _
          have iz : (i : Int) < (l.length : Int) := by omega
          obtain ⟨k1, k2⟩ := own_set4 HO2.out hiL x.x0 x.y0 x.x1 x.y1
          have HK1 := hide k1
          have HK3 := hide (HK2.out.grown k2)
          have HB3 := hide (HB2.out.grown k2 hB2s (fun q hq => by injection hq with hq; omega))
          clear hb2 HCC HBZ HOZ z0 z1 z2 z3 kc hy k1 k2
          go_wp2_with (fail)
          go_roundw
          case rel =>
            refine ⟨i + 1, j + 1, L.set i x, by omega, by omega, by go_num, by go_num, hide (by rw [HFT2.out, List.length_append, ← HI.out]; rfl), by rw [List.length_set]; exact hLl, hide ?_, hide (fun q hq => ?_), HK1, HB3, HK3⟩
            · rw [HFT2.out, List.take_add_one, List.getElem?_set_self hiL, List.take_set, List.set_eq_of_length_le (by rw [List.length_take]; omega), HT.out]; rfl
            · rw [List.getElem?_set_ne (by omega)]; exact HU.out q (by omega)
          case measure => simp [intOf]; omega
      · obtain rfl : j = l.length := by omega
        have hjz : ¬ (l.length : Int) < (l.length : Int) := by omega
        rw [List.take_length] at HI HT
        have hil : i < l.length := hij
        have iz : (i : Int) ≤ (l.length : Int) := by omega
        have hci : ¬ c = i := by omega
        have hci2 : i < c := by omega
        have hgc := HO.out.cells (g := g) rfl
        simp only [addr_add] at hgc
        have hxl : (L.flatMap encR).length = l.length * 4 := HO.out.1
        have hcl := run_clear_rects wr 0 g (i * 4) (l.length - i) (c - i) (by omega) (fun j hj => by
          rw [hgc (i * 4 + j) _ (List.getElem?_eq_getElem (by rw [hxl]; omega))]; rfl) (fun j hj => HO.out.frozenAt _)
        obtain ⟨ys, h1, h2, h3⟩ := own_setCells (List.replicate ((l.length - i) * 4) (.int .i64 0)) (i * 4) HO.out
        have HR := hide (own_short h2 (show i ≤ l.length by omega))
        have HE : Hid (ys.take (i * 4) = (l.filter fun x => !p x).flatMap encR) := hide (by rw [h1, ← flat_takeR, HT.out])
        have HB3 := hide (HB.out.grown h3 (by have := HB.out.size; omega) (fun q hq => by injection hq with hq; omega))
        have HK3 := hide (HKK.out.grown h3)
        clear hgc hxl h1 h2 h3 HO HKK
        generalize wr.setCells g (i * 4) (List.replicate ((l.length - i) * 4) (.int .i64 0)) = W3 at *
        have HI2 := hide HI.out
        clear HI HB
        go_wp2_with (fail)
        go_ret
        refine ⟨⟨c, by rw [← HI2.out]; rfl, ?_⟩, HB3.out, HK3.out⟩
        rw [← HE.out, ← HI2.out]
        exact HR.out
  · have hid : idxI p l = -1 := by unfold idxI; rw [if_neg ha]
    rw [hid] at hix
    have hfl : (l.filter fun x => !p x) = l := by
      refine List.filter_eq_self.2 fun a h => ?_
      have : p a = false := by
        cases hpa : p a with
        | false => rfl
        | true => exact absurd (List.any_eq_true.2 ⟨a, h, hpa⟩) ha
      rw [this]; rfl
    rw [hfl]
    have HX := hide hix
    have HO := hide hown
    clear hix hown hp hid ha hfl
    go_enter Tryz.func173, Tryz.ntmps173
    go_wp2_with (fail)
    refine HX.out.mono ?_
    rintro e w1 ⟨rfl, hb1⟩
    have HB1 := hide hb1
    clear hb1
    go_wp2_with (fail)
    go_ret
    exact ⟨⟨c, rfl, own_below HO.out HB1.out⟩, HB1.out.mono hB, (KeepO.refl _ w).below HB1.out⟩
end Go.Proofs.YtdolpeljengpaaaGreat

/- A list of rectangles that has just been written out is read as a list. -/
namespace Go.Proofs.YtdolpeljengpaaaGreat
open Go.RowKit
set_option linter.unusedVariables false
set_option linter.unusedSimpArgs false

theorem rd_lit (w : World) (l : List R4) (t : TypeId) (c : Nat) : RdK encR 4 (w.alloc (.cells (l.flatMap encR).toArray t)) (w.alloc (.cells (l.flatMap encR).toArray t)).heap.size (.slice (some ⟨w.heap.size, 0, none⟩) l.length c) l := by
  refine ⟨_, c, rfl, fun _ => ⟨w.heap.size, 0, rfl, by simp, fun j x hx i u hu => ?_⟩⟩
  have := news_new w (l.flatMap encR) t w.heap.size rfl _ _ (flat_get (k := 4) (fun _ => rfl) l j x i u hx hu)
  rw [addr_add] at this
  rwa [Nat.zero_add]
theorem rd_lit_at {w : World} {B : Nat} (hB : w.heap.size = B) (l : List R4) (t : TypeId) (c : Nat) : RdK encR 4 (w.alloc (.cells (l.flatMap encR).toArray t)) (w.alloc (.cells (l.flatMap encR).toArray t)).heap.size (.slice (some ⟨B, 0, none⟩) l.length c) l := by
  subst hB
  exact rd_lit w l t c
end Go.Proofs.YtdolpeljengpaaaGreat

/- offset.Shrink. -/
namespace Go.Proofs.YtdolpeljengpaaaGreat
open Go.RowKit
set_option linter.unusedVariables false
set_option linter.unusedSimpArgs false

set_option maxHeartbeats 1000000 in
theorem oShrC_any (k x : R4) (H : Nat) (w : World) (c0 : w.cell? ⟨H, 0, none⟩ = some (.int .i64 k.x0)) (c2 : w.cell? ⟨H, 2, none⟩ = some (.int .i64 k.x1)) :
    Calls Tryz.prog 174 #[.agg (encR x).toArray, .pointer (some ⟨H, 0, none⟩)] w fun e w' => e = .returned (.bool (outX k x)) ∧ Below w.heap.size w w' := by
  have hH : H < w.heap.size := lt_of_cell c0
  have HX : Hid (outX k x = (decide (x.x1 ≤ k.x0) || decide (k.x1 ≤ x.x0))) := hide rfl
  obtain ⟨x0, y0, x1, y1⟩ := x
  show Calls Tryz.prog _ #[.agg #[.int .i64 x0, .int .i64 y0, .int .i64 x1, .int .i64 y1], .pointer (some ⟨H, 0, none⟩)] w _
  simp only at HX
  by_cases h1 : x1 ≤ k.x0
  · have HE : Hid (outX k ⟨x0, y0, x1, y1⟩ = true) := hide (by rw [HX.out, decide_eq_true h1]; rfl)
    go_enter Tryz.func174, Tryz.ntmps174
    go_wp2
    go_ret
    exact ⟨by rw [HE.out]; rfl, (Below.refl _ _).alloc (Nat.le_refl _) _⟩
  · by_cases h2 : k.x1 ≤ x0
    · have HE : Hid (outX k ⟨x0, y0, x1, y1⟩ = true) := hide (by rw [HX.out, decide_eq_true h2, Bool.or_true])
      go_enter Tryz.func174, Tryz.ntmps174
      go_wp2
      go_ret
      exact ⟨by rw [HE.out]; rfl, (Below.refl _ _).alloc (Nat.le_refl _) _⟩
    · have HE : Hid (outX k ⟨x0, y0, x1, y1⟩ = false) := hide (by rw [HX.out, decide_eq_false h1, decide_eq_false h2]; rfl)
      go_enter Tryz.func174, Tryz.ntmps174
      go_wp2
      go_ret
      exact ⟨by rw [HE.out]; rfl, (Below.refl _ _).alloc (Nat.le_refl _) _⟩
/-- The row of holes, and the frame in block H. -/
structure SH (w : World) (B : Nat) (v : Value) (X : List R4) (H : Nat) (k : R4) (wr : World) : Prop where
  low : Below w.heap.size w wr
  bw : w.heap.size ≤ B
  own : wr.ownsRow B 69 4 v X.length (X.flatMap encR)
  lo : B ≤ H
  lt : H < wr.heap.size
  ne : v.ownBlock ≠ some H
  c0 : wr.cell? ⟨H, 0, none⟩ = some (.int .i64 k.x0)
  c1 : wr.cell? ⟨H, 1, none⟩ = some (.int .i64 k.y0)
  c2 : wr.cell? ⟨H, 2, none⟩ = some (.int .i64 k.x1)
  c3 : wr.cell? ⟨H, 3, none⟩ = some (.int .i64 k.y1)
theorem SH.below {w wr w2 : World} {B H : Nat} {v : Value} {X : List R4} {k : R4} (h : SH w B v X H k wr) (hb : Below wr.heap.size wr w2) : SH w B v X H k w2 := by
  have hc : ∀ o, w2.cell? ⟨H, o, none⟩ = wr.cell? ⟨H, o, none⟩ := fun o => hb.cell (p := ⟨H, o, none⟩) h.lt
  exact ⟨h.low.trans (hb.mono h.low.size), h.bw, own_below h.own hb, h.lo, Nat.lt_of_lt_of_le h.lt hb.size, h.ne, (hc 0).trans h.c0, (hc 1).trans h.c1, (hc 2).trans h.c2, (hc 3).trans h.c3⟩
theorem SH.set {w wr w2 : World} {B H : Nat} {v : Value} {X X' : List R4} {k : R4} (h : SH w B v X H k wr) (hg : wr.grownBy w2 v.ownBlock) (ho : w2.ownsRow B 69 4 v X'.length (X'.flatMap encR)) : SH w B v X' H k w2 := by
  have hc : ∀ o, w2.cell? ⟨H, o, none⟩ = wr.cell? ⟨H, o, none⟩ := fun o => World.cell?_of_block (w := wr) (a := ⟨H, o, none⟩) (hg.block H h.lt (fun e => h.ne e.symm))
  have hbw := h.bw
  exact ⟨h.low.grown hg h.low.size (fun q hq => by have := (h.own.lt q hq).1; omega), h.bw, ho, h.lo, Nat.lt_of_lt_of_le h.lt hg.size, h.ne, (hc 0).trans h.c0, (hc 1).trans h.c1, (hc 2).trans h.c2, (hc 3).trans h.c3⟩
theorem SH.del {w wr w2 : World} {B H c c' n : Nat} {A : Option Addr} {X X' : List R4} {k : R4} (h : SH w B (.slice A n c) X H k wr) (hk : KeepO (.slice A n c) wr w2) (hb : Below B wr w2) (ho : w2.ownsRow B 69 4 (.slice A X'.length c') X'.length (X'.flatMap encR)) : SH w B (.slice A X'.length c') X' H k w2 := by
  have hc : ∀ o, w2.cell? ⟨H, o, none⟩ = wr.cell? ⟨H, o, none⟩ := fun o => hk.cell h.lt h.ne
  have hne : (Value.slice A X'.length c').ownBlock ≠ some H := by
    have := h.ne
    cases A with
    | none => simp [Value.ownBlock]
    | some a => simpa [Value.ownBlock] using this
  exact ⟨h.low.trans (hb.mono h.bw), h.bw, ho, h.lo, Nat.lt_of_lt_of_le h.lt hb.size, hne, (hc 0).trans h.c0, (hc 1).trans h.c1, (hc 2).trans h.c2, (hc 3).trans h.c3⟩
theorem miss_bd {l : List R4} (hv : ∀ r ∈ l, valid4 r) (hne : l ≠ []) : ∀ z ∈ missL (hullL l) none l, wf4 z ∧ (-1000000 ≤ z.x0 ∧ z.x0 ≤ 1000000) ∧ (-1000000 ≤ z.y0 ∧ z.y0 ≤ 1000000) ∧ (-1000000 ≤ z.x1 ∧ z.x1 ≤ 1000000) ∧ (-1000000 ≤ z.y1 ∧ z.y1 ≤ 1000000) := fun z hz => by
  obtain ⟨h1, h2, h3, h4, h5⟩ := miss_ok (hullL_ok hne) z hz
  obtain ⟨cx, cy⟩ := cuts_in hv
  exact ⟨h1, cx _ (by simp [h2]), cy _ (by simp [h4]), cx _ (by simp [h3]), cy _ (by simp [h5])⟩
theorem hull_bd {l : List R4} (hv : ∀ r ∈ l, valid4 r) (hne : l ≠ []) : (-1000000 ≤ (hullL l).x0 ∧ (hullL l).x0 ≤ 1000000) ∧ (-1000000 ≤ (hullL l).y0 ∧ (hullL l).y0 ≤ 1000000) ∧ (-1000000 ≤ (hullL l).x1 ∧ (hullL l).x1 ≤ 1000000) ∧ (-1000000 ≤ (hullL l).y1 ∧ (hullL l).y1 ≤ 1000000) := by
  have hh := hullL_ok hne
  obtain ⟨r0, m0, e0⟩ := hh.a0
  obtain ⟨r1, m1, e1⟩ := hh.a1
  obtain ⟨r2, m2, e2⟩ := hh.a2
  obtain ⟨r3, m3, e3⟩ := hh.a3
  obtain ⟨_, _, ⟨a1, a2⟩, _⟩ := hv r0 m0
  obtain ⟨_, _, _, _, ⟨b1, b2⟩, _⟩ := hv r1 m1
  obtain ⟨_, _, _, ⟨c1, c2⟩, _⟩ := hv r2 m2
  obtain ⟨_, _, _, _, _, ⟨d1, d2⟩⟩ := hv r3 m3
  omega
set_option maxRecDepth 100000 in
set_option maxHeartbeats 8000000 in
theorem oShrink_any {w : World} {v : Value} {l : List R4} (hr : RdK encR 4 w w.heap.size v l) (hl : l.length ≤ 100000000) (d : Int) :
    Calls Tryz.prog 131 #[v, .int .i64 d] w fun e w' => RegRet w.heap.size (shrF l d) e w' ∧ Below w.heap.size w w' := by
  have hck := fun (W : World) (hW : Below w.heap.size w W) => ochecked_any (w := W) ((hr.below hW).mono hW.size) hl d
  by_cases h0 : chkD l d = 0
  · obtain ⟨hc, d1, d2⟩ := chkD_ok h0
    obtain ⟨l4, lv, _⟩ := checkF_ok hc
    have hF : shrF l d = if 400 < (shrR l d).length then ([], 4) else (shrR l d, 0) := if_pos h0
    rw [h0] at hck
    by_cases hne : l = []
    · have hS : shrF l d = ([], 0) := by
        rw [hF]
        have : shrR l d = [] := if_pos hne
        rw [this]; rfl
      have hlen : l.length = 0 := by rw [hne]; rfl
      obtain ⟨A, c, hv, hcc⟩ := id hr
      subst hv
      rw [hlen] at hck ⊢
      have HC := hide hck
      have HF := hide hS
      clear hck hcc hF hS lv hc hr h0 hne hlen
      go_enter Tryz.func131, Tryz.ntmps131
      go_wp2_with (fail)
      refine (HC.out _ (Below.refl _ _)).mono ?_
      rintro e w1 ⟨rfl, hb1⟩
      have HB1 := hide hb1
      clear hb1
      go_wp2_with (fail)
      go_ret2
      exact ⟨⟨none, 0, by rw [HF.out]; rfl, by rw [HF.out]; exact World.ownsRow_nil _ _ _ _⟩, HB1.out⟩
    · have hlp : 0 < l.length := List.length_pos_iff.2 hne
      have hms := fun (W : World) (hW : Below w.heap.size w W) => omissing_any (w := W) ((hr.below hW).mono hW.size) hc hne
      have hmb := miss_bd lv hne
      have hhb := hull_bd lv hne
      have hml := missTo_len (hullL l) l l.length
      rw [missTo_all] at hml
      have hSR : shrR l d = if (growR (-d) (hullL l)).x1 ≤ (growR (-d) (hullL l)).x0 ∨ (growR (-d) (hullL l)).y1 ≤ (growR (-d) (hullL l)).y0 then [] else rjoin hSub [growR (-d) (hullL l)] (clipH (growR (-d) (hullL l)) ((missL (hullL l) none l).map (growR d))) := if_neg hne
      unfold MissO at hms
      obtain ⟨A, c, hv, hcc⟩ := id hr
      subst hv
      have HC := hide hck
      have HF := hide hF
      have HSR := hide hSR
      have HMS := hide hms
      have HMB := hide hmb
      clear hck hcc hF hSR hms hmb lv hc hr h0 hne
      generalize hullL l = h at *
      generalize missL h none l = L at *
      have lz : (l.length : Int) ≤ 400 := by omega
      have lz2 : (0 : Int) < (l.length : Int) := by omega
      have Lz : L.length ≤ 1200 := by omega
      obtain ⟨⟨u1, u2⟩, ⟨u3, u4⟩, ⟨u5, u6⟩, u7, u8⟩ := hhb
      have HG1 := hide (fun W => ogrown_any h (-d) ⟨by omega, by omega, by omega, by omega⟩ ⟨by omega, by omega⟩ W)
      go_enter Tryz.func131, Tryz.ntmps131
      go_wp2_with (fail)
      refine (HC.out _ (Below.refl _ _)).mono ?_
      rintro e w1 ⟨rfl, hb1⟩
      have HB1 := hide hb1
      have hs1 : w.heap.size ≤ w1.heap.size := hb1.size
      clear hb1
      go_wp2_with (fail)
      refine (HMS.out _ HB1.out).mono ?_
      rintro e w2 ⟨A2, c2, rfl, ho2, hb2⟩
      have HO2 := hide ho2
      have HB2 := hide (HB1.out.trans (hb2.mono hs1))
      have hs2 : w1.heap.size ≤ w2.heap.size := hb2.size
      clear ho2 hb2 HMS HC
      go_wp2_with (fail)
      refine (HG1.out _).mono ?_
      rintro e w3 ⟨rfl, hb3⟩
      have hb23 : Below w2.heap.size w2 w3 := ((Below.refl _ _).alloc (Nat.le_refl _) _).trans (hb3.mono (by simp))
      have k0 : w3.cell? ⟨w2.heap.size, 0, none⟩ = some (.int .i64 h.x0) := (hb3.cell (p := ⟨w2.heap.size, 0, none⟩) (by simp)).trans (by simp [go_sem])
      have k1 : w3.cell? ⟨w2.heap.size, 1, none⟩ = some (.int .i64 h.y0) := (hb3.cell (p := ⟨w2.heap.size, 1, none⟩) (by simp)).trans (by simp [go_sem])
      have k2 : w3.cell? ⟨w2.heap.size, 2, none⟩ = some (.int .i64 h.x1) := (hb3.cell (p := ⟨w2.heap.size, 2, none⟩) (by simp)).trans (by simp [go_sem])
      have k3 : w3.cell? ⟨w2.heap.size, 3, none⟩ = some (.int .i64 h.y1) := (hb3.cell (p := ⟨w2.heap.size, 3, none⟩) (by simp)).trans (by simp [go_sem])
      have f0 : w3.frozen? ⟨w2.heap.size, 0, none⟩ = false := (hb3.frozen (p := ⟨w2.heap.size, 0, none⟩) (by simp)).trans (by simp [go_sem])
      have f1 : w3.frozen? ⟨w2.heap.size, 1, none⟩ = false := (hb3.frozen (p := ⟨w2.heap.size, 1, none⟩) (by simp)).trans (by simp [go_sem])
      have f2 : w3.frozen? ⟨w2.heap.size, 2, none⟩ = false := (hb3.frozen (p := ⟨w2.heap.size, 2, none⟩) (by simp)).trans (by simp [go_sem])
      have f3 : w3.frozen? ⟨w2.heap.size, 3, none⟩ = false := (hb3.frozen (p := ⟨w2.heap.size, 3, none⟩) (by simp)).trans (by simp [go_sem])
      have hs3 : w2.heap.size < w3.heap.size := lt_of_cell k0
      have HB23 := hide hb23
      clear hb3 hb23 HG1
      obtain ⟨k, hk⟩ : ∃ k, k = growR (-d) h := ⟨_, rfl⟩
      have e0 : h.x0 - -d = k.x0 := by rw [hk]; rfl
      have e1 : h.y0 - -d = k.y0 := by rw [hk]; rfl
      have e2 : h.x1 + -d = k.x1 := by rw [hk]; rfl
      have e3 : h.y1 + -d = k.y1 := by rw [hk]; rfl
      rw [e0, e1, e2, e3]
      have hkb : (-2000000 ≤ k.x0 ∧ k.x0 ≤ 2000000) ∧ (-2000000 ≤ k.y0 ∧ k.y0 ≤ 2000000) ∧ (-2000000 ≤ k.x1 ∧ k.x1 ≤ 2000000) ∧ (-2000000 ≤ k.y1 ∧ k.y1 ≤ 2000000) := by omega
      rw [← hk] at HSR
      clear hk e0 e1 e2 e3
      go_upto_region 8 with fail
      refine wp_name fun Y hY => ?_
      have HSH : Hid (SH w w1.heap.size (.slice A2 L.length c2) L w2.heap.size k Y) := hide (by
        have hb4 : Below w2.heap.size w3 Y := by
          rw [hY]
          repeat (first | with_reducible exact Below.refl _ _ | with_reducible refine Below.setCell ?_ (by first | (simp; done) | (simp; omega)) _)
        have hb5 : Below w2.heap.size w2 Y := HB23.out.trans hb4
        refine ⟨HB2.out.trans (hb5.mono (by omega)), hs1, own_below HO2.out hb5, hs2, by rw [hY]; simp; omega, fun e => ?_, by rw [hY]; simp [go_sem, k0], by rw [hY]; simp [go_sem, k1], by rw [hY]; simp [go_sem, k2], by rw [hY]; simp [go_sem, k3]⟩
        have := (HO2.out.lt _ e).2
        omega)
      generalize hH7 : w2.heap.size = H7 at *
      generalize hBB : w1.heap.size = B at *
      clear hY k0 k1 k2 k3 f0 f1 f2 f3 HB23 HO2 HB2 HB1 hH7 hBB
      have c0 := HSH.out.c0
      have c1 := HSH.out.c1
      have c2' := HSH.out.c2
      have c3 := HSH.out.c3
      by_cases hdg : k.x1 ≤ k.x0 ∨ k.y1 ≤ k.y0
      · have HG : Hid (shrF l d = ([], 0)) := hide (by rw [HF.out, HSR.out, if_pos hdg]; rfl)
        by_cases t1 : k.x1 ≤ k.x0
        · go_wp2_with (fail)
          go_ret2
          exact ⟨⟨none, 0, by rw [HG.out]; rfl, by rw [HG.out]; exact World.ownsRow_nil _ _ _ _⟩, HSH.out.low⟩
        · have t2 : k.y1 ≤ k.y0 := by omega
          clear hdg
          go_wp2_with (fail)
          go_ret2
          exact ⟨⟨none, 0, by rw [HG.out]; rfl, by rw [HG.out]; exact World.ownsRow_nil _ _ _ _⟩, HSH.out.low⟩
      · have HG : Hid (shrF l d = carveF [k] (clipH k (L.map (growR d)))) := hide (by rw [HF.out, HSR.out, if_neg hdg]; rfl)
        have t1 : ¬ k.x1 ≤ k.x0 := by omega
        have t2 : ¬ k.y1 ≤ k.y0 := by omega
        clear hdg
        go_wp2_with (fail)
        clear c0 c1 c2' c3
        go_loopw [45] (fun i wr => ∃ m : Nat, m ≤ L.length ∧ i = .int .i64 m ∧ Hid (SH w B (.slice A2 L.length c2) (part4 (growR d) L m) H7 k wr)) (fun i _ => L.length - (intOf i).toNat)
        case atStart => exact ⟨0, Nat.zero_le _, rfl, hide (by rw [part4_zero]; exact HSH.out)⟩
        case round =>
          clear HSH
          obtain ⟨m, hm, rfl, HS⟩ := hrel
          by_cases hlt : m < L.length
          · have mz : (m : Int) < (L.length : Int) := by omega
            obtain ⟨x, hx⟩ : ∃ p, L[m]? = some p := ⟨_, List.getElem?_eq_getElem hlt⟩
            have hpx := part4_get (f := growR d) hx
            have hps := part4_set (f := growR d) hx
            have hpl := part4_len (growR d) L m
            obtain ⟨b1, ⟨b2, b3⟩, ⟨b4, b5⟩, ⟨b6, b7⟩, b8, b9⟩ := HMB.out x (List.mem_of_getElem? hx)
            have HGX := hide (fun W => ogrown_any x d ⟨by omega, by omega, by omega, by omega⟩ ⟨by omega, by omega⟩ W)
            obtain ⟨g, cap, hv, hBg, hgw⟩ := HS.out.own.form (by rw [hpl]; omega)
            injection hv with e1 e2 e3
            clear e2
            subst e1; subst e3
            have kc := fun (W : World) (h : W.ownsRow B 69 4 (.slice (some ⟨g, 0, none⟩) L.length c2) L.length ((part4 (growR d) L m).flatMap encR)) (o : Nat) (u : Value) (hu : (encR x)[o]? = some u) => (h.cells (g := g) rfl) _ _ (flat_get (k := 4) (fun _ => rfl) _ m x o u hpx hu)
            simp only [addr_add] at kc
            have KC := hide kc
            have hown := own_n HS.out.own hpl
            have HOW := hide hown
            have r0 := kc wr hown 0 _ rfl
            have r1 := kc wr hown 1 _ rfl
            have r2 := kc wr hown 2 _ rfl
            have r3 := kc wr hown 3 _ rfl
            have HPS := hide hps
            have HPL := hide hpl
            have hm4 : m < (part4 (growR d) L m).length := by omega
            clear kc hown hx hpx hps hpl
            simp only [Nat.add_zero] at r0
            go_wp2_with (fail)
            refine (HGX.out _).mono ?_
            rintro e W2 ⟨rfl, hb⟩
            have hb2 : Below wr.heap.size wr W2 := ((Below.refl _ _).alloc (Nat.le_refl _) _).trans (hb.mono (by simp))
            have HS2 := hide (HS.out.below hb2)
            have hown2 := own_below HOW.out hb2
            have s0 := KC.out W2 hown2 0 _ rfl
            have s1 := KC.out W2 hown2 1 _ rfl
            have s2 := KC.out W2 hown2 2 _ rfl
            have s3 := KC.out W2 hown2 3 _ rfl
            simp only [Nat.add_zero] at s0
            have f0 : W2.frozen? ⟨g, m * 4, none⟩ = false := hown2.frozenAt _
            have f1 : W2.frozen? ⟨g, m * 4 + 1, none⟩ = false := hown2.frozenAt _
            have f2 : W2.frozen? ⟨g, m * 4 + 2, none⟩ = false := hown2.frozenAt _
            have f3 : W2.frozen? ⟨g, m * 4 + 3, none⟩ = false := hown2.frozenAt _
            obtain ⟨o1, o2⟩ := own_set4 hown2 hm4 (x.x0 - d) (x.y0 - d) (x.x1 + d) (x.y1 + d)
            have e4 : (part4 (growR d) L m).set m ⟨x.x0 - d, x.y0 - d, x.x1 + d, x.y1 + d⟩ = part4 (growR d) L (m + 1) := HPS.out
            rw [e4] at o1
            have HS3 := hide (HS2.out.set o2 (own_n o1 (part4_len (growR d) L (m + 1)).symm))
            clear hb hb2 hown2 o1 o2 e4 HGX HS HS2 r0 r1 r2 r3
            go_wp2_with (fail)
            go_roundw
            case rel => exact ⟨m + 1, by omega, by go_num, HS3⟩
            case measure => simp [intOf]; omega
          · obtain rfl : m = L.length := by omega
            have mz : ¬ (L.length : Int) < (L.length : Int) := by omega
            rw [part4_all] at HS
            have hXl : (L.map (growR d)).length = L.length := by rw [List.length_map]
            have hown := own_n HS.out.own hXl
            have hne7 : ∀ n c, (Value.slice A2 n c).ownBlock ≠ some H7 := fun n c => by
              have := HS.out.ne
              cases A2 with
              | none => simp [Value.ownBlock]
              | some a => simpa [Value.ownBlock] using this
            have eg : ∀ args w, (callFunc 174 args).run Tryz.prog w = .ok (.enter 174 args) w := enters_of Tryz.func174 (by kernel_rfl) rfl
            have hdel := delRect_any (A := A2) (c := c2) (l := L.map (growR d)) (by rw [hXl]; exact hown) (Nat.le_trans HS.out.lo (Nat.le_of_lt HS.out.lt)) (by rw [hXl]; omega) 174 #[.pointer (some ⟨H7, 0, none⟩)] (outX k) eg
              (fun W x _ _ hk => oShrC_any k x H7 W ((hk.cell HS.out.lt (hne7 _ _)).trans HS.out.c0) ((hk.cell HS.out.lt (hne7 _ _)).trans HS.out.c2))
            rw [hXl] at hdel
            have HDEL := hide hdel
            have HFL := hide (List.length_filter_le (fun x => !outX k x) (L.map (growR d)))
            have HCL : Hid (clipH k (L.map (growR d)) = ((L.map (growR d)).filter fun x => !outX k x).map (clip1 k)) := hide rfl
            have HCW := hide (clip_wf (k := k) (by omega) (L := L.map (growR d)) (fun z hz => by
              obtain ⟨q, hq, rfl⟩ := List.mem_map.1 hz
              exact grow_wf (HMB.out q hq).1 d1))
            have HXB : Hid (∀ z ∈ (L.map (growR d)).filter fun x => !outX k x, (-2000000 ≤ z.y0 ∧ z.y0 ≤ 2000000) ∧ (-2000000 ≤ z.y1 ∧ z.y1 ≤ 2000000)) := hide (fun z hz => by
              obtain ⟨q, hq, rfl⟩ := List.mem_map.1 (List.mem_filter.1 hz).1
              obtain ⟨b1, ⟨b2, b3⟩, ⟨b4, b5⟩, ⟨b6, b7⟩, b8, b9⟩ := HMB.out q hq
              unfold growR; simp only; omega)
            clear hdel hown eg hXl HSR HF HMB hne7
            rw [HCL.out] at HG HCW
            have hfl := HFL.out
            rw [List.length_map] at hfl
            go_wp2_with (fail)
            refine HDEL.out.mono ?_
            rintro e W4 ⟨⟨c4, rfl, ho4⟩, hb4, hk4⟩
            have HS4 := hide (HS.out.del hk4 hb4 ho4)
            clear ho4 hb4 hk4 HDEL HS HCL HFL
            generalize ((L.map (growR d)).filter fun x => !outX k x) = F at *
            go_wp2_with (fail)
            go_loopw [62] (fun i wr => ∃ m : Nat, m ≤ F.length ∧ i = .int .i64 m ∧ Hid (SH w B (.slice A2 F.length c4) (part4 (clip1 k) F m) H7 k wr)) (fun i _ => F.length - (intOf i).toNat)
            case atStart => exact ⟨0, Nat.zero_le _, rfl, hide (by rw [part4_zero]; exact HS4.out)⟩
            case round =>
              clear HS4
              obtain ⟨m, hm, rfl, HS⟩ := hrel
              by_cases hlt : m < F.length
              · have mz : (m : Int) < (F.length : Int) := by omega
                obtain ⟨x, hx⟩ : ∃ p, F[m]? = some p := ⟨_, List.getElem?_eq_getElem hlt⟩
                have hpx := part4_get (f := clip1 k) hx
                have hps := part4_set (f := clip1 k) hx
                have hpl := part4_len (clip1 k) F m
                obtain ⟨g, cap, hv, hBg, hgw⟩ := HS.out.own.form (by rw [hpl]; omega)
                injection hv with e1 e2 e3
                clear e2
                subst e1; subst e3
                have kc := fun (W : World) (h : W.ownsRow B 69 4 (.slice (some ⟨g, 0, none⟩) F.length c4) F.length ((part4 (clip1 k) F m).flatMap encR)) (o : Nat) (u : Value) (hu : (encR x)[o]? = some u) => (h.cells (g := g) rfl) _ _ (flat_get (k := 4) (fun _ => rfl) _ m x o u hpx hu)
                simp only [addr_add] at kc
                have KC := hide kc
                have hown := own_n HS.out.own hpl
                have HOW := hide hown
                have r0 := kc wr hown 0 _ rfl
                have r1 := kc wr hown 1 _ rfl
                have r2 := kc wr hown 2 _ rfl
                have r3 := kc wr hown 3 _ rfl
                have HPS := hide hps
                have HPX := hide hpx
                have hH7g : H7 ≠ g := fun e => HS.out.ne (by rw [e]; rfl)
                clear kc hown hx hpx hps hpl
                simp only [Nat.add_zero] at r0
                go_upto_region 19 with fail
                refine wp_name fun Z hZ => ?_
                have hbz : Below wr.heap.size wr Z := by rw [hZ]; exact (Below.refl _ _).alloc (Nat.le_refl _) _
                have z0 : Z.cell? ⟨wr.heap.size, 0, none⟩ = some (.int .i64 x.x0) := by rw [hZ]; simp [go_sem]
                have z2 : Z.cell? ⟨wr.heap.size, 2, none⟩ = some (.int .i64 x.x1) := by rw [hZ]; simp [go_sem]
                have HSZ := hide (HS.out.below hbz)
                have hownZ := own_below HOW.out hbz
                have s0 := KC.out Z hownZ 0 _ rfl
                have s2 := KC.out Z hownZ 2 _ rfl
                simp only [Nat.add_zero] at s0
                have f0 : Z.frozen? ⟨g, m * 4, none⟩ = false := hownZ.frozenAt _
                have f2 : Z.frozen? ⟨g, m * 4 + 2, none⟩ = false := hownZ.frozenAt _
                obtain ⟨o1, o2⟩ := own_set2 hownZ HPX.out (max x.x0 k.x0) (min x.x1 k.x1)
                have e4 : (part4 (clip1 k) F m).set m ⟨max x.x0 k.x0, x.y0, min x.x1 k.x1, x.y1⟩ = part4 (clip1 k) F (m + 1) := HPS.out
                rw [e4] at o1
                have HS3 := hide ((HSZ.out.set o2 (own_n o1 (part4_len (clip1 k) F (m + 1)).symm)).below (Below.refl _ _).drew)
                have k0 := HSZ.out.c0
                have k2 := HSZ.out.c2
                have hgq : wr.heap.size ≠ g := by omega
                generalize hq9 : wr.heap.size = q9 at *
                clear hZ hbz r0 r1 r2 r3 HS hownZ o1 o2 e4 hq9
                refine wp_region_mix [0, 1, 2, 3, 4, 5, 6, 7, 8, 9, 10, 11, 12, 13, 14, 15] [16, 17, 18, 19] (fun w' => (w'.cell? ⟨q9, 0, none⟩ = some (.int .i64 x.x0) ∧ w'.cell? ⟨q9, 2, none⟩ = some (.int .i64 x.x1)) ∧ w'.cell? ⟨H7, 0, none⟩ = some (.int .i64 k.x0) ∧ w'.cell? ⟨H7, 2, none⟩ = some (.int .i64 k.x1)) (by kernel_rfl) (by kernel_rfl) ⟨⟨z0, z2⟩, k0, k2⟩ ?_
                simp only [List.map_cons, List.map_nil, opAt, List.getElem?_cons_succ, List.getElem?_cons_zero, Option.getD_some]
                have m0 : (0 : Int) ≤ (m : Int) := by omega
                iterate 16
                  refine ⟨?_, Or.inl ⟨by rfl, ?_⟩, ?_⟩
                  rotate_left 1
                  · intro w' hSw
                    obtain ⟨⟨z0, z1⟩, z2, z3⟩ := hSw
                    go_simp
                    first | done | with_reducible rfl
                  simp only [Act.put, List.setIfInBounds_toArray, List.set_cons_zero, List.set_cons_succ]
                simp only [wpReads]
                intro K hK
                simp only [Act.put, List.setIfInBounds_toArray, List.set_cons_zero, List.set_cons_succ] at hK ⊢
                go_simp
                have far : ∀ q o (u : Value), q ≠ g → ((Z.setCell ⟨g, m * 4, none⟩ u).drew).cell? ⟨q, o, none⟩ = Z.cell? ⟨q, o, none⟩ := fun q o u hq => World.cell?_of_block (w := Z) (a := ⟨q, o, none⟩) (Below.heap_setCell _ _ _ _ hq)
                refine hK _ _ (fun _ => ⟨⟨(far _ _ _ hgq).trans z0, (far _ _ _ hgq).trans z2⟩, (far _ _ _ hH7g).trans k0, (far _ _ _ hH7g).trans k2⟩) ?_
                clear hK K
                intro K hK
                simp only [Act.put, List.setIfInBounds_toArray, List.set_cons_zero, List.set_cons_succ] at hK ⊢
                go_simp
                refine hK _ _ (fun _ => ⟨⟨(far _ _ _ hgq).trans z0, (far _ _ _ hgq).trans z2⟩, (far _ _ _ hH7g).trans k0, (far _ _ _ hH7g).trans k2⟩) ?_
                clear hK K
                intro K hK
                simp only [Act.put, List.setIfInBounds_toArray, List.set_cons_zero, List.set_cons_succ] at hK ⊢
                go_simp
                refine hK _ _ (fun _ => ⟨⟨(far _ _ _ hgq).trans z0, (far _ _ _ hgq).trans z2⟩, (far _ _ _ hH7g).trans k0, (far _ _ _ hH7g).trans k2⟩) ?_
                clear hK K far
                intro K hK
                simp only [Act.put, List.setIfInBounds_toArray, List.set_cons_zero, List.set_cons_succ] at hK ⊢
                go_simp
                refine hK _ _ (fun h => absurd rfl h) ?_
                clear hK K
                refine NoPanic.normal ?_
                clear z0 z2 k0 k2 s0 s2 f0 f2
                go_wp2_with (fail)
                go_roundw
                case rel => exact ⟨m + 1, by omega, by go_num, HS3⟩
                case measure => simp [intOf]; omega
              · obtain rfl : m = F.length := by omega
                have mz : ¬ (F.length : Int) < (F.length : Int) := by omega
                rw [part4_all] at HS
                have hXl : (F.map (clip1 k)).length = F.length := by rw [List.length_map]
                have c0 := HS.out.c0
                have c1 := HS.out.c1
                have c2' := HS.out.c2
                have c3 := HS.out.c3
                go_wp2_with (fail)
                obtain ⟨Z, hZ⟩ : ∃ Z, Z = wr.alloc (.cells #[.int .i64 k.x0, .int .i64 k.y0, .int .i64 k.x1, .int .i64 k.y1] 69) := ⟨_, rfl⟩
                rw [← hZ]
                have hbz : Below wr.heap.size wr Z := by rw [hZ]; exact (Below.refl _ _).alloc (Nat.le_refl _) _
                have hra : RdK encR 4 Z Z.heap.size (.slice (some ⟨wr.heap.size, 0, none⟩) 1 1) [k] := by rw [hZ]; exact rd_lit_at rfl [k] 69 1
                have HSZ := hide (HS.out.below hbz)
                have hrb := own_rd HSZ.out.own (fun _ => rfl)
                have hcv := carve_any hra hrb (by simp) (by rw [hXl]; omega) (fun r hr => by rw [List.mem_singleton] at hr; subst hr; exact ⟨by omega, by omega⟩) HCW.out (fun r hr => by rw [List.mem_singleton] at hr; subst hr; omega) (fun r hr => by
                  obtain ⟨q, hq, rfl⟩ := List.mem_map.1 hr
                  have := HXB.out q hq
                  unfold clip1; simp only; omega)
                have HCV := hide hcv
                have hbz2 := HSZ.out.low.size
                clear hZ hbz hra hrb hcv HS c0 c1 c2' c3
                refine HCV.out.mono ?_
                rintro e w5 ⟨⟨A5, c5, rfl, ho5⟩, hb5⟩
                have HO5 := hide (own_base ho5 hbz2)
                have HB5 := hide (HSZ.out.low.trans (hb5.mono hbz2))
                clear ho5 hb5 HSZ HCV hXl
                go_wp2_with (fail)
                go_ret2
                exact ⟨⟨A5, c5, by rw [HG.out]; rfl, by rw [HG.out]; exact HO5.out⟩, HB5.out⟩
  · have HF : Hid (shrF l d = ([], chkD l d)) := hide (if_neg h0)
    have hz : (chkD l d != 0) = true := by simpa using h0
    obtain ⟨A, c, hv, hcc⟩ := id hr
    subst hv
    have HC := hide hck
    clear hck h0 hr hcc
    generalize chkD l d = k at *
    go_enter Tryz.func131, Tryz.ntmps131
    go_wp2_with (fail)
    refine (HC.out _ (Below.refl _ _)).mono ?_
    rintro e w1 ⟨rfl, hb1⟩
    have HB1 := hide hb1
    clear hb1
    go_wp2_with (fail)
    go_ret2
    exact ⟨⟨none, 0, by rw [HF.out]; rfl, by rw [HF.out]; exact World.ownsRow_nil _ _ _ _⟩, HB1.out⟩
end Go.Proofs.YtdolpeljengpaaaGreat

/- offset.Depth. -/
namespace Go.Proofs.YtdolpeljengpaaaGreat
open Go.RowKit
set_option linter.unusedVariables false
set_option linter.unusedSimpArgs false

theorem run_max4 {P : Program} (w : World) (ts : Array TypeId) (t : TypeId) (a b c d : Int) : (Builtin.max_ ts t #[.int .i64 a, .int .i64 b, .int .i64 c, .int .i64 d]).run P w = .ok (.int .i64 (max (max (max a b) c) d)) w := by
  have k : ∀ x y : Int, (if y > x then y else x) = max x y := fun x y => by
    by_cases h : y > x
    · rw [if_pos h]; omega
    · rw [if_neg h]; omega
  have k2 : ∀ (x y : Int) (v : World), Sem.run P (Builtin.max2 (.int .i64 x) (.int .i64 y)) v = .ok (.int .i64 (max x y)) v := fun x y v => by simp [Builtin.max2, k]
  simp only [Builtin.max_]
  simp [k2, Int.max_assoc]
theorem run_min4 {P : Program} (w : World) (ts : Array TypeId) (t : TypeId) (a b c d : Int) : (Builtin.min_ ts t #[.int .i64 a, .int .i64 b, .int .i64 c, .int .i64 d]).run P w = .ok (.int .i64 (min (min (min a b) c) d)) w := by
  have k : ∀ x y : Int, (if y < x then y else x) = min x y := fun x y => by
    by_cases h : y < x
    · rw [if_pos h]; omega
    · rw [if_neg h]; omega
  have k2 : ∀ (x y : Int) (v : World), Sem.run P (Builtin.min2 (.int .i64 x) (.int .i64 y)) v = .ok (.int .i64 (min x y)) v := fun x y v => by simp [Builtin.min2, k]
  simp only [Builtin.min_]
  simp [k2, Int.min_assoc]
theorem max_bd (a b c d : Int) (ha : -9000000 ≤ a ∧ a ≤ 9000000) (hb : -9000000 ≤ b ∧ b ≤ 9000000) (hc : -9000000 ≤ c ∧ c ≤ 9000000) (hd : -9000000 ≤ d ∧ d ≤ 9000000) : -9000000 ≤ max a (max b (max c d)) ∧ max a (max b (max c d)) ≤ 9000000 := by omega
theorem dep_take {x y : Int} {L : List R4} {m : Nat} {g : R4} (h : L[m]? = some g) (b : Int) : (L.take (m + 1)).foldl (fun b g => min b (dist1 x y g)) b = min ((L.take m).foldl (fun b g => min b (dist1 x y g)) b) (dist1 x y g) := by
  rw [List.take_add_one, h, List.foldl_append]; rfl
end Go.Proofs.YtdolpeljengpaaaGreat

/- region.slabs at Region, and its iterator. -/
namespace Go.Proofs.YtdolpeljengpaaaGreat
open Go.RowKit
set_option linter.unusedVariables false
set_option linter.unusedSimpArgs false
attribute [local go_sem] Oper.semAt_some

set_option maxHeartbeats 2000000 in
theorem slabsB_any (ls : List (List R4)) (L c : Nat) (w : World) (hL : L < w.heap.size) (hv : ∀ k l, ls[k]? = some l → ∃ v, w.cell? ⟨L, k, none⟩ = some v ∧ RdK encR 4 w w.heap.size v l) (hn : (ls.flatMap cutsL).length ≤ 100000000) (hls : ls.length ≤ 1000) :
    Calls Tryz.prog 148 #[.slice (some ⟨L, 0, none⟩) ls.length c] w fun e w' => ∃ v, e = .returned (.func (.func 187) #[] #[.pointer (some ⟨w.heap.size + 1, 0, none⟩), .pointer (some ⟨w.heap.size, 0, none⟩)]) ∧
      w'.cell? ⟨w.heap.size, 0, none⟩ = some (.slice (some ⟨L, 0, none⟩) ls.length c) ∧ w'.cell? ⟨w.heap.size + 1, 0, none⟩ = some v ∧ w'.ownsRow (w.heap.size + 2) 3 1 v (cutsOf (ls.flatMap cutsL)).length ((cutsOf (ls.flatMap cutsL)).map iv) ∧ Below w.heap.size w w' := by
  obtain ⟨i0, hi, hz0, hz1, hz2⟩ := info_parts infoIA
  have HV := hide hv
  clear hv
  go_enter Tryz.func148, Tryz.ntmps148
  go_wp2
  go_loopw [10] (fun i wr => ∃ k : Nat, k ≤ ls.length ∧ i = .int .i64 k ∧ ∃ v, wr.cell? ⟨w.heap.size + 1, 0, none⟩ = some v ∧ wr.frozen? ⟨w.heap.size + 1, 0, none⟩ = false ∧ wr.cell? ⟨w.heap.size, 0, none⟩ = some (.slice (some ⟨L, 0, none⟩) ls.length c) ∧
      wr.ownsRow (w.heap.size + 2) 3 1 v ((ls.take k).flatMap cutsL).length (((ls.take k).flatMap cutsL).map iv) ∧ Below w.heap.size w wr ∧ w.heap.size + 2 ≤ wr.heap.size)
    (fun i _ => ls.length - (intOf i).toNat)
  case atStart =>
    refine ⟨0, Nat.zero_le _, rfl, .slice none 0 0, by simp [go_sem], by simp [go_sem], by simp [go_sem], World.ownsRow_nil _ _ _ _, ((Below.refl _ _).alloc (Nat.le_refl _) _).alloc (by simp) _, by simp⟩
  case round =>
    obtain ⟨k, hk, rfl, v, hc1, hf1, hc0, hown, hb, hsz⟩ := hrel
    by_cases hlt : k < ls.length
    · obtain ⟨l, hlk⟩ : ∃ l, ls[k]? = some l := ⟨_, List.getElem?_eq_getElem hlt⟩
      obtain ⟨vl, hcl, A, c0, rfl, hrd⟩ := HV.out k l hlk
      have hcl' : wr.cell? ⟨L, k, none⟩ = some (.slice A l.length c0) := (hb.cell (p := ⟨L, k, none⟩) hL).trans hcl
      have hle := len_take ls k l hlk
      have HK := hide (flat_take ls k l hlk)
      have HR := hide hrd
      have hkz : (k : Int) < (ls.length : Int) := by omega
      rw [cutsL_len] at hle
      generalize (ls.take k).flatMap cutsL = P at *
      generalize wr = w1 at *
      clear hcl hrd
      go_wp2
      go_loopw [16] (fun j wi => ∃ m : Nat, m ≤ l.length ∧ j = .int .i64 m ∧ ∃ v, wi.cell? ⟨w.heap.size + 1, 0, none⟩ = some v ∧ wi.frozen? ⟨w.heap.size + 1, 0, none⟩ = false ∧ wi.cell? ⟨w.heap.size, 0, none⟩ = some (.slice (some ⟨L, 0, none⟩) ls.length c) ∧
          wi.ownsRow (w.heap.size + 2) 3 1 v (P ++ cutsL (l.take m)).length ((P ++ cutsL (l.take m)).map iv) ∧ Below w.heap.size w wi ∧ w.heap.size + 2 ≤ wi.heap.size)
        (fun j _ => l.length - (intOf j).toNat)
      case atStart => exact ⟨0, by omega, rfl, v, hc1, hf1, hc0, by simpa [cutsL] using hown, hb, hsz⟩
      case round =>
        clear hc1 hf1 hc0 hown
        obtain ⟨m, hm, rfl, v, hc1, hf1, hc0, hownm, hbm, hszm⟩ := hrel
        by_cases hml : m < l.length
        · obtain ⟨⟨x0, y0, x1, y1⟩, hp⟩ : ∃ p, l[m]? = some p := ⟨_, List.getElem?_eq_getElem hml⟩
          have hne : l ≠ [] := by intro e; rw [e] at hml; simp at hml
          obtain ⟨bk, off, rfl, hbk, hcell⟩ := HR.out hne
          have d0 : wr.cell? ⟨bk, off + m * 4, none⟩ = some (.int .i64 x0) := (hbm.cell hbk).trans (hcell m _ hp 0 _ rfl)
          have d1 : wr.cell? ⟨bk, off + m * 4 + 1, none⟩ = some (.int .i64 y0) := (hbm.cell hbk).trans (hcell m _ hp 1 _ rfl)
          have d2 : wr.cell? ⟨bk, off + m * 4 + 2, none⟩ = some (.int .i64 x1) := (hbm.cell hbk).trans (hcell m _ hp 2 _ rfl)
          have d3 : wr.cell? ⟨bk, off + m * 4 + 3, none⟩ = some (.int .i64 y1) := (hbm.cell hbk).trans (hcell m _ hp 3 _ rfl)
          have hmz : (m : Int) < (l.length : Int) := by omega
          have hlenE : (P ++ cutsL (l.take m)).length ≤ 100000000 := by rw [List.length_append, cutsL_len, List.length_take]; omega
          have HE : Hid (P ++ cutsL (l.take (m + 1)) = P ++ cutsL (l.take m) ++ [x0, x1]) := hide (by rw [cutsL_take l m _ hp, List.append_assoc])
          obtain ⟨Av, cv, rfl⟩ := own_form hownm
          have hlt1 : w.heap.size + 1 < wr.heap.size := by omega
          have hlt0 : w.heap.size < wr.heap.size := by omega
          clear hcell
          generalize P ++ cutsL (l.take m) = E0 at *
          go_wp2_with (at_builtin; go_loud (refine wpList_append_lies _ rfl (.tmp 20) (.tmp 25) 156 rfl (w.heap.size + 2) 3 i0 (.int .i64 0) 1 8 Tryz.underlying156 hi hz0 hz1 hz2 rfl (by decide) _ _ _ rfl ((hownm.alloc _).alloc _) ⟨wr.heap.size + 1, 0, none⟩ 2 2 [.int .i64 x0, .int .i64 x1] rfl rfl (news_new (wr.alloc _) _ _ _ (by simp)) (ints_one rfl) (by omega) (by unfold maxLen; omega) (by omega) (by simp; omega) _ rfl ?_))
          intro g cap w2 hown2 hgrow _ _
          have hx2 : E0.map iv ++ [.int .i64 x0, .int .i64 x1] = (E0 ++ [x0, x1]).map iv := by simp
          have HL : Hid (E0.length + 2 = (P ++ cutsL (l.take (m + 1))).length) := hide (by rw [HE.out]; simp)
          rw [hx2, ← HE.out] at hown2
          obtain ⟨k3, k4, HF⟩ := box_fin hszm (Nat.lt_succ_self _) hc1 hf1 (((Below.refl _ wr).alloc (Nat.le_refl _) _).alloc (by simp) _) hgrow (fun k h => (hownm.lt k h).1) hown2
          have HC := hide hc0
          clear hown2 hgrow hownm hx2 hc1 hf1 hc0 d0 d1 d2 d3
          go_wp2
          go_roundw
          case rel =>
            obtain ⟨z1, z2, z3, z4, z5, z6⟩ := HF.out
            exact ⟨m + 1, by omega, by go_num, _, z1, z2, (z5 _ _ (by omega) (by omega)).trans HC.out, own_n z3 HL.out, hbm.trans (z4.mono (by omega)), by omega⟩
          case measure => simp [intOf]; omega
        · have hme : ¬ (m : Int) < (l.length : Int) := by omega
          have hmt : l.take m = l := List.take_of_length_le (by omega)
          rw [hmt, ← HK.out] at hownm
          have HO := hide hownm
          clear hmt hownm
          go_wp2
          go_roundw
          case rel => exact ⟨k + 1, by omega, by go_num, v, hc1, hf1, hc0, HO.out, hbm, hszm⟩
          case measure => simp [intOf]; omega
    · have hkz : ¬ (k : Int) < (ls.length : Int) := by omega
      have hkt : ls.take k = ls := List.take_of_length_le (by omega)
      rw [hkt] at hown
      have HO := hide hown
      clear hkt hown
      have hl : (ls.flatMap cutsL).length < 4611686018427387904 := by omega
      have hlm : ((ls.flatMap cutsL).mergeSort fun x y => decide (x ≤ y)).length = (ls.flatMap cutsL).length := List.length_mergeSort _
      have HM := hide hlm
      have HC0 := hide hc0
      clear hc0 hlm
      go_wp2_with (first
        | (go_at_call 178; refine (sortI_any _ v _ wr HO.out hl).mono ?_; rintro e w1 ⟨rfl, ho1, hg1⟩; have hb1 : Below (w.heap.size + 2) wr w1 := (Below.refl _ _).grown hg1 hsz (fun k h => (HO.out.lt k h).1); have e1 := (hb1.cell (p := ⟨w.heap.size + 1, 0, none⟩) (Nat.lt_succ_self _)).trans hc1; have HO1 := hide ho1; have HB1 := hide hb1; clear ho1 hg1 hb1)
        | (go_at_call 179; refine (compI_any _ v _ w1 (own_n HO1.out HM.out.symm) (by rw [HM.out]; exact hl)).mono ?_; rintro e w2 ⟨v2, rfl, hv2, ho2, hg2⟩; have hb2 : Below (w.heap.size + 2) w1 w2 := (Below.refl _ _).grown hg2 (Nat.le_trans hsz HB1.out.size) (fun k h => (HO1.out.lt k h).1); have e2 := (hb2.cell (p := ⟨w.heap.size + 1, 0, none⟩) (Nat.lt_succ_self _)).trans e1; have f2 := ((HB1.out.trans hb2).frozen (p := ⟨w.heap.size + 1, 0, none⟩) (Nat.lt_succ_self _)).trans hf1; have HO2 := hide ho2; have HB2 := hide hb2; clear ho2 hg2 hb2; obtain ⟨Av, cv, hv2⟩ := own_form HO2.out; subst hv2))
      go_ret
      have hB : Below (w.heap.size + 2) wr w2 := HB1.out.trans HB2.out
      refine ⟨_, rfl, ?_, by simp [go_sem, e2], ownsRow_setCell_below HO2.out (Nat.lt_succ_self _) _, (hb.trans (hB.mono (by omega))).setCell (p := ⟨w.heap.size + 1, 0, none⟩) (Nat.le_succ _) _⟩
      exact (World.cell?_of_block (w := w2) (a := ⟨w.heap.size, 0, none⟩) (Below.heap_setCell _ _ _ _ (Nat.ne_of_lt (Nat.lt_succ_self _)))).trans ((hB.cell (p := ⟨w.heap.size, 0, none⟩) (by show w.heap.size < _; omega)).trans HC0.out)

set_option maxRecDepth 100000 in
set_option maxHeartbeats 4000000 in
theorem slabsItB (ls : List (List R4)) (cs : List Int) (bc bl L cc cv bb base : Nat) (A : Option Addr) (w0 : World) (hbl : bl < w0.heap.size) (hbc : bc < w0.heap.size) (hLs : L < w0.heap.size) (n1 : bl ≠ bb) (n2 : bc ≠ bb) (n3 : L ≠ bb) (n4 : bb < base) (n5 : bb ≤ w0.heap.size)
    (hlb : w0.cell? ⟨bl, 0, none⟩ = some (.slice (some ⟨L, 0, none⟩) ls.length cc)) (hcb : w0.cell? ⟨bc, 0, none⟩ = some (.slice A cs.length cv)) (hown : w0.ownsRow base 3 1 (.slice A cs.length cv) cs.length (cs.map iv))
    (hv : ∀ k l, ls[k]? = some l → l.length ≤ 100000000 ∧ ∃ v, w0.cell? ⟨L, k, none⟩ = some v ∧ RdK encR 4 w0 bb v l) (hls : ls.length ≤ 1000) (hcs : cs.length ≤ 100000000) :
    Iter Tryz.prog 187 #[.pointer (some ⟨bc, 0, none⟩), .pointer (some ⟨bl, 0, none⟩)] (prs cs) (OkSlab ls) (KpX bb w0.heap.size) w0 := by
  intro l J Jx W hW hJ hY h0
  obtain ⟨i0, hi, hz0, hz1, hz2⟩ := info_parts infoSS
  obtain ⟨i1, gi, gz0, gz1, gz2⟩ := info_parts infoSp
  refine callsIn_of_wp Tryz.func187 rfl trivial ?_
  simp only [Tryz.ntmps187, List.size_toArray, List.length_cons, List.length_nil, Nat.reduceAdd, Nat.reduceSub, Array.replicate_succ, Array.replicate_zero, List.push_toArray, List.append_toArray, List.nil_append, List.cons_append]
  have HV := hide hv
  have HY := hide hY
  have HJ := hide hJ
  clear hv hY hJ
  gi_wp2
  gi_loopw [4] (fun p wr => ∃ k : Nat, k ≤ (prs cs).length ∧ p = .int .i64 ((k : Int) + 1) ∧ Hid (J ((prs cs).take k) wr) ∧ Hid (∀ b o, b < w0.heap.size → b ≠ bb → wr.cell? ⟨b, o, none⟩ = w0.cell? ⟨b, o, none⟩) ∧ w0.heap.size ≤ wr.heap.size)
    (fun p _ => ((prs cs).length + 1) - (intOf p).toNat)
  case atStart => exact ⟨0, Nat.zero_le _, rfl, hide (by simpa using h0), hide fun b o h _ => hW.cell (p := ⟨b, o, none⟩) h, hW.size⟩
  case round =>
    obtain ⟨k, hk, rfl, HJk, HC, hsz⟩ := hrel
    have hpl := prs_len cs
    have kb := (HC.out bl 0 hbl n1).trans hlb
    have kc := (HC.out bc 0 hbc n2).trans hcb
    by_cases hlt : k < (prs cs).length
    · have hltz : (k : Int) + 1 < (cs.length : Int) := by omega
      obtain ⟨c, hc⟩ : ∃ c, cs[k]? = some c := ⟨_, List.getElem?_eq_getElem (by omega)⟩
      obtain ⟨d, hd⟩ : ∃ d, cs[k + 1]? = some d := ⟨_, List.getElem?_eq_getElem (by omega)⟩
      obtain ⟨g, cv', hf, hbg, hgw⟩ := hown.form (by omega)
      injection hf with e1 _ e3
      subst e1; subst e3
      have kc0 : wr.cell? ⟨g, k, none⟩ = some (.int .i64 c) := by
        have := (hown.cells (g := g) rfl) k (iv c) (by simp [hc])
        rw [addr_add] at this
        exact (HC.out g k hgw (by omega)).trans this
      have kc1 : wr.cell? ⟨g, k + 1, none⟩ = some (.int .i64 d) := by
        have := (hown.cells (g := g) rfl) (k + 1) (iv d) (by simp [hd])
        rw [addr_add] at this
        exact (HC.out g (k + 1) hgw (by omega)).trans this
      have HP := hide (prs_get cs k c d hc hd)
      gi_wp2
      obtain ⟨CS, hCS, hmk⟩ := make_ss ls.length hls
      have HS := hide hCS
      clear hCS
      refine wpIn_wide.2 ?_
      have q1 : (0 : Int) ≤ (k : Int) := by omega
      have q2 : (k : Int) < (cs.length : Int) := by omega
      have q3 : (0 : Int) ≤ (k : Int) + 1 := by omega
      have hcsz : (cs.length : Int) ≤ 100000000 := by omega
      have hw1 : IntKind.i64.wrap (k : Int) = k := by simp [IntKind.wrap, IntKind.bits, IntKind.signed]; omega
      have hw2 : IntKind.i64.wrap ((k : Int) + 1) = (k : Int) + 1 := by simp [IntKind.wrap, IntKind.bits, IntKind.signed]; omega
      have t1 : ((k : Int) + 1).toNat = k + 1 := by omega
      go_region_held3 (fun w' => w'.cell? ⟨bc, 0, none⟩ = some (.slice (some ⟨g, 0, none⟩) cs.length cv) ∧ w'.cell? ⟨bl, 0, none⟩ = some (.slice (some ⟨L, 0, none⟩) ls.length cc) ∧ w'.cell? ⟨g, k, none⟩ = some (.int .i64 c) ∧ w'.cell? ⟨g, k + 1, none⟩ = some (.int .i64 d)) (go_keep) (fail)
      case' refine_2.refine_3.refine_3.refine_3.refine_3.refine_3.refine_3.refine_3.refine_3.refine_3.refine_3.refine_3.refine_1.refine_2.refine_3.refine_1.refine_2.refine_1.refine_2 =>
        have M := smid_first1 (ls := ls) (c := c) (d := d) (w := wr) (t1 := 182) (t2 := 210) HS.out
        generalize World.drew (World.alloc (World.alloc _ _) _) = w3 at M ⊢
        obtain ⟨S, hS⟩ : ∃ S, wr.heap.size + 1 = S := ⟨_, rfl⟩
        obtain ⟨Rw, hR⟩ : ∃ Rw, wr.heap.size = Rw := ⟨_, rfl⟩
        rw [hS] at M ⊢
        rw [hR] at M ⊢
        clear hS hR
      case' refine_2.refine_3.refine_3.refine_3.refine_3.refine_3.refine_3.refine_3.refine_3.refine_3.refine_3.refine_3.refine_2.refine_1.refine_2.refine_1.refine_2.refine_3.refine_1.refine_2 =>
        have M := smid_first2 (ls := ls) (c := c) (d := d) (w := wr) (t1 := 182) (t2 := 210) HS.out
        generalize World.drew (World.alloc (World.alloc _ _) _) = w3 at M ⊢
        obtain ⟨Rw, hR⟩ : ∃ S, wr.heap.size + 1 = S := ⟨_, rfl⟩
        obtain ⟨S, hS⟩ : ∃ Rw, wr.heap.size = Rw := ⟨_, rfl⟩
        rw [hR] at M ⊢
        rw [hS] at M ⊢
        clear hS hR
      all_goals
        generalize wr = wi at *
        clear hlb hcb hmk q1 q2 q3 hw1 hw2 t1 kc kc0 kc1 hltz hown HS h0 hW
        have hlsz : (ls.length : Int) ≤ 1000 := by omega
        have hbl' : bl < wi.heap.size := by omega
        have m0 := (M.below.cell (p := ⟨bl, 0, none⟩) hbl').trans kb
        gi_wp2
        refine wpIn_wide.2 ?_
        go_loopw [31] (fun i wx => ∃ j : Nat, j ≤ ls.length ∧ i = .int .i64 j ∧ SMid ls c d Rw S j wi wx) (fun i _ => ls.length - (intOf i).toNat)
        case atStart => exact ⟨0, Nat.zero_le _, rfl, M⟩
        case round =>
          clear m0 M
          obtain ⟨j, hj, rfl, M⟩ := hrel
          by_cases hjl : j < ls.length
          · have hjz : (j : Int) < (ls.length : Int) := by omega
            obtain ⟨r, hr⟩ : ∃ r, ls[j]? = some r := ⟨_, List.getElem?_eq_getElem hjl⟩
            obtain ⟨hrl, v, hvc, Av, cr, rfl, hrd⟩ := HV.out j r hr
            have hL2 : wr.cell? ⟨L, j, none⟩ = some (.slice Av r.length cr) := (M.below.cell (p := ⟨L, j, none⟩) (by show L < _; omega)).trans ((HC.out L j hLs n3).trans hvc)
            have HR := hide hrd
            clear hvc hrd
            go_wp2
            have hRk := M.topR
            have hSk := M.topS
            have hne := M.ne
            have hwk := M.below.size
            have hlR := M.lowR
            have SS := SIn.start (l := r) M hjl
            have HM := hide M
            have e0 := M.s0
            have e2 := M.s2
            clear M hL2
            generalize wr = wk at *
            go_loopw [38] (fun i wx => ∃ m : Nat, m ≤ r.length ∧ i = .int .i64 m ∧ SIn r c Rw j m wk wx) (fun i _ => r.length - (intOf i).toNat)
            case atStart => exact ⟨0, Nat.zero_le _, rfl, SS⟩
            case round =>
              clear SS
              obtain ⟨m, hm, rfl, SS⟩ := hrel
              by_cases hml : m < r.length
              · obtain ⟨⟨x0, y0, x1, y1⟩, hp⟩ : ∃ p, r[m]? = some p := ⟨_, List.getElem?_eq_getElem hml⟩
                have hner : r ≠ [] := by intro e; rw [e] at hml; simp at hml
                obtain ⟨bk, off, rfl, hbk, hcell⟩ := HR.out hner
                have tr : ∀ o, wr.cell? ⟨bk, o, none⟩ = w0.cell? ⟨bk, o, none⟩ := fun o =>
                  (SS.upd.cell (by omega) (by omega) (by simp)).trans ((HM.out.below.cell (p := ⟨bk, o, none⟩) (by show bk < _; omega)).trans (HC.out bk o (by omega) (by omega)))
                have d0 : wr.cell? ⟨bk, off + m * 4, none⟩ = some (.int .i64 x0) := (tr _).trans (hcell m _ hp 0 _ rfl)
                have d1 : wr.cell? ⟨bk, off + m * 4 + 1, none⟩ = some (.int .i64 y0) := (tr _).trans (hcell m _ hp 1 _ rfl)
                have d2 : wr.cell? ⟨bk, off + m * 4 + 2, none⟩ = some (.int .i64 x1) := (tr _).trans (hcell m _ hp 2 _ rfl)
                have d3 : wr.cell? ⟨bk, off + m * 4 + 3, none⟩ = some (.int .i64 y1) := (tr _).trans (hcell m _ hp 3 _ rfl)
                have f0 := (SS.upd.cell (off := 0) hSk hne (by simp)).trans e0
                have f2 := (SS.upd.cell (off := 2) hSk hne (by simp)).trans e2
                have hws := SS.upd.size
                have hmz : (m : Int) < (r.length : Int) := by omega
                have HE0 := hide e0
                have HE2 := hide e2
                have HSS := hide SS
                have hSw : S < wr.heap.size := by omega
                clear hcell tr e0 e2 SS
                by_cases c1 : x0 ≤ c
                · by_cases c2 : c < x1
                  · go_wp2
                    obtain ⟨wb, hwb⟩ : ∃ wb, wb = wr.alloc (.cells #[.int .i64 x0, .int .i64 y0, .int .i64 x1, .int .i64 y1] 69) := ⟨_, rfl⟩
                    rw [← hwb]
                    obtain ⟨v, v1, v2⟩ := HSS.out.cur
                    obtain ⟨Av2, cv2, hv2⟩ := own_form v2
                    subst hv2
                    have hRw : Rw < wr.heap.size := by omega
                    have hj63 : (0 : Int) ≤ (j : Int) := by omega
                    have g2 : wb.cell? ⟨S, 2, none⟩ = some (.slice (some ⟨Rw, 0, none⟩) ls.length ls.length) := by rw [hwb]; exact (World.cell?_alloc_lt _ _ ⟨S, 2, none⟩ hSw).trans f2
                    have gv : wb.cell? ⟨Rw, j, none⟩ = some (.slice Av2 (crossL (r.take m) c).length cv2) := by rw [hwb]; exact (World.cell?_alloc_lt _ _ ⟨Rw, j, none⟩ hRw).trans v1
                    have gy0 : wb.cell? ⟨wr.heap.size, 1, none⟩ = some (.int .i64 y0) := by rw [hwb]; simp [go_sem]
                    have gy1 : wb.cell? ⟨wr.heap.size, 3, none⟩ = some (.int .i64 y1) := by rw [hwb]; simp [go_sem]
                    have gs : wb.heap.size = wr.heap.size + 1 := by rw [hwb]; simp
                    have hbw : Below wr.heap.size wr wb := by rw [hwb]; exact (Below.refl _ _).alloc (Nat.le_refl _) _
                    have gown : wb.ownsRow wk.heap.size 188 2 (.slice Av2 (crossL (r.take m) c).length cv2) (crossL (r.take m) c).length ((crossL (r.take m) c).flatMap encS) := by rw [hwb]; exact v2.alloc _
                    have hcl : (crossL (r.take m) c).length ≤ 100000000 := by
                      unfold crossL
                      rw [List.length_map]
                      refine Nat.le_trans (List.length_filter_le _ _) ?_
                      rw [List.length_take]; omega
                    have HFZ := hide (HM.out.fz j)
                    have HV1 := hide v1
                    have HV2 := hide v2
                    have HGV := hide gv
                    have HBW := hide hbw
                    have HG2 := hide g2
                    have HY0 := hide gy0
                    have HY1 := hide gy1
                    have HO := hide gown
                    have HGS := hide gs
                    have hRwb : Rw < wb.heap.size := by omega
                    have hSwb : S < wb.heap.size := by omega
                    have hwrb : wr.heap.size < wb.heap.size := by omega
                    have nR1 : Rw ≠ S := fun e => hne e.symm
                    have nR2 : Rw ≠ wr.heap.size := by omega
                    have hwkb : wk.heap.size ≤ wb.heap.size := by omega
                    clear gs d0 d1 d2 d3 f0 f2 v1 v2 gown hwb
                    refine wp_region_reads 13 (fun w' => w'.cell? ⟨S, 2, none⟩ = some (.slice (some ⟨Rw, 0, none⟩) ls.length ls.length) ∧ w'.cell? ⟨Rw, j, none⟩ = some (.slice Av2 (crossL (r.take m) c).length cv2) ∧ w'.cell? ⟨wr.heap.size, 1, none⟩ = some (.int .i64 y0) ∧ w'.cell? ⟨wr.heap.size, 3, none⟩ = some (.int .i64 y1)) (by kernel_rfl) (by kernel_rfl) ⟨g2, gv, gy0, gy1⟩ ?_
                    simp only [List.take_succ_cons, List.take_zero, List.drop_succ_cons, List.drop_zero]
                    iterate 13
                      refine ⟨?_, Or.inl ⟨by rfl, ?_⟩, ?_⟩
                      rotate_left 1
                      · intro w' hSw
                        obtain ⟨z1, z2, z3, z4⟩ := hSw
                        go_simp
                        first | done | with_reducible rfl
                      simp only [Act.put, List.setIfInBounds_toArray, List.set_cons_zero, List.set_cons_succ]
                    simp only [wpReads]
                    intro K hK
                    go_simp
                    refine hK _ _ (fun _ => ⟨by go_keep, by go_keep, by go_keep, by go_keep⟩) ?_
                    clear hK K
                    intro K hK
                    refine step_append_lies _ rfl (.tmp 61) (.tmp 67) 182 rfl wk.heap.size 188 i1 (.agg #[.int .i64 0, .int .i64 0]) 2 16 Tryz.underlying182 gi gz0 gz1 gz2 rfl (by decide) (.slice Av2 (crossL (r.take m) c).length cv2) (crossL (r.take m) c).length _ rfl (own_drew (World.ownsRow.alloc (w := wb) HO.out _)) ⟨wb.heap.size, 0, none⟩ 1 1 [.int .i64 y0, .int .i64 y1] rfl rfl (news_drew wb _ _ _ rfl) (ints_one rfl) (by omega) (by unfold maxLen; omega) (by omega) (by simp; omega) _ rfl ?_
                    intro g9 cap9 w9 hown9 hgrow9 _ _
                    obtain ⟨s1, s2, s3, s4, s5, HF9⟩ := app_after HSS.out hp ⟨c1, c2⟩ HV1.out hRk HBW.out _ HV2.out hgrow9 hown9 HFZ.out hSk HG2.out HY0.out HY1.out
                    clear hown9 hgrow9
                    refine hK _ _ (fun _ => ⟨s1, s2, s3, s4⟩) ?_
                    clear hK K
                    intro K hK
                    simp only [Act.put, List.setIfInBounds_toArray, List.set_cons_zero, List.set_cons_succ] at hK ⊢
                    go_simp
                    refine hK _ _ (fun _ => ⟨s1, s2, s3, s4⟩) ?_
                    clear hK K
                    intro K hK
                    simp only [Act.put, List.setIfInBounds_toArray, List.set_cons_zero, List.set_cons_succ] at hK ⊢
                    go_simp
                    refine hK _ _ (fun h => absurd rfl h) ?_
                    clear hK K
                    refine NoPanic.normal ?_
                    have HF9' := hide HF9.out
                    go_wp2
                    go_roundw
                    case rel => exact ⟨m + 1, by omega, by go_num, HF9'.out⟩
                    case measure => simp [intOf]; omega
                  · have c2' : x1 ≤ c := by omega
                    go_wp2
                    go_roundw
                    case rel => exact ⟨m + 1, by omega, by go_num, HSS.out.skip hp (fun h => by have := h.2; simp at this; omega) ((Below.refl _ _).alloc (Nat.le_refl _) _) (by omega)⟩
                    case measure => simp [intOf]; omega
                · have c1' : c < x0 := by omega
                  go_wp2
                  go_roundw
                  case rel => exact ⟨m + 1, by omega, by go_num, HSS.out.skip hp (fun h => by have := h.1; simp at this; omega) ((Below.refl _ _).alloc (Nat.le_refl _) _) (by omega)⟩
                  case measure => simp [intOf]; omega
              · obtain rfl : m = r.length := by omega
                have hmz : ¬ (r.length : Int) < (r.length : Int) := by omega
                have HF := hide (SIn.fin HM.out hr SS)
                clear SS e0 e2
                go_wp2
                go_roundw
                case rel => exact ⟨j + 1, by omega, by go_num, HF.out⟩
                case measure => simp [intOf]; omega
          · obtain rfl : j = ls.length := by omega
            have hjz : ¬ (ls.length : Int) < (ls.length : Int) := by omega
            have e0 := M.s0
            have e1 := M.s1
            have e2 := M.s2
            have hJ2 := HJ.out _ _ _ HJk.out M.below
            have hx : (prs cs)[k]? = some (c, d) := HP.out
            obtain ⟨hkp, hxe⟩ := List.getElem?_eq_some_iff.1 hx
            have hfi : (prs cs).take (k + 1) = (prs cs).take k ++ [(c, d)] := by rw [List.take_succ_eq_append_getElem hkp, hxe]
            have hpost : ∃ post, prs cs = (prs cs).take k ++ (c, d) :: post := ⟨(prs cs).drop (k + 1), by rw [← hxe, ← List.drop_eq_getElem_cons hkp, List.take_append_drop]⟩
            have hok : OkSlab ls (c, d) #[.agg #[.int .i64 c, .int .i64 d, .slice (some ⟨Rw, 0, none⟩) ls.length ls.length]] wr := by
              refine ⟨Rw, rfl, M.topR, fun q l hl => ?_⟩
              obtain ⟨v, v1, v2⟩ := M.done q l (List.getElem?_eq_some_iff.1 hl).1 hl
              exact ⟨v, v1, own_rd v2 (fun _ => rfl)⟩
            obtain ⟨fn, tmps, assign, body, hy, hR⟩ := HY.out ((prs cs).take k) (c, d) #[.agg #[.int .i64 c, .int .i64 d, .slice (some ⟨Rw, 0, none⟩) ls.length ls.length]] wr hJ2 hpost hok
            have FI := hide hfi
            have HM := hide M
            clear hx hxe hfi hpost hJ2 hok HJ HY M
            have hk2 : (k : Int) + 1 + 1 ≤ 100000001 := by omega
            have hk3' : (0 : Int) ≤ (k : Int) := by omega
            go_wp2
            gi_wp2
            refine ⟨rfl, hR.mono ?_⟩
            rintro e W3 (⟨rfl, hJ3, hk3⟩ | ⟨rfl, hJx3⟩)
            · have HJ3 := hide hJ3
              have HK3 := hide hk3
              clear hJ3 hk3 hR
              gi_wp2
              go_roundw
              case rel =>
                refine ⟨k + 1, by omega, by go_num, hide (by rw [FI.out]; exact HJ3.out), hide fun b o h1 h2 => (HK3.out.2 b o h1 h2).trans ((HM.out.below.cell (p := ⟨b, o, none⟩) (by show b < _; omega)).trans (HC.out b o h1 h2)), ?_⟩
                have := HK3.out.1
                have := HM.out.below.size
                omega
              case measure => simp [intOf]; omega
            · have HJx := hide hJx3
              clear hJx3 hR
              gi_wp2
              refine bodyPost_ret (results_none rfl _ _ _) rfl ?_
              exact ⟨⟨_, rfl⟩, .inr ⟨_, HJx.out⟩⟩
    · have hltz : ¬ (k : Int) + 1 < (cs.length : Int) := by omega
      have hk' : (prs cs).take k = prs cs := List.take_of_length_le (by omega)
      have HK := hide hk'
      clear hk' HJ HY h0
      gi_wp2
      go_end0
      exact ⟨⟨_, rfl⟩, .inl (by have := HJk.out; rw [HK.out] at this; exact this)⟩
end Go.Proofs.YtdolpeljengpaaaGreat

/- A region that draws its order: reads, a chain (a call) that keeps their condition, reads of slots in any order, and a last operation. The law, in a round and outside of one. -/
namespace Go.Proofs.YtdolpeljengpaaaGreat
open Go.RowKit
set_option linter.unusedVariables false
set_option linter.unusedSimpArgs false

section
variable {P : Program} {Q : Exit → Act → World → Prop} {md : Region.Mode} {S : World → Prop}

def mixCB (md : Region.Mode) (ops : Array Oper) (R2 T2 : List Nat) : List Nat → Array Bool → Bool
  | [], l => mixRB md ops T2 R2 l
  | t :: r, l => (Region.ready md ops l == [t]) && mixCB md ops R2 T2 r (l.setIfInBounds t true)
def mixHB (md : Region.Mode) (ops : Array Oper) (T R2 T2 : List Nat) : List Nat → Array Bool → Bool
  | [], l => mixCB md ops R2 T2 T l
  | i :: r, l => Region.free md ops l i && (Region.ready md ops l).contains i && waitsFor md ops (ops.size - 1) i && mixHB md ops T R2 T2 r (l.setIfInBounds i true)
def mixTwoB (md : Region.Mode) (ops : Array Oper) (R T R2 T2 : List Nat) : Bool := Region.noSelect ops && decide (R.length + (T.length + (R2.length + T2.length)) = ops.size) && (T2.getLast? == some (ops.size - 1)) && mixHB md ops T R2 T2 R (Array.replicate ops.size false)

/-- One operation behind the other; behind each, S is shown anew. -/
def wpChain (P : Program) (ops : Array Oper) (S : World → Prop) (Q : Exit → Act → World → Prop) (K : Act → World → Prop) : List Oper → Act → World → Prop
  | [], a, w => K a w
  | o :: r, a, w => ∀ K' : Act → World → Prop, (∀ a' w', S w' → wpChain P ops S Q K r a' w' → K' a' w') → if Region.wanted o (yielded ops a.tmps) = true then o.wp P a w K' Q else K' (a.put o.dst undef) w

theorem wpChain_mix {l : List Oper} {R2 T2 : List Nat} (hsel : ∀ (j : Nat) (o : Oper) cs b, l.toArray[j]? = some o → o.op ≠ .select cs b) (hQ : ∀ c a a' w, Q (.panic c) a w → Q (.panic c) a' w) (hL : ∀ t, T2.getLast? = some t → t = l.length - 1) :
    ∀ (T : List Nat) (listed : Array Bool) (a : Act) (w : World), S w → mixCB md l.toArray R2 T2 T listed = true →
      wpChain P l.toArray S Q (fun a w => wpReads P l.toArray S (fun a' => wpTail P l.toArray S Q (T2.map (opAt l)) a' w) (R2.map (opAt l)) a) (T.map (opAt l)) a w →
      wpAnyE P md l.toArray Q S (l.length - 1) (T.length + (R2.length + T2.length)) listed a w
  | [], listed, a, w, hS, hT, h => by
    rw [List.length_nil, Nat.zero_add]
    exact wpReads_mix hsel hQ hL hS R2 listed a hT h
  | t :: r, listed, a, w, hS, hT, h => by
    simp only [mixCB, Bool.and_eq_true, beq_iff_eq] at hT
    rw [List.length_cons, Nat.add_right_comm]
    refine ⟨fun h0 => (by rw [hT.1] at h0; cases h0), fun i hi => ?_⟩
    obtain ⟨_, o, ho, _⟩ := mem_ready.1 hi
    rw [hT.1] at hi
    obtain rfl : i = t := by simpa using hi
    have ho' : l[i]? = some o := by simpa using ho
    simp only [List.map_cons, opAt_some ho'] at h
    refine wpOp_step ho fun K' hK => h K' fun a' w' hS' hT' => hK a' w' ⟨fun _ => hS', ?_⟩
    exact wpChain_mix hsel hQ hL r _ a' w' hS' hT.2 hT'
theorem wpHead_mix {l : List Oper} {T R2 T2 : List Nat} (hsel : ∀ (j : Nat) (o : Oper) cs b, l.toArray[j]? = some o → o.op ≠ .select cs b) (hQ : ∀ c a a' w, Q (.panic c) a w → Q (.panic c) a' w) (hL : ∀ t, T2.getLast? = some t → t = l.length - 1)
    {w : World} (hS : S w) : ∀ (R : List Nat) (listed : Array Bool) (a : Act), mixHB md l.toArray T R2 T2 R listed = true →
      wpReads P l.toArray S (fun a' => wpChain P l.toArray S Q (fun a w => wpReads P l.toArray S (fun a' => wpTail P l.toArray S Q (T2.map (opAt l)) a' w) (R2.map (opAt l)) a) (T.map (opAt l)) a' w) (R.map (opAt l)) a →
      wpAnyE P md l.toArray Q S (l.length - 1) (R.length + (T.length + (R2.length + T2.length))) listed a w
  | [], listed, a, hR, h => by
    rw [List.length_nil, Nat.zero_add]
    exact wpChain_mix hsel hQ hL T listed a w hS hR h
  | i :: r, listed, a, hR, h => by
    simp only [mixHB, Bool.and_eq_true, List.contains_iff_mem] at hR
    obtain ⟨⟨⟨f1, f2⟩, f3⟩, f4⟩ := hR
    obtain ⟨_, o, ho, _⟩ := mem_ready.1 f2
    have ho' : l[i]? = some o := by simpa using ho
    simp only [List.map_cons, opAt_some ho'] at h
    obtain ⟨v, hy, h⟩ := h
    have ih := wpHead_mix hsel hQ hL hS r _ _ f4 h
    rw [List.length_cons, Nat.add_right_comm]
    refine wpAnyE_first ho hsel (fun c a w h => hQ c _ _ w h) ?_ _ _ _ _ (Region.free_spec ho f1) f2 hy hS ih
    intro oL hoL
    unfold waitsFor at f3
    simp only [List.size_toArray] at f3
    rw [hoL] at f3
    obtain ⟨e, he, h2⟩ := Array.any_eq_true'.1 f3
    simp only [Bool.and_eq_true, beq_iff_eq] at h2
    exact ⟨e, he, h2.1, h2.2⟩
theorem wpAny_two {a : Act} {w : World} {l : List Oper} (R T R2 T2 : List Nat) (hB : mixTwoB .any l.toArray R T R2 T2 = true) (hS : S w)
    (h : wpReads P l.toArray S (fun a' => wpChain P l.toArray S (NoPanic Q) (fun a w => wpReads P l.toArray S (fun a' => wpTail P l.toArray S (NoPanic Q) (T2.map (opAt l)) a' w) (R2.map (opAt l)) a) (T.map (opAt l)) a' w) (R.map (opAt l)) a) :
    wpAny P .any l.toArray (NoPanic Q) l.toArray.size (Array.replicate l.toArray.size false) a w := by
  refine wpAny_of_E (S := S) (L := l.length - 1) _ _ _ _ ?_
  simp only [mixTwoB, Bool.and_eq_true, decide_eq_true_eq, beq_iff_eq, List.size_toArray] at hB
  obtain ⟨⟨⟨b1, b2⟩, b3⟩, b4⟩ := hB
  have := wpHead_mix (Q := NoPanic Q) (S := S) (l := l) (T := T) (R2 := R2) (T2 := T2) (w := w) (Region.noSelect_spec b1) (fun _ _ _ _ h => h) (fun t ht => by rw [b3] at ht; injection ht with ht; exact ht.symm) hS R _ a b4 h
  rw [b2] at this
  exact this
theorem wp_region_two {id : Nat} {a : Act} {w : World} {l : List Oper} (R T R2 T2 : List Nat) (S : World → Prop) (hm : P.follows .mixedOrders = true) (hB : mixTwoB .any l.toArray R T R2 T2 = true) (hS : S w.drew)
    (h : wpReads P l.toArray S (fun a' => wpChain P l.toArray S (NoPanic Q) (fun a w => wpReads P l.toArray S (fun a' => wpTail P l.toArray S (NoPanic Q) (T2.map (opAt l)) a' w) (R2.map (opAt l)) a) (T.map (opAt l)) a' w.drew) (R.map (opAt l)) a) :
    (Code.region id l.toArray true).wp P Q a w :=
  wp_region_noPanic (wp_region_any hm (wpAny_two R T R2 T2 hB hS h))
theorem wpIn_region_two {id r m : Nat} {a : Act} {w : World} {l : List Oper} (R T R2 T2 : List Nat) (S : World → Prop) (hm : P.follows .mixedOrders = true) (hB : mixTwoB .any l.toArray R T R2 T2 = true) (hnd : noDefer l = true) (hout : ∀ a w, ¬ Q .outgrown a w) (hS : S w.drew)
    (h : wpReads P l.toArray S (fun a' => wpChain P l.toArray S (NoPanic Q) (fun a w => wpReads P l.toArray S (fun a' => wpTail P l.toArray S (NoPanic Q) (T2.map (opAt l)) a' w) (R2.map (opAt l)) a) (T.map (opAt l)) a' w.drew) (R.map (opAt l)) a) :
    (Code.region id l.toArray true).wpIn (Fence.wide.inRound r) m P Q a w :=
  Code.wpIn_mono NoPanic.imp (wpIn_region_any hm (wpAny_round (noDefer_spec hnd) (fun a w h => hout a w (NoPanic.imp _ _ _ h)) _ _ _ _ (wpAny_two R T R2 T2 hB hS h)))
end
end Go.Proofs.YtdolpeljengpaaaGreat
