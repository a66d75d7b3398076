/- Texts laid together: MLabel, TouchC, MArea, PartsB, GraL, StrB, MStrF, MStrG, MStrH, StrC. Lemmas for the statements of this seat; no condition. -/
import Derived.Test.YtikojiciilambaaGreatPk6
import Derived.Test.YtikojiciilambaaGreatPk1
import Derived.Test.YtikojiciilambaaGreatPk3
import Derived.Test.YtikojiciilambaaGreatPk4
import Derived.Test.YtikojiciilambaaGreatPk2

/- Plain law: labels that go down along neighbours, step by step. -/
namespace Go.Proofs.YtikojiciilambaaGreat
set_option linter.unusedVariables false
set_option linter.unusedSimpArgs false
def Lb (l : List R4) (L : List Int) : Prop := L.length = l.length ∧ ∀ (i : Nat) x, L[i]? = some x → ∃ j : Nat, x = (j : Int) ∧ Conn l i j ∧ j ≤ i
def sumN (L : List Int) : Nat := (L.map Int.toNat).sum
def Seen (l : List R4) (L : List Int) (m j : Nat) : Prop := ∀ i k x y, adj l i k → L[i]? = some x → L[k]? = some y → (i < m ∨ (i = m ∧ k < j)) → x ≤ y
def Pass (l : List R4) (L0 L : List Int) (mb : Bool) (m j : Nat) : Prop := Lb l L ∧ ((mb = true ∧ sumN L < sumN L0) ∨ (mb = false ∧ L = L0 ∧ Seen l L m j))
theorem sumN_set : ∀ {L : List Int} {i : Nat} {x y : Int}, L[i]? = some x → sumN (L.set i y) + x.toNat = sumN L + y.toNat
 | [], i, x, y, h => by simp at h
 | a :: L, 0, x, y, h => by
  simp at h
  subst h
  simp [sumN]; omega
 | a :: L, i + 1, x, y, h => by
  have := sumN_set (L := L) (i := i) (y := y) (by simpa using h)
  simp [sumN] at this ⊢
  omega
theorem Lb.start (l : List R4) : Lb l ((List.range l.length).map fun i : Nat => (i : Int)) := by
 refine ⟨by simp, fun i x h => ?_⟩
 rw [List.getElem?_map] at h
 obtain ⟨j, hj, rfl⟩ := Option.map_eq_some_iff.1 h
 obtain ⟨h1, h2⟩ := List.getElem?_eq_some_iff.1 hj
 simp at h2
 subst h2
 exact ⟨i, rfl, .refl, Nat.le_refl _⟩
theorem Pass.down {l : List R4} {L0 L : List Int} {mb : Bool} {m j : Nat} {x y : Int} (h : Pass l L0 L mb m j) (ha : adj l m j) (hx : L[m]? = some x) (hy : L[j]? = some y) (hlt : y < x) : Pass l L0 (L.set m y) true m (j + 1) := by
 obtain ⟨⟨h1, h2⟩, h3⟩ := h
 obtain ⟨jy, ey, cy, _⟩ := h2 j y hy
 obtain ⟨jx, ex, cx, lx⟩ := h2 m x hx
 refine ⟨⟨by simpa using h1, fun i z hz => ?_⟩, .inl ⟨rfl, ?_⟩⟩
 ·by_cases hi : m = i
  ·subst hi
   have hm : m < L.length := (List.getElem?_eq_some_iff.1 hx).1
   rw [List.getElem?_set_self hm] at hz
   injection hz with hz
   subst hz
   exact ⟨jy, ey, (Conn.refl.step ha).trans cy, by omega⟩
  ·rw [List.getElem?_set_ne hi] at hz
   exact h2 i z hz
 ·have := sumN_set (y := y) hx
  rcases h3 with ⟨_, h3⟩ | ⟨_, rfl, _⟩ <;> omega
theorem Pass.stay {l : List R4} {L0 L : List Int} {mb : Bool} {m j : Nat} (h : Pass l L0 L mb m j) (hn : ∀ x y, adj l m j → L[m]? = some x → L[j]? = some y → x ≤ y) : Pass l L0 L mb m (j + 1) := by
 refine ⟨h.1, h.2.imp id fun ⟨a, b, c⟩ => ⟨a, b, fun i k x y ha hx hy hs => ?_⟩⟩
 by_cases e : i = m ∧ k = j
 ·obtain ⟨rfl, rfl⟩ := e
  exact hn x y ha hx hy
 ·exact c i k x y ha hx hy (by omega)
theorem Pass.row {l : List R4} {L0 L : List Int} {mb : Bool} {m j : Nat} (h : Pass l L0 L mb m j) (hj : l.length ≤ j) : Pass l L0 L mb (m + 1) 0 := by
 refine ⟨h.1, h.2.imp id fun ⟨a, b, c⟩ => ⟨a, b, fun i k x y ha hx hy hs => ?_⟩⟩
 have hk : k < L.length := (List.getElem?_eq_some_iff.1 hy).1
 have := h.1.1
 exact c i k x y ha hx hy (by omega)
theorem Pass.done {l : List R4} {L0 L : List Int} {m j : Nat} (h : Pass l L0 L false m j) (hm : l.length ≤ m) : L = (List.range l.length).map fun i => ((mn l i : Nat) : Int) := by
 obtain ⟨⟨h1, h2⟩, h3⟩ := h
 obtain ⟨_, _, hs⟩ := h3.resolve_left (fun q => by cases q.1)
 have key := labels_mn (l := l) (f := fun i => ((L[i]?).getD 0).toNat) (fun i hi => by
  obtain ⟨x, hx⟩ : ∃ x, L[i]? = some x := ⟨_, List.getElem?_eq_getElem (by omega)⟩
  obtain ⟨j, rfl, c, le⟩ := h2 i x hx
  simp only [hx, Option.getD_some, Int.toNat_natCast]
  exact ⟨c, le⟩) (fun i k ha => by
  obtain ⟨x0, y0, g1, g2, _⟩ := id ha
  have hi := (List.getElem?_eq_some_iff.1 g1).1
  have hk := (List.getElem?_eq_some_iff.1 g2).1
  obtain ⟨x, hx⟩ : ∃ x, L[i]? = some x := ⟨_, List.getElem?_eq_getElem (by omega)⟩
  obtain ⟨y, hy⟩ : ∃ y, L[k]? = some y := ⟨_, List.getElem?_eq_getElem (by omega)⟩
  have := hs i k x y ha hx hy (.inl (by omega))
  simp only [hx, hy, Option.getD_some]
  omega)
 apply List.ext_getElem?
 intro i
 by_cases hi : i < l.length
 ·obtain ⟨x, hx⟩ : ∃ x, L[i]? = some x := ⟨_, List.getElem?_eq_getElem (by omega)⟩
  obtain ⟨j, rfl, c, le⟩ := h2 i x hx
  have := key i hi
  simp only [hx, Option.getD_some, Int.toNat_natCast] at this
  rw [hx, List.getElem?_map, List.getElem?_range hi]
  simp [this]
 ·rw [List.getElem?_eq_none (by omega), List.getElem?_eq_none (by simpa using hi)]
end Go.Proofs.YtikojiciilambaaGreat

/- The reference's Touch. -/
namespace Go.Proofs.YtikojiciilambaaGreat
open Go.RowKit
set_option linter.unusedVariables false
set_option linter.unusedSimpArgs false
end Go.Proofs.YtikojiciilambaaGreat

/- Plain law: sums over the lattice; how many points of it a list of rectangles has. -/
namespace Go.Proofs.YtikojiciilambaaGreat
set_option linter.unusedVariables false
set_option linter.unusedSimpArgs false
def ind (p : Prop) [Decidable p] : Int := if p then 1 else 0
def meet4 (p q : R4) : R4 := ⟨max p.x0 q.x0, max p.y0 q.y0, min p.x1 q.x1, min p.y1 q.y1⟩
theorem rin_meet (p q : R4) (x y : Int) : rin (meet4 p q) x y ↔ rin p x y ∧ rin q x y := by
 simp only [rin, meet4]; omega
def apart4 (a b : R4) : Prop := ∀ x y, ¬ (rin a x y ∧ rin b x y)
def one (a : List R4) (x y : Int) : Int := ind (pmem a x y)
theorem SCan.apart {s : List Sp} (h : SCan s) : s.Pairwise fun p q => p.2 ≤ q.1 := h.2.imp fun h => by omega
theorem flat_apart : ∀ {S : List Slab}, SOK S → (flat S).Pairwise apart4
 | [], _ => List.Pairwise.nil
 | a :: S, h => by
  have ih := flat_apart h.tail
  have e : flat (a :: S) = flat1 a ++ flat S := by simp [flat]
  rw [e, List.pairwise_append]
  refine ⟨?_, ih, fun r hr s hs x y ⟨h1, h2⟩ => ?_⟩
  ·unfold flat1
   rw [List.pairwise_map]
   exact h.head.2.2.apart.imp fun {p q} hpq x y ⟨h1, h2⟩ => by
    simp only [rin] at h1 h2; omega
  ·obtain ⟨p, hp, rfl⟩ := List.mem_map.1 hr
   obtain ⟨b, hb, hs⟩ := List.mem_flatMap.1 hs
   obtain ⟨q, hq, rfl⟩ := List.mem_map.1 hs
   have := h.after b hb
   simp only [rin] at h1 h2; omega
theorem RCan.apart {l : List R4} (h : RCan l) : l.Pairwise apart4 := by
 obtain ⟨S, hS, rfl⟩ := h
 exact flat_apart hS
end Go.Proofs.YtikojiciilambaaGreat

/- The reference's Parts. -/
namespace Go.Proofs.YtikojiciilambaaGreat
open Go.RowKit
set_option linter.unusedVariables false
set_option linter.unusedSimpArgs false
structure Regs (w : World) (vo : Value) (R : List (List R4)) (wr : World) : Prop where
 low : Below w.heap.size w wr
 o : ∃ vs, wr.ownsRow w.heap.size 34 1 vo R.length vs ∧ ∀ (i : Nat) (r : List R4), R[i]? = some r → ∃ v, vs[i]? = some v ∧ wr.ownsRow w.heap.size 49 4 v r.length (r.flatMap encR)
theorem Regs.below {w wr w2 : World} {vo : Value} {R : List (List R4)} (h : Regs w vo R wr) (hb : Below wr.heap.size wr w2) : Regs w vo R w2 := by
 obtain ⟨vs, h1, h2⟩ := h.o
 refine ⟨h.low.trans (hb.mono h.low.size), vs, own_below h1 hb, fun i r hr => ?_⟩
 obtain ⟨v, h3, h4⟩ := h2 i r hr
 exact ⟨v, h3, own_below h4 hb⟩
theorem Regs.push {w wr w2 : World} {vo v2 v : Value} {R : List (List R4)} {r : List R4} {vs : List Value} (low : Below w.heap.size w wr) (h1 : wr.ownsRow w.heap.size 34 1 vo R.length vs)
  (h2 : ∀ (i : Nat) (r : List R4), R[i]? = some r → ∃ v, vs[i]? = some v ∧ wr.ownsRow w.heap.size 49 4 v r.length (r.flatMap encR)) (hv : wr.ownsRow w.heap.size 49 4 v r.length (r.flatMap encR))
  (hg : wr.grownBy w2 vo.ownBlock) (h3 : w2.ownsRow w.heap.size 34 1 v2 (R.length + 1) (vs ++ [v])) : Regs w v2 (R ++ [r]) w2 := by
 have hl : vs.length = R.length := by have := h1.1; omega
 refine ⟨low.grown hg low.size (fun q hq => (h1.lt q hq).1), vs ++ [v], by simpa using h3, fun i x hx => ?_⟩
 by_cases hi : i < R.length
 ·rw [List.getElem?_append_left hi] at hx
  obtain ⟨u, h4, h5⟩ := h2 i x hx
  exact ⟨u, by rw [List.getElem?_append_left (by omega)]; exact h4, h5.kept hg (own_apart h5 h1 (by decide))⟩
 ·rw [List.getElem?_append_right (by omega)] at hx
  have hi0 : i - R.length = 0 := by
   have := (List.getElem?_eq_some_iff.1 hx).1
   simp at this
   omega
  rw [hi0] at hx
  simp at hx
  subst hx
  refine ⟨v, by rw [List.getElem?_append_right (by omega), hl, hi0]; rfl, hv.kept hg (own_apart hv h1 (by decide))⟩
def RegsRet (B : Nat) (x : List (List R4) × Int) (e : Ending) (w' : World) : Prop :=
 ∃ A c vs, e = .returned (.tuple #[.slice A x.1.length c, .int .i64 x.2]) ∧ w'.ownsRow B 34 1 (.slice A x.1.length c) x.1.length vs ∧ ∀ (i : Nat) (r : List R4), x.1[i]? = some r → ∃ v, vs[i]? = some v ∧ w'.ownsRow B 49 4 v r.length (r.flatMap encR)
noncomputable def partsE (l : List R4) : List (List R4) × Int := if checkF l = 0 then (partsF l, 0) else ([], checkF l)
theorem infoRg : (Tryz.prog.info? 34).map (fun i => (i.zero, i.size, i.bytes)) = some (some (.slice none 0 0), 1, 24) := by kernel_rfl
theorem cmn_apart {l : List R4} (h : l.Pairwise apart4) {i k : Nat} {x y : R4} (hx : l[i]? = some x) (hy : l[k]? = some y) (hne : i ≠ k) (wx : wf4 x) (wy : wf4 y) : cmn x y = false := by
 obtain ⟨hi, ex⟩ := List.getElem?_eq_some_iff.1 hx
 obtain ⟨hk, ey⟩ := List.getElem?_eq_some_iff.1 hy
 have key : ∀ a b : R4, apart4 a b → wf4 a → wf4 b → cmn a b = false := fun a b hab w1 w2 => by
  have := hab (max a.x0 b.x0) (max a.y0 b.y0)
  unfold wf4 at w1 w2
  simp only [rin] at this
  unfold cmn
  by_cases c1 : a.x0 < b.x1 <;> by_cases c2 : b.x0 < a.x1 <;> by_cases c3 : a.y0 < b.y1 <;> by_cases c4 : b.y0 < a.y1 <;> simp only [c1, c2, c3, c4, decide_true, decide_false, Bool.and_true, Bool.and_false, Bool.false_and]
  exact absurd ⟨⟨by omega, by omega, by omega, by omega⟩, by omega, by omega, by omega, by omega⟩ this
 have P := List.pairwise_iff_getElem.1 h
 rcases Nat.lt_or_gt_of_ne hne with hlt | hlt
 ·exact key x y (by have := P i k hi hk hlt; rwa [ex, ey] at this) wx wy
 ·exact key x y (fun u v ⟨h1, h2⟩ => by have := P k i hk hi hlt; rw [ex, ey] at this; exact this u v ⟨h2, h1⟩) wx wy
noncomputable def compP (l : List R4) (i j : Nat) : List R4 := ((List.range j).filter fun k => decide (mn l k = i)).filterMap fun k => l[k]?
theorem compP_in {l : List R4} {i j : Nat} {r : R4} (hr : l[j]? = some r) (h : mn l j = i) : compP l i (j + 1) = compP l i j ++ [r] := by
 unfold compP
 rw [List.range_succ, List.filter_append, List.filterMap_append]
 simp [h, hr]
theorem compP_out {l : List R4} {i j : Nat} (h : mn l j ≠ i) : compP l i (j + 1) = compP l i j := by
 unfold compP
 rw [List.range_succ, List.filter_append, List.filterMap_append]
 simp [h]
theorem compP_all (l : List R4) (i : Nat) : compP l i l.length = compL l i := rfl
theorem compP_len (l : List R4) (i j : Nat) : (compP l i j).length ≤ j := by
 unfold compP
 exact Nat.le_trans (List.length_filterMap_le _ _) (Nat.le_trans (List.length_filter_le _ _) (by simp))
noncomputable def partsP (l : List R4) (m : Nat) : List (List R4) := ((List.range m).filter fun i => decide (mn l i = i)).map fun i => rjoin hFst (compL l i) []
theorem partsP_in {l : List R4} {m : Nat} (h : mn l m = m) : partsP l (m + 1) = partsP l m ++ [rjoin hFst (compL l m) []] := by
 unfold partsP
 rw [List.range_succ, List.filter_append, List.map_append]
 simp [h]
theorem partsP_out {l : List R4} {m : Nat} (h : mn l m ≠ m) : partsP l (m + 1) = partsP l m := by
 unfold partsP
 rw [List.range_succ, List.filter_append, List.map_append]
 simp [h]
theorem partsP_all (l : List R4) : partsP l l.length = partsF l := rfl
theorem partsP_len (l : List R4) (m : Nat) : (partsP l m).length ≤ m := by
 unfold partsP
 rw [List.length_map]
 exact Nat.le_trans (List.length_filter_le _ _) (by simp)
theorem lab_cell {w wr : World} {g n c i : Nat} {L : List Int} {x : Int} (h : wr.ownsRow w.heap.size 3 1 (.slice (some ⟨g, 0, none⟩) n c) n (L.map iv)) (hx : L[i]? = some x) : wr.cell? ⟨g, i, none⟩ = some (.int .i64 x) := by
 have := (h.cells (g := g) rfl) i (iv x) (by simp [hx])
 rwa [addr_add] at this
theorem rects_at {W wr : World} {l : List R4} {b o m : Nat} (hk : ∀ (j : Nat) (x : R4), l[j]? = some x → ∀ (i : Nat) (u : Value), (encR x)[i]? = some u → W.cell? ⟨b, o + j * 4 + i, none⟩ = some u) (hb : ∀ q, wr.cell? ⟨b, q, none⟩ = W.cell? ⟨b, q, none⟩) {p0 p1 p2 p3 : Int} (hp : l[m]? = some ⟨p0, p1, p2, p3⟩) :
  wr.cell? ⟨b, o + m * 4, none⟩ = some (.int .i64 p0) ∧ wr.cell? ⟨b, o + m * 4 + 1, none⟩ = some (.int .i64 p1) ∧ wr.cell? ⟨b, o + m * 4 + 2, none⟩ = some (.int .i64 p2) ∧ wr.cell? ⟨b, o + m * 4 + 3, none⟩ = some (.int .i64 p3) :=
 ⟨(hb _).trans (hk m _ hp 0 _ rfl), (hb _).trans (hk m _ hp 1 _ rfl), (hb _).trans (hk m _ hp 2 _ rfl), (hb _).trans (hk m _ hp 3 _ rfl)⟩
def lab0 (m : Nat) : List Int := (List.range m).map fun i : Nat => (i : Int)
theorem lab0_snoc (m : Nat) : (lab0 m).map iv ++ [.int .i64 (m : Int)] = (lab0 (m + 1)).map iv := by
 unfold lab0
 rw [List.range_succ, List.map_append, List.map_append]
 rfl
theorem cellSum_lab {w : World} {base n : Nat} {e : TypeId} {v : Value} {L : List Int} (h : w.ownsRow base e 1 v n (L.map iv)) : cellSum w v n = sumN L := by
 have hn : n = L.length := by have := h.1; simp at this; omega
 subst hn
 exact cellSum_own h
def labR (l : List R4) (w : World) (vf : Value) (L : List Int) (wr : World) : Prop := wr.ownsRow w.heap.size 3 1 vf l.length (L.map iv) ∧ Below w.heap.size w wr
set_option maxRecDepth 100000 in
set_option maxHeartbeats 4000000 in
theorem rParts_any {w : World} {v : Value} {l : List R4} (hr : RdK encR 4 w w.heap.size v l) (hl : l.length ≤ 100000000) :
  Calls Tryz.prog 72 #[v] w fun e w' => RegsRet w.heap.size (partsE l) e w' ∧ Below w.heap.size w w' := by
 obtain ⟨i1, gi, gz0, gz1, gz2⟩ := info_parts infoInt
 obtain ⟨i2, fi, fz0, fz1, fz2⟩ := info_parts infoRg
 obtain ⟨i3, ki, kz0, kz1, kz2⟩ := info_parts infoRc
 have hck := fun (W : World) (hW : Below w.heap.size w W) => rCheck_any (w := W) ((hr.below hW).mono hW.size) hl
 have hR := hide hr
 obtain ⟨A0, c0, hv, hc⟩ := id hr
 subst hv
 have HCK := hide hck
 have HRC := hide hc
 clear hck hr hc
 by_cases h0 : checkF l = 0
 ·obtain ⟨k1, k2, _⟩ := checkF_ok h0
  have HF : Hid (partsE l = (partsF l, 0)) := hide (if_pos h0)
  have HCAN := hide (check_rcan h0)
  have HV := hide k2
  rw [h0] at HCK
  clear k2 h0
  go_enter Tryz.func72, Tryz.ntmps72
  go_wp2_with (go_at_call 44; refine (HCK.out _ (Below.refl _ _)).mono ?_; rintro e w1 ⟨rfl, hb1⟩)
  have HB1 := hide hb1
  clear hb1
  go_loopw [4, 5] (fun v i wr => ∃ m : Nat, m ≤ l.length ∧ i = .int .i64 m ∧ ∃ Av cv, v = .slice Av m cv ∧ Hid (wr.ownsRow w.heap.size 3 1 v m ((lab0 m).map iv)) ∧ Hid (Below w.heap.size w wr)) (fun _ i _ => l.length - (intOf i).toNat)
  case atStart => exact ⟨0, Nat.zero_le _, rfl, none, 0, rfl, hide (World.ownsRow_nil _ _ _ _), HB1⟩
  case round =>
   clear HB1
   obtain ⟨m, hm, rfl, Av, cv, rfl, HO, HB⟩ := hrel
   by_cases hlt : m < l.length
   ·have mz : (m : Int) < (l.length : Int) := by omega
    have hsz := HB.out.size
    go_wp2_with (at_builtin; go_loud (refine wpList_append_lies _ rfl (.tmp 24) (.tmp 26) 133 rfl w.heap.size 3 i1 (.int .i64 0) 1 8 Tryz.underlying133 gi gz0 gz1 gz2 rfl (by decide) _ m _ rfl (HO.out.alloc _) ⟨wr.heap.size, 0, none⟩ 1 1 [.int .i64 m] rfl rfl (news_new wr _ _ _ rfl) (ints_one rfl) (by omega) (by unfold maxLen; omega) (by omega) (by simp; omega) _ rfl ?_))
    intro g9 cap9 w9 hown9 hgrow9 _ _
    rw [lab0_snoc] at hown9
    have HB9 := hide ((HB.out.alloc hsz _).grown hgrow9 (by simp; omega) (fun q hq => (HO.out.lt q hq).1))
    have HO9 := hide hown9
    clear hown9 hgrow9
    go_wp2
    go_roundw
    case rel => exact ⟨m + 1, by omega, by go_num, _, cap9, rfl, HO9, HB9⟩
    case measure => simp [intOf]; omega
   ·have mz : ¬ (m : Int) < (l.length : Int) := by omega
    obtain rfl : m = l.length := by omega
    go_wp2
    have HLB := hide (Lb.start l)
    have HO0 := hide (show labR l w (.slice Av l.length cv) (lab0 l.length) wr from ⟨HO.out, HB.out⟩)
    clear HO HB
    go_loopw [6] (fun q wr => ∃ mb : Bool, q = .bool mb ∧ ∃ L : List Int, Hid (Lb l L) ∧ Hid (labR l w (.slice Av l.length cv) L wr) ∧ Hid (mb = false → L = (List.range l.length).map fun i => ((mn l i : Nat) : Int)))
     (fun q wr => match q with | .bool true => cellSum wr (.slice Av l.length cv) l.length + 1 | _ => 0)
    case atStart => exact ⟨true, rfl, _, HLB, HO0, hide (fun h => by cases h)⟩
    case round =>
     clear HLB HO0
     obtain ⟨mb, rfl, L, HLB, HO, HDN⟩ := hrel
     cases mb with
     | true =>
      obtain ⟨L0, HL0⟩ : ∃ L0, Hid (L0 = L) := ⟨_, hide rfl⟩
      have HPS := hide (show Pass l L L false 0 0 from ⟨HLB.out, .inr ⟨rfl, rfl, fun i k x y _ _ _ h => by omega⟩⟩)
      go_wp2
      go_loopw [6, 7] (fun q i wr => ∃ m : Nat, m ≤ l.length ∧ i = .int .i64 m ∧ ∃ mb : Bool, q = .bool mb ∧ ∃ L1 : List Int, Hid (Pass l L L1 mb m 0) ∧ Hid (labR l w (.slice Av l.length cv) L1 wr)) (fun _ i _ => l.length - (intOf i).toNat)
      case atStart => exact ⟨0, Nat.zero_le _, rfl, false, rfl, L, HPS, HO⟩
      case round =>
       clear HPS
       obtain ⟨m, hm, rfl, mb, rfl, L1, HPS, HOa⟩ := hrel
       by_cases hlt : m < l.length
       ·have mz : (m : Int) < (l.length : Int) := by omega
        go_wp2
        go_loopw [6, 8] (fun q i wr => ∃ j : Nat, j ≤ l.length ∧ i = .int .i64 j ∧ ∃ mb : Bool, q = .bool mb ∧ ∃ L2 : List Int, Hid (Pass l L L2 mb m j) ∧ Hid (labR l w (.slice Av l.length cv) L2 wr)) (fun _ i _ => l.length - (intOf i).toNat)
        case atStart => exact ⟨0, Nat.zero_le _, rfl, mb, rfl, L1, HPS, HOa⟩
        case round =>
         clear HPS HOa
         obtain ⟨j, hj, rfl, mb, rfl, L2, HPS, HOb⟩ := hrel
         by_cases hlj : j < l.length
         ·have jz : (j : Int) < (l.length : Int) := by omega
          obtain ⟨g, cpg, hvg, hBg, hgg⟩ := HOb.out.1.form (by omega)
          injection hvg with e1 _ e3
          subst e1; subst e3
          have hL2 := HPS.out.1.1
          obtain ⟨x, hx⟩ : ∃ x, L2[m]? = some x := ⟨_, List.getElem?_eq_getElem (by omega)⟩
          obtain ⟨y, hy⟩ : ∃ y, L2[j]? = some y := ⟨_, List.getElem?_eq_getElem (by omega)⟩
          have cx := lab_cell HOb.out.1 hx
          have cy := lab_cell HOb.out.1 hy
          have r1 : (0 : Int) ≤ (m : Int) := by omega
          have r2 : (0 : Int) ≤ (j : Int) := by omega
          have hsz := HOb.out.2.size
          have hgw : g < wr.heap.size := (HOb.out.1.lt g rfl).2
          have HX := hide hx
          have HY := hide hy
          clear hx hy hL2
          by_cases hxy : y < x
          ·have hd : decide (y < x) = true := decide_eq_true hxy
           obtain ⟨⟨p0, p1, p2, p3⟩, hp⟩ : ∃ p, l[m]? = some p := ⟨_, List.getElem?_eq_getElem hlt⟩
           obtain ⟨⟨q0, q1, q2, q3⟩, hq⟩ : ∃ p, l[j]? = some p := ⟨_, List.getElem?_eq_getElem hlj⟩
           obtain ⟨b, o, rfl, hbl, k⟩ := HRC.out (by intro e; rw [e] at hlt; simp at hlt)
           obtain ⟨d0, d1, d2, d3⟩ := rects_at k (fun q => HOb.out.2.cell (p := ⟨b, q, none⟩) hbl) hp
           obtain ⟨e0, e1, e2, e3⟩ := rects_at k (fun q => HOb.out.2.cell (p := ⟨b, q, none⟩) hbl) hq
           have hbw : b < wr.heap.size := by omega
           have hvp := HV.out _ (List.mem_of_getElem? hp)
           have hvq := HV.out _ (List.mem_of_getElem? hq)
           have hne : m ≠ j := fun e => by
            subst e
            have := HX.out.symm.trans HY.out
            injection this with this
            omega
           have hbn := bsd_near (a := ⟨p0, p1, p2, p3⟩) (b := ⟨q0, q1, q2, q3⟩) ⟨hvp.1, hvp.2.1⟩ ⟨hvq.1, hvq.2.1⟩ (cmn_apart HCAN.out.apart hp hq hne ⟨hvp.1, hvp.2.1⟩ ⟨hvq.1, hvq.2.1⟩)
           have hnr := fun W => near_any ⟨p0, p1, p2, p3⟩ ⟨q0, q1, q2, q3⟩ (valid_mid hvp) (valid_mid hvq) W
           simp only [encR] at hnr
           rw [hbn] at hnr
           have HP := hide hp
           have HQ := hide hq
           have HXY := hide hxy
           cases hbs : bsd ⟨p0, p1, p2, p3⟩ ⟨q0, q1, q2, q3⟩ with
           | true =>
            rw [hbs] at hnr
            have HNR := hide hnr
            have HA := hide (show adj l m j from ⟨_, _, hp, hq, hbs⟩)
            clear k hp hq hvp hvq hne hbn hnr hbs hxy
            go_wp2
            refine wp_hab fun hab => ?_
            refine wp_region_above (by kernel_rfl) (by kernel_rfl) ?_
            repeat (go_big_quiet_step ((go_at_call 116; exact above_of (HNR.out _))))
            refine wpQuiet_nil ?_
            refine above_ends fun w3 hb3 => ?_
            clear hab d0 d1 d2 d3 e0 e1 e2 e3
            have cx3 := (hb3.cell (p := ⟨g, m, none⟩) hgw).trans cx
            have cy3 := (hb3.cell (p := ⟨g, j, none⟩) hgw).trans cy
            have hO3 := own_below HOb.out.1 hb3
            have f3 : w3.frozen? ⟨g, m, none⟩ = false := hO3.frozenAt _
            have hset := own_set (j := m) hO3 (iv y)
            rw [← List.map_set] at hset
            have HO4 := hide (show labR l w (.slice (some ⟨g, 0, none⟩) l.length cv) (L2.set m y) (w3.setCell ⟨g, m, none⟩ (iv y)) from ⟨hset, (HOb.out.2.trans (hb3.mono hsz)).setCell hBg _⟩)
            have HPS4 := hide (HPS.out.down HA.out HX.out HY.out HXY.out)
            clear hb3 cx cy hset hO3
            go_wp2
            go_roundw
            case rel => exact ⟨j + 1, by omega, by go_num, true, rfl, _, HPS4, HO4⟩
            case measure => simp [intOf]; omega
           | false =>
            rw [hbs] at hnr
            have HNR := hide hnr
            have HPS4 := hide (HPS.out.stay (fun x' y' ha _ _ => by
             obtain ⟨u, v, h1, h2, h3⟩ := ha
             rw [hp] at h1; rw [hq] at h2
             injection h1 with h1; injection h2 with h2
             subst h1; subst h2
             rw [hbs] at h3; cases h3))
            clear k hp hq hvp hvq hne hbn hnr hbs hxy
            go_wp2
            refine wp_hab fun hab => ?_
            refine wp_region_above (by kernel_rfl) (by kernel_rfl) ?_
            repeat (go_big_quiet_step ((go_at_call 116; exact above_of (HNR.out _))))
            refine wpQuiet_nil ?_
            refine above_ends fun w3 hb3 => ?_
            clear hab d0 d1 d2 d3 e0 e1 e2 e3
            have HO4 := hide (show labR l w (.slice (some ⟨g, 0, none⟩) l.length cv) L2 w3 from ⟨own_below HOb.out.1 hb3, HOb.out.2.trans (hb3.mono hsz)⟩)
            clear hb3 cx cy
            go_wp2
            go_roundw
            case rel => exact ⟨j + 1, by omega, by go_num, mb, rfl, _, HPS4, HO4⟩
            case measure => simp [intOf]; omega
          ·have hd : decide (y < x) = false := decide_eq_false hxy
           have HPS4 := hide (HPS.out.stay (fun x' y' _ h1 h2 => by
             have e1 := HX.out.symm.trans h1
             have e2 := HY.out.symm.trans h2
             injection e1 with e1; injection e2 with e2
             omega))
           clear hxy
           go_wp2
           refine wp_hab fun hab => ?_
           refine wp_region_above (by kernel_rfl) (by kernel_rfl) ?_
           repeat (go_big_quiet_step ((fail)))
           refine wpQuiet_nil ?_
           refine above_ends fun w3 hb3 => ?_
           clear hab
           have HO4 := hide (show labR l w (.slice (some ⟨g, 0, none⟩) l.length cv) L2 w3 from ⟨own_below HOb.out.1 hb3, HOb.out.2.trans (hb3.mono hsz)⟩)
           clear hb3 cx cy
           go_wp2
           go_roundw
           case rel => exact ⟨j + 1, by omega, by go_num, mb, rfl, _, HPS4, HO4⟩
           case measure => simp [intOf]; omega
         ·have jz : ¬ (j : Int) < (l.length : Int) := by omega
          have HPR := hide (HPS.out.row (by omega))
          go_wp2
          go_roundw
          case rel => exact ⟨m + 1, by omega, by go_num, mb, rfl, L2, HPR, HOb⟩
          case measure => simp [intOf]; omega
       ·have mz : ¬ (m : Int) < (l.length : Int) := by omega
        go_wp2
        go_roundw
        case rel => exact ⟨mb, rfl, L1, hide HPS.out.1, HOa, hide (fun h => by subst h; exact HPS.out.done (by omega))⟩
        case measure =>
         cases mb with
         | false => exact Nat.succ_pos _
         | true =>
          have h1 := cellSum_lab HO.out.1
          have h2 := cellSum_lab HOa.out.1
          have h3 := (HPS.out.2.resolve_right (fun q => by cases q.1)).2
          show cellSum _ _ _ + 1 < cellSum _ _ _ + 1
          rw [h1, h2]
          omega
     | false =>
      have hL := HDN.out rfl
      subst hL
      clear HDN HLB
      go_wp2
      go_loopw [9, 10] (fun v i wr => ∃ m : Nat, m ≤ l.length ∧ i = .int .i64 m ∧ ∃ Ao no co, v = .slice Ao no co ∧ Hid (no = (partsP l m).length) ∧ Hid (Regs w (.slice Ao no co) (partsP l m) wr) ∧ Hid (labR l w (.slice Av l.length cv) ((List.range l.length).map fun i => ((mn l i : Nat) : Int)) wr)) (fun _ i _ => l.length - (intOf i).toNat)
      case atStart => exact ⟨0, Nat.zero_le _, rfl, none, 0, 0, rfl, hide rfl, hide ⟨HO.out.2, [], World.ownsRow_nil _ _ _ _, fun i r h => by simp [partsP] at h⟩, HO⟩
      case round =>
       clear HO
       obtain ⟨m, hm, rfl, Ao, no, co, rfl, HN, HRG, HO⟩ := hrel
       by_cases hlt : m < l.length
       ·have mz : (m : Int) < (l.length : Int) := by omega
        obtain ⟨g, cpg, hvg, hBg, hgg⟩ := HO.out.1.form (by omega)
        injection hvg with e1 _ e3
        subst e1; subst e3
        obtain ⟨x, hx⟩ : ∃ x : Int, x = ((mn l m : Nat) : Int) := ⟨_, rfl⟩
        have cx := lab_cell (i := m) (x := x) HO.out.1 (by rw [List.getElem?_map, List.getElem?_range hlt, hx]; rfl)
        have r1 : (0 : Int) ≤ (m : Int) := by omega
        by_cases hmn : mn l m = m
        ·have hd : (x != (m : Int)) = false := by rw [hx, hmn]; simp
         have HMN := hide hmn
         clear hx hmn
         obtain ⟨wo, hwo⟩ : ∃ wo : World, wo = wr := ⟨_, rfl⟩
         subst hwo
         have hszo := HO.out.2.size
         have hgo : g < wo.heap.size := (HO.out.1.lt g rfl).2
         go_wp2
         go_loopw [11, 12] (fun v q wi => ∃ j : Nat, j ≤ l.length ∧ q = .int .i64 j ∧ ∃ Ap np cp, v = .slice Ap np cp ∧ Hid (np = (compP l m j).length) ∧ Hid (wi.ownsRow wo.heap.size 49 4 (.slice Ap np cp) np ((compP l m j).flatMap encR)) ∧ Hid (Below wo.heap.size wo wi)) (fun _ q _ => l.length - (intOf q).toNat)
         case atStart => exact ⟨0, Nat.zero_le _, rfl, none, 0, 0, rfl, hide rfl, hide (World.ownsRow_nil _ _ _ _), hide (Below.refl _ _)⟩
         case round =>
          clear cx
          obtain ⟨j, hj, rfl, Ap, np, cp, rfl, HNP, HP, HBI⟩ := hrel
          by_cases hlj : j < l.length
          ·have jz : (j : Int) < (l.length : Int) := by omega
           obtain ⟨z, hz⟩ : ∃ z : Int, z = ((mn l j : Nat) : Int) := ⟨_, rfl⟩
           have cz := (HBI.out.cell (p := ⟨g, j, none⟩) hgo).trans (lab_cell (i := j) (x := z) HO.out.1 (by rw [List.getElem?_map, List.getElem?_range hlj, hz]; rfl))
           have r2 : (0 : Int) ≤ (j : Int) := by omega
           by_cases hmj : mn l j = m
           ·have hd2 : (z == (m : Int)) = true := by rw [hz, hmj]; simp
            obtain ⟨⟨p0, p1, p2, p3⟩, hp⟩ : ∃ p, l[j]? = some p := ⟨_, List.getElem?_eq_getElem hlj⟩
            obtain ⟨b, o, rfl, hbl, k⟩ := HRC.out (by intro e; rw [e] at hlj; simp at hlj)
            obtain ⟨d0, d1, d2, d3⟩ := rects_at k (fun q => (HBI.out.cell (p := ⟨b, q, none⟩) (show b < wo.heap.size by omega)).trans (HO.out.2.cell (p := ⟨b, q, none⟩) hbl)) hp
            have HT := hide (compP_in hp hmj)
            have hnp : np ≤ 400 := by have := HNP.out; have := compP_len l m j; omega
            have hszi := HBI.out.size
            generalize compP l m j = C at *
            clear k hp hz hmj
            go_wp2_with (at_builtin; go_loud (refine wpList_append_lies _ rfl (.tmp 92) (.tmp 97) 22 rfl wo.heap.size 49 i3 (.agg #[.int .i64 0, .int .i64 0, .int .i64 0, .int .i64 0]) 4 32 Tryz.underlying22 ki kz0 kz1 kz2 rfl (by decide) _ np _ rfl (World.ownsRow.alloc HP.out _) ⟨wr.heap.size, 0, none⟩ 1 1 [.int .i64 p0, .int .i64 p1, .int .i64 p2, .int .i64 p3] rfl rfl (news_new wr _ _ _ rfl) (ints_one rfl) (by omega) (by unfold maxLen; omega) (by omega) (by simp; omega) _ rfl ?_))
            intro g9 cap9 w9 hown9 hgrow9 _ _
            have hx9 : C.flatMap encR ++ [.int .i64 p0, .int .i64 p1, .int .i64 p2, .int .i64 p3] = (C ++ [(⟨p0, p1, p2, p3⟩ : R4)]).flatMap encR := by simp [encR]
            rw [hx9, ← HT.out] at hown9
            have HB9 := hide ((HBI.out.alloc hszi _).grown hgrow9 (by simp; omega) (fun q hq => (HP.out.lt q hq).1))
            have HN9 := hide (own_len (k := 4) hown9 (fun _ => rfl) (by omega))
            have HO9 := hide hown9
            clear hown9 hgrow9 hx9
            go_wp2
            go_roundw
            case rel => exact ⟨j + 1, by omega, by go_num, _, _, cap9, rfl, HN9, HO9, HB9⟩
            case measure => simp [intOf]; omega
           ·have hd2 : (z == (m : Int)) = false := by rw [hz]; simp; omega
            have HPP := hide (compP_out hmj)
            clear hz hmj
            rw [← HPP.out] at HNP HP
            go_wp2
            go_roundw
            case rel => exact ⟨j + 1, by omega, by go_num, Ap, np, cp, rfl, HNP, HP, HBI⟩
            case measure => simp [intOf]; omega
          ·have jz : ¬ (j : Int) < (l.length : Int) := by omega
           obtain rfl : j = l.length := by omega
           rw [compP_all] at HNP HP
           have hcl : (compL l m).length ≤ 400 := Nat.le_trans (compL_sub l m).length_le k1
           have hwf : ∀ r ∈ compL l m, wf4 r := fun r hr => by have := HV.out r ((compL_sub l m).subset hr); exact ⟨this.1, this.2.1⟩
           have hszi := HBI.out.size
           have hjo := rJoined_any 2 (.inr (.inl rfl)) (w := wr) (own_rd (own_n HP.out HNP.out) (fun _ => rfl)) (RdK.nil (α := R4) none 0) (Nat.le_refl _) (by omega) (by simp)
           rw [ref_join (h := hk 2) rfl hwf (by simp), rjoin_or hwf] at hjo
           have hrl := rjoin_len (compL l m) hcl
           have HJO := hide hjo
           have HPI := hide (partsP_in HMN.out)
           clear hjo hwf
           generalize rjoin hFst (compL l m) [] = J at *
           obtain ⟨low, vs, g1, g2⟩ := (HRG.out.below HBI.out)
           have HLOW := hide low
           have HG1 := hide g1
           have HG2 := hide g2
           have hno : no ≤ 400 := by have := HN.out; have := partsP_len l m; omega
           have hlow := low.size
           clear low g1 g2
           go_wp2_with (first
            | (go_at_call 77; refine HJO.out.mono ?_; rintro e w3 ⟨vo, rfl, ho, hb3⟩; have HJ := hide (own_base ho hlow); obtain ⟨Aj, cj, hvj⟩ := own_form ho; subst hvj; have HB3 := hide hb3; clear ho hb3; have hs3 := HB3.out.size)
            | (at_builtin; go_loud (refine wpList_append_lies _ rfl (.tmp 99) (.tmp 102) 31 rfl w.heap.size 34 i2 (.slice none 0 0) 1 24 Tryz.underlying31 fi fz0 fz1 fz2 rfl (by decide) _ no _ rfl (World.ownsRow.alloc (own_below (own_n HG1.out HN.out.symm) HB3.out) _) ⟨w3.heap.size, 0, none⟩ 1 1 [.slice Aj J.length cj] rfl rfl (news_new w3 _ _ _ rfl) (by intro u hu; rw [List.mem_singleton] at hu; subst hu; rfl) (by omega) (by unfold maxLen; omega) (by omega) (by simp; omega) _ rfl ?_)))
           intro g9 cap9 w9 hown9 hgrow9 _ _
           have hpush := Regs.push (w := w) ((HLOW.out.trans (HB3.out.mono hlow)).alloc (Nat.le_trans hlow hs3) _) (World.ownsRow.alloc (own_below HG1.out HB3.out) _) (fun i r hi => by
            obtain ⟨v, q1, q2⟩ := HG2.out i r hi
            exact ⟨v, q1, World.ownsRow.alloc (own_below q2 HB3.out) _⟩) (World.ownsRow.alloc HJ.out _) hgrow9 (by rw [← HN.out]; exact hown9)
           rw [← HPI.out] at hpush
           have HRG9 := hide hpush
           have HN9 := hide (show no + 1 = (partsP l (m + 1)).length by rw [HPI.out, List.length_append, ← HN.out]; rfl)
           have HL9 := hide (show labR l w (.slice (some ⟨g, 0, none⟩) l.length cv) ((List.range l.length).map fun i => ((mn l i : Nat) : Int)) w9 from
            ⟨(World.ownsRow.alloc (own_below (own_below HO.out.1 HBI.out) HB3.out) _).kept hgrow9 (own_apart (own_below (own_below HO.out.1 HBI.out) HB3.out) (own_below HG1.out HB3.out) (by decide)), hpush.low⟩)
           clear hown9 hgrow9 hpush
           go_wp2
           go_roundw
           case rel => exact ⟨m + 1, by omega, by go_num, _, _, cap9, rfl, HN9, HRG9, HL9⟩
           case measure => simp [intOf]; omega
        ·have hd : (x != (m : Int)) = true := by rw [hx]; simp; omega
         have HPP := hide (partsP_out hmn)
         clear hx hmn
         rw [← HPP.out] at HN HRG
         go_wp2
         go_roundw
         case rel => exact ⟨m + 1, by omega, by go_num, Ao, no, co, rfl, HN, HRG, HO⟩
         case measure => simp [intOf]; omega
       ·have mz : ¬ (m : Int) < (l.length : Int) := by omega
        obtain rfl : m = l.length := by omega
        rw [partsP_all] at HN HRG
        go_wp2
        go_ret2
        obtain ⟨low, vs, h1, h2⟩ := HRG.out
        have hn := HN.out
        subst hn
        refine ⟨⟨Ao, co, vs, by rw [HF.out]; rfl, by rw [HF.out]; exact h1, ?_⟩, low⟩
        rw [HF.out]
        exact h2
 ·have HF : Hid (partsE l = ([], checkF l)) := hide (if_neg h0)
  generalize checkF l = ck at *
  have hne : (ck != 0) = true := by simpa using h0
  clear h0
  go_enter Tryz.func72, Tryz.ntmps72
  go_wp2_with (go_at_call 44; refine (HCK.out _ (Below.refl _ _)).mono ?_; rintro e w1 ⟨rfl, hb1⟩)
  have HB1 := hide hb1
  clear hb1
  go_wp2_with (go_at_call 44; refine (HCK.out _ HB1.out).mono ?_; rintro e w2 ⟨rfl, hb2⟩)
  have HB2 := hide (HB1.out.trans (hb2.mono HB1.out.size))
  clear hb2
  go_ret2
  exact ⟨⟨none, 0, [], by rw [HF.out]; rfl, by rw [HF.out]; exact World.ownsRow_nil _ _ _ _, fun i r hi => by rw [HF.out] at hi; simp at hi⟩, HB2.out⟩
end Go.Proofs.YtikojiciilambaaGreat

/- Reading a list of lines (the reference's networks): Less, has. -/
namespace Go.Proofs.YtikojiciilambaaGreat
open Go.RowKit
set_option linter.unusedVariables false
set_option linter.unusedSimpArgs false
abbrev Ln := Int × List Sp
theorem infoLn : (Tryz.prog.info? 265).map (fun i => (i.zero, i.size, i.bytes)) = some (some (.agg #[.int .i64 0, .slice none 0 0]), 2, 32) := by kernel_rfl
def RdLn (w : World) (B : Nat) (v : Value) (L : List Ln) : Prop :=
 ∃ A c, v = .slice A L.length c ∧ (L ≠ [] → ∃ b off, A = some ⟨b, off, none⟩ ∧ b < B ∧ ∀ j q, L[j]? = some q → w.cell? ⟨b, off + j * 2, none⟩ = some (.int .i64 q.1) ∧ ∃ u, w.cell? ⟨b, off + j * 2 + 1, none⟩ = some u ∧ RdK encS 2 w B u q.2)
theorem RdLn.below {w w' : World} {B : Nat} {v : Value} {L : List Ln} (h : RdLn w B v L) (hb : Below B w w') : RdLn w' B v L := by
 obtain ⟨A, c, hv, h⟩ := h
 refine ⟨A, c, hv, fun hl => ?_⟩
 obtain ⟨b, off, hA, hb2, hc⟩ := h hl
 refine ⟨b, off, hA, hb2, fun j q hq => ?_⟩
 obtain ⟨h1, u, h2, h3⟩ := hc j q hq
 exact ⟨(hb.cell (p := ⟨b, _, none⟩) hb2).trans h1, u, (hb.cell (p := ⟨b, _, none⟩) hb2).trans h2, h3.below hb⟩
theorem RdLn.mono {w : World} {B B' : Nat} {v : Value} {L : List Ln} (h : RdLn w B v L) (hB : B ≤ B') : RdLn w B' v L := by
 obtain ⟨A, c, hv, h⟩ := h
 refine ⟨A, c, hv, fun hl => ?_⟩
 obtain ⟨b, off, hA, hb2, hc⟩ := h hl
 refine ⟨b, off, hA, Nat.lt_of_lt_of_le hb2 hB, fun j q hq => ?_⟩
 obtain ⟨h1, u, h2, h3⟩ := hc j q hq
 exact ⟨h1, u, h2, h3.mono hB⟩
theorem RdLn.get {w : World} {A : Option Addr} {n c : Nat} {L : List Ln} (h : RdLn w w.heap.size (.slice A n c) L) {j : Nat} {q : Ln} (hq : L[j]? = some q) : ∃ b off A2 c2, A = some ⟨b, off, none⟩ ∧ b < w.heap.size ∧ w.cell? ⟨b, off + j * 2, none⟩ = some (.int .i64 q.1) ∧ w.cell? ⟨b, off + j * 2 + 1, none⟩ = some (.slice A2 q.2.length c2) ∧ RdK encS 2 w w.heap.size (.slice A2 q.2.length c2) q.2 := by
 obtain ⟨A1, c1, hv, h⟩ := h
 injection hv with e1 _ _
 subst e1
 obtain ⟨b, off, rfl, hb, k⟩ := h (by intro e; rw [e] at hq; simp at hq)
 obtain ⟨h0, u, h1, h2⟩ := k j q hq
 obtain ⟨A2, c2, rfl, _⟩ := id h2
 exact ⟨b, off, A2, c2, rfl, hb, h0, h1, h2⟩
theorem rdS_get {w : World} {A : Option Addr} {n c : Nat} {l : List (Int × Int)} (h : RdK encS 2 w w.heap.size (.slice A n c) l) {j : Nat} {q : Int × Int} (hq : l[j]? = some q) : ∃ b off, A = some ⟨b, off, none⟩ ∧ b < w.heap.size ∧ w.cell? ⟨b, off + j * 2, none⟩ = some (.int .i64 q.1) ∧ w.cell? ⟨b, off + j * 2 + 1, none⟩ = some (.int .i64 q.2) := by
 obtain ⟨A1, c1, hv, h⟩ := h
 injection hv with e1 _ _
 subst e1
 obtain ⟨b, off, rfl, hb, k⟩ := h (by intro e; rw [e] at hq; simp at hq)
 exact ⟨b, off, rfl, hb, k j q hq 0 _ rfl, k j q hq 1 _ rfl⟩
instance (a b : Pt) : Decidable (ptLt a b) := by unfold ptLt; infer_instance
set_option maxHeartbeats 4000000 in
theorem rLess34_any (a b : Pt) (w : World) :
  Calls Tryz.prog 228 #[.agg #[.int .i64 a.1, .int .i64 a.2], .agg #[.int .i64 b.1, .int .i64 b.2]] w fun e w' => e = .returned (.bool (decide (ptLt a b))) ∧ Below w.heap.size w w' := by
 obtain ⟨ax, ay⟩ := a
 obtain ⟨bx, cy⟩ := b
 simp only
 have hb : Below w.heap.size w ((w.alloc (.cells #[.int .i64 ax, .int .i64 ay] 53)).alloc (.cells #[.int .i64 bx, .int .i64 cy] 53)) := ((Below.refl _ _).alloc (Nat.le_refl _) _).alloc (by simp) _
 have HB := hide hb
 clear hb
 by_cases t0 : ax < bx
 ·have b0 : decide (ax < bx) = true := decide_eq_true t0
  have HT := hide t0
  clear t0
  go_enter Tryz.func228, Tryz.ntmps228
  go_wp2
  go_ret
  refine ⟨ret_eq (bool_eq ?_), HB.out⟩
  rw [decide_eq_true (show ptLt (ax, ay) (bx, cy) from .inl HT.out)]
 ·have b0 : decide (ax < bx) = false := decide_eq_false t0
  by_cases t1 : ax = bx
  ·have b1 : (ax == bx) = true := by simpa using t1
   have HT := hide (show decide (ptLt (ax, ay) (bx, cy)) = decide (ay < cy) from by rw [Bool.eq_iff_iff, decide_eq_true_eq, decide_eq_true_eq]; unfold ptLt; simp only; omega)
   clear t0 t1
   go_enter Tryz.func228, Tryz.ntmps228
   go_wp2
   go_ret
   refine ⟨ret_eq (bool_eq ?_), HB.out⟩
   rw [HT.out]
  ·have b1 : (ax == bx) = false := by simpa using t1
   have HT := hide (show decide (ptLt (ax, ay) (bx, cy)) = false from by refine decide_eq_false ?_; unfold ptLt; simp only; omega)
   clear t0 t1
   go_enter Tryz.func228, Tryz.ntmps228
   go_wp2
   go_ret
   refine ⟨ret_eq (bool_eq ?_), HB.out⟩
   rw [HT.out]
def inSp (x : Int) (s : Sp) : Bool := decide (s.1 ≤ x) && decide (x < s.2)
theorem hasB_eq (L : List Ln) (a x : Int) : hasB L a x = L.any fun r => decide (r.1 = a) && r.2.any (inSp x) := rfl
theorem any_tk {α : Type} {p : α → Bool} {l : List α} {m : Nat} {x : α} (h : l[m]? = some x) (h1 : (l.take m).any p = false) (h2 : p x = false) : (l.take (m + 1)).any p = false := by
 rw [List.take_add_one, h, List.any_append, h1]
 simp [h2]
theorem any_hit {α : Type} {p : α → Bool} {l : List α} {m : Nat} {x : α} (h : l[m]? = some x) (h2 : p x = true) : l.any p = true := List.any_eq_true.2 ⟨x, List.mem_of_getElem? h, h2⟩
set_option maxRecDepth 100000 in
set_option maxHeartbeats 4000000 in
theorem rhas34_any {w : World} {v : Value} {L : List Ln} (h : RdLn w w.heap.size v L) (a x : Int) (hL : L.length ≤ 1000000000) (hS : ∀ q ∈ L, q.2.length ≤ 1000000000) :
  Calls Tryz.prog 207 #[v, .int .i64 a, .int .i64 x] w fun e w' => e = .returned (.bool (hasB L a x)) ∧ w' = w := by
 have H := hide h
 have HS := hide hS
 obtain ⟨A, c, rfl, _⟩ := h
 rw [hasB_eq]
 obtain ⟨f, hf⟩ : ∃ f : Ln → Bool, (fun r => decide (r.1 = a) && r.2.any (inSp x)) = f := ⟨_, rfl⟩
 have HF := hide hf
 rw [hf]
 clear hf hS
 go_enter Tryz.func207, Tryz.ntmps207
 go_wp2
 go_loopw [7] (fun i wr => ∃ m : Nat, m ≤ L.length ∧ i = .int .i64 (m : Int) ∧ w = wr ∧ Hid ((L.take m).any f = false)) (fun i _ => L.length - (intOf i).toNat)
 case atStart => exact ⟨0, Nat.zero_le _, rfl, rfl, hide rfl⟩
 case round =>
  obtain ⟨m, hm, rfl, rfl, HA⟩ := hrel
  by_cases hlt : m < L.length
  ·have mz : (m : Int) < (L.length : Int) := by omega
   obtain ⟨q, hq⟩ : ∃ q, L[m]? = some q := ⟨_, List.getElem?_eq_getElem hlt⟩
   obtain ⟨b, off, A2, c2, rfl, hb, d0, d1, hr2⟩ := H.out.get hq
   have hq2 := HS.out q (List.mem_of_getElem? hq)
   have HQ := hide hq
   clear hq
   by_cases ha : q.1 = a
   ·have z0 : (q.1 != a) = false := by simpa using ha
    have HR2 := hide hr2
    have HFQ : Hid (f q = q.2.any (inSp x)) := hide (by rw [← HF.out]; simp [ha])
    clear ha hr2
    go_upto_region 6 with fail
    go_loopw [8] (fun i wr => ∃ j : Nat, j ≤ q.2.length ∧ i = .int .i64 (j : Int) ∧ w = wr ∧ Hid ((q.2.take j).any (inSp x) = false)) (fun i _ => q.2.length - (intOf i).toNat)
    case atStart => exact ⟨0, Nat.zero_le _, rfl, rfl, hide rfl⟩
    case round =>
     obtain ⟨j, hj, rfl, rfl, HI⟩ := hrel
     by_cases hlj : j < q.2.length
     ·have jz : (j : Int) < (q.2.length : Int) := by omega
      obtain ⟨s, hs⟩ : ∃ s, q.2[j]? = some s := ⟨_, List.getElem?_eq_getElem hlj⟩
      obtain ⟨b2, o2, rfl, hb2, e0, e1⟩ := rdS_get HR2.out hs
      have HSS := hide hs
      clear hs
      by_cases h1 : s.1 ≤ x
      ·have y1 : decide (s.1 ≤ x) = true := decide_eq_true h1
       by_cases h2 : x < s.2
       ·have y2 : decide (x < s.2) = true := decide_eq_true h2
        have HT : Hid (L.any f = true) := hide (any_hit HQ.out (by rw [HFQ.out]; exact any_hit HSS.out (by unfold inSp; rw [y1, y2]; rfl)))
        clear h1 h2
        go_wp2
        go_ret
        refine ⟨ret_eq (bool_eq ?_), rfl⟩
        rw [HT.out]
       ·have y2 : decide (x < s.2) = false := decide_eq_false h2
        have HI2 := hide (any_tk HSS.out HI.out (by unfold inSp; rw [y2]; simp))
        clear h1 h2
        go_wp2
        go_roundw
        case rel => exact ⟨j + 1, by omega, by go_num, by trivial, HI2⟩
        case measure => simp [intOf]; omega
      ·have y1 : decide (s.1 ≤ x) = false := decide_eq_false h1
       have HI2 := hide (any_tk HSS.out HI.out (by unfold inSp; rw [y1]; rfl))
       clear h1
       go_wp2
       go_roundw
       case rel => exact ⟨j + 1, by omega, by go_num, by trivial, HI2⟩
       case measure => simp [intOf]; omega
     ·have jz : ¬ (j : Int) < (q.2.length : Int) := by omega
      obtain rfl : j = q.2.length := by omega
      have HA2 := hide (any_tk HQ.out HA.out (by rw [HFQ.out]; have := HI.out; rwa [List.take_length] at this))
      go_wp2
      go_roundw
      case rel => exact ⟨m + 1, by omega, by go_num, by trivial, HA2⟩
      case measure => simp [intOf]; omega
   ·have z0 : (q.1 != a) = true := by simpa using ha
    have HA2 := hide (any_tk HQ.out HA.out (by rw [← HF.out]; simp [ha]))
    clear ha hr2
    go_wp2
    go_roundw
    case rel => exact ⟨m + 1, by omega, by go_num, by trivial, HA2⟩
    case measure => simp [intOf]; omega
  ·have mz : ¬ (m : Int) < (L.length : Int) := by omega
   obtain rfl : m = L.length := by omega
   have HT : Hid (L.any f = false) := hide (by have := HA.out; rwa [List.take_length] at this)
   go_wp2
   go_ret
   refine ⟨ret_eq (bool_eq ?_), rfl⟩
   rw [HT.out]
end Go.Proofs.YtikojiciilambaaGreat

/- street.collect: the walk. -/
namespace Go.Proofs.YtikojiciilambaaGreat
open Go.RowKit Go.Maps
set_option linter.unusedVariables false
set_option linter.unusedSimpArgs false
def KeysUp (K : List Int) (p : Int → List Sp) : Prop := ∀ k, p k ≠ [] → k ∈ K
def thinS (l : List Sp) : List Sp := if l.length ≤ 400 then sjoin hFst l [] else []
def rowD (l : List Sg) (y : Int) : List Sp := thinS (rowSp l y)
def colD (l : List Sg) (x : Int) : List Sp := thinS (colSp l x)
def thin (l : List Sg) : List Sg := l.filter fun s => if s.ay = s.cy then decide ((rowSp l s.ay).length ≤ 400) else decide ((colSp l s.ax).length ≤ 400)
theorem thin_row (l : List Sg) (y : Int) : rowSp (thin l) y = if (rowSp l y).length ≤ 400 then rowSp l y else [] := by
 unfold thin
 rw [rowSp, List.filter_filter]
 split
 ·rename_i h
  conv => rhs; rw [rowSp]
  congr 1
  refine List.filter_congr fun s _ => ?_
  by_cases h1 : s.ay = s.cy <;> by_cases h2 : s.ay = y <;> simp_all
 ·rename_i h
  rw [List.map_eq_nil_iff, List.filter_eq_nil_iff]
  intro s _
  by_cases h1 : s.ay = s.cy <;> by_cases h2 : s.ay = y <;> simp_all
theorem thin_col (l : List Sg) (x : Int) : colSp (thin l) x = if (colSp l x).length ≤ 400 then colSp l x else [] := by
 unfold thin
 rw [colSp, List.filter_filter]
 split
 ·rename_i h
  conv => rhs; rw [colSp]
  congr 1
  refine List.filter_congr fun s _ => ?_
  by_cases h1 : s.ay = s.cy <;> by_cases h2 : s.ax = x <;> simp_all
 ·rename_i h
  rw [List.map_eq_nil_iff, List.filter_eq_nil_iff]
  intro s _
  by_cases h1 : s.ay = s.cy <;> by_cases h2 : s.ax = x <;> simp_all
theorem rowD_thin (l : List Sg) : rowD l = rowC (thin l) := funext fun y => by
 unfold rowD thinS rowC
 rw [thin_row]
 split
 ·rfl
 ·rfl
theorem colD_thin (l : List Sg) : colD l = colC (thin l) := funext fun x => by
 unfold colD thinS colC
 rw [thin_col]
 split
 ·rfl
 ·rfl
theorem thin_mem {l : List Sg} {s : Sg} (h : s ∈ thin l) : s ∈ l := (List.mem_filter.1 h).1
theorem thin_len (l : List Sg) : (thin l).length ≤ l.length := List.length_filter_le _ _
theorem keys_thin {K : List Int} {l : List Sg} (h : KeysOk K (rowSp l)) : KeysUp K (rowSp (thin l)) := fun k hk => (h k).2 (fun e => hk (by rw [thin_row, e]; simp))
theorem keys_thinC {K : List Int} {l : List Sg} (h : KeysOk K (colSp l)) : KeysUp K (colSp (thin l)) := fun k hk => (h k).2 (fun e => hk (by rw [thin_col, e]; simp))
theorem spanMake_thin {w : World} {v : Value} {l : List Sp} (hr : RdK encS 2 w w.heap.size v l) (hv : ∀ p ∈ l, validS p) :
  Calls Tryz.prog 100 #[v] w fun e w' => ∃ A c er, e = .returned (.tuple #[.slice A (thinS l).length c, .int .i64 er]) ∧ w'.ownsRow w.heap.size 141 2 (.slice A (thinS l).length c) (thinS l).length ((thinS l).flatMap encS) ∧ Below w.heap.size w w' := by
 by_cases hl : l.length ≤ 400
 ·refine (spanMake_ok hr hl hv).mono ?_
  rintro e w' ⟨A, c, rfl, h2⟩
  have e1 : thinS l = sjoin hFst l [] := by unfold thinS; rw [if_pos hl]
  rw [e1]
  exact ⟨A, c, 0, rfl, h2⟩
 ·have e1 : thinS l = [] := by unfold thinS; rw [if_neg hl]
  rw [e1]
  obtain ⟨A, c, rfl, _⟩ := hr
  have hlz : ¬ (l.length : Int) ≤ 400 := by omega
  have hlz2 : (400 : Int) < (l.length : Int) := by omega
  clear hv hl e1
  go_enter Tryz.func100, Tryz.ntmps100
  go_wp2
  go_ret2
  exact ⟨none, 0, ⟨4, rfl⟩, World.ownsRow_nil _ _ _ _, Below.refl _ _⟩
def Roads (B : Nat) (l : List Sg) (v : Value) (w : World) : Prop := ∃ b1 b2 K1 K2 v1 v2, v = .agg #[.map (some b1), .map (some b2)] ∧ Ms B b1 K1 (rowC l) v1 w ∧ Ms B b2 K2 (colC l) v2 w ∧ KeysUp K1 (rowSp l) ∧ KeysUp K2 (colSp l) ∧ B ≤ b1 ∧ B ≤ b2
theorem col_start {w w0 : World} (h : w0 = (((w.alloc (Obj.cells #[.map none, .map none] 219)).alloc (Obj.map #[] 0)).alloc (Obj.map #[] 0)).alloc (Obj.cells #[Value.map (some (w.heap.size + 1)), Value.map (some (w.heap.size + 1 + 1))] 219)) (hb : Below w.heap.size w w0) :
  Col w w0 w.heap.size [] [] (rowSp []) (colSp []) (fun _ => .slice none 0 0) (fun _ => .slice none 0 0) := by
 have e1 : (w.alloc (Obj.cells #[.map none, .map none] 219)).heap.size = w.heap.size + 1 := by simp
 have e2 : ((w.alloc (Obj.cells #[.map none, .map none] 219)).alloc (Obj.map #[] 0)).heap.size = w.heap.size + 1 + 1 := by simp
 have m1 := Ms.made (w.alloc (Obj.cells #[.map none, .map none] 219)) (w.heap.size + 4) (rowSp []) (fun _ => .slice none 0 0)
 have m2 := Ms.made ((w.alloc (Obj.cells #[.map none, .map none] 219)).alloc (Obj.map #[] 0)) (w.heap.size + 4) (colSp []) (fun _ => .slice none 0 0)
 rw [e1] at m1
 rw [e2] at m2
 refine ⟨?_, ?_, fun a ha => (List.not_mem_nil ha).elim, ?_, ?_, hb, ?_, ?_⟩
 ·rw [h]
  exact m1.below (((Below.refl _ _).alloc (Nat.le_refl _) _).alloc (by simp) _)
 ·rw [h]
  exact m2.below ((Below.refl _ _).alloc (Nat.le_refl _) _)
 ·rw [h]; simp [go_sem]
 ·rw [h]; simp [go_sem]
 ·rw [h]; simp
 ·rw [h]
  have e3 := (MapKept.heap_alloc w (Obj.cells #[.map none, .map none] 219)).1
  have hb3 := (((Below.refl (w.alloc (Obj.cells #[.map none, .map none] 219)).heap.size (w.alloc (Obj.cells #[.map none, .map none] 219))).alloc (Nat.le_refl _) (Obj.map #[] 0)).alloc (by simp) (Obj.map #[] 0)).alloc (by simp) (Obj.cells #[Value.map (some (w.heap.size + 1)), Value.map (some (w.heap.size + 1 + 1))] 219)
  exact (hb3.block w.heap.size (by simp)).trans e3
set_option maxRecDepth 100000 in
set_option maxHeartbeats 8000000 in
theorem collect_any {w : World} {v : Value} {l : List Sg} (hr : RdK encSg 4 w w.heap.size v l) (hl : l.length ≤ 800) (hv : ∀ s ∈ l, okSg s) :
  Calls Tryz.prog 160 #[v] w fun e w' => ∃ u, e = .returned u ∧ Roads w.heap.size (thin l) u w' ∧ Below w.heap.size w w' := by
 obtain ⟨i1, gi, gz0, gz1, gz2⟩ := info_parts infoSp
 obtain ⟨A, c, rfl, hc⟩ := hr
 have HRC := hide hc
 have HV := hide hv
 clear hc hv
 have hmm := @run_makeMap Tryz.prog
 go_enter Tryz.func160, Tryz.ntmps160
 go_upto_region 2 with fail
 refine wp_name fun w0 hw0 => ?_
 clear hmm
 have hb0 : Below w.heap.size w w0 := by
  rw [hw0]
  repeat (first | with_reducible exact Below.refl _ _ | with_reducible refine Below.setCell ?_ (by first | (simp; done) | (simp; omega)) _ | with_reducible refine Below.alloc ?_ (by first | omega | (simp; omega) | simp) _)
 have hcol : Col w w0 w.heap.size [] [] (rowSp []) (colSp []) (fun _ => .slice none 0 0) (fun _ => .slice none 0 0) := by
  exact col_start hw0 hb0
 have HC0 := hide hcol
 clear hw0 hb0 hcol
 go_wp2
 go_loopw [15] (fun i wr => ∃ m : Nat, m ≤ l.length ∧ i = .int .i64 m ∧ Hid (∃ K1 K2 v1 v2, Col w wr w.heap.size K1 K2 (rowSp (l.take m)) (colSp (l.take m)) v1 v2 ∧ KeysOk K1 (rowSp (l.take m)) ∧ KeysOk K2 (colSp (l.take m)) ∧ K1.length ≤ m ∧ K2.length ≤ m)) (fun i _ => l.length - (intOf i).toNat)
 case atStart => exact ⟨0, Nat.zero_le _, rfl, hide ⟨[], [], _, _, HC0.out, fun k => by simp [rowSp], fun k => by simp [colSp], Nat.zero_le _, Nat.zero_le _⟩⟩
 case round =>
  obtain ⟨m, hm, rfl, HCC⟩ := hrel
  by_cases hlt : m < l.length
  ·obtain ⟨s, hs⟩ : ∃ p, l[m]? = some p := ⟨_, List.getElem?_eq_getElem hlt⟩
   obtain ⟨K1, K2, v1, v2, hcol, hk1, hk2, hn1, hn2⟩ := HCC.out
   obtain ⟨b, o, rfl, hbl, k⟩ := HRC.out (by intro e; rw [e] at hlt; simp at hlt)
   have hb := hcol.low
   have d0 : wr.cell? ⟨b, o + m * 4, none⟩ = some (.int .i64 s.ax) := (hb.cell (p := ⟨b, _, none⟩) hbl).trans (k m _ hs 0 _ rfl)
   have d1 : wr.cell? ⟨b, o + m * 4 + 1, none⟩ = some (.int .i64 s.ay) := (hb.cell (p := ⟨b, _, none⟩) hbl).trans (k m _ hs 1 _ rfl)
   have d2 : wr.cell? ⟨b, o + m * 4 + 2, none⟩ = some (.int .i64 s.cx) := (hb.cell (p := ⟨b, _, none⟩) hbl).trans (k m _ hs 2 _ rfl)
   have d3 : wr.cell? ⟨b, o + m * 4 + 3, none⟩ = some (.int .i64 s.cy) := (hb.cell (p := ⟨b, _, none⟩) hbl).trans (k m _ hs 3 _ rfl)
   have hsv := HV.out s (List.mem_of_getElem? hs)
   have hky : okK s.ay := by obtain ⟨⟨_, ⟨_, _⟩, _⟩, _⟩ := hsv; unfold okK; omega
   have hkx : okK s.ax := by obtain ⟨⟨⟨_, _⟩, _⟩, _⟩ := hsv; unfold okK; omega
   have HSR := hide (rowSp_take hs)
   have HSC := hide (colSp_take hs)
   have hlr := fun y => rowSp_len (l.take m) y
   have hlc := fun y => colSp_len (l.take m) y
   have Hp1l : Hid (∀ y, (rowSp (l.take m) y).length ≤ 800) := hide (fun y => by have := hlr y; rw [List.length_take] at this; omega)
   have Hp2l : Hid (∀ y, (colSp (l.take m) y).length ≤ 800) := hide (fun y => by have := hlc y; rw [List.length_take] at this; omega)
   have Hp10 : Hid (∀ k, k ∉ K1 → rowSp (l.take m) k = []) := hide (fun k hk => Classical.byContradiction fun h => hk ((hk1 k).2 h))
   have Hp20 : Hid (∀ k, k ∉ K2 → colSp (l.take m) k = []) := hide (fun k hk => Classical.byContradiction fun h => hk ((hk2 k).2 h))
   have HK1 := hide hk1
   have HK2 := hide hk2
   have HCOL := hide hcol
   have mz : (m : Int) < (l.length : Int) := by omega
   clear k hs hb hsv hlr hlc hk1 hk2 hcol HCC
   generalize rowSp (l.take m) = p1 at *
   generalize colSp (l.take m) = p2 at *
   go_upto_region 5 with fail
   refine wp_name fun w5 hw5 => ?_
   obtain ⟨g5, hg5⟩ : ∃ g, g = wr.heap.size := ⟨_, rfl⟩
   have hb5 : Below wr.heap.size wr w5 := by
    rw [hw5]
    repeat (first | with_reducible exact Below.refl _ _ | with_reducible refine Below.setCell ?_ (by first | (simp; done) | (simp; omega)) _ | with_reducible refine Below.alloc ?_ (by first | omega | (simp; omega) | simp) _)
   have s0 : w5.cell? ⟨g5, 0, none⟩ = some (.int .i64 s.ax) := by rw [hw5, hg5]; simp [go_sem]
   have s1 : w5.cell? ⟨g5, 1, none⟩ = some (.int .i64 s.ay) := by rw [hw5, hg5]; simp [go_sem]
   have s2 : w5.cell? ⟨g5, 2, none⟩ = some (.int .i64 s.cx) := by rw [hw5, hg5]; simp [go_sem]
   have s3 : w5.cell? ⟨g5, 3, none⟩ = some (.int .i64 s.cy) := by rw [hw5, hg5]; simp [go_sem]
   have hlt5 : g5 < w5.heap.size := by rw [hw5, hg5]; simp
   have HC5 := hide (HCOL.out.below hb5)
   have hgR : w.heap.size + 4 ≤ g5 := by rw [hg5]; exact HCOL.out.sz
   have HB5 := hide hb5
   rw [← hg5]
   have HG5 := hide hg5
   clear hw5 hb5 hg5 d0 d1 d2 d3
   by_cases hrow : s.ay = s.cy
   ·have hcc : (s.ay == s.cy) = true := by simpa using hrow
    have HROW := hide hrow
    clear hrow
    go_upto_region 6 with fail
    have HKK : Hid (okK s.ay) := hide hky
    have HOWN := hide (HC5.out.m1.own Hp10.out s.ay)
    have HGE := hide (HCOL.out.m1.row_ge s.ay)
    have HNM : Hid (some (w.heap.size + 1) ≠ (gvI K1 v1 s.ay).ownBlock) := hide HC5.out.m1.map_ge
    have HSL := hide HC5.out.m1.mv.sl
    obtain ⟨Ag, cg, hgv⟩ := own_form HOWN.out
    have hpl : (p1 s.ay).length ≤ 800 := Hp1l.out s.ay
    obtain ⟨ps, hps⟩ : ∃ ps, p1 s.ay = ps := ⟨_, rfl⟩
    rw [hps] at hgv
    have HGV := hide hgv
    rw [hps] at HOWN hpl
    rw [hgv] at HOWN HGE HNM
    have HPS := hide hps
    have HS : Hid (∀ w' : World, Below w5.heap.size w5 w' → (w'.cell? ⟨w.heap.size + 1 + 1 + 1, 0, none⟩ = some (.map (some (w.heap.size + 1))) ∧ w'.cell? ⟨w.heap.size + 1 + 1 + 1, 1, none⟩ = some (.map (some (w.heap.size + 1 + 1)))) ∧ (w'.cell? ⟨g5, 0, none⟩ = some (.int .i64 s.ax) ∧ w'.cell? ⟨g5, 1, none⟩ = some (.int .i64 s.ay) ∧ w'.cell? ⟨g5, 2, none⟩ = some (.int .i64 s.cx) ∧ w'.cell? ⟨g5, 3, none⟩ = some (.int .i64 s.cy)) ∧ MsL (w.heap.size + 1) K1 v1 w') := hide (fun w' h => ⟨⟨(HC5.out.below h).c0, (HC5.out.below h).c1⟩, ⟨(h.cell (p := ⟨g5, 0, none⟩) hlt5).trans s0, (h.cell (p := ⟨g5, 1, none⟩) hlt5).trans s1, (h.cell (p := ⟨g5, 2, none⟩) hlt5).trans s2, (h.cell (p := ⟨g5, 3, none⟩) hlt5).trans s3⟩, (HC5.out.below h).m1.map⟩)
    clear hgv hps
    refine wp_region_mix [0, 1, 2, 3, 4, 5, 6, 7, 8, 9, 10, 11, 12, 13, 14, 15, 16, 17, 18, 19, 20, 21, 22, 23, 24, 25] [26, 27, 28] (fun w' => (w'.cell? ⟨w.heap.size + 1 + 1 + 1, 0, none⟩ = some (.map (some (w.heap.size + 1))) ∧ w'.cell? ⟨w.heap.size + 1 + 1 + 1, 1, none⟩ = some (.map (some (w.heap.size + 1 + 1)))) ∧ (w'.cell? ⟨g5, 0, none⟩ = some (.int .i64 s.ax) ∧ w'.cell? ⟨g5, 1, none⟩ = some (.int .i64 s.ay) ∧ w'.cell? ⟨g5, 2, none⟩ = some (.int .i64 s.cx) ∧ w'.cell? ⟨g5, 3, none⟩ = some (.int .i64 s.cy)) ∧ MsL (w.heap.size + 1) K1 v1 w') (by kernel_rfl) (by kernel_rfl) (HS.out _ (Below.refl _ _).drew) ?_
    simp only [List.map_cons, List.map_nil, opAt, List.getElem?_cons_succ, List.getElem?_cons_zero, Option.getD_some]
    clear s0 s1 s2 s3
    iterate 26
     refine ⟨?_, Or.inl ⟨by rfl, ?_⟩, ?_⟩
     rotate_left 1
     ·intro w' hSw
      obtain ⟨⟨z0, z1⟩, ⟨z2, z3, z4, z5⟩, z6⟩ := hSw
      have z7 := MsL.look z6 HSL.out HKK.out
      rw [HGV.out] at z7
      clear z6
      go_simp
      first | done | with_reducible rfl
     simp only [Act.put, List.setIfInBounds_toArray, List.set_cons_zero, List.set_cons_succ]
    simp only [wpReads]
    intro K hK
    simp only [Act.put, List.setIfInBounds_toArray, List.set_cons_zero, List.set_cons_succ] at hK ⊢
    go_simp
    refine hK _ _ (fun _ => HS.out _ ((Below.refl _ _).alloc (Nat.le_refl _) _).drew) ?_
    clear hK K
    intro K hK
    refine step_append_lies _ rfl (.tmp 36) (.tmp 52) 136 rfl (w.heap.size + 4) 141 i1 (.agg #[.int .i64 0, .int .i64 0]) 2 16 Tryz.underlying136 gi gz0 gz1 gz2 rfl (by decide) _ ps.length _ rfl (own_drew (World.ownsRow.alloc (w := w5) HOWN.out _)) ⟨w5.heap.size, 0, none⟩ 1 1 [.int .i64 (min s.ax s.cx), .int .i64 (max s.ax s.cx)] rfl rfl (news_drew w5 _ _ _ rfl) (ints_one rfl) (by omega) (by unfold maxLen; omega) (by omega) (by simp; omega) _ rfl ?_
    intro g9 cap9 w9 hown9 hgrow9 hor9 hlt9
    have hS5 := HS.out _ (((Below.refl w5.heap.size w5).alloc (Nat.le_refl _) (.cells #[.int .i64 (min s.ax s.cx), .int .i64 (max s.ax s.cx)] 141)).drew)
    have hcg : ∀ b o, b < w5.heap.size → (b < w.heap.size + 4 ∨ b = g5) → w9.cell? ⟨b, o, none⟩ = ((w5.alloc (.cells #[.int .i64 (min s.ax s.cx), .int .i64 (max s.ax s.cx)] 141)).drew).cell? ⟨b, o, none⟩ := fun b o hb hne => cell_grow hgrow9 (by show b < (w5.alloc _).heap.size; simp; omega) (fun e => by have := HGE.out _ e.symm; have := HG5.out; omega)
    have hS9 : (w9.cell? ⟨w.heap.size + 1 + 1 + 1, 0, none⟩ = some (.map (some (w.heap.size + 1))) ∧ w9.cell? ⟨w.heap.size + 1 + 1 + 1, 1, none⟩ = some (.map (some (w.heap.size + 1 + 1)))) ∧ (w9.cell? ⟨g5, 0, none⟩ = some (.int .i64 s.ax) ∧ w9.cell? ⟨g5, 1, none⟩ = some (.int .i64 s.ay) ∧ w9.cell? ⟨g5, 2, none⟩ = some (.int .i64 s.cx) ∧ w9.cell? ⟨g5, 3, none⟩ = some (.int .i64 s.cy)) ∧ MsL (w.heap.size + 1) K1 v1 w9 := ⟨⟨(hcg _ _ (by omega) (by omega)).trans hS5.1.1, (hcg _ _ (by omega) (by omega)).trans hS5.1.2⟩, ⟨(hcg _ _ hlt5 (.inr rfl)).trans hS5.2.1.1, (hcg _ _ hlt5 (.inr rfl)).trans hS5.2.1.2.1, (hcg _ _ hlt5 (.inr rfl)).trans hS5.2.1.2.2.1, (hcg _ _ hlt5 (.inr rfl)).trans hS5.2.1.2.2.2⟩, hS5.2.2.grown hgrow9 HNM.out⟩
    have HS9 := hide hS9
    refine hK _ _ (fun _ => HS9.out) ?_
    clear hK K hS5 hcg hS9
    have hx9 : ps.flatMap encS ++ [.int .i64 (min s.ax s.cx), .int .i64 (max s.ax s.cx)] = (p1 s.ay ++ [spR s]).flatMap encS := by rw [HPS.out]; simp [encS, spR]
    rw [hx9] at hown9
    have hlen9 : ps.length + 1 = (p1 s.ay ++ [spR s]).length := by rw [HPS.out]; simp
    rw [← HGV.out] at hgrow9 hor9
    obtain ⟨wz, hrun, v9, hcol9⟩ := HCOL.out.push1 (HB5.out.trans ((((Below.refl w5.heap.size w5).alloc (Nat.le_refl _) (.cells #[.int .i64 (min s.ax s.cx), .int .i64 (max s.ax s.cx)] 141)).drew).mono HB5.out.size)) HKK.out (by unfold maxLen; omega) hgrow9 (s := spR s) hlen9 hown9 (by rcases hor9 with h | h; exact .inl h; exact .inr (by rw [← h]; exact Nat.le_refl _))
    have HCOL9 := hide hcol9
    clear hcol9 hown9 hgrow9 hor9 hx9 hlen9
    intro K hK
    simp only [Act.put, List.setIfInBounds_toArray, List.set_cons_zero, List.set_cons_succ] at hK ⊢
    obtain ⟨⟨z0, z1⟩, ⟨z2, z3, z4, z5⟩, -⟩ := HS9.out
    go_simp
    refine hK _ _ (fun h => absurd rfl h) ?_
    clear hK K hrun z0 z1 z2 z3 z4 z5
    refine NoPanic.normal ?_
    go_wp2
    go_roundw
    case rel =>
     have e1 : rowSp (l.take (m + 1)) = fun k' => if k' = s.ay then p1 s.ay ++ [spR s] else p1 k' := funext fun y => by
      rw [HSR.out y]
      by_cases e : y = s.ay
      ·subst e
       rw [if_pos ⟨HROW.out, rfl⟩, if_pos rfl]
      ·rw [if_neg (fun h => e h.2.symm), if_neg e]
     have e2 : colSp (l.take (m + 1)) = p2 := funext fun y => by
      rw [HSC.out y, if_neg (fun h => h.1 HROW.out)]
     have h1 := addI_len K1 s.ay
     refine ⟨m + 1, by omega, by go_num, ?_⟩
     rw [e1, e2]
     exact hide ⟨addI K1 s.ay, K2, v9, v2, HCOL9.out, keys_push HK1.out _ _, HK2.out, by omega, by omega⟩
    case measure => simp [intOf]; omega
   ·have hcc : (s.ay == s.cy) = false := by simpa using hrow
    have HROW := hide hrow
    clear hrow
    go_upto_region 7 with fail
    have HKK : Hid (okK s.ax) := hide hkx
    have HOWN := hide (HC5.out.m2.own Hp20.out s.ax)
    have HGE := hide (HCOL.out.m2.row_ge s.ax)
    have HNM : Hid (some (w.heap.size + 1 + 1) ≠ (gvI K2 v2 s.ax).ownBlock) := hide HC5.out.m2.map_ge
    have HSL := hide HC5.out.m2.mv.sl
    obtain ⟨Ag, cg, hgv⟩ := own_form HOWN.out
    have hpl : (p2 s.ax).length ≤ 800 := Hp2l.out s.ax
    obtain ⟨ps, hps⟩ : ∃ ps, p2 s.ax = ps := ⟨_, rfl⟩
    rw [hps] at hgv
    have HGV := hide hgv
    rw [hps] at HOWN hpl
    rw [hgv] at HOWN HGE HNM
    have HPS := hide hps
    have HS : Hid (∀ w' : World, Below w5.heap.size w5 w' → (w'.cell? ⟨w.heap.size + 1 + 1 + 1, 0, none⟩ = some (.map (some (w.heap.size + 1))) ∧ w'.cell? ⟨w.heap.size + 1 + 1 + 1, 1, none⟩ = some (.map (some (w.heap.size + 1 + 1)))) ∧ (w'.cell? ⟨g5, 0, none⟩ = some (.int .i64 s.ax) ∧ w'.cell? ⟨g5, 1, none⟩ = some (.int .i64 s.ay) ∧ w'.cell? ⟨g5, 2, none⟩ = some (.int .i64 s.cx) ∧ w'.cell? ⟨g5, 3, none⟩ = some (.int .i64 s.cy)) ∧ MsL (w.heap.size + 1 + 1) K2 v2 w') := hide (fun w' h => ⟨⟨(HC5.out.below h).c0, (HC5.out.below h).c1⟩, ⟨(h.cell (p := ⟨g5, 0, none⟩) hlt5).trans s0, (h.cell (p := ⟨g5, 1, none⟩) hlt5).trans s1, (h.cell (p := ⟨g5, 2, none⟩) hlt5).trans s2, (h.cell (p := ⟨g5, 3, none⟩) hlt5).trans s3⟩, (HC5.out.below h).m2.map⟩)
    clear hgv hps
    refine wp_region_mix [0, 1, 2, 3, 4, 5, 6, 7, 8, 9, 10, 11, 12, 13, 14, 15, 16, 17, 18, 19, 20, 21, 22, 23, 24, 25] [26, 27, 28] (fun w' => (w'.cell? ⟨w.heap.size + 1 + 1 + 1, 0, none⟩ = some (.map (some (w.heap.size + 1))) ∧ w'.cell? ⟨w.heap.size + 1 + 1 + 1, 1, none⟩ = some (.map (some (w.heap.size + 1 + 1)))) ∧ (w'.cell? ⟨g5, 0, none⟩ = some (.int .i64 s.ax) ∧ w'.cell? ⟨g5, 1, none⟩ = some (.int .i64 s.ay) ∧ w'.cell? ⟨g5, 2, none⟩ = some (.int .i64 s.cx) ∧ w'.cell? ⟨g5, 3, none⟩ = some (.int .i64 s.cy)) ∧ MsL (w.heap.size + 1 + 1) K2 v2 w') (by kernel_rfl) (by kernel_rfl) (HS.out _ (Below.refl _ _).drew) ?_
    simp only [List.map_cons, List.map_nil, opAt, List.getElem?_cons_succ, List.getElem?_cons_zero, Option.getD_some]
    clear s0 s1 s2 s3
    iterate 26
     refine ⟨?_, Or.inl ⟨by rfl, ?_⟩, ?_⟩
     rotate_left 1
     ·intro w' hSw
      obtain ⟨⟨z0, z1⟩, ⟨z2, z3, z4, z5⟩, z6⟩ := hSw
      have z7 := MsL.look z6 HSL.out HKK.out
      rw [HGV.out] at z7
      clear z6
      go_simp
      first | done | with_reducible rfl
     simp only [Act.put, List.setIfInBounds_toArray, List.set_cons_zero, List.set_cons_succ]
    simp only [wpReads]
    intro K hK
    simp only [Act.put, List.setIfInBounds_toArray, List.set_cons_zero, List.set_cons_succ] at hK ⊢
    go_simp
    refine hK _ _ (fun _ => HS.out _ ((Below.refl _ _).alloc (Nat.le_refl _) _).drew) ?_
    clear hK K
    intro K hK
    refine step_append_lies _ rfl (.tmp 64) (.tmp 80) 136 rfl (w.heap.size + 4) 141 i1 (.agg #[.int .i64 0, .int .i64 0]) 2 16 Tryz.underlying136 gi gz0 gz1 gz2 rfl (by decide) _ ps.length _ rfl (own_drew (World.ownsRow.alloc (w := w5) HOWN.out _)) ⟨w5.heap.size, 0, none⟩ 1 1 [.int .i64 (min s.ay s.cy), .int .i64 (max s.ay s.cy)] rfl rfl (news_drew w5 _ _ _ rfl) (ints_one rfl) (by omega) (by unfold maxLen; omega) (by omega) (by simp; omega) _ rfl ?_
    intro g9 cap9 w9 hown9 hgrow9 hor9 hlt9
    have hS5 := HS.out _ (((Below.refl w5.heap.size w5).alloc (Nat.le_refl _) (.cells #[.int .i64 (min s.ay s.cy), .int .i64 (max s.ay s.cy)] 141)).drew)
    have hcg : ∀ b o, b < w5.heap.size → (b < w.heap.size + 4 ∨ b = g5) → w9.cell? ⟨b, o, none⟩ = ((w5.alloc (.cells #[.int .i64 (min s.ay s.cy), .int .i64 (max s.ay s.cy)] 141)).drew).cell? ⟨b, o, none⟩ := fun b o hb hne => cell_grow hgrow9 (by show b < (w5.alloc _).heap.size; simp; omega) (fun e => by have := HGE.out _ e.symm; have := HG5.out; omega)
    have hS9 : (w9.cell? ⟨w.heap.size + 1 + 1 + 1, 0, none⟩ = some (.map (some (w.heap.size + 1))) ∧ w9.cell? ⟨w.heap.size + 1 + 1 + 1, 1, none⟩ = some (.map (some (w.heap.size + 1 + 1)))) ∧ (w9.cell? ⟨g5, 0, none⟩ = some (.int .i64 s.ax) ∧ w9.cell? ⟨g5, 1, none⟩ = some (.int .i64 s.ay) ∧ w9.cell? ⟨g5, 2, none⟩ = some (.int .i64 s.cx) ∧ w9.cell? ⟨g5, 3, none⟩ = some (.int .i64 s.cy)) ∧ MsL (w.heap.size + 1 + 1) K2 v2 w9 := ⟨⟨(hcg _ _ (by omega) (by omega)).trans hS5.1.1, (hcg _ _ (by omega) (by omega)).trans hS5.1.2⟩, ⟨(hcg _ _ hlt5 (.inr rfl)).trans hS5.2.1.1, (hcg _ _ hlt5 (.inr rfl)).trans hS5.2.1.2.1, (hcg _ _ hlt5 (.inr rfl)).trans hS5.2.1.2.2.1, (hcg _ _ hlt5 (.inr rfl)).trans hS5.2.1.2.2.2⟩, hS5.2.2.grown hgrow9 HNM.out⟩
    have HS9 := hide hS9
    refine hK _ _ (fun _ => HS9.out) ?_
    clear hK K hS5 hcg hS9
    have hx9 : ps.flatMap encS ++ [.int .i64 (min s.ay s.cy), .int .i64 (max s.ay s.cy)] = (p2 s.ax ++ [spC s]).flatMap encS := by rw [HPS.out]; simp [encS, spC]
    rw [hx9] at hown9
    have hlen9 : ps.length + 1 = (p2 s.ax ++ [spC s]).length := by rw [HPS.out]; simp
    rw [← HGV.out] at hgrow9 hor9
    obtain ⟨wz, hrun, v9, hcol9⟩ := HCOL.out.push2 (HB5.out.trans ((((Below.refl w5.heap.size w5).alloc (Nat.le_refl _) (.cells #[.int .i64 (min s.ay s.cy), .int .i64 (max s.ay s.cy)] 141)).drew).mono HB5.out.size)) HKK.out (by unfold maxLen; omega) hgrow9 (s := spC s) hlen9 hown9 (by rcases hor9 with h | h; exact .inl h; exact .inr (by rw [← h]; exact Nat.le_refl _))
    have HCOL9 := hide hcol9
    clear hcol9 hown9 hgrow9 hor9 hx9 hlen9
    intro K hK
    simp only [Act.put, List.setIfInBounds_toArray, List.set_cons_zero, List.set_cons_succ] at hK ⊢
    obtain ⟨⟨z0, z1⟩, ⟨z2, z3, z4, z5⟩, -⟩ := HS9.out
    go_simp
    refine hK _ _ (fun h => absurd rfl h) ?_
    clear hK K hrun z0 z1 z2 z3 z4 z5
    refine NoPanic.normal ?_
    go_wp2
    go_roundw
    case rel =>
     have e1 : colSp (l.take (m + 1)) = fun k' => if k' = s.ax then p2 s.ax ++ [spC s] else p2 k' := funext fun y => by
      rw [HSC.out y]
      by_cases e : y = s.ax
      ·subst e
       rw [if_pos ⟨HROW.out, rfl⟩, if_pos rfl]
      ·rw [if_neg (fun h => e h.2.symm), if_neg e]
     have e2 : rowSp (l.take (m + 1)) = p1 := funext fun y => by
      rw [HSR.out y, if_neg (fun h => HROW.out h.1)]
     have h1 := addI_len K2 s.ax
     refine ⟨m + 1, by omega, by go_num, ?_⟩
     rw [e1, e2]
     exact hide ⟨K1, addI K2 s.ax, v1, v9, HCOL9.out, HK1.out, keys_push HK2.out _ _, by omega, by omega⟩
    case measure => simp [intOf]; omega
  ·obtain rfl : m = l.length := by omega
   rw [List.take_length] at HCC
   obtain ⟨K1, K2, v10, v20, hcol, hk1, hk2, hn1, hn2⟩ := HCC.out
   have HK1 := hide hk1
   have HK2 := hide hk2
   have HCOL := hide hcol
   obtain ⟨gS, hgS⟩ : ∃ g, wr.heap.size = g := ⟨_, rfl⟩
   clear hk1 hk2 hcol HCC
   have z0 := HCOL.out.c0
   have z1 := HCOL.out.c1
   go_wp2
   clear z0 z1
   have HC3 := hide (HCOL.out.below ((Below.refl _ _).alloc (Nat.le_refl _) (.cells #[.map (some (w.heap.size + 1)), .map (some (w.heap.size + 1 + 1))] 217)))
   go_loopw [89] (fun q wr2 => ∃ m : Nat, m ≤ 2 ∧ q = .int .i64 m ∧ Hid (∃ p1 p2 v1 v2, Col w wr2 w.heap.size K1 K2 p1 p2 v1 v2 ∧ (∀ k ∈ K1, p1 k = if 1 ≤ m then rowD l k else rowSp l k) ∧ (∀ k ∈ K2, p2 k = if 2 ≤ m then colD l k else colSp l k)) ∧ Hid (wr2.cell? ⟨gS, 0, none⟩ = some (.map (some (w.heap.size + 1))) ∧ wr2.cell? ⟨gS, 1, none⟩ = some (.map (some (w.heap.size + 1 + 1))) ∧ gS < wr2.heap.size ∧ w.heap.size + 4 ≤ gS)) (fun q _ => 2 - (intOf q).toNat)
   case atStart =>
    exact ⟨0, by omega, rfl, hide ⟨_, _, _, _, HC3.out, fun k _ => rfl, fun k _ => rfl⟩, hide ⟨by rw [← hgS]; simp [go_sem], by rw [← hgS]; simp [go_sem], by rw [← hgS]; simp, by rw [← hgS]; exact HCOL.out.sz⟩⟩
   case round =>
    clear HC3 HCOL
    obtain ⟨m, hm, rfl, HCC, HGS⟩ := hrel
    obtain ⟨p1, p2, v1, v2, hc2, hp1, hp2⟩ := HCC.out
    have HC2 := hide hc2
    obtain ⟨s0, s1, -, -⟩ := HGS.out
    have hms : m = 0 ∨ m = 1 ∨ m = 2 := by omega
    clear HCC hc2
    rcases hms with rfl | rfl | rfl
    ·skip
     have HP1 : Hid (∀ k ∈ K1, p1 k = rowSp l k) := hide (fun k hk => by rw [hp1 k hk, if_neg (by omega)])
     have HP2 : Hid (∀ k ∈ K2, p2 k = colSp l k) := hide (fun k hk => by rw [hp2 k hk, if_neg (by omega)])
     clear hp1 hp2 hm
     rw [show ((0 : Nat) : Int) = 0 from rfl]
     go_upto_region 12 with fail
     clear s0 s1
     go_wp2_with (at_range; refine wpList_range_ms rfl _ rfl rfl HC2.out.m1 ?_; intro w4 left hmr hleft hgr hs4)
     go_frame
     have HC4 := hide (HC2.out.grown hgr (fun q hq => by cases hq) (fun k hk => own_none_or) (fun k hk => own_none_or))
     have HG4 : Hid (w4.cell? ⟨gS, 0, none⟩ = some (.map (some (w.heap.size + 1))) ∧ w4.cell? ⟨gS, 1, none⟩ = some (.map (some (w.heap.size + 1 + 1))) ∧ gS < w4.heap.size) := hide ⟨(cell_grow hgr HGS.out.2.2.1 (by simp)).trans HGS.out.1, (cell_grow hgr HGS.out.2.2.1 (by simp)).trans HGS.out.2.1, Nat.lt_of_lt_of_le HGS.out.2.2.1 hgr.size⟩
     obtain ⟨r, hrE⟩ : ∃ r, wr.heap.size = r := ⟨_, rfl⟩
     rw [hrE] at hmr ⊢
     have hr4 : w.heap.size + 4 ≤ r := by rw [← hrE]; exact HC2.out.sz
     have hrg : gS < r := by rw [← hrE]; exact HGS.out.2.2.1
     have hgS4 : w.heap.size + 4 ≤ gS := HGS.out.2.2.2
     have HMR := hide hmr
     have HLF := hide hleft
     clear hmr hleft hgr hs4 hrE HGS HC2
     go_loopw [8] (fun _ wr3 => ∃ left cnt, Hid (∃ p v, Mr (w.heap.size + 4) (w.heap.size + 1) r K1 p v left cnt wr3 ∧ (∀ k ∈ K1, p k = if left (.int .i64 k) = true then rowSp l k else rowD l k) ∧ Col w wr3 w.heap.size K1 K2 p p2 v v2 ∧ (wr3.cell? ⟨gS, 0, none⟩ = some (.map (some (w.heap.size + 1))) ∧ wr3.cell? ⟨gS, 1, none⟩ = some (.map (some (w.heap.size + 1 + 1))) ∧ gS < wr3.heap.size))) (fun _ wr3 => wr3.rangeLeft (w.heap.size + 1) r)
     case atStart => exact ⟨left, _, hide ⟨_, _, HMR.out, fun k hk => by rw [HLF.out k hk, if_pos rfl]; exact HP1.out k hk, HC4.out, HG4.out⟩⟩
     case round =>
      clear HMR HLF HC4 HG4
      obtain ⟨left, cnt, HH⟩ := hrel
      obtain ⟨p, v, hmr, hpp, hco, hgs⟩ := HH.out
      have HMR := hide hmr
      have HPP := hide hpp
      have HCO := hide hco
      have HGT := hide hgs
      have HLE : Hid (wr.rangeLeft (w.heap.size + 1) r = cnt) := hide (by obtain ⟨D, d, _⟩ := hmr.map; exact d.left_eq)
      clear hmr hpp hco hgs HH
      go_wp2_with (at_next; refine wpList_next_ms rfl _ rfl rfl HMR.out ?_ ?_)
      ·intro _ hl0
       have HPX : Hid (∀ k ∈ K1, p k = rowD l k) := hide (fun k hk => by rw [HPP.out k hk, hl0, if_neg (by simp)])
       clear HPP hl0
       go_wp2
       go_roundw
       case rel => exact ⟨1, by omega, by first | rfl | go_num, hide ⟨p, p2, v, v2, HCO.out, fun k hk => by rw [HPX.out k hk, if_pos (by omega)], fun k hk => by rw [HP2.out k hk, if_neg (by omega)]⟩, hide ⟨HGT.out.1, HGT.out.2.1, HGT.out.2.2, hgS4⟩⟩
       case measure => simp [intOf]
      ·intro x w5 cnt5 hx hlx hmr5 hlt5 hg5 hs5 hen
       have HC5 := hide (HCO.out.step1 HMR.out hr4 hg5)
       have HG5 : Hid (w5.cell? ⟨gS, 0, none⟩ = some (.map (some (w.heap.size + 1))) ∧ w5.cell? ⟨gS, 1, none⟩ = some (.map (some (w.heap.size + 1 + 1))) ∧ gS < w5.heap.size) := hide ⟨(cell_grow hg5 HGT.out.2.2 (fun e => by injection e with e; omega)).trans HGT.out.1, (cell_grow hg5 HGT.out.2.2 (fun e => by injection e with e; omega)).trans HGT.out.2.1, Nat.lt_of_lt_of_le HGT.out.2.2 hg5.size⟩
       have hpx : p x = rowSp l x := by rw [HPP.out x hx, if_pos hlx]
       have hrd := own_rd (hmr5.mv.vs x hx) (fun _ => rfl)
       rw [hpx] at hrd
       have HMK := hide (spanMake_thin hrd (rowSp_ok HV.out x))
       have HMR5 := hide hmr5
       have HX : Hid (x ∈ K1) := hide hx
       clear hmr5 hrd hpx HCO HMR HGT hg5 hx hlx hs5
       generalize v x = vx at *
       go_wp2_with (fail)
       refine HMK.out.mono ?_
       rintro e w6 ⟨A6, c6, er6, rfl, ho6, hb6⟩
       obtain ⟨w7, hrun, hg7, hm7, hc7⟩ := HC5.out.upd1 HMR5.out HX.out (by unfold maxLen; omega) hb6 ho6
       have HM7 := hide hm7
       have HC7 := hide hc7
       have HG7 : Hid (w7.cell? ⟨gS, 0, none⟩ = some (.map (some (w.heap.size + 1))) ∧ w7.cell? ⟨gS, 1, none⟩ = some (.map (some (w.heap.size + 1 + 1))) ∧ gS < w7.heap.size) := hide ⟨(cell_grow hg7 (Nat.lt_of_lt_of_le HG5.out.2.2 hb6.size) (fun e => by injection e with e; omega)).trans ((hb6.cell (p := ⟨gS, 0, none⟩) HG5.out.2.2).trans HG5.out.1), (cell_grow hg7 (Nat.lt_of_lt_of_le HG5.out.2.2 hb6.size) (fun e => by injection e with e; omega)).trans ((hb6.cell (p := ⟨gS, 1, none⟩) HG5.out.2.2).trans HG5.out.2.1), Nat.lt_of_lt_of_le (Nat.lt_of_lt_of_le HG5.out.2.2 hb6.size) hg7.size⟩
       clear hm7 hc7 hg7 ho6 hb6 HMR5 HMK hen
       have HL7 : Hid (w7.rangeLeft (w.heap.size + 1) r = cnt5) := hide (by obtain ⟨D, d, _⟩ := HM7.out.map; exact d.left_eq)
       go_wp2_with (fail)
       clear hrun
       go_roundw
       case rel =>
        refine ⟨_, cnt5, hide ⟨_, _, HM7.out, fun k hk => ?_, HC7.out, HG7.out⟩⟩
        by_cases e : k = x
        ·subst e
         rw [if_pos rfl, if_neg (by simp [Lit.sameKey])]
         rfl
        ·rw [if_neg e, HPP.out k hk]
         have e2 : (left (.int .i64 k) && !(Lit.int .i64 k).sameKey (.int .i64 x)) = left (.int .i64 k) := by
          rw [show (Lit.int .i64 k).sameKey (.int .i64 x) = false by simp [Lit.sameKey, e]]
          simp
         rw [e2]
       case measure => rw [HL7.out, HLE.out]; exact hlt5
    ·skip
     have HP1 : Hid (∀ k ∈ K1, p1 k = rowD l k) := hide (fun k hk => by rw [hp1 k hk, if_pos (by omega)])
     have HP2 : Hid (∀ k ∈ K2, p2 k = colSp l k) := hide (fun k hk => by rw [hp2 k hk, if_neg (by omega)])
     clear hp1 hp2 hm
     rw [show ((1 : Nat) : Int) = 1 from rfl]
     go_upto_region 12 with fail
     clear s0 s1
     go_wp2_with (at_range; refine wpList_range_ms rfl _ rfl rfl HC2.out.m2 ?_; intro w4 left hmr hleft hgr hs4)
     go_frame
     have HC4 := hide (HC2.out.grown hgr (fun q hq => by cases hq) (fun k hk => own_none_or) (fun k hk => own_none_or))
     have HG4 : Hid (w4.cell? ⟨gS, 0, none⟩ = some (.map (some (w.heap.size + 1))) ∧ w4.cell? ⟨gS, 1, none⟩ = some (.map (some (w.heap.size + 1 + 1))) ∧ gS < w4.heap.size) := hide ⟨(cell_grow hgr HGS.out.2.2.1 (by simp)).trans HGS.out.1, (cell_grow hgr HGS.out.2.2.1 (by simp)).trans HGS.out.2.1, Nat.lt_of_lt_of_le HGS.out.2.2.1 hgr.size⟩
     obtain ⟨r, hrE⟩ : ∃ r, wr.heap.size = r := ⟨_, rfl⟩
     rw [hrE] at hmr ⊢
     have hr4 : w.heap.size + 4 ≤ r := by rw [← hrE]; exact HC2.out.sz
     have hrg : gS < r := by rw [← hrE]; exact HGS.out.2.2.1
     have hgS4 : w.heap.size + 4 ≤ gS := HGS.out.2.2.2
     have HMR := hide hmr
     have HLF := hide hleft
     clear hmr hleft hgr hs4 hrE HGS HC2
     go_loopw [8] (fun _ wr3 => ∃ left cnt, Hid (∃ p v, Mr (w.heap.size + 4) (w.heap.size + 1 + 1) r K2 p v left cnt wr3 ∧ (∀ k ∈ K2, p k = if left (.int .i64 k) = true then colSp l k else colD l k) ∧ Col w wr3 w.heap.size K1 K2 p1 p v1 v ∧ (wr3.cell? ⟨gS, 0, none⟩ = some (.map (some (w.heap.size + 1))) ∧ wr3.cell? ⟨gS, 1, none⟩ = some (.map (some (w.heap.size + 1 + 1))) ∧ gS < wr3.heap.size))) (fun _ wr3 => wr3.rangeLeft (w.heap.size + 1 + 1) r)
     case atStart => exact ⟨left, _, hide ⟨_, _, HMR.out, fun k hk => by rw [HLF.out k hk, if_pos rfl]; exact HP2.out k hk, HC4.out, HG4.out⟩⟩
     case round =>
      clear HMR HLF HC4 HG4
      obtain ⟨left, cnt, HH⟩ := hrel
      obtain ⟨p, v, hmr, hpp, hco, hgs⟩ := HH.out
      have HMR := hide hmr
      have HPP := hide hpp
      have HCO := hide hco
      have HGT := hide hgs
      have HLE : Hid (wr.rangeLeft (w.heap.size + 1 + 1) r = cnt) := hide (by obtain ⟨D, d, _⟩ := hmr.map; exact d.left_eq)
      clear hmr hpp hco hgs HH
      go_wp2_with (at_next; refine wpList_next_ms rfl _ rfl rfl HMR.out ?_ ?_)
      ·intro _ hl0
       have HPX : Hid (∀ k ∈ K2, p k = colD l k) := hide (fun k hk => by rw [HPP.out k hk, hl0, if_neg (by simp)])
       clear HPP hl0
       go_wp2
       go_roundw
       case rel => exact ⟨2, by omega, by first | rfl | go_num, hide ⟨p1, p, v1, v, HCO.out, fun k hk => by rw [HP1.out k hk, if_pos (by omega)], fun k hk => by rw [HPX.out k hk, if_pos (by omega)]⟩, hide ⟨HGT.out.1, HGT.out.2.1, HGT.out.2.2, hgS4⟩⟩
       case measure => simp [intOf]
      ·intro x w5 cnt5 hx hlx hmr5 hlt5 hg5 hs5 hen
       have HC5 := hide (HCO.out.step2 HMR.out hr4 hg5)
       have HG5 : Hid (w5.cell? ⟨gS, 0, none⟩ = some (.map (some (w.heap.size + 1))) ∧ w5.cell? ⟨gS, 1, none⟩ = some (.map (some (w.heap.size + 1 + 1))) ∧ gS < w5.heap.size) := hide ⟨(cell_grow hg5 HGT.out.2.2 (fun e => by injection e with e; omega)).trans HGT.out.1, (cell_grow hg5 HGT.out.2.2 (fun e => by injection e with e; omega)).trans HGT.out.2.1, Nat.lt_of_lt_of_le HGT.out.2.2 hg5.size⟩
       have hpx : p x = colSp l x := by rw [HPP.out x hx, if_pos hlx]
       have hrd := own_rd (hmr5.mv.vs x hx) (fun _ => rfl)
       rw [hpx] at hrd
       have HMK := hide (spanMake_thin hrd (colSp_ok HV.out x))
       have HMR5 := hide hmr5
       have HX : Hid (x ∈ K2) := hide hx
       clear hmr5 hrd hpx HCO HMR HGT hg5 hx hlx hs5
       generalize v x = vx at *
       go_wp2_with (fail)
       refine HMK.out.mono ?_
       rintro e w6 ⟨A6, c6, er6, rfl, ho6, hb6⟩
       obtain ⟨w7, hrun, hg7, hm7, hc7⟩ := HC5.out.upd2 HMR5.out HX.out (by unfold maxLen; omega) hb6 ho6
       have HM7 := hide hm7
       have HC7 := hide hc7
       have HG7 : Hid (w7.cell? ⟨gS, 0, none⟩ = some (.map (some (w.heap.size + 1))) ∧ w7.cell? ⟨gS, 1, none⟩ = some (.map (some (w.heap.size + 1 + 1))) ∧ gS < w7.heap.size) := hide ⟨(cell_grow hg7 (Nat.lt_of_lt_of_le HG5.out.2.2 hb6.size) (fun e => by injection e with e; omega)).trans ((hb6.cell (p := ⟨gS, 0, none⟩) HG5.out.2.2).trans HG5.out.1), (cell_grow hg7 (Nat.lt_of_lt_of_le HG5.out.2.2 hb6.size) (fun e => by injection e with e; omega)).trans ((hb6.cell (p := ⟨gS, 1, none⟩) HG5.out.2.2).trans HG5.out.2.1), Nat.lt_of_lt_of_le (Nat.lt_of_lt_of_le HG5.out.2.2 hb6.size) hg7.size⟩
       clear hm7 hc7 hg7 ho6 hb6 HMR5 HMK hen
       have HL7 : Hid (w7.rangeLeft (w.heap.size + 1 + 1) r = cnt5) := hide (by obtain ⟨D, d, _⟩ := HM7.out.map; exact d.left_eq)
       go_wp2_with (fail)
       clear hrun
       go_roundw
       case rel =>
        refine ⟨_, cnt5, hide ⟨_, _, HM7.out, fun k hk => ?_, HC7.out, HG7.out⟩⟩
        by_cases e : k = x
        ·subst e
         rw [if_pos rfl, if_neg (by simp [Lit.sameKey])]
         rfl
        ·rw [if_neg e, HPP.out k hk]
         have e2 : (left (.int .i64 k) && !(Lit.int .i64 k).sameKey (.int .i64 x)) = left (.int .i64 k) := by
          rw [show (Lit.int .i64 k).sameKey (.int .i64 x) = false by simp [Lit.sameKey, e]]
          simp
         rw [e2]
       case measure => rw [HL7.out, HLE.out]; exact hlt5
    ·have HP1 : Hid (∀ k ∈ K1, p1 k = rowD l k) := hide (fun k hk => by rw [hp1 k hk, if_pos (by omega)])
     have HP2 : Hid (∀ k ∈ K2, p2 k = colD l k) := hide (fun k hk => by rw [hp2 k hk, if_pos (by omega)])
     clear hp1 hp2 hm s0 s1 HGS
     rw [show ((2 : Nat) : Int) = 2 from rfl]
     have z0 := HC2.out.c0
     have z1 := HC2.out.c1
     have z2 : wr.cell? ⟨w.heap.size, 0, none⟩ = some (.map none) := by simp [World.cell?, HC2.out.rb]
     have z3 : wr.cell? ⟨w.heap.size, 1, none⟩ = some (.map none) := by simp [World.cell?, HC2.out.rb]
     have z4 : wr.frozen? ⟨w.heap.size, 0, none⟩ = false := by simp [World.frozen?, HC2.out.rb]
     have z5 : wr.frozen? ⟨w.heap.size, 1, none⟩ = false := by simp [World.frozen?, HC2.out.rb]
     go_wp2
     clear z0 z1
     have hs0 : w.heap.size < wr.heap.size := by have := HC2.out.sz; omega
     refine bodyPost_ret (v := .agg #[.map (some (w.heap.size + 1)), .map (some (w.heap.size + 1 + 1))]) (by simp [results, Tryz.results160, go_sem, z2, z3, hs0]) rfl ⟨_, rfl, ?_, ?_⟩
     ·have hset : ∀ (o : Nat) (u : Value) (W : World), w.heap.size < W.heap.size → W.grownBy (W.setCell ⟨w.heap.size, o, none⟩ u) (some w.heap.size) := fun o u W _ => ⟨rfl, rfl, rfl, by simp, fun k _ hk => Below.heap_setCell _ _ _ _ (fun e => hk (by rw [e]))⟩
      have g1 := hset 0 (.map (some (w.heap.size + 1))) wr hs0
      have g2 := hset 1 (.map (some (w.heap.size + 1 + 1))) (wr.setCell ⟨w.heap.size, 0, none⟩ (.map (some (w.heap.size + 1)))) (by simpa using hs0)
      have a1 := HC2.out.m1.grown g1 (fun e => by injection e with e; omega) (fun k hk => .inr fun e => by have := (HC2.out.m1.mv.vs k hk).lt _ e; omega)
      have a2 := HC2.out.m2.grown g1 (fun e => by injection e with e; omega) (fun k hk => .inr fun e => by have := (HC2.out.m2.mv.vs k hk).lt _ e; omega)
      have b1 := a1.grown g2 (fun e => by injection e with e; omega) (fun k hk => .inr fun e => by have := (a1.mv.vs k hk).lt _ e; omega)
      have b2 := a2.grown g2 (fun e => by injection e with e; omega) (fun k hk => .inr fun e => by have := (a2.mv.vs k hk).lt _ e; omega)
      exact ⟨_, _, K1, K2, _, _, rfl, by rw [← rowD_thin]; exact (b1.same HP1.out).base (by omega), by rw [← colD_thin]; exact (b2.same HP2.out).base (by omega), keys_thin HK1.out, keys_thinC HK2.out, by omega, by omega⟩
     ·exact Below.setCell (Below.setCell HC2.out.low (Nat.le_refl _) _) (Nat.le_refl _) _
end Go.Proofs.YtikojiciilambaaGreat

/- Plain: a segment more adds at most one part; networks that are moved. -/
namespace Go.Proofs.YtikojiciilambaaGreat
set_option linter.unusedVariables false
set_option linter.unusedSimpArgs false
def onE (N : List Pt) (e : Ed) (p : Pt) : Prop := ((nd N e.1).1 = (nd N e.2).1 ∧ p.1 = (nd N e.1).1 ∧ (nd N e.1).2 ≤ p.2 ∧ p.2 ≤ (nd N e.2).2) ∨ ((nd N e.1).2 = (nd N e.2).2 ∧ p.2 = (nd N e.1).2 ∧ (nd N e.1).1 ≤ p.1 ∧ p.1 ≤ (nd N e.2).1)
section
variable {h v : Int → Int → Bool} {N : List Pt} (H : NetOK h v N)
include H
theorem NetOK.edges_lt : ∀ e ∈ edgesG h v N, e.1 < N.length ∧ e.2 < N.length := fun e he => by
 obtain ⟨e1, e2, _⟩ := H.edge_two he
 exact ⟨by omega, e2⟩
theorem NetOK.row_on {x y : Int} (hx : h x y = true) : ∃ e ∈ edgesG h v N, onE N e (x, y) ∧ onE N e (x + 1, y) := by
 have := H.drawn_row x y
 rw [hx, row_mem] at this
 obtain ⟨s, hs, e1, e2, e3, e4⟩ := this
 obtain ⟨e, he, rfl⟩ := List.mem_map.1 hs
 obtain ⟨k0, _, k | ⟨k1, k2, k3, k4⟩⟩ := H.edge_two he
 ·have : (nd N e.1).2 = (nd N e.2).2 := e1
  omega
 ·have e3' : min (nd N e.1).1 (nd N e.2).1 ≤ x := e3
  have e4' : x < max (nd N e.1).1 (nd N e.2).1 := e4
  have e2' : (nd N e.1).2 = y := e2
  exact ⟨e, he, .inr ⟨k1, e2'.symm, by simp only; omega, by simp only; omega⟩, .inr ⟨k1, e2'.symm, by simp only; omega, by simp only; omega⟩⟩
theorem NetOK.col_on {x y : Int} (hx : v x y = true) : ∃ e ∈ edgesG h v N, onE N e (x, y) ∧ onE N e (x, y + 1) := by
 have := H.drawn_col x y
 rw [hx, col_mem] at this
 obtain ⟨s, hs, e1, e2, e3, e4⟩ := this
 obtain ⟨e, he, rfl⟩ := List.mem_map.1 hs
 obtain ⟨k0, _, ⟨k1, k2, k3, k4⟩ | k⟩ := H.edge_two he
 ·have e3' : min (nd N e.1).2 (nd N e.2).2 ≤ y := e3
  have e4' : y < max (nd N e.1).2 (nd N e.2).2 := e4
  have e2' : (nd N e.1).1 = x := e2
  exact ⟨e, he, .inl ⟨k1, e2'.symm, by simp only; omega, by simp only; omega⟩, .inl ⟨k1, e2'.symm, by simp only; omega, by simp only; omega⟩⟩
 ·exact absurd k.1 e1
end
abbrev partsN (l : List Sg) : Nat := (compF (nodesF l).length (edgesF l)).2
end Go.Proofs.YtikojiciilambaaGreat

/- Plain: networks that are moved. -/
namespace Go.Proofs.YtikojiciilambaaGreat
set_option linter.unusedVariables false
set_option linter.unusedSimpArgs false
end Go.Proofs.YtikojiciilambaaGreat

/- Plain: the streets of a network: wide unit lines. -/
namespace Go.Proofs.YtikojiciilambaaGreat
set_option linter.unusedVariables false
set_option linter.unusedSimpArgs false
def thickS (d : Int) (s : Sg) : R4 := ⟨min s.ax s.cx - d, min s.ay s.cy - d, max s.ax s.cx + d, max s.ay s.cy + d⟩
end Go.Proofs.YtikojiciilambaaGreat

/- span.Has; the unit lines at a point: street.roads.around and node. -/
namespace Go.Proofs.YtikojiciilambaaGreat
open Go.RowKit Go.Maps
set_option linter.unusedVariables false
set_option linter.unusedSimpArgs false
set_option maxHeartbeats 1000000 in
theorem spHasC_any (p : Sp) (x : Int) (bx : Nat) (w : World) (hx : w.cell? ⟨bx, 0, none⟩ = some (.int .i64 x)) :
  Calls Tryz.prog 218 (#[.agg (encS p).toArray] ++ #[.pointer (some ⟨bx, 0, none⟩)]) w fun e w' => e = .returned (.bool (decide (p.1 ≤ x ∧ x < p.2))) ∧ Below w.heap.size w w' := by
 obtain ⟨a, b⟩ := p
 show Calls Tryz.prog _ #[.agg #[.int .i64 a, .int .i64 b], .pointer (some ⟨bx, 0, none⟩)] w _
 have lx := lt_of_cell hx
 have nx : bx ≠ w.heap.size := by omega
 go_enter Tryz.func218, Tryz.ntmps218
 go_wp2
 all_goals
  go_ret
  refine ⟨ret_eq (bool_eq ?_), (Below.refl _ _).alloc (Nat.le_refl _) _⟩
  rw [Bool.eq_iff_iff]
  simp <;> omega
theorem enter_spHasC : ∀ args w, (callFunc 218 args).run Tryz.prog w = .ok (.enter 218 args) w := enters_of Tryz.func218 (by kernel_rfl) rfl
theorem any_smem (s : List Sp) (x : Int) : s.any (fun p => decide (p.1 ≤ x ∧ x < p.2)) = decide (smem s x) := by
 rw [Bool.eq_iff_iff, List.any_eq_true, decide_eq_true_eq]
 unfold smem
 simp
set_option maxHeartbeats 1000000 in
theorem spHas_any {w : World} {v : Value} {l : List Sp} (hr : RdK encS 2 w w.heap.size v l) (hl : l.length ≤ 1000000000) (x : Int) :
  Calls Tryz.prog 201 #[v, .int .i64 x] w fun e w' => e = .returned (.bool (decide (smem l x))) ∧ Below w.heap.size w w' := by
 have hb0 : Below w.heap.size w (w.alloc (.cells #[.int .i64 x] 3)) := (Below.refl _ _).alloc (Nat.le_refl _) _
 have h := cfSpan_any (w := w.alloc (.cells #[.int .i64 x] 3)) ((hr.below hb0).mono hb0.size) hl 218 #[.pointer (some ⟨w.heap.size, 0, none⟩)] (fun p => decide (p.1 ≤ x ∧ x < p.2)) enter_spHasC
  (fun W p _ hb => spHasC_any p x _ W ((hb.cell (p := ⟨w.heap.size, 0, none⟩) (by simp)).trans (by simp [go_sem])))
 rw [any_smem] at h
 generalize decide (smem l x) = d at *
 have HB := hide hb0
 obtain ⟨A1, c1, rfl, _⟩ := hr
 clear hb0
 go_enter Tryz.func201, Tryz.ntmps201
 go_wp2_with (go_at_call 145; refine h.mono ?_; rintro e w1 ⟨rfl, hb⟩)
 go_ret
 exact ⟨rfl, HB.out.trans (hb.mono HB.out.size)⟩
theorem rowC_ok {l : List Sg} (hv : ∀ s ∈ l, okSg s) : Lines l (rowC l) (colC l) := by
 have hr : ∀ y, ∀ p ∈ rowSp l y, p.1 < p.2 := fun y p hp => (rowSp_ok hv y p hp).1
 have hc : ∀ x, ∀ p ∈ colSp l x, p.1 < p.2 := fun x p hp => (colSp_ok hv x p hp).1
 refine ⟨fun y => (sjoin_ok (h := hFst) rfl (hr y) (by simp)).1, fun x y => ?_, fun x => (sjoin_ok (h := hFst) rfl (hc x) (by simp)).1, fun x y => ?_⟩
 ·unfold rowC htB
  rw [(sjoin_ok (h := hFst) rfl (hr y) (by simp)).2]
  rfl
 ·unfold colC vtB
  rw [(sjoin_ok (h := hFst) rfl (hc x) (by simp)).2]
  rfl
theorem rowC_len (l : List Sg) (y : Int) : (rowC l y).length ≤ 2 * l.length := by
 have h1 := sjoin_len hFst (rowSp l y) []
 have h2 := rowSp_len l y
 unfold rowC
 simp only [List.length_nil] at h1
 omega
theorem colC_len (l : List Sg) (x : Int) : (colC l x).length ≤ 2 * l.length := by
 have h1 := sjoin_len hFst (colSp l x) []
 have h2 := colSp_len l x
 unfold colC
 simp only [List.length_nil] at h1
 omega
theorem Ms.rd {B bM : Nat} {K : List Int} {p q : Int → List Sp} {vals : Int → Value} {w : World} (h : Ms B bM K p vals w) (hk : KeysUp K q) (hz : ∀ k, q k = [] → p k = []) (k : Int) : RdK encS 2 w w.heap.size (gvI K vals k) (p k) := by
 by_cases hm : k ∈ K
 ·rw [gv_in hm]
  exact own_rd (h.mv.vs k hm) (fun _ => rfl)
 ·rw [gv_out hm, hz k (Classical.byContradiction fun hn => hm (hk k hn))]
  exact RdK.nil none 0
theorem Roads.below {B : Nat} {l : List Sg} {v : Value} {w w' : World} (h : Roads B l v w) (hb : Below w.heap.size w w') : Roads B l v w' := by
 obtain ⟨b1, b2, K1, K2, v1, v2, e, m1, m2, k1, k2, g1, g2⟩ := h
 exact ⟨b1, b2, K1, K2, v1, v2, e, m1.below hb, m2.below hb, k1, k2, g1, g2⟩
theorem Roads.look {B : Nat} {l : List Sg} {v : Value} {w : World} (h : Roads B l v w) {x y : Int} (hx : okK x) (hy : okK y) : ∃ b1 b2 A1 c1 A2 c2, v = .agg #[.map (some b1), .map (some b2)] ∧ (∀ w', Below w.heap.size w w' → (Instr.lookup 217 (.map (some b1)) (.int .i64 y) false).run Tryz.prog w' = .ok (.slice A1 (rowC l y).length c1) w' ∧ (Instr.lookup 217 (.map (some b2)) (.int .i64 x) false).run Tryz.prog w' = .ok (.slice A2 (colC l x).length c2) w') ∧
  RdK encS 2 w w.heap.size (.slice A1 (rowC l y).length c1) (rowC l y) ∧ RdK encS 2 w w.heap.size (.slice A2 (colC l x).length c2) (colC l x) := by
 obtain ⟨b1, b2, K1, K2, v1, v2, e, m1, m2, k1, k2, g1, g2⟩ := h
 have r1 := m1.rd k1 (fun k hk => by unfold rowC; rw [hk]; rfl) y
 have r2 := m2.rd k2 (fun k hk => by unfold colC; rw [hk]; rfl) x
 obtain ⟨A1, c1, e1, _⟩ := id r1
 obtain ⟨A2, c2, e2, _⟩ := id r2
 rw [e1] at r1
 rw [e2] at r2
 refine ⟨b1, b2, A1, c1, A2, c2, e, fun w' hb => ?_, r1, r2⟩
 have l1 := (m1.below hb).look hy
 have l2 := (m2.below hb).look hx
 rw [e1] at l1
 rw [e2] at l2
 exact ⟨l1, l2⟩
def arndV (l : List Sg) (p : Pt) : Value := .agg #[.bool (htB l p.1 p.2), .bool (vtB l p.1 p.2), .bool (htB l (p.1 - 1) p.2), .bool (vtB l p.1 (p.2 - 1))]
def bigP (p : Pt) : Prop := (-1000001 ≤ p.1 ∧ p.1 ≤ 1000001) ∧ (-1000001 ≤ p.2 ∧ p.2 ≤ 1000001)
set_option maxRecDepth 100000 in
set_option maxHeartbeats 4000000 in
theorem around_any {w : World} {B : Nat} {l : List Sg} {v : Value} (h : Roads B l v w) (hv : ∀ s ∈ l, okSg s) (hl : l.length ≤ 800) {x y : Int} (hp : bigP (x, y)) :
  Calls Tryz.prog 162 #[v, .agg #[.int .i64 x, .int .i64 y]] w fun e w' => e = .returned (arndV l (x, y)) ∧ Below w.heap.size w w' := by
 obtain ⟨⟨x1, x2⟩, y1, y2⟩ := hp
 simp only at x1 x2 y1 y2
 obtain ⟨b1, b2, A1, c1, A2, c2, rfl, hlk, r1, r2⟩ := h.look (x := x) (y := y) (by unfold okK; omega) (by unfold okK; omega)
 have HL := hide hlk
 have hLn := rowC_ok hv
 have e1 : decide (smem (rowC l y) x) = htB l x y := by rw [Bool.eq_iff_iff, decide_eq_true_eq]; exact hLn.rm x y
 have e2 : decide (smem (colC l x) y) = vtB l x y := by rw [Bool.eq_iff_iff, decide_eq_true_eq]; exact hLn.cm x y
 have e3 : decide (smem (rowC l y) (x - 1)) = htB l (x - 1) y := by rw [Bool.eq_iff_iff, decide_eq_true_eq]; exact hLn.rm (x - 1) y
 have e4 : decide (smem (colC l x) (y - 1)) = vtB l x (y - 1) := by rw [Bool.eq_iff_iff, decide_eq_true_eq]; exact hLn.cm x (y - 1)
 have hA := hide (fun (W : World) (hb : Below w.heap.size w W) (z : Int) => spHas_any (w := W) ((r1.below hb).mono hb.size) (by have := rowC_len l y; omega) z)
 have hB := hide (fun (W : World) (hb : Below w.heap.size w W) (z : Int) => spHas_any (w := W) ((r2.below hb).mono hb.size) (by have := colC_len l x; omega) z)
 have H1 := hide (fun W hb => by have := hA.out W hb x; rwa [e1] at this)
 have H2 := hide (fun W hb => by have := hB.out W hb y; rwa [e2] at this)
 have H3 := hide (fun W hb => by have := hA.out W hb (x - 1); rwa [e3] at this)
 have H4 := hide (fun W hb => by have := hB.out W hb (y - 1); rwa [e4] at this)
 have HR : Hid (arndV l (x, y) = .agg #[.bool (htB l x y), .bool (vtB l x y), .bool (htB l (x - 1) y), .bool (vtB l x (y - 1))]) := hide rfl
 generalize htB l x y = q1 at *
 generalize vtB l x y = q2 at *
 generalize htB l (x - 1) y = q3 at *
 generalize vtB l x (y - 1) = q4 at *
 generalize (rowC l y).length = n1 at *
 generalize (colC l x).length = n2 at *
 clear hA hB e1 e2 e3 e4 hLn hlk r1 r2 h hv
 go_enter Tryz.func162, Tryz.ntmps162
 go_upto_region 1 with fail
 refine wp_name fun w0 hw0 => ?_
 have hb0 : Below w.heap.size w w0 := by
  rw [hw0]
  repeat (first | with_reducible exact Below.refl _ _ | with_reducible refine Below.setCell ?_ (by first | (simp; done) | (simp; omega)) _ | with_reducible refine Below.alloc ?_ (by first | omega | (simp; omega) | simp) _)
 have d0 : w0.cell? ⟨w.heap.size, 0, none⟩ = some (.map (some b1)) := by rw [hw0]; simp [go_sem]
 have d1 : w0.cell? ⟨w.heap.size, 1, none⟩ = some (.map (some b2)) := by rw [hw0]; simp [go_sem]
 have p0 : w0.cell? ⟨w.heap.size + 1, 0, none⟩ = some (.int .i64 x) := by rw [hw0]; simp [go_sem]
 have p1 : w0.cell? ⟨w.heap.size + 1, 1, none⟩ = some (.int .i64 y) := by rw [hw0]; simp [go_sem]
 have f0 : ∀ i : Nat, i < 4 → w0.cell? ⟨w.heap.size + 1 + 1, i, none⟩ = some (.bool false) ∧ w0.frozen? ⟨w.heap.size + 1 + 1, i, none⟩ = false := by
  intro i hi
  rw [hw0]
  match i, hi with
  | 0, _ => simp [go_sem]
  | 1, _ => simp [go_sem]
  | 2, _ => simp [go_sem]
  | 3, _ => simp [go_sem]
 have hsz : w.heap.size + 3 ≤ w0.heap.size := by rw [hw0]; simp
 have HB0 := hide hb0
 have HF := hide f0
 clear hw0 hb0 f0
 have HD := hide (And.intro d0 (And.intro d1 (And.intro p0 p1)))
 have hz0 : w.heap.size < w0.heap.size := by omega
 have hz1 : w.heap.size + 1 < w0.heap.size := by omega
 have hz2 : w.heap.size + 1 + 1 < w0.heap.size := by omega
 clear d0 d1 p0 p1 hsz
 refine wp_region_mix [0, 1, 2, 3, 4, 5, 6, 7, 8, 9] [10, 11] (fun w' => Below w0.heap.size w0 w') (by kernel_rfl) (by kernel_rfl) (Below.refl _ _).drew ?_
 simp only [List.map_cons, List.map_nil, opAt, List.getElem?_cons_succ, List.getElem?_cons_zero, Option.getD_some]
 iterate 10
  refine ⟨?_, Or.inl ⟨by rfl, ?_⟩, ?_⟩
  rotate_left 1
  ·intro w' hSw
   obtain ⟨d0, d1, p0, p1⟩ := HD.out
   replace d0 := (hSw.cell (p := ⟨w.heap.size, 0, none⟩) hz0).trans d0
   replace d1 := (hSw.cell (p := ⟨w.heap.size, 1, none⟩) hz0).trans d1
   replace p0 := (hSw.cell (p := ⟨w.heap.size + 1, 0, none⟩) hz1).trans p0
   replace p1 := (hSw.cell (p := ⟨w.heap.size + 1, 1, none⟩) hz1).trans p1
   obtain ⟨l1, l2⟩ := HL.out _ (HB0.out.trans (hSw.mono HB0.out.size))
   clear hSw
   go_simp
   first | done | with_reducible rfl
  simp only [Act.put, List.setIfInBounds_toArray, List.set_cons_zero, List.set_cons_succ]
 simp only [wpReads]
 intro K hK
 simp only [Act.put, List.setIfInBounds_toArray, List.set_cons_zero, List.set_cons_succ] at hK ⊢
 go_simp
 refine hK _ _ (fun _ => (Below.refl _ _).drew) ?_
 clear hK K
 intro K hK
 simp only [Act.put, List.setIfInBounds_toArray, List.set_cons_zero, List.set_cons_succ] at hK ⊢
 go_simp
 refine hK _ _ (fun h => absurd rfl h) ?_
 clear hK K
 refine NoPanic.normal ?_
 have wx1 : IntKind.i64.wrap (x - 1) = x - 1 := IntWalk.i64_in _ (by omega)
 have wy1 : IntKind.i64.wrap (y - 1) = y - 1 := IntWalk.i64_in _ (by omega)
 go_upto_region 2 with fail
 refine wp_region_mix [0, 1, 2, 4, 5, 6, 8, 9, 10, 11, 13, 14, 15, 16] [3, 7, 12, 17, 18, 19] (fun w' => Below w0.heap.size w0 w') (by kernel_rfl) (by kernel_rfl) (Below.refl _ _).drew.drew ?_
 simp only [List.map_cons, List.map_nil, opAt, List.getElem?_cons_succ, List.getElem?_cons_zero, Option.getD_some]
 have HBK : Hid (Below w0.heap.size w0 w0.drew.drew) := hide (Below.refl _ _).drew.drew
 generalize w0.drew.drew = wk at *
 iterate 14
  refine ⟨?_, Or.inl ⟨by rfl, ?_⟩, ?_⟩
  rotate_left 1
  ·intro w' hSw
   obtain ⟨d0, d1, p0, p1⟩ := HD.out
   replace p0 := (hSw.cell (p := ⟨w.heap.size + 1, 0, none⟩) hz1).trans p0
   replace p1 := (hSw.cell (p := ⟨w.heap.size + 1, 1, none⟩) hz1).trans p1
   clear hSw d0 d1
   go_simp
   first | done | with_reducible rfl
  simp only [Act.put, List.setIfInBounds_toArray, List.set_cons_zero, List.set_cons_succ]
 simp only [wpReads]
 intro K hK
 simp only [Act.put, List.setIfInBounds_toArray, List.set_cons_zero, List.set_cons_succ] at hK ⊢
 go_simp
 refine (H1.out _ (HB0.out.trans (HBK.out.mono HB0.out.size))).mono ?_
 rintro e wc ⟨rfl, hbc⟩
 replace HBK := hide (HBK.out.trans (hbc.mono HBK.out.size))
 clear hbc
 refine hK _ _ (fun _ => HBK.out) ?_
 clear hK K
 intro K hK
 simp only [Act.put, List.setIfInBounds_toArray, List.set_cons_zero, List.set_cons_succ] at hK ⊢
 go_simp
 refine (H2.out _ (HB0.out.trans (HBK.out.mono HB0.out.size))).mono ?_
 rintro e wc ⟨rfl, hbc⟩
 replace HBK := hide (HBK.out.trans (hbc.mono HBK.out.size))
 clear hbc
 refine hK _ _ (fun _ => HBK.out) ?_
 clear hK K
 intro K hK
 simp only [Act.put, List.setIfInBounds_toArray, List.set_cons_zero, List.set_cons_succ] at hK ⊢
 go_simp
 refine (H3.out _ (HB0.out.trans (HBK.out.mono HB0.out.size))).mono ?_
 rintro e wc ⟨rfl, hbc⟩
 replace HBK := hide (HBK.out.trans (hbc.mono HBK.out.size))
 clear hbc
 refine hK _ _ (fun _ => HBK.out) ?_
 clear hK K
 intro K hK
 simp only [Act.put, List.setIfInBounds_toArray, List.set_cons_zero, List.set_cons_succ] at hK ⊢
 go_simp
 refine (H4.out _ (HB0.out.trans (HBK.out.mono HB0.out.size))).mono ?_
 rintro e wc ⟨rfl, hbc⟩
 replace HBK := hide (HBK.out.trans (hbc.mono HBK.out.size))
 clear hbc
 refine hK _ _ (fun _ => HBK.out) ?_
 clear hK K
 intro K hK
 simp only [Act.put, List.setIfInBounds_toArray, List.set_cons_zero, List.set_cons_succ] at hK ⊢
 go_simp
 refine hK _ _ (fun _ => HBK.out) ?_
 clear hK K
 have f0 := HF.out 0 (by omega)
 have f1 := HF.out 1 (by omega)
 have f2 := HF.out 2 (by omega)
 have f3 := HF.out 3 (by omega)
 obtain ⟨hcw, hfw⟩ := bcell HBK.out
 have a0 := (hcw _ 0 hz2).trans f0.1
 have a1 := (hcw _ 1 hz2).trans f1.1
 have a2 := (hcw _ 2 hz2).trans f2.1
 have a3 := (hcw _ 3 hz2).trans f3.1
 have b0 := (hfw _ 0 hz2).trans f0.2
 have b1' := (hfw _ 1 hz2).trans f1.2
 have b2' := (hfw _ 2 hz2).trans f2.2
 have b3 := (hfw _ 3 hz2).trans f3.2
 have hzk : w.heap.size + 1 + 1 < wc.heap.size := Nat.lt_of_lt_of_le hz2 HBK.out.size
 clear f0 f1 f2 f3 hcw hfw
 intro K hK
 simp only [Act.put, List.setIfInBounds_toArray, List.set_cons_zero, List.set_cons_succ] at hK ⊢
 go_simp
 refine hK _ _ (fun h => absurd rfl h) ?_
 clear hK K
 refine NoPanic.normal ?_
 go_wp2_with (fail)
 refine bodyPost_ret (v := .agg #[.bool q1, .bool q2, .bool q3, .bool q4]) (by simp [results, Tryz.results162, go_sem, a0, a1, a2, a3, hzk]) rfl ⟨by rw [HR.out], ?_⟩
 have hlow := HB0.out.trans (HBK.out.mono HB0.out.size)
 exact Below.setCell (Below.setCell (Below.setCell (Below.setCell hlow (by simp; omega) _) (by simp; omega) _) (by simp; omega) _) (by simp; omega) _
theorem eq4_any (a b c d e f g h : Bool) (W : World) : (Op.equalIn 10000 223 (.agg #[.bool a, .bool b, .bool c, .bool d]) (.agg #[.bool e, .bool f, .bool g, .bool h])).run Tryz.prog W = .ok (a == e && (b == f && (c == g && d == h))) W := by
 have u3 := Tryz.underlying4
 have a3 := Tryz.isAgg4
 have z3 := Tryz.sizeOf4
 rw [show (10000 : Nat) = 9999 + 1 from rfl, Op.equalIn]
 simp only [Sem.run_bind, run_underlying Tryz.underlying223, Result.andThen_ok]
 simp only [Std.Legacy.Range.forIn_eq_forIn_range', Std.Legacy.Range.size, Nat.sub_zero, Nat.add_sub_cancel, Nat.div_one, List.range'_succ, List.range'_zero, List.forIn_cons, List.forIn_nil]
 go_simp
 cases a <;> cases b <;> cases c <;> cases d <;> cases e <;> cases f <;> cases g <;> cases h <;> simp
set_option maxRecDepth 100000 in
set_option maxHeartbeats 8000000 in
theorem node_any {w : World} {B : Nat} {l : List Sg} {v : Value} (h : Roads B l v w) (hv : ∀ s ∈ l, okSg s) (hl : l.length ≤ 800) {x y : Int} (hp : bigP (x, y)) :
  Calls Tryz.prog 200 #[v, .agg #[.int .i64 x, .int .i64 y]] w fun e w' => e = .returned (.bool (nodeG (htB l) (vtB l) (x, y))) ∧ Below w.heap.size w w' := by
 have HA := hide (fun (W : World) (hb : Below w.heap.size w W) => around_any (h.below hb) hv hl hp)
 obtain ⟨b1, b2, K1, K2, v1, v2, rfl, _⟩ := h
 have g30 : Tryz.prog.eqGuardType Tryz.prog.depth 223 = false := by kernel_rfl
 have he4 := eq4_any
 have hr : arndV l (x, y) = .agg #[.bool (htB l x y), .bool (vtB l x y), .bool (htB l (x - 1) y), .bool (vtB l x (y - 1))] := rfl
 have hn : nodeG (htB l) (vtB l) (x, y) = !((htB l x y == htB l (x - 1) y) && (vtB l x y == vtB l x (y - 1)) && !(htB l x y && vtB l x y)) := rfl
 rw [hr] at HA
 rw [hn]
 clear hr hn hv
 generalize htB l x y = q1 at *
 generalize vtB l x y = q2 at *
 generalize htB l (x - 1) y = q3 at *
 generalize vtB l x (y - 1) = q4 at *
 cases q1 <;> cases q2 <;> cases q3 <;> cases q4
 all_goals
  go_enter Tryz.func200, Tryz.ntmps200
  go_wp2_with (fail)
  refine (HA.out _ (((Below.refl _ _).alloc (Nat.le_refl _) _).alloc (by simp) _)).mono ?_
  rintro e w1 ⟨rfl, hb⟩
  have HB := hide ((((Below.refl w.heap.size w).alloc (Nat.le_refl _) _).alloc (by simp) _).trans (hb.mono (by simp; omega)))
  clear hb
  go_wp2_with (fail)
  go_ret
  exact ⟨rfl, HB.out⟩
end Go.Proofs.YtikojiciilambaaGreat
