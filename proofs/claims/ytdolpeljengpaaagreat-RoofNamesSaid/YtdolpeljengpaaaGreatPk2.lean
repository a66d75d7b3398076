/- Texts laid together: Ends, Close, Join, IdxC, SpanB, MMade, MSort, MAlong, MLotB, SortI, Held, EqS, Build. Lemmas for the statements of this seat; no condition. -/
import Derived.Test.YtdolpeljengpaaaGreatPk1
import Derived.OwnWalk
import Derived.Deep.AppendLies
import Derived.Laws.EntriesVeiled
import Derived.StillTactics
import Derived.Deep.LoopGhost
import Derived.Shelf.Abstract
import Derived.Test.YtdolpeljengpaaaGreatShelf
import Derived.Lib.OwnBridge
import Derived.OrdersHeld
import Derived.Deep.RegionHeld3
import Derived.Laws.StructEq
import Derived.Deep.QuietTactic
import Derived.BigQuiet

/- span.ends: the ends of the spans of two lists, in order, as an iterator. -/
namespace Go.Proofs.YtdolpeljengpaaaGreat
open Go.RowKit Go.Sort
set_option linter.unusedVariables false
set_option linter.unusedSimpArgs false

theorem evs_append (i : Int) (s t : List Sp) : evs i (s ++ t) = evs i s ++ evs i t := by
  induction s with
  | nil => rfl
  | cons p s ih => simp [evs, ih]
theorem evs_length (i : Int) (s : List Sp) : (evs i s).length = 2 * s.length := by
  induction s with
  | nil => rfl
  | cons p s ih => simp [evs, ih]; omega
theorem evs_take (i : Int) (s : List Sp) (m : Nat) (p : Sp) (h : s[m]? = some p) : evs i (s.take (m + 1)) = evs i (s.take m) ++ [(p.1, i, 1), (p.2, i, -1)] := by
  obtain ⟨hm, hp⟩ := List.getElem?_eq_some_iff.1 h
  rw [List.take_succ_eq_append_getElem hm, hp, evs_append]; rfl
theorem evs_mem {i : Int} {s : List Sp} {e : En} (h : e ∈ evs i s) : ∃ p ∈ s, (e.1 = p.1 ∨ e.1 = p.2) ∧ e.2.1 = i ∧ (e.2.2 = 1 ∨ e.2.2 = -1) := by
  induction s with
  | nil => simp [evs] at h
  | cons p s ih =>
    simp only [evs, List.mem_cons] at h
    rcases h with rfl | rfl | h
    · exact ⟨p, by simp, by simp⟩
    · exact ⟨p, by simp, by simp⟩
    · obtain ⟨q, hq, h⟩ := ih h
      exact ⟨q, by simp [hq], h⟩
/-- What the first k lists give. -/
def evK (a b : List Sp) (k : Nat) : List En := if k = 0 then [] else if k = 1 then evs 0 a else evs 0 a ++ evs 1 b

theorem infoE : (Tryz.prog.info? 282).map (fun i => (i.zero, i.size, i.bytes)) = some (some (.agg #[.int .i64 0, .int .i64 0, .int .i64 0]), 3, 24) := by kernel_rfl
theorem rel_push {w1 : World} {base : Nat} {v1 : Value} {P : List En} {x y : En} {cells : List Value} (h : w1.ownsRow base 282 3 v1 (P.length + 2) (P.flatMap encE ++ cells)) (hc : cells = encE x ++ encE y) :
    w1.ownsRow base 282 3 v1 (P ++ [x, y]).length ((P ++ [x, y]).flatMap encE) := by
  rw [List.flatMap_append, List.length_append]
  subst hc
  simpa using h

set_option maxHeartbeats 2000000 in
theorem ends_loop (a b : List Sp) (L c : Nat) (va vb : Value) (w : World) (hL : L < w.heap.size) (h0 : w.cell? ⟨L, 0, none⟩ = some va) (h1 : w.cell? ⟨L, 1, none⟩ = some vb)
    (ra : RdK encS 2 w w.heap.size va a) (rb : RdK encS 2 w w.heap.size vb b) (na : a.length ≤ 100000000) (nb : b.length ≤ 100000000) (ba : ∀ p ∈ a, validS p) (bb : ∀ p ∈ b, validS p) :
    Calls Tryz.prog 211 #[.slice (some ⟨L, 0, none⟩) 2 c] w fun e w' => ∃ (E : List En) (Bx rw : Nat), e = .returned (.func (.func 252) #[] #[.pointer (some ⟨Bx, 0, none⟩)]) ∧
      E.Perm (evs 0 a ++ evs 1 b) ∧ E.Pairwise (fun a b => a.1 ≤ b.1) ∧ Below w.heap.size w w' ∧ w.heap.size ≤ rw ∧ rw < w'.heap.size ∧
      Iter Tryz.prog 252 #[.pointer (some ⟨Bx, 0, none⟩)] E (fun x args _ => args = #[.agg (encE x).toArray]) (KpB rw) w' := by
  obtain ⟨i0, hi, hz0, hz1, hz2⟩ := info_parts infoE
  go_enter Tryz.func211, Tryz.ntmps211
  go_wp2
  go_loopw [3, 10] (fun v i wr => ∃ k : Nat, k ≤ 2 ∧ i = .int .i64 k ∧ wr.ownsRow w.heap.size 282 3 v (evK a b k).length ((evK a b k).flatMap encE) ∧ Below w.heap.size w wr)
    (fun _ i _ => 2 - (intOf i).toNat)
  case atStart => exact ⟨0, by omega, rfl, World.ownsRow_nil _ _ _ _, Below.refl _ _⟩
  case round =>
    obtain ⟨k, hk, rfl, hown, hb⟩ := hrel
    by_cases hlt : k < 2
    · obtain ⟨l, v, hc, hr, hn, hv, hK, hnK⟩ : ∃ l v, wr.cell? ⟨L, k, none⟩ = some v ∧ RdK encS 2 w w.heap.size v l ∧ l.length ≤ 100000000 ∧ (∀ p ∈ l, validS p) ∧ evK a b (k + 1) = evK a b k ++ evs k l ∧ (evK a b k).length ≤ 2000000000 := by
        rcases (show k = 0 ∨ k = 1 by omega) with rfl | rfl
        · exact ⟨a, va, (hb.cell (p := ⟨L, 0, none⟩) hL).trans h0, ra, na, ba, rfl, by simp [evK]⟩
        · exact ⟨b, vb, (hb.cell (p := ⟨L, 1, none⟩) hL).trans h1, rb, nb, bb, rfl, by show (evs 0 a).length ≤ _; rw [evs_length]; omega⟩
      obtain ⟨A, c0, rfl, hcl⟩ := hr
      have HK := hide hK
      have HV := hide hv
      have HR := hide hcl
      generalize evK a b k = P at *
      generalize wr = w1 at *
      clear hK hv hcl h0 h1 ra rb na nb ba bb
      have hkz : (k : Int) < 2 := by omega
      go_wp2
      go_loopw [3, 17] (fun u j wi => ∃ m : Nat, m ≤ l.length ∧ j = .int .i64 m ∧ wi.ownsRow w.heap.size 282 3 u (P ++ evs k (l.take m)).length ((P ++ evs k (l.take m)).flatMap encE) ∧ Below w.heap.size w wi)
        (fun _ j _ => l.length - (intOf j).toNat)
      case atStart => exact ⟨0, by omega, rfl, by simpa [evs] using hown, hb⟩
      case round =>
        obtain ⟨m, hm, rfl, hownm, hbm⟩ := hrel
        by_cases hml : m < l.length
        · obtain ⟨p, hp⟩ : ∃ p, l[m]? = some p := ⟨_, List.getElem?_eq_getElem hml⟩
          obtain ⟨x, y⟩ := p
          have hne : l ≠ [] := by intro e; rw [e] at hml; simp at hml
          obtain ⟨bk, off, rfl, hbk, hcell⟩ := HR.out hne
          have c0' : wr.cell? ⟨bk, off + m * 2, none⟩ = some (.int .i64 x) := (hbm.cell hbk).trans (hcell m _ hp 0 _ rfl)
          have c1' : wr.cell? ⟨bk, off + m * 2 + 1, none⟩ = some (.int .i64 y) := (hbm.cell hbk).trans (hcell m _ hp 1 _ rfl)
          have hmz : (m : Int) < (l.length : Int) := by omega
          clear hcell
          have hlenE : (P ++ evs k (l.take m)).length ≤ 4000000000 := by rw [List.length_append, evs_length, List.length_take]; omega
          have hbs := hbm.size
          have HE : Hid (P ++ evs k (l.take (m + 1)) = P ++ evs k (l.take m) ++ [(x, (k : Int), 1), (y, (k : Int), -1)]) := hide (by rw [evs_take k l m _ hp, List.append_assoc])
          generalize P ++ evs k (l.take m) = E0 at *
          go_wp2_with (at_builtin; go_loud (refine wpList_append_lies _ rfl (.tmp 21) (.tmp 30) 309 rfl w.heap.size 282 i0 (.agg #[.int .i64 0, .int .i64 0, .int .i64 0]) 3 24 Tryz.underlying309 hi hz0 hz1 hz2 rfl (by decide) _ _ _ rfl ((hownm.alloc _).alloc _) ⟨wr.heap.size + 1, 0, none⟩ 2 2 [.int .i64 x, .int .i64 k, .int .i64 1, .int .i64 y, .int .i64 k, .int .i64 (-1)] rfl rfl (news_new (wr.alloc _) _ _ _ (by simp)) (ints_one rfl) (by omega) (by unfold maxLen; omega) (by omega) (by simp; omega) _ rfl ?_))
          intro g cap w2 hown2 hgrow _ _
          have R := rel_push (x := (x, (k : Int), 1)) (y := (y, (k : Int), -1)) hown2 rfl
          rw [← HE.out] at R
          have hb2 : Below w.heap.size w w2 := ((hbm.alloc (by omega) _).alloc (by simp; omega) _).grown hgrow (by simp; omega) fun k h => (hownm.lt k h).1
          clear hown2 hgrow hownm hown
          go_wp2
          go_roundw
          case rel => exact ⟨m + 1, by omega, by go_num, R, hb2⟩
          case measure => simp [intOf]; omega
        · have hme : ¬ (m : Int) < (l.length : Int) := by omega
          have hmt : l.take m = l := List.take_of_length_le (by omega)
          rw [hmt, ← HK.out] at hownm
          clear hmt hown
          go_wp2
          go_roundw
          case rel => exact ⟨k + 1, by omega, by go_num, hownm, hbm⟩
          case measure => simp [intOf]; omega
    · obtain rfl : k = 2 := by omega
      have hE : evK a b 2 = evs 0 a ++ evs 1 b := rfl
      rw [hE] at hown
      have hl : (evs 0 a ++ evs 1 b).length ≤ 400000000 := by rw [List.length_append, evs_length, evs_length]; omega
      have hin : ∀ e ∈ evs 0 a ++ evs 1 b, -1000000 ≤ e.1 ∧ e.1 ≤ 1000000 := by
        intro e he
        have key : ∃ p, validS p ∧ (e.1 = p.1 ∨ e.1 = p.2) := by
          rcases List.mem_append.1 he with he | he
          · obtain ⟨p, hp, h, _⟩ := evs_mem he
            exact ⟨p, ba p hp, h⟩
          · obtain ⟨p, hp, h, _⟩ := evs_mem he
            exact ⟨p, bb p hp, h⟩
        obtain ⟨p, ⟨v1, v2, v3⟩, h⟩ := key
        omega
      clear hE h0 h1 ra rb na nb ba bb
      have HE : ∃ E0, Hid (evs 0 a ++ evs 1 b = E0) := ⟨_, hide rfl⟩
      obtain ⟨E0, HE⟩ := HE
      rw [HE.out] at hown hin hl
      obtain ⟨A0, c0, hv, _⟩ := own_rd hown (fun _ => rfl)
      subst hv
      go_wp2_with (first
        | (go_at_call 238; refine (sortE_any w.heap.size _ E0 hin _ hown (by omega)).mono ?_; rintro e w1 ⟨rfl, E1, hp, hs, ho, hg⟩)
        | (go_at_call 240; refine (values_any _ _ rfl).mono ?_; rintro e w2 ⟨rfl, rfl⟩))
      go_ret
      have hb1 : Below w.heap.size w w1 := hb.grown hg hb.size fun k h => (hown.lt k h).1
      have hlen : E1.length = E0.length := hp.length_eq
      have hrd := own_rd ho (fun _ => rfl)
      obtain ⟨A1, c1, e1, hcl⟩ := hrd
      rw [hlen] at e1
      injection e1 with e2 _ e3
      subst e2; subst e3
      have hw2 : ∀ b o, b < w1.heap.size → (w1.alloc (.cells #[.slice A0 E0.length c0] 309)).cell? ⟨b, o, none⟩ = w1.cell? ⟨b, o, none⟩ := fun b o h => World.cell?_alloc_lt w1 _ ⟨b, o, none⟩ h
      have hbx : (w1.alloc (.cells #[.slice A0 E0.length c0] 309)).cell? ⟨w1.heap.size, 0, none⟩ = some (.slice A0 E1.length c0) := by rw [hlen]; simp [go_sem]
      by_cases h0 : E1 = []
      · refine ⟨E1, w1.heap.size, w1.heap.size, rfl, HE.out ▸ hp, hs, hb1.alloc hb1.size _, hb1.size, by simp, ?_⟩
        exact values1_iter w1.heap.size w1.heap.size 0 c0 E1 _ (by omega) A0 (by simp) hbx fun h => absurd h0 h
      · obtain ⟨bk, off, rfl, hbk, hc⟩ := hcl h0
        refine ⟨E1, w1.heap.size, bk, rfl, HE.out ▸ hp, hs, hb1.alloc hb1.size _, (ho.lt bk rfl).1, by simp; omega, ?_⟩
        exact values1_iter w1.heap.size bk off c0 E1 _ (by omega) _ (by simp) hbx fun h => ⟨rfl, by simp; omega, fun j x hx i u hu => (hw2 _ _ hbk).trans (hc j x hx i u hu)⟩
end Go.Proofs.YtdolpeljengpaaaGreat

/- span.join's closure 'close': one more span at the end of the list. -/
namespace Go.Proofs.YtdolpeljengpaaaGreat
open Go.RowKit
set_option linter.unusedVariables false
set_option linter.unusedSimpArgs false

/-- Old blocks are as they were, but for block o and for the row. -/
structure Upd (o : Nat) (row : Option Nat) (w w' : World) : Prop where
  os : w'.os = w.os
  tape : w'.tape = w.tape
  output : w'.output = w.output
  size : w.heap.size ≤ w'.heap.size
  block : ∀ k, k < w.heap.size → k ≠ o → row ≠ some k → w'.heap[k]? = w.heap[k]?
theorem Upd.refl (o : Nat) (row : Option Nat) (w : World) : Upd o row w w := ⟨rfl, rfl, rfl, Nat.le_refl _, fun _ _ _ _ => rfl⟩
theorem Upd.trans {o : Nat} {row : Option Nat} {a b c : World} (h : Upd o row a b) (k : Upd o row b c) : Upd o row a c :=
  ⟨k.os.trans h.os, k.tape.trans h.tape, k.output.trans h.output, Nat.le_trans h.size k.size, fun i hi ho hr => (k.block i (Nat.lt_of_lt_of_le hi h.size) ho hr).trans (h.block i hi ho hr)⟩
theorem Upd.of_below {o : Nat} {row : Option Nat} {a b : World} (h : Below a.heap.size a b) : Upd o row a b := ⟨h.os, h.tape, h.output, h.size, fun i hi _ _ => h.block i hi⟩
theorem Upd.of_grown {o : Nat} {row : Option Nat} {a b : World} (h : a.grownBy b row) : Upd o row a b := ⟨h.os, h.tape, h.output, h.size, fun i hi _ hr => h.block i hi (fun e => hr e.symm)⟩
theorem Upd.setCell {o : Nat} {row : Option Nat} {a b : World} (h : Upd o row a b) (off : Nat) (u : Value) : Upd o row a (b.setCell ⟨o, off, none⟩ u) :=
  h.trans ⟨rfl, rfl, rfl, by simp [World.setCell], fun k hk ho _ => Below.heap_setCell _ _ _ _ ho⟩
theorem Upd.setRow {o g : Nat} {a b : World} (h : Upd o (some g) a b) (off : Nat) (u : Value) : Upd o (some g) a (b.setCell ⟨g, off, none⟩ u) :=
  h.trans ⟨rfl, rfl, rfl, by simp [World.setCell], fun k hk _ hr => Below.heap_setCell _ _ _ _ (fun e => hr (by rw [e]))⟩
theorem Upd.cell {o : Nat} {row : Option Nat} {a b : World} (h : Upd o row a b) {k off : Nat} (hk : k < a.heap.size) (ho : k ≠ o) (hr : row ≠ some k) : b.cell? ⟨k, off, none⟩ = a.cell? ⟨k, off, none⟩ := World.cell?_of_block (w := a) (h.block k hk ho hr)
theorem Upd.frozen {o : Nat} {row : Option Nat} {a b : World} (h : Upd o row a b) {k off : Nat} (hk : k < a.heap.size) (ho : k ≠ o) (hr : row ≠ some k) : b.frozen? ⟨k, off, none⟩ = a.frozen? ⟨k, off, none⟩ := World.frozen?_of_block (w := a) (h.block k hk ho hr)
theorem Upd.below {o n : Nat} {row : Option Nat} {a b : World} (h : Upd o row a b) (hn : n ≤ o) (hB : n ≤ a.heap.size) (hr : ∀ k, row = some k → n ≤ k) : Below n a b :=
  ⟨h.os, h.tape, h.output, h.size, fun k hk => h.block k (by omega) (by omega) (fun e => by have := hr k e; omega)⟩

/-- The list behind 'close(at)'. -/
def jcl (inn : Bool) (last : Int) (out : List Sp) (e : Int) : List Sp := if inn = true ∧ last ≠ e then sext out last e else out
theorem infoS : (Tryz.prog.info? 188).map (fun i => (i.zero, i.size, i.bytes)) = some (some (.agg #[.int .i64 0, .int .i64 0]), 2, 16) := by kernel_rfl

theorem set_last (q : List Sp) (x y e : Int) : ((q ++ [(x, y)]).flatMap encS).set (q.length * 2 + 1) (.int .i64 e) = (q ++ [(x, e)]).flatMap encS := by
  have hl := flat_len (enc := encS) (k := 2) (fun _ => rfl) q
  rw [List.flatMap_append, List.flatMap_append, List.set_append_right _ _ (by omega)]
  congr 1
  rw [hl, show q.length * 2 + 1 - q.length * 2 = 1 by omega]
  rfl
theorem close_set {B o g cap : Nat} {w w1 : World} {q : List Sp} {x y e : Int} (kb : Upd o (some g) w w1) (hoB : o < B) (hBg : B ≤ g) (k3 : w1.cell? ⟨o, 0, none⟩ = some (.slice (some ⟨g, 0, none⟩) (q.length + 1) cap)) (k4 : w1.frozen? ⟨o, 0, none⟩ = false)
    (k5 : w1.ownsRow B 188 2 (.slice (some ⟨g, 0, none⟩) (q.length + 1) cap) (q.length + 1) ((q ++ [(x, y)]).flatMap encS)) :
    ∃ vo', (w1.setCell ⟨g, q.length * 2 + 1, none⟩ (.int .i64 e)).cell? ⟨o, 0, none⟩ = some vo' ∧ (w1.setCell ⟨g, q.length * 2 + 1, none⟩ (.int .i64 e)).frozen? ⟨o, 0, none⟩ = false ∧
      (w1.setCell ⟨g, q.length * 2 + 1, none⟩ (.int .i64 e)).ownsRow B 188 2 vo' (q ++ [(x, e)]).length ((q ++ [(x, e)]).flatMap encS) ∧ Upd o (some g) w (w1.setCell ⟨g, q.length * 2 + 1, none⟩ (.int .i64 e)) := by
  obtain ⟨s1, s2⟩ := k5.stored (q.length * 2 + 1) (.int .i64 e)
  rw [set_last] at s1
  have hb : Below B w1 (w1.setCell ⟨g, q.length * 2 + 1, none⟩ (.int .i64 e)) := (Below.refl B w1).setCell hBg _
  exact ⟨_, (hb.cell (p := ⟨o, 0, none⟩) hoB).trans k3, (hb.frozen (p := ⟨o, 0, none⟩) hoB).trans k4, by simpa using s1, kb.setRow _ _⟩
theorem close_fin {B o : Nat} {w w1 w2 : World} {row : Option Nat} {v2 x : Value} {out' : List Sp} {n : Nat} (kb : Upd o row w w1) (ks : B ≤ w1.heap.size) (hoB : o < B) (k3 : w1.cell? ⟨o, 0, none⟩ = some x) (k4 : w1.frozen? ⟨o, 0, none⟩ = false) (blk : Obj)
    (hgrow : (w1.alloc blk).grownBy w2 row) (hr : ∀ k, row = some k → B ≤ k) (hown2 : w2.ownsRow B 188 2 v2 n (out'.flatMap encS)) (hn : n = out'.length) :
    w2.cell? ⟨o, 0, none⟩ = some x ∧ w2.frozen? ⟨o, 0, none⟩ = false ∧ Hid (∃ vo', (w2.setCell ⟨o, 0, none⟩ v2).cell? ⟨o, 0, none⟩ = some vo' ∧ (w2.setCell ⟨o, 0, none⟩ v2).frozen? ⟨o, 0, none⟩ = false ∧
      (w2.setCell ⟨o, 0, none⟩ v2).ownsRow B 188 2 vo' out'.length (out'.flatMap encS) ∧ Upd o row w (w2.setCell ⟨o, 0, none⟩ v2)) := by
  have hb : Below B w1 w2 := ((Below.refl B w1).alloc ks _).grown hgrow (by simp; omega) hr
  have c := (hb.cell (p := ⟨o, 0, none⟩) hoB).trans k3
  have f := (hb.frozen (p := ⟨o, 0, none⟩) hoB).trans k4
  subst hn
  refine ⟨c, f, hide ⟨v2, by simp [go_sem, c], by simp [go_sem, f], ownsRow_setCell_below hown2 hoB _, (kb.trans ((Upd.of_below ((Below.refl _ _).alloc (Nat.le_refl _) blk)).trans (.of_grown hgrow))).setCell _ _⟩⟩

set_option maxHeartbeats 2000000 in
theorem close_any (B i l o : Nat) (vo : Value) (out : List Sp) (last e : Int) (inn : Bool) (w : World) (h1 : w.cell? ⟨i, 0, none⟩ = some (.bool inn)) (h2 : w.cell? ⟨l, 0, none⟩ = some (.int .i64 last)) (h3 : w.cell? ⟨o, 0, none⟩ = some vo) (h4 : w.frozen? ⟨o, 0, none⟩ = false)
    (hoB : o < B) (hB : B ≤ w.heap.size) (hown : w.ownsRow B 188 2 vo out.length (out.flatMap encS)) (hn : out.length ≤ 1000000000) :
    Calls Tryz.prog 210 #[.int .i64 e, .pointer (some ⟨i, 0, none⟩), .pointer (some ⟨l, 0, none⟩), .pointer (some ⟨o, 0, none⟩)] w fun r w' => r = .returned (.tuple #[]) ∧
      ∃ vo', w'.cell? ⟨o, 0, none⟩ = some vo' ∧ w'.frozen? ⟨o, 0, none⟩ = false ∧ w'.ownsRow B 188 2 vo' (jcl inn last out e).length ((jcl inn last out e).flatMap encS) ∧ Upd o vo.ownBlock w w' := by
  obtain ⟨i0, hi, hz0, hz1, hz2⟩ := info_parts infoS
  obtain ⟨A, c, hv, hcl⟩ := own_rd hown (fun _ => rfl)
  subst hv
  go_enter Tryz.func210, Tryz.ntmps210
  cases inn with
  | false =>
    go_wp2
    refine bodyPost_ret (results_none rfl _ _ _) rfl ?_
    exact ⟨rfl, _, h3, h4, hown, Upd.refl _ _ _⟩
  | true =>
    by_cases hle : last = e
    · subst hle
      go_wp2
      refine bodyPost_ret (results_none rfl _ _ _) rfl ?_
      exact ⟨rfl, _, h3, h4, by simpa [jcl] using hown, Upd.refl _ _ _⟩
    · have hj : jcl true last out e = sext out last e := if_pos ⟨rfl, hle⟩
      rw [hj]
      clear hj
      have hbe : (last == e) = false := by simpa using hle
      clear hle
      have nlt : ∀ (b : Nat), w.heap.size ≤ b → ¬ b = o := fun b h => by omega
      rcases List.eq_nil_or_concat out with rfl | ⟨q, p, rfl⟩
      · have hs : sext [] last e = [(last, e)] := rfl
        rw [hs]
        clear hs nlt hcl
        simp only [List.length_nil, List.flatMap_nil] at *
        go_wp2
        have hg : decide ((0 : Int) < 0) = false := rfl
        go_quiet (fail)
        obtain ⟨w1, hw1⟩ : ∃ w1, w1 = w.drewN nq := ⟨_, rfl⟩
        rw [← hw1]
        have k2 : w1.cell? ⟨l, 0, none⟩ = some (.int .i64 last) := by rw [hw1]; exact h2
        have k3 : w1.cell? ⟨o, 0, none⟩ = some (.slice A 0 c) := by rw [hw1]; exact h3
        have k4 : w1.frozen? ⟨o, 0, none⟩ = false := by rw [hw1]; exact h4
        have k5 : w1.ownsRow B 188 2 (.slice A 0 c) 0 [] := by rw [hw1]; exact hown
        have kb : Upd o (Value.slice A 0 c).ownBlock w w1 := by rw [hw1]; exact ⟨rfl, rfl, rfl, Nat.le_refl _, fun _ _ _ _ => rfl⟩
        have ks : B ≤ w1.heap.size := by rw [hw1]; exact hB
        clear hw1 h1 h2 h3 h4 hown hg
        go_wp2_with (at_builtin; (refine wpList_append_lies _ rfl (.tmp 33) (.tmp 37) 182 rfl B 188 i0 (.agg #[.int .i64 0, .int .i64 0]) 2 16 Tryz.underlying182 hi hz0 hz1 hz2 rfl (by decide) _ _ _ rfl (k5.alloc _) ⟨w1.heap.size, 0, none⟩ 1 1 [.int .i64 last, .int .i64 e] rfl rfl (news_new w1 _ _ _ (by simp)) (ints_one rfl) (by omega) (by unfold maxLen; omega) (by omega) (by simp; omega) _ rfl ?_))
        intro g cap w2 hown2 hgrow _ _
        obtain ⟨c2, f2, HF⟩ := close_fin (out' := [(last, e)]) kb ks hoB k3 k4 _ hgrow (fun k h => (k5.lt k h).1) hown2 rfl
        clear hown2 hgrow k2 k3 k4 k5 kb
        go_wp2
        go_end0
        exact ⟨rfl, HF.out⟩
      · obtain ⟨x, y⟩ := p
        rw [List.concat_eq_append] at *
        have hy : sext (q ++ [(x, y)]) last e = if y = last then q ++ [(x, e)] else q ++ [(x, y)] ++ [(last, e)] := by
          unfold sext
          simp [List.getLast?_append, List.dropLast_concat]
        rw [hy]
        clear hy nlt
        clear hcl
        obtain ⟨g, cap, hv, hBg, hgw⟩ := hown.form (by simp)
        injection hv with e1 _ e3
        subst e1; subst e3
        have cy : w.cell? ⟨g, q.length * 2 + 1, none⟩ = some (.int .i64 y) := by
          have := (hown.cells (g := g) rfl) _ _ (flat_get (k := 2) (fun _ => rfl) _ q.length (x, y) 1 _ (by simp) rfl)
          rwa [addr_add] at this
        have fy : w.frozen? ⟨g, q.length * 2 + 1, none⟩ = false := hown.frozenAt _
        simp only [List.length_append, List.length_cons, List.length_nil, Nat.zero_add] at hown h3 hn
        have hg : decide ((0 : Int) < (q.length : Int) + 1) = true := decide_eq_true (by omega)
        have q1 : (q.length : Int) < (q.length : Int) + 1 := by omega
        have q0 : (0 : Int) ≤ (q.length : Int) := by omega
        by_cases hyl : y = last
        · rw [if_pos hyl]
          have hb2 : (y == last) = true := by simpa using hyl
          clear hyl
          go_wp2
          go_quiet (fail)
          obtain ⟨w1, hw1⟩ : ∃ w1, w1 = w.drewN nq := ⟨_, rfl⟩
          rw [← hw1]
          have k3 : w1.cell? ⟨o, 0, none⟩ = some (.slice (some ⟨g, 0, none⟩) (q.length + 1) c) := by rw [hw1]; exact h3
          have k4 : w1.frozen? ⟨o, 0, none⟩ = false := by rw [hw1]; exact h4
          have k5 : w1.ownsRow B 188 2 (.slice (some ⟨g, 0, none⟩) (q.length + 1) c) (q.length + 1) ((q ++ [(x, y)]).flatMap encS) := by rw [hw1]; exact hown
          have k6 : w1.cell? ⟨g, q.length * 2 + 1, none⟩ = some (.int .i64 y) := by rw [hw1]; exact cy
          have k7 : w1.frozen? ⟨g, q.length * 2 + 1, none⟩ = false := by rw [hw1]; exact fy
          have kb : Upd o (some g) w w1 := by rw [hw1]; exact ⟨rfl, rfl, rfl, Nat.le_refl _, fun _ _ _ _ => rfl⟩
          have HF := hide (close_set (e := e) kb hoB hBg k3 k4 k5)
          clear hw1 h1 h2 h3 h4 hown cy fy k5 kb hg
          go_wp2
          go_end0
          exact ⟨rfl, HF.out⟩
        · rw [if_neg hyl]
          have hb2 : (y == last) = false := by simpa using hyl
          clear hyl
          go_wp2
          go_quiet (fail)
          obtain ⟨w1, hw1⟩ : ∃ w1, w1 = w.drewN nq := ⟨_, rfl⟩
          rw [← hw1]
          have k2 : w1.cell? ⟨l, 0, none⟩ = some (.int .i64 last) := by rw [hw1]; exact h2
          have k3 : w1.cell? ⟨o, 0, none⟩ = some (.slice (some ⟨g, 0, none⟩) (q.length + 1) c) := by rw [hw1]; exact h3
          have k4 : w1.frozen? ⟨o, 0, none⟩ = false := by rw [hw1]; exact h4
          have k5 : w1.ownsRow B 188 2 (.slice (some ⟨g, 0, none⟩) (q.length + 1) c) (q.length + 1) ((q ++ [(x, y)]).flatMap encS) := by rw [hw1]; exact hown
          have kb : Upd o (some g) w w1 := by rw [hw1]; exact ⟨rfl, rfl, rfl, Nat.le_refl _, fun _ _ _ _ => rfl⟩
          have ks : B ≤ w1.heap.size := by rw [hw1]; exact hB
          clear hw1 h1 h2 h3 h4 hown hg cy fy
          go_wp2_with (at_builtin; refine wpList_append_lies _ rfl (.tmp 33) (.tmp 37) 182 rfl B 188 i0 (.agg #[.int .i64 0, .int .i64 0]) 2 16 Tryz.underlying182 hi hz0 hz1 hz2 rfl (by decide) _ _ _ rfl (k5.alloc _) ⟨w1.heap.size, 0, none⟩ 1 1 [.int .i64 last, .int .i64 e] rfl rfl (news_new w1 _ _ _ (by simp)) (ints_one rfl) (by omega) (by unfold maxLen; omega) (by omega) (by simp; omega) _ rfl ?_)
          intro g2 cap w2 hown2 hgrow _ _
          rw [show q.flatMap encS ++ (encS (x, y) ++ [.int .i64 last, .int .i64 e]) = (q ++ [(x, y)] ++ [(last, e)]).flatMap encS by simp [encS]] at hown2
          obtain ⟨c2, f2, HF⟩ := close_fin (out' := q ++ [(x, y)] ++ [(last, e)]) kb ks hoB k3 k4 _ hgrow (fun k h => (k5.lt k h).1) hown2 (by simp)
          clear hown2 hgrow k2 k3 k4 k5 kb
          go_wp2
          go_end0
          exact ⟨rfl, HF.out⟩
end Go.Proofs.YtdolpeljengpaaaGreat

/- span.join: the sweep over the ends of two lists. -/
namespace Go.Proofs.YtdolpeljengpaaaGreat
open Go.RowKit
set_option linter.unusedVariables false
set_option linter.unusedSimpArgs false
attribute [local go_sem] Oper.semAt_some

def ptr (b : Nat) : Value := .pointer (some ⟨b, 0, none⟩)
/-- The variables of join, between two rounds: the boxes N .. N + 5; the row of the result at or above B. -/
structure JW (N B : Nat) (fv : Value) (st : JS) (W : World) : Prop where
  fb : W.cell? ⟨N, 0, none⟩ = some fv
  o0 : W.cell? ⟨N + 1, 0, none⟩ = some (.int .i64 st.o0)
  o1 : W.cell? ⟨N + 1, 1, none⟩ = some (.int .i64 st.o1)
  f0 : W.frozen? ⟨N + 1, 0, none⟩ = false
  f1 : W.frozen? ⟨N + 1, 1, none⟩ = false
  out : ∃ vo, W.cell? ⟨N + 2, 0, none⟩ = some vo ∧ W.ownsRow B 188 2 vo st.out.length (st.out.flatMap encS)
  fo : W.frozen? ⟨N + 2, 0, none⟩ = false
  la : W.cell? ⟨N + 3, 0, none⟩ = some (.int .i64 st.last)
  fl : W.frozen? ⟨N + 3, 0, none⟩ = false
  inn : W.cell? ⟨N + 4, 0, none⟩ = some (.bool st.inn)
  fi : W.frozen? ⟨N + 4, 0, none⟩ = false
  cl : W.cell? ⟨N + 5, 0, none⟩ = some (.func (.func 210) #[] #[ptr (N + 4), ptr (N + 3), ptr (N + 2)])
  low : N + 6 ≤ B
  size : B ≤ W.heap.size

/-- What keeps the blocks of cells keeps it. -/
theorem JW.keep {N B : Nat} {fv : Value} {st : JS} {W W' : World} (h : JW N B fv st W) (hs : W.heap.size ≤ W'.heap.size) (hk : ∀ (k : Nat) (o : Obj), W.heap[k]? = some o → o.isCells = true → W'.heap[k]? = some o) : JW N B fv st W' := by
  have key : ∀ {b o v}, W.cell? ⟨b, o, none⟩ = some v → W'.heap[b]? = W.heap[b]? := fun {b o v} e => by
    obtain ⟨ob, h1, h2⟩ := cells_of_cell e
    exact (hk b ob h1 h2).trans h1.symm
  have hc : ∀ {b o v}, W.cell? ⟨b, o, none⟩ = some v → W'.cell? ⟨b, o, none⟩ = some v := fun {b o v} e => (World.cell?_of_block (w := W) (a := ⟨b, o, none⟩) (key e)).trans e
  have hf : ∀ {b o v}, W.cell? ⟨b, 0, none⟩ = some v → W.frozen? ⟨b, o, none⟩ = false → W'.frozen? ⟨b, o, none⟩ = false := fun {b o v} c e => (World.frozen?_of_block (w := W) (a := ⟨b, o, none⟩) (key c)).trans e
  obtain ⟨vo, ho, hr⟩ := h.out
  refine ⟨hc h.fb, hc h.o0, hc h.o1, hf h.o0 h.f0, hf h.o0 h.f1, ⟨vo, hc ho, ?_⟩, hf ho h.fo, hc h.la, hf h.la h.fl, hc h.inn, hf h.inn h.fi, hc h.cl, h.low, Nat.le_trans h.size hs⟩
  refine ⟨hr.1, ?_⟩
  rcases hr.2 with hn | ⟨g, cap, cur, rfl, hb, hg, rest⟩
  · exact .inl hn
  · exact .inr ⟨g, cap, cur, rfl, hb, hk g _ hg rfl, rest⟩
theorem JW.below {N B : Nat} {fv : Value} {st : JS} {W W' : World} (h : JW N B fv st W) (hb : Below W.heap.size W W') : JW N B fv st W' :=
  h.keep hb.size fun k o hk _ => (hb.block k (Array.getElem?_eq_some_iff.1 hk).1).trans hk
theorem sum_jfold (h : Bool → Bool → Bool) : ∀ (E : List En) (st : JS) (n : Int), (∀ e ∈ E, e.2.2 = 1 ∨ e.2.2 = -1) → -n ≤ st.o0 → st.o0 ≤ n → -n ≤ st.o1 → st.o1 ≤ n →
    -(n + E.length) ≤ (E.foldl (jstep h) st).o0 ∧ (E.foldl (jstep h) st).o0 ≤ n + E.length ∧ -(n + E.length) ≤ (E.foldl (jstep h) st).o1 ∧ (E.foldl (jstep h) st).o1 ≤ n + E.length
  | [], st, n, _, h1, h2, h3, h4 => by simp; omega
  | e :: E, st, n, hE, h1, h2, h3, h4 => by
    have he := hE e (by simp)
    have := sum_jfold h E (jstep h st e) (n + 1) (fun x hx => hE x (by simp [hx])) (by simp only [jstep]; split <;> omega) (by simp only [jstep]; split <;> omega) (by simp only [jstep]; split <;> omega) (by simp only [jstep]; split <;> omega)
    simp only [List.foldl_cons, List.length_cons, Int.natCast_add, Int.natCast_one]
    omega
theorem jfold_snoc (h : Bool → Bool → Bool) (P : List En) (e : En) : jfold h (P ++ [e]) = jstep h (jfold h P) e := by
  unfold jfold
  rw [List.foldl_append]; rfl
theorem jout_len (h : Bool → Bool → Bool) (P : List En) (st : JS) : (P.foldl (jstep h) st).out.length ≤ st.out.length + P.length := by
  induction P generalizing st with
  | nil => simp
  | cons e P ih =>
    have := ih (jstep h st e)
    have h2 : (jstep h st e).out.length ≤ st.out.length + 1 := by
      show (jclose st e.1).length ≤ _
      unfold jclose sext
      split
      · split
        · split
          · rename_i q hq _
            obtain ⟨o, ho⟩ := List.getLast?_eq_some_iff.1 hq
            rw [ho]; simp
          · simp
        · simp
      · omega
    simp only [List.foldl_cons, List.length_cons]
    omega
theorem JW.putObj {N B : Nat} {fv : Value} {st : JS} {W : World} (h : JW N B fv st W) {l : Nat} {o o' : Obj} (hl : W.heap[l]? = some o) (ho : o.isCells = false) : JW N B fv st (W.putObj l o') :=
  h.keep (by simp) fun k x hk hx => (World.putObj_heap_other (fun hkl => by subst hkl; rw [hl] at hk; injection hk with hk; subst hk; rw [ho] at hx; cases hx)).trans hk

theorem jw_fin {N B rb : Nat} {fv vo vo' : Value} {st st' : JS} {W0 A2 A3 A7 : World} {b0 : Nat} (J2 : JW N B fv st A2) (hb2 : Below N W0 A2) (hown : A2.ownsRow B 188 2 vo st.out.length (st.out.flatMap encS)) (ho : A2.cell? ⟨N + 2, 0, none⟩ = some vo)
    (U : Upd (N + 2) vo.ownBlock A2 A3) (p1 : A3.cell? ⟨N + 2, 0, none⟩ = some vo') (p2 : A3.frozen? ⟨N + 2, 0, none⟩ = false) (p3 : A3.ownsRow B 188 2 vo' st'.out.length (st'.out.flatMap encS))
    (E7 : A7.os = A3.os ∧ A7.tape = A3.tape ∧ A7.output = A3.output ∧ A7.heap.size = A3.heap.size) (C7 : ∀ k, k ≠ N + 1 → k ≠ N + 3 → k ≠ N + 4 → A7.heap[k]? = A3.heap[k]?) (F7 : ∀ p, A7.frozen? p = A3.frozen? p)
    (z0 : A7.cell? ⟨N + 1, 0, none⟩ = some (.int .i64 st'.o0)) (z1 : A7.cell? ⟨N + 1, 1, none⟩ = some (.int .i64 st'.o1)) (z3 : A7.cell? ⟨N + 3, 0, none⟩ = some (.int .i64 st'.last)) (z4 : A7.cell? ⟨N + 4, 0, none⟩ = some (.bool st'.inn))
    (h1 : N + 7 ≤ rb) (h2 : rb < B) : KeepsFrom B A2 A7 ∧ KpB rb A2 A7 ∧ JW N B fv st' A7 ∧ Below N W0 A7 := by
  have hlow := J2.low
  have hsz := J2.size
  have hrow : ∀ k, vo.ownBlock = some k → B ≤ k := fun k hk => (hown.lt k hk).1
  have hsame : ∀ k, k < A2.heap.size → k ≠ N + 1 → k ≠ N + 2 → k ≠ N + 3 → k ≠ N + 4 → vo.ownBlock ≠ some k → A7.heap[k]? = A2.heap[k]? := fun k a b c d e f => (C7 k b d e).trans (U.block k a c f)
  have hc : ∀ k o, k < B → k ≠ N + 1 → k ≠ N + 2 → k ≠ N + 3 → k ≠ N + 4 → A7.cell? ⟨k, o, none⟩ = A2.cell? ⟨k, o, none⟩ := fun k o a b c d e => World.cell?_of_block (w := A2) (a := ⟨k, o, none⟩) (hsame k (by omega) b c d e fun f => by have := hrow k f; omega)
  have hf : ∀ k o, k < B → k ≠ N + 2 → A7.frozen? ⟨k, o, none⟩ = A2.frozen? ⟨k, o, none⟩ := fun k o a b => (F7 _).trans (U.frozen (by omega) b fun f => by have := hrow k f; omega)
  refine ⟨⟨by rw [E7.2.2.2]; exact U.size, fun k o hk ho' hco => ?_⟩, fun o => hc rb o h2 (by omega) (by omega) (by omega) (by omega), ?_, ?_⟩
  · have hk2 := (Array.getElem?_eq_some_iff.1 ho').1
    have hnr : vo.ownBlock ≠ some k := by
      intro f
      rcases hown.2 with ⟨rfl, _⟩ | ⟨g, cap, cur, rfl, _, hg, _⟩
      · simp [Value.ownBlock] at f
      · simp [Value.ownBlock] at f
        subst f
        rw [hg] at ho'
        injection ho' with ho'
        subst ho'
        cases hco
    exact (hsame k hk2 (by omega) (by omega) (by omega) (by omega) hnr).trans ho'
  · refine ⟨(hc N 0 (by omega) (by omega) (by omega) (by omega) (by omega)).trans J2.fb, z0, z1, (hf _ _ (by omega) (by omega)).trans J2.f0, (hf _ _ (by omega) (by omega)).trans J2.f1, ⟨vo', ?_, ?_⟩, ?_, z3, (hf _ _ (by omega) (by omega)).trans J2.fl, z4, (hf _ _ (by omega) (by omega)).trans J2.fi, (hc (N + 5) 0 (by omega) (by omega) (by omega) (by omega) (by omega)).trans J2.cl, hlow, ?_⟩
    · exact (World.cell?_of_block (w := A3) (a := ⟨N + 2, 0, none⟩) (C7 (N + 2) (by omega) (by omega) (by omega))).trans p1
    · refine ⟨p3.1, ?_⟩
      rcases p3.2 with hn | ⟨g, cap, cur, hv, hg, hh, r⟩
      · exact .inl hn
      · exact .inr ⟨g, cap, cur, hv, hg, (C7 g (by omega) (by omega) (by omega)).trans hh, r⟩
    · exact (F7 _).trans p2
    · rw [E7.2.2.2]; exact Nat.le_trans hsz U.size
  · refine ⟨(E7.1.trans U.os).trans hb2.os, (E7.2.1.trans U.tape).trans hb2.tape, (E7.2.2.1.trans U.output).trans hb2.output, ?_, fun k hk => ?_⟩
    · rw [E7.2.2.2]; exact Nat.le_trans hb2.size U.size
    · exact (hsame k (by omega) (by omega) (by omega) (by omega) (by omega) fun f => by have := hrow k f; omega).trans (hb2.block k hk)
set_option maxRecDepth 100000 in
set_option maxHeartbeats 2000000 in
theorem join_any (a b : List Sp) (va vb : Value) (w : World) (g : Nat) (h : Bool → Bool → Bool) (eg : ∀ args w, (callFunc g args).run Tryz.prog w = .ok (.enter g args) w) (hg : ∀ (x y : Bool) (W : World), Calls Tryz.prog g #[.bool x, .bool y] W fun e w' => e = .returned (.bool (h x y)) ∧ W = w')
    (ra : RdK encS 2 w w.heap.size va a) (rb : RdK encS 2 w w.heap.size vb b) (na : a.length ≤ 100000000) (nb : b.length ≤ 100000000) (ba : ∀ p ∈ a, validS p) (bb : ∀ p ∈ b, validS p) :
    Calls Tryz.prog 184 #[va, vb, .func (.func g) #[] #[]] w fun e w' => ∃ (E : List En) (v : Value), e = .returned v ∧ E.Perm (evs 0 a ++ evs 1 b) ∧ E.Pairwise (fun a b => a.1 ≤ b.1) ∧ Below w.heap.size w w' ∧
      w'.ownsRow w.heap.size 188 2 v (jfold h E).out.length ((jfold h E).out.flatMap encS) := by
  obtain ⟨A0, c0, hva, hra⟩ := ra
  obtain ⟨A1, c1, hvb, hrb⟩ := rb
  subst hva; subst hvb
  have RA : Hid (RdK encS 2 w w.heap.size (.slice A0 a.length c0) a) := hide ⟨_, _, rfl, hra⟩
  have RB : Hid (RdK encS 2 w w.heap.size (.slice A1 b.length c1) b) := hide ⟨_, _, rfl, hrb⟩
  clear hra hrb
  refine (callsIn_wide (n := 0)).1 ?_
  refine callsIn_of_wp_marks Tryz.func184 rfl trivial ?_
  simp only [Tryz.ntmps184, List.size_toArray, List.length_cons, List.length_nil, Nat.reduceAdd, Nat.reduceSub, Array.replicate_succ, Array.replicate_zero, List.push_toArray, List.append_toArray, List.nil_append, List.cons_append]
  refine wpIn_wide.2 ?_
  go_wp2_with (fail)
  obtain ⟨w1, hw1⟩ : ∃ w1, w1 = ((((((w.alloc (Obj.cells #[Value.func (Fn.func g) #[] #[]] 218)).alloc (Obj.cells #[Value.int IntKind.i64 0, Value.int IntKind.i64 0] 158)).alloc (Obj.cells #[Value.slice none 0 0] 182)).alloc (Obj.cells #[Value.int IntKind.i64 0] 3)).alloc (Obj.cells #[Value.bool false] 4)).alloc
     (Obj.cells #[.func (.func 210) #[] #[ptr (w.heap.size + 1 + 1 + 1 + 1), ptr (w.heap.size + 1 + 1 + 1), ptr (w.heap.size + 1 + 1)]] 278)).alloc (.cells #[.slice A0 a.length c0, .slice A1 b.length c1] 182) := ⟨_, rfl⟩
  have hb1 : Below w.heap.size w w1 := by
    rw [hw1]
    exact (((((((Below.refl _ w).alloc (Nat.le_refl _) _).alloc (by simp) _).alloc (by simp; omega) _).alloc (by simp; omega) _).alloc (by simp; omega) _).alloc (by simp; omega) _).alloc (by simp; omega) _
  have hs1 : w1.heap.size = w.heap.size + 7 := by rw [hw1]; simp
  have hJ : ∀ (B : Nat) (W : World), Below w1.heap.size w1 W → w.heap.size + 6 ≤ B → B ≤ W.heap.size → JW w.heap.size B (.func (.func g) #[] #[]) js0 W := by
    intro B W hb hB1 hB2
    have hc : ∀ b o, b < w.heap.size + 7 → W.cell? ⟨b, o, none⟩ = w1.cell? ⟨b, o, none⟩ := fun b o h => hb.cell (p := ⟨b, o, none⟩) (by show b < _; omega)
    have hf : ∀ b o, b < w.heap.size + 7 → W.frozen? ⟨b, o, none⟩ = w1.frozen? ⟨b, o, none⟩ := fun b o h => hb.frozen (p := ⟨b, o, none⟩) (by show b < _; omega)
    refine ⟨?_, ?_, ?_, ?_, ?_, ⟨.slice none 0 0, ?_, World.ownsRow_nil _ _ _ _⟩, ?_, ?_, ?_, ?_, ?_, ?_, hB1, hB2⟩
    all_goals first
      | (refine (hc _ _ (by omega)).trans ?_; rw [hw1]; simp [go_sem, js0, ptr]; done)
      | (refine (hf _ _ (by omega)).trans ?_; rw [hw1]; simp [go_sem]; done)
  have hL0 : w1.cell? ⟨w.heap.size + 6, 0, none⟩ = some (.slice A0 a.length c0) := by rw [hw1]; simp [go_sem]
  have hL1 : w1.cell? ⟨w.heap.size + 6, 1, none⟩ = some (.slice A1 b.length c1) := by rw [hw1]; simp [go_sem]
  have hends := ends_loop a b (w.heap.size + 6) 2 (.slice A0 a.length c0) (.slice A1 b.length c1) w1 (by omega) hL0 hL1 ((RA.out.below hb1).mono (by omega)) ((RB.out.below hb1).mono (by omega)) na nb ba bb
  have HJ := hide hJ
  clear hJ hL0 hL1 RA RB
  simp only [ptr] at hw1
  rw [← hw1]
  clear hw1
  refine hends.mono ?_
  rintro e wE ⟨E, Bx, rw', rfl, hp, hs, hbE, hr1, hr2, hit⟩
  go_wp2_with (fail)
  have HW : Hid (Below w.heap.size w wE) := hide (hb1.trans (hbE.mono (by omega)))
  have hsE : w.heap.size + 7 ≤ wE.heap.size := by have := hbE.size; omega
  have hJ0 := HJ.out wE.heap.size wE hbE (by omega) (Nat.le_refl _)
  have hEl : E.length ≤ 400000000 := by rw [hp.length_eq, List.length_append, evs_length, evs_length]; omega
  have hby : ∀ e ∈ E, (e.2.1 = 0 ∨ e.2.1 = 1) ∧ (e.2.2 = 1 ∨ e.2.2 = -1) := by
    intro e he
    rcases List.mem_append.1 (hp.mem_iff.1 he) with h1 | h1
    · obtain ⟨_, _, _, q1, q2⟩ := evs_mem h1
      exact ⟨.inl q1, q2⟩
    · obtain ⟨_, _, _, q1, q2⟩ := evs_mem h1
      exact ⟨.inr q1, q2⟩
  have HP : Hid (E.Perm (evs 0 a ++ evs 1 b) ∧ E.Pairwise (fun a b => a.1 ≤ b.1)) := hide ⟨hp, hs⟩
  have HG := hide hg
  clear HJ hb1 hbE hp hs hg na nb ba bb
  refine (wpIn_wide (n := 0)).1 ?_
  refine wp_range rfl (enters_of Tryz.func252 (by kernel_rfl) rfl) hit (Below.refl _ _) (fun x args A hx => by rw [hx]; rfl) KpB.trans ?_
    (fun pre W => JW w.heap.size wE.heap.size (.func (.func g) #[] #[]) (jfold h pre) W ∧ Below w.heap.size w W) (fun _ _ => False) ?_ ?_ (fun _ _ _ _ _ h => h.elim) ⟨hJ0, HW.out⟩ ?_ ?_ (fun _ _ _ _ h => h.elim)
  · intro A l o o' _ h1 h2 h3 off
    exact (cell_putObj h1 h2 h3 _).1
  · intro pre A B h1 hb
    exact ⟨h1.1.below hb, h1.2.trans (hb.mono h1.2.size)⟩
  · intro pre A l o o' h1 hl h2 h3 h4
    exact ⟨h1.1.putObj h2 h3, below_putObj h1.2 (by omega) _⟩
  · rintro l pre x args A ⟨hJA, hbA⟩ hpost rfl hl1 ⟨ol, hl2, hl3⟩
    obtain ⟨at', li, by'⟩ := x
    have hll : l < A.heap.size := (Array.getElem?_eq_some_iff.1 hl2).1
    obtain ⟨post, hpost⟩ := hpost
    have hlen : pre.length ≤ 400000000 := by rw [hpost, List.length_append] at hEl; omega
    have hbo := sum_jfold h pre js0 0 (fun e he => (hby e (by rw [hpost]; simp [he])).2) (by simp [js0]) (by simp [js0]) (by simp [js0]) (by simp [js0])
    have hol := jout_len h pre js0
    change _ ∧ _ ∧ _ ∧ _ at hbo
    have hxx := hby (at', li, by') (by rw [hpost]; simp)
    have HS := hide (jfold_snoc h pre (at', li, by'))
    change JW _ _ _ (pre.foldl (jstep h) js0) A at hJA
    change Hid (_ = jstep h (pre.foldl (jstep h) js0) _) at HS
    generalize pre.foldl (jstep h) js0 = st at *
    have hpl : (js0.out.length) = 0 := rfl
    rw [hpl] at hol
    clear hby hpost hJ0 HW hpl
    simp only [encE]
    gi_wp2
    refine ⟨KeepsFrom.of_below ((Below.refl _ _).alloc (Nat.le_refl _) _), fun o => World.cell?_alloc_lt A _ ⟨rw', o, none⟩ (by show rw' < _; omega), ?_⟩
    intro A2 g2 s2 e2 f2
    have c20 : A2.cell? ⟨A.heap.size, 0, none⟩ = some (.int .i64 at') := (e2 _).trans (by simp [go_sem])
    have c21 : A2.cell? ⟨A.heap.size, 1, none⟩ = some (.int .i64 li) := (e2 _).trans (by simp [go_sem])
    have c22 : A2.cell? ⟨A.heap.size, 2, none⟩ = some (.int .i64 by') := (e2 _).trans (by simp [go_sem])
    have s3 : A2.heap.size = A.heap.size + 1 := by rw [s2]; simp
    have J2 : JW w.heap.size wE.heap.size (.func (.func g) #[] #[]) st A2 :=
      (hJA.below ((Below.refl _ _).alloc (Nat.le_refl _) (.cells #[.int .i64 at', .int .i64 li, .int .i64 by'] 282))).keep (by omega) fun k o hk ho => (g2.block k (Array.getElem?_eq_some_iff.1 hk).1 (fun e => by
        injection e with e; subst e; rw [Below.heap_alloc _ _ _ hll, hl2] at hk; injection hk with hk; subst hk; rw [hl3] at ho; cases ho)).trans hk
    have hb2 : Below w.heap.size w A2 := (hbA.alloc (by omega) (.cells #[.int .i64 at', .int .i64 li, .int .i64 by'] 282)).grown g2 (by simp; omega) (fun k e => by injection e with e; omega)
    obtain ⟨vo, ho, hown⟩ := J2.out
    have hAE := hJA.size
    have hrow : ∀ k, vo.ownBlock = some k → wE.heap.size ≤ k ∧ k < A.heap.size := by
      intro k hk
      obtain ⟨v0, q1, q2⟩ := hJA.out
      have e : A2.cell? ⟨w.heap.size + 2, 0, none⟩ = A.cell? ⟨w.heap.size + 2, 0, none⟩ := (e2 _).trans (World.cell?_alloc_lt A _ ⟨w.heap.size + 2, 0, none⟩ (by show w.heap.size + 2 < A.heap.size; omega))
      rw [ho, q1] at e
      injection e with e
      subst e
      exact q2.lt k hk
    have hclose := close_any wE.heap.size (w.heap.size + 4) (w.heap.size + 3) (w.heap.size + 2) vo st.out st.last at' st.inn A2 J2.inn J2.la ho J2.fo (by omega) J2.size hown (by omega)
    have k5 := J2.cl
    have hAsz := hbA.size
    simp only [ptr] at k5
    have HN := hide hown
    have HO2 := hide ho
    clear e2 f2 g2 s2 hl2 hit hends hJA hbA hl3 ho hown
    simp only [Nat.add_assoc, Nat.reduceAdd]
    gi_wp2_with (first | (refine ⟨trivial, rfl, ?_⟩) | (gi_at_call 210; go_loud (refine (CallsIn.inRound l (callsIn_wide.2 hclose)).mono ?_); rintro e A3 ⟨rfl, vo', p1, p2, p3, U⟩))
    have uc : ∀ b o, b < A2.heap.size → b ≠ w.heap.size + 2 → (wE.heap.size ≤ b → A.heap.size ≤ b) → A3.cell? ⟨b, o, none⟩ = A2.cell? ⟨b, o, none⟩ := fun b o h1 h2 h3 => U.cell h1 h2 fun e => by have := hrow b e; omega
    have uf : ∀ b o, b < A2.heap.size → b ≠ w.heap.size + 2 → (wE.heap.size ≤ b → A.heap.size ≤ b) → A3.frozen? ⟨b, o, none⟩ = A2.frozen? ⟨b, o, none⟩ := fun b o h1 h2 h3 => U.frozen h1 h2 fun e => by have := hrow b e; omega
    have m20 := (uc A.heap.size 0 (by omega) (by omega) (by omega)).trans c20
    have m21 := (uc A.heap.size 1 (by omega) (by omega) (by omega)).trans c21
    have m22 := (uc A.heap.size 2 (by omega) (by omega) (by omega)).trans c22
    have mfb := (uc w.heap.size 0 (by omega) (by omega) (by omega)).trans J2.fb
    have mo0 := (uc (w.heap.size + 1) 0 (by omega) (by omega) (by omega)).trans J2.o0
    have mo1 := (uc (w.heap.size + 1) 1 (by omega) (by omega) (by omega)).trans J2.o1
    have mf0 := (uf (w.heap.size + 1) 0 (by omega) (by omega) (by omega)).trans J2.f0
    have mf1 := (uf (w.heap.size + 1) 1 (by omega) (by omega) (by omega)).trans J2.f1
    have mla := (uc (w.heap.size + 3) 0 (by omega) (by omega) (by omega)).trans J2.la
    have mfl := (uf (w.heap.size + 3) 0 (by omega) (by omega) (by omega)).trans J2.fl
    have min := (uc (w.heap.size + 4) 0 (by omega) (by omega) (by omega)).trans J2.inn
    have mfi := (uf (w.heap.size + 4) 0 (by omega) (by omega) (by omega)).trans J2.fi
    have UU := hide U
    have P3 := hide p3
    have P1 := hide p1
    have P2 := hide p2
    have HC := hide (And.intro uc uf)
    clear U p1 p2 p3 uc uf c20 c21 c22 k5 hclose
    obtain ⟨hli, hby2⟩ := hxx
    rcases hli with rfl | rfl
    · refine wpIn_region_tail_named 8 (by kernel_rfl) (by kernel_rfl) (by kernel_rfl) (fun a w h => h) ?_
      intro A4 hA4
      have n20 : A4.cell? ⟨A.heap.size, 0, none⟩ = some (.int .i64 at') := by rw [hA4]; exact m20
      have n21 : A4.cell? ⟨A.heap.size, 1, none⟩ = some (.int .i64 0) := by rw [hA4]; exact m21
      have n22 : A4.cell? ⟨A.heap.size, 2, none⟩ = some (.int .i64 by') := by rw [hA4]; exact m22
      have no : A4.cell? ⟨w.heap.size + 1, 0, none⟩ = some (.int .i64 st.o0) := by rw [hA4]; exact mo0
      have nf : A4.frozen? ⟨w.heap.size + 1, 0, none⟩ = false := by rw [hA4]; exact mf0
      have no' : A4.cell? ⟨w.heap.size + 1, 1, none⟩ = some (.int .i64 st.o1) := by rw [hA4]; exact mo1
      have nfb : A4.cell? ⟨w.heap.size, 0, none⟩ = some (.func (.func g) #[] #[]) := by rw [hA4]; exact mfb
      have nla : A4.cell? ⟨w.heap.size + 3, 0, none⟩ = some (.int .i64 st.last) := by rw [hA4]; exact mla
      have nin : A4.cell? ⟨w.heap.size + 4, 0, none⟩ = some (.bool st.inn) := by rw [hA4]; exact min
      have nfl : A4.frozen? ⟨w.heap.size + 3, 0, none⟩ = false := by rw [hA4]; exact mfl
      have nfi : A4.frozen? ⟨w.heap.size + 4, 0, none⟩ = false := by rw [hA4]; exact mfi
      have HA4 := hide hA4
      have HB := hide hb2
      have HJ := hide J2
      clear hA4 m20 m21 m22 mo0 mo1 mf0 mf1 mfb mla min mfl mfi hb2 J2
      have b1 : -9223372036854775808 ≤ st.o0 + by' := by omega
      have b2 : st.o0 + by' ≤ 9223372036854775807 := by omega
      simp only [List.take_succ_cons, List.take_zero, List.drop_succ_cons, List.drop_zero]
      repeat still_step
      refine wpStill_nil ?_
      go_wp2_with (fail)
      obtain ⟨z, hz⟩ : ∃ z, st.o0 + by' = z := ⟨_, rfl⟩
      rw [hz]
      have HZ := hide hz
      have q0 : A.heap.size ≠ w.heap.size + 1 := by omega
      refine wpIn_region_tail_named 10 (by kernel_rfl) (by kernel_rfl) (by kernel_rfl) (fun a w h => h) ?_
      intro A5 hA5
      have k20 : A5.cell? ⟨A.heap.size, 0, none⟩ = some (.int .i64 at') := by rw [hA5]; simp [go_sem, n20, q0]
      have ko : A5.cell? ⟨w.heap.size + 1, 0, none⟩ = some (.int .i64 z) := by rw [hA5]; simp [go_sem, no]
      have ko' : A5.cell? ⟨w.heap.size + 1, 1, none⟩ = some (.int .i64 st.o1) := by rw [hA5]; simp [go_sem, no']
      have kfb : A5.cell? ⟨w.heap.size, 0, none⟩ = some (.func (.func g) #[] #[]) := by rw [hA5]; simp [go_sem, nfb]
      have kla : A5.cell? ⟨w.heap.size + 3, 0, none⟩ = some (.int .i64 st.last) := by rw [hA5]; simp [go_sem, nla]
      have kin : A5.cell? ⟨w.heap.size + 4, 0, none⟩ = some (.bool st.inn) := by rw [hA5]; simp [go_sem, nin]
      have kfl : A5.frozen? ⟨w.heap.size + 3, 0, none⟩ = false := by rw [hA5]; simp [go_sem, nfl]
      have kfi : A5.frozen? ⟨w.heap.size + 4, 0, none⟩ = false := by rw [hA5]; simp [go_sem, nfi]
      have HA5 := hide hA5
      clear hA5 n20 n21 n22 no nf no' nfb nla nin nfl nfi b1 b2 hz
      simp only [List.take_succ_cons, List.take_zero, List.drop_succ_cons, List.drop_zero]
      repeat still_step
      still_call ((HG.out _ _ _).mono fun _ _ q => ⟨q.1, q.2.symm⟩)
      refine wpStill_nil ?_
      go_wp2_with (fail)
      have hst : jstep h st (at', 0, by') = ⟨z, st.o1, jcl st.inn st.last st.out at', at', h (decide ((0 : Int) < z)) (decide ((0 : Int) < st.o1))⟩ := by
        have := HZ.out
        subst this
        rfl
      have hA5 := HA5.out
      have hA4 := HA4.out
      clear HA5 HA4 HZ
      refine ?fin
      case fin =>
        have R := jw_fin (rb := rw') (A7 := (A5.setCell ⟨w.heap.size + 3, 0, none⟩ (.int .i64 at')).setCell ⟨w.heap.size + 4, 0, none⟩ (.bool (h (decide ((0 : Int) < z)) (decide ((0 : Int) < st.o1))))) (st' := jstep h st (at', 0, by')) (b0 := 0) HJ.out HB.out HN.out HO2.out UU.out P1.out P2.out
          (by rw [hst]; exact P3.out) (by rw [hA5, hA4]; exact ⟨rfl, rfl, rfl, by simp [World.setCell]⟩)
          (fun k k1 k3 k4 => (Below.heap_setCell _ _ _ _ k4).trans ((Below.heap_setCell _ _ _ _ k3).trans (by rw [hA5, hA4]; exact Below.heap_setCell _ _ _ _ k1)))
          (fun p => by rw [hA5, hA4]; simp [go_sem]) (by rw [hst]; simp [go_sem, ko, ko']) (by rw [hst]; simp [go_sem, ko, ko']) (by rw [hst]; simp [go_sem, kla]) (by rw [hst]; simp [go_sem, kin]) (by omega) hr2
        exact ⟨R.1, R.2.1, by rw [HS.out]; exact R.2.2.1, R.2.2.2⟩
    · refine wpIn_region_tail_named 8 (by kernel_rfl) (by kernel_rfl) (by kernel_rfl) (fun a w h => h) ?_
      intro A4 hA4
      have n20 : A4.cell? ⟨A.heap.size, 0, none⟩ = some (.int .i64 at') := by rw [hA4]; exact m20
      have n21 : A4.cell? ⟨A.heap.size, 1, none⟩ = some (.int .i64 1) := by rw [hA4]; exact m21
      have n22 : A4.cell? ⟨A.heap.size, 2, none⟩ = some (.int .i64 by') := by rw [hA4]; exact m22
      have no : A4.cell? ⟨w.heap.size + 1, 1, none⟩ = some (.int .i64 st.o1) := by rw [hA4]; exact mo1
      have nf : A4.frozen? ⟨w.heap.size + 1, 1, none⟩ = false := by rw [hA4]; exact mf1
      have no' : A4.cell? ⟨w.heap.size + 1, 0, none⟩ = some (.int .i64 st.o0) := by rw [hA4]; exact mo0
      have nfb : A4.cell? ⟨w.heap.size, 0, none⟩ = some (.func (.func g) #[] #[]) := by rw [hA4]; exact mfb
      have nla : A4.cell? ⟨w.heap.size + 3, 0, none⟩ = some (.int .i64 st.last) := by rw [hA4]; exact mla
      have nin : A4.cell? ⟨w.heap.size + 4, 0, none⟩ = some (.bool st.inn) := by rw [hA4]; exact min
      have nfl : A4.frozen? ⟨w.heap.size + 3, 0, none⟩ = false := by rw [hA4]; exact mfl
      have nfi : A4.frozen? ⟨w.heap.size + 4, 0, none⟩ = false := by rw [hA4]; exact mfi
      have HA4 := hide hA4
      have HB := hide hb2
      have HJ := hide J2
      clear hA4 m20 m21 m22 mo0 mo1 mf0 mf1 mfb mla min mfl mfi hb2 J2
      have b1 : -9223372036854775808 ≤ st.o1 + by' := by omega
      have b2 : st.o1 + by' ≤ 9223372036854775807 := by omega
      simp only [List.take_succ_cons, List.take_zero, List.drop_succ_cons, List.drop_zero]
      repeat still_step
      refine wpStill_nil ?_
      go_wp2_with (fail)
      obtain ⟨z, hz⟩ : ∃ z, st.o1 + by' = z := ⟨_, rfl⟩
      rw [hz]
      have HZ := hide hz
      have q0 : A.heap.size ≠ w.heap.size + 1 := by omega
      refine wpIn_region_tail_named 10 (by kernel_rfl) (by kernel_rfl) (by kernel_rfl) (fun a w h => h) ?_
      intro A5 hA5
      have k20 : A5.cell? ⟨A.heap.size, 0, none⟩ = some (.int .i64 at') := by rw [hA5]; simp [go_sem, n20, q0]
      have ko : A5.cell? ⟨w.heap.size + 1, 1, none⟩ = some (.int .i64 z) := by rw [hA5]; simp [go_sem, no]
      have ko' : A5.cell? ⟨w.heap.size + 1, 0, none⟩ = some (.int .i64 st.o0) := by rw [hA5]; simp [go_sem, no']
      have kfb : A5.cell? ⟨w.heap.size, 0, none⟩ = some (.func (.func g) #[] #[]) := by rw [hA5]; simp [go_sem, nfb]
      have kla : A5.cell? ⟨w.heap.size + 3, 0, none⟩ = some (.int .i64 st.last) := by rw [hA5]; simp [go_sem, nla]
      have kin : A5.cell? ⟨w.heap.size + 4, 0, none⟩ = some (.bool st.inn) := by rw [hA5]; simp [go_sem, nin]
      have kfl : A5.frozen? ⟨w.heap.size + 3, 0, none⟩ = false := by rw [hA5]; simp [go_sem, nfl]
      have kfi : A5.frozen? ⟨w.heap.size + 4, 0, none⟩ = false := by rw [hA5]; simp [go_sem, nfi]
      have HA5 := hide hA5
      clear hA5 n20 n21 n22 no nf no' nfb nla nin nfl nfi b1 b2 hz
      simp only [List.take_succ_cons, List.take_zero, List.drop_succ_cons, List.drop_zero]
      repeat still_step
      still_call ((HG.out _ _ _).mono fun _ _ q => ⟨q.1, q.2.symm⟩)
      refine wpStill_nil ?_
      go_wp2_with (fail)
      have hst : jstep h st (at', 1, by') = ⟨st.o0, z, jcl st.inn st.last st.out at', at', h (decide ((0 : Int) < st.o0)) (decide ((0 : Int) < z))⟩ := by
        have := HZ.out
        subst this
        rfl
      have hA5 := HA5.out
      have hA4 := HA4.out
      clear HA5 HA4 HZ
      refine ?fin
      case fin =>
        have R := jw_fin (rb := rw') (A7 := (A5.setCell ⟨w.heap.size + 3, 0, none⟩ (.int .i64 at')).setCell ⟨w.heap.size + 4, 0, none⟩ (.bool (h (decide ((0 : Int) < st.o0)) (decide ((0 : Int) < z))))) (st' := jstep h st (at', 1, by')) (b0 := 0) HJ.out HB.out HN.out HO2.out UU.out P1.out P2.out
          (by rw [hst]; exact P3.out) (by rw [hA5, hA4]; exact ⟨rfl, rfl, rfl, by simp [World.setCell]⟩)
          (fun k k1 k3 k4 => (Below.heap_setCell _ _ _ _ k4).trans ((Below.heap_setCell _ _ _ _ k3).trans (by rw [hA5, hA4]; exact Below.heap_setCell _ _ _ _ k1)))
          (fun p => by rw [hA5, hA4]; simp [go_sem]) (by rw [hst]; simp [go_sem, ko, ko']) (by rw [hst]; simp [go_sem, ko, ko']) (by rw [hst]; simp [go_sem, kla]) (by rw [hst]; simp [go_sem, kin]) (by omega) hr2
        exact ⟨R.1, R.2.1, by rw [HS.out]; exact R.2.2.1, R.2.2.2⟩
  · rintro D W hD ⟨hJW, hbW⟩ hK
    obtain ⟨vo, ho, hown⟩ := hJW.out
    obtain ⟨Av, cv, hv, _⟩ := own_rd hown (fun _ => rfl)
    subst hv
    have HO := hide hown
    have HB := hide hbW
    clear hown hbW hJW
    simp only [Exit.inBlock, Exit.then]
    go_wp2_with (fail)
    refine ⟨by simp, .inl ⟨_, _, rfl, run_takeDeferred hK, ?_⟩⟩
    refine ⟨_, results_tmp rfl _ _ _, E, _, rfl, HP.out.1, HP.out.2, below_putObj HB.out (by omega) _, ?_⟩
    exact own_base (own_putObj HO.out hK rfl) (by omega)
end Go.Proofs.YtdolpeljengpaaaGreat

/- slices.IndexFunc and slices.ContainsFunc at the program's structs. -/
namespace Go.Proofs.YtdolpeljengpaaaGreat
open Go.RowKit Go.Shelf
set_option linter.unusedVariables false
set_option linter.unusedSimpArgs false

set_option maxHeartbeats 1000000 in
/-- slices.IndexFunc here: the first place at which p holds, or -1. -/
theorem cfSpan_idx {w : World} {v : Value} {l : List Sp} (h : RdK encS 2 w w.heap.size v l) (hl : l.length ≤ 1000000000) (g : Nat) (lb : Array Value) (p : Sp → Bool)
    (eg : ∀ args w, (callFunc g args).run Tryz.prog w = .ok (.enter g args) w)
    (hp : ∀ (W : World) (x : Sp), x ∈ l → Below w.heap.size w W → Calls Tryz.prog g (#[.agg (encS x).toArray] ++ lb) W fun e w' => e = .returned (.bool (p x)) ∧ Below W.heap.size W w') :
    Calls Tryz.prog 209 #[v, .func (.func g) #[] lb] w fun e w' => e = .returned (.int .i64 (idxI p l)) ∧ Below w.heap.size w w' := by
  obtain ⟨A, c, rfl, hc⟩ := h
  go_enter Tryz.func209, Tryz.ntmps209
  go_wp2
  go_loopg [5, 8] l.length (fun gg _ s8 wr => ∃ kk : Nat, kk ≤ l.length ∧ l.length - kk ≤ gg ∧ s8 = .int .i64 kk ∧ Hid (Below w.heap.size w wr) ∧ Hid (∀ x ∈ l.take kk, p x = false))
  case atStart => exact ⟨0, Nat.zero_le _, by omega, rfl, hide (Below.refl _ w), hide (by simp)⟩
  case round =>
    obtain ⟨kk, hkk, hg, rfl, BW, A'⟩ := hrel
    by_cases hlt : kk < l.length
    · have hltz : (kk : Int) < (l.length : Int) := by omega
      obtain ⟨b, off, rfl, hb, hcell⟩ := hc (by intro e; rw [e] at hlt; simp at hlt)
      have hx : l[kk]? = some l[kk] := List.getElem?_eq_getElem hlt
      have hcall := hp wr l[kk] (List.getElem_mem hlt) BW.out
      have hfi : l.take (kk + 1) = l.take kk ++ [l[kk]] := List.take_succ_eq_append_getElem hlt
      have c0 : wr.cell? ⟨b, off + kk * 2, none⟩ = some (.int .i64 l[kk].1) := (BW.out.cell (p := ⟨b, off + kk * 2, none⟩) hb).trans (hcell kk _ hx 0 _ rfl)
      have c1 : wr.cell? ⟨b, off + kk * 2 + 1, none⟩ = some (.int .i64 l[kk].2) := (BW.out.cell (p := ⟨b, off + kk * 2 + 1, none⟩) hb).trans (hcell kk _ hx 1 _ rfl)
      clear hc hcell hp
      obtain ⟨x, hxe⟩ : ∃ x, l[kk] = x := ⟨_, rfl⟩
      have XE := hide hxe
      have FI := hide hfi
      rw [hxe] at hcall c0 c1
      clear hx hxe hfi
      cases hq : p x with
      | true =>
        have HQ := hide hq
        rw [hq] at hcall
        clear hq
        go_wp2_with (go_at_fn g; refine hcall.mono ?_; rintro e w' ⟨rfl, hb'⟩)
        go_ret
        refine ⟨ret_eq (int_eq ?_), BW.out.trans (hb'.mono BW.out.size)⟩
        have hxl : p l[kk] = true := by rw [XE.out]; exact HQ.out
        unfold idxI
        rw [if_pos (List.any_eq_true.2 ⟨l[kk], List.getElem_mem hlt, hxl⟩)]
        have : l.findIdx p = kk := by
          rw [List.findIdx_eq hlt]
          refine ⟨hxl, fun j hj => ?_⟩
          have := A'.out l[j] (by rw [List.mem_take_iff_getElem]; exact ⟨j, by omega, rfl⟩)
          simpa using this
        rw [this]
      | false =>
        have HQ := hide hq
        rw [hq] at hcall
        clear hq
        go_wp2_with (go_at_fn g; refine hcall.mono ?_; rintro e w' ⟨rfl, hb'⟩)
        go_roundg (l.length - (kk + 1))
        case measure => omega
        case rel =>
          refine ⟨kk + 1, by omega, by omega, by go_num, hide (BW.out.trans (hb'.mono BW.out.size)), hide fun y hy => ?_⟩
          rw [FI.out, List.mem_append] at hy
          rcases hy with hy | hy
          · exact A'.out y hy
          · simp only [List.mem_singleton] at hy
            rw [hy, XE.out]; exact HQ.out
    · have hltz : ¬ (kk : Int) < (l.length : Int) := by omega
      have hk : kk = l.length := by omega
      go_wp2
      go_ret
      refine ⟨ret_eq (int_eq ?_), BW.out⟩
      have hA := A'.out
      rw [hk, List.take_length] at hA
      unfold idxI
      rw [if_neg (by rw [List.any_eq_true]; rintro ⟨y, hy, hpy⟩; rw [hA y hy] at hpy; cases hpy)]

set_option maxHeartbeats 400000 in
/-- slices.ContainsFunc here. -/
theorem cfSpan_any {w : World} {v : Value} {l : List Sp} (h : RdK encS 2 w w.heap.size v l) (hl : l.length ≤ 1000000000) (g : Nat) (lb : Array Value) (p : Sp → Bool)
    (eg : ∀ args w, (callFunc g args).run Tryz.prog w = .ok (.enter g args) w)
    (hp : ∀ (W : World) (x : Sp), x ∈ l → Below w.heap.size w W → Calls Tryz.prog g (#[.agg (encS x).toArray] ++ lb) W fun e w' => e = .returned (.bool (p x)) ∧ Below W.heap.size W w') :
    Calls Tryz.prog 181 #[v, .func (.func g) #[] lb] w fun e w' => e = .returned (.bool (l.any p)) ∧ Below w.heap.size w w' := by
  have hi := cfSpan_idx h hl g lb p eg hp
  obtain ⟨A, c, rfl, hc⟩ := h
  clear hp hc eg
  cases ha : l.any p with
  | true =>
    simp only [idxI, ha, if_true] at hi
    clear ha
    obtain ⟨n, hn⟩ : ∃ n, l.findIdx p = n := ⟨_, rfl⟩
    rw [hn] at hi
    clear hn
    have hn0 : decide ((0 : Int) ≤ (n : Int)) = true := by simp
    go_enter Tryz.func181, Tryz.ntmps181
    go_wp2_with (go_at_call 209; refine hi.mono ?_; rintro e w1 ⟨rfl, hb1⟩)
    go_ret
    exact ⟨rfl, hb1⟩
  | false =>
    simp only [idxI, ha, Bool.false_eq_true, if_false] at hi
    clear ha
    go_enter Tryz.func181, Tryz.ntmps181
    go_wp2_with (go_at_call 209; refine hi.mono ?_; rintro e w1 ⟨rfl, hb1⟩)
    go_ret
    exact ⟨rfl, hb1⟩
end Go.Proofs.YtdolpeljengpaaaGreat

/- span.Make, span.Check, span.Union .. by their contracts, at lists in range. -/
namespace Go.Proofs.YtdolpeljengpaaaGreat
open Go.RowKit
set_option linter.unusedVariables false
set_option linter.unusedSimpArgs false

theorem sjoin_any (a b : List Sp) (va vb : Value) (w : World) (g : Nat) (h : Bool → Bool → Bool) (h0 : h false false = false) (eg : ∀ args w, (callFunc g args).run Tryz.prog w = .ok (.enter g args) w)
    (hg : ∀ (x y : Bool) (W : World), Calls Tryz.prog g #[.bool x, .bool y] W fun e w' => e = .returned (.bool (h x y)) ∧ W = w')
    (ra : RdK encS 2 w w.heap.size va a) (rb : RdK encS 2 w w.heap.size vb b) (na : a.length ≤ 100000000) (nb : b.length ≤ 100000000) (ba : ∀ p ∈ a, validS p) (bb : ∀ p ∈ b, validS p) :
    Calls Tryz.prog 184 #[va, vb, .func (.func g) #[] #[]] w fun e w' => ∃ A c, e = .returned (.slice A (sjoin h a b).length c) ∧ w'.ownsRow w.heap.size 188 2 (.slice A (sjoin h a b).length c) (sjoin h a b).length ((sjoin h a b).flatMap encS) ∧ Below w.heap.size w w' := by
  refine (join_any a b va vb w g h eg hg ra rb na nb ba bb).mono ?_
  rintro e w' ⟨E, v, rfl, hp, hs, hb, ho⟩
  obtain ⟨j1, j2⟩ := jfold_ok (h := h) h0 (fun p hp => (ba p hp).1) (fun p hp => (bb p hp).1) hp hs
  have e := sjoin_eq h0 (fun p hp => (ba p hp).1) (fun p hp => (bb p hp).1) j1 j2
  rw [e] at ho
  obtain ⟨A, c, rfl, hc⟩ := own_rd ho (fun _ => rfl)
  exact ⟨A, c, rfl, ho, hb⟩

def hOr (a b : Bool) : Bool := a || b
def hAnd (a b : Bool) : Bool := a && b
def hSub (a b : Bool) : Bool := a && !b
def hFst (a b : Bool) : Bool := a

theorem fst_any (x y : Bool) (W : World) : Calls Tryz.prog 185 #[.bool x, .bool y] W fun e w' => e = .returned (.bool (hFst x y)) ∧ W = w' := by
  go_enter Tryz.func185, Tryz.ntmps185
  go_wp2
  go_ret
  exact ⟨rfl, rfl⟩

theorem spInv_any (p : Sp) (w : World) :
    Calls Tryz.prog 182 #[.agg (encS p).toArray] w fun e w' => e = .returned (.bool (!decide (validS p))) ∧ Below w.heap.size w w' := by
  have hv := fun W => validS_any p W
  obtain ⟨a, b⟩ := p
  generalize decide (validS (a, b)) = r at hv ⊢
  show Calls Tryz.prog 182 #[.agg #[.int .i64 a, .int .i64 b]] w _
  change ∀ W, Calls Tryz.prog 183 #[.agg #[.int .i64 a, .int .i64 b]] W _ at hv
  go_enter Tryz.func182, Tryz.ntmps182
  go_wp2_with (go_at_call 183; refine (hv _).mono ?_; rintro e w1 ⟨rfl, hb⟩)
  go_ret
  exact ⟨rfl, ((Below.refl _ _).alloc (Nat.le_refl _) _).trans (hb.mono (by simp))⟩

theorem enter_fst : ∀ args w, (callFunc 185 args).run Tryz.prog w = .ok (.enter 185 args) w := enters_of Tryz.func185 (by kernel_rfl) rfl
theorem enter_spInv : ∀ args w, (callFunc 182 args).run Tryz.prog w = .ok (.enter 182 args) w := enters_of Tryz.func182 (by kernel_rfl) rfl

set_option maxHeartbeats 1000000 in
/-- span.Make of at most 400 valid spans. -/
theorem spanMake_ok {w : World} {v : Value} {l : List Sp} (hr : RdK encS 2 w w.heap.size v l) (hl : l.length ≤ 400) (hv : ∀ p ∈ l, validS p) :
    Calls Tryz.prog 143 #[v] w fun e w' => ∃ A c, e = .returned (.tuple #[.slice A (sjoin hFst l []).length c, .int .i64 0]) ∧ w'.ownsRow w.heap.size 188 2 (.slice A (sjoin hFst l []).length c) (sjoin hFst l []).length ((sjoin hFst l []).flatMap encS) ∧ Below w.heap.size w w' := by
  have hcf := cfSpan_any hr (by omega) 182 #[] (fun p => !decide (validS p)) enter_spInv (fun W x _ _ => spInv_any x W)
  have hany : l.any (fun p => !decide (validS p)) = false := by
    rw [List.any_eq_false]
    intro p hp
    simp [hv p hp]
  rw [hany] at hcf
  have hj := fun (W : World) (hb : Below w.heap.size w W) => sjoin_any l [] v (.slice none 0 0) W 185 hFst rfl enter_fst fst_any ((hr.below hb).mono hb.size) (RdK.nil none 0) (by omega) (by simp) hv (by simp)
  obtain ⟨A, c, rfl, _⟩ := hr
  have HCF := hide hcf
  have HJ := hide hj
  clear hcf hj hv hany
  generalize sjoin hFst l [] = r at *
  have hlz : (l.length : Int) ≤ 400 := by omega
  go_enter Tryz.func143, Tryz.ntmps143
  go_wp2_with (first
    | (go_at_call 181; refine HCF.out.mono ?_; rintro e w1 ⟨rfl, hb1⟩)
    | (go_at_call 184; refine (HJ.out _ hb1).mono ?_; rintro e w2 ⟨A2, c2, rfl, hr2, hb2⟩))
  go_ret2
  exact ⟨A2, c2, rfl, own_base hr2 hb1.size, hb1.trans (hb2.mono hb1.size)⟩
end Go.Proofs.YtdolpeljengpaaaGreat

/- Plain law: what region.made computes. -/
namespace Go.Proofs.YtdolpeljengpaaaGreat
set_option linter.unusedVariables false
set_option linter.unusedSimpArgs false

theorem flat1_len (a : Slab) : (flat1 a).length = a.s.length := by simp [flat1]
theorem addS_len (S : List Slab) (f t : Int) (s : List Sp) : (flat (addS S f t s)).length ≤ (flat S).length + s.length := by
  unfold addS
  by_cases h0 : s = []
  · rw [if_pos h0]; omega
  rw [if_neg h0]
  cases hg : S.getLast? with
  | none => simp only [flat_one, flat1_len]; omega
  | some a =>
    obtain ⟨o, rfl⟩ := List.getLast?_eq_some_iff.1 hg
    simp only [List.dropLast_concat]
    split
    · rename_i hb
      rw [flat_append, flat_append, flat_one, flat_one, List.length_append, List.length_append, flat1_len, flat1_len]
      show _ + s.length ≤ _
      omega
    · rw [flat_append, flat_one, List.length_append, flat1_len]
      show _ + s.length ≤ _
      omega
/-- The sweep over pairs of cuts. -/
def swp (g : Int → List Sp) (ps : List (Int × Int)) : List Slab := ps.foldl (fun S p => addS S p.1 p.2 (g p.1)) []
theorem swp_snoc (g : Int → List Sp) (ps : List (Int × Int)) (x : Int × Int) : swp g (ps ++ [x]) = addS (swp g ps) x.1 x.2 (g x.1) := by simp [swp]
theorem swp_len_from (g : Int → List Sp) (m : Nat) (hg : ∀ c, (g c).length ≤ m) : ∀ (ps : List (Int × Int)) (S : List Slab), (flat (ps.foldl (fun S p => addS S p.1 p.2 (g p.1)) S)).length ≤ (flat S).length + ps.length * m
  | [], S => by simp
  | p :: ps, S => by
    have h1 := swp_len_from g m hg ps (addS S p.1 p.2 (g p.1))
    have h2 := addS_len S p.1 p.2 (g p.1)
    have h3 := hg p.1
    simp only [List.foldl_cons, List.length_cons, Nat.add_mul]
    omega
theorem swp_len (g : Int → List Sp) (m : Nat) (hg : ∀ c, (g c).length ≤ m) (ps : List (Int × Int)) : (flat (swp g ps)).length ≤ ps.length * m := by
  have := swp_len_from g m hg ps []
  simpa [swp, flat] using this
theorem swp_sweep (g : Int → List Sp) (cs : List Int) : swp g (prs cs) = sweep g [] cs := (sweep_prs g cs []).symm
theorem sjoin_len (h : Bool → Bool → Bool) (a b : List Sp) : (sjoin h a b).length ≤ 2 * a.length + 2 * b.length := by
  have h1 := jout_len h (isort (evs 0 a ++ evs 1 b)) js0
  have h2 := (isort_perm (evs 0 a ++ evs 1 b)).length_eq
  rw [List.length_append, evs_length, evs_length] at h2
  have h3 : js0.out.length = 0 := rfl
  unfold sjoin jfold
  omega
theorem crossL_len (l : List R4) (c : Int) : (crossL l c).length ≤ l.length := by
  unfold crossL
  rw [List.length_map]
  exact List.length_filter_le _ _
/-- Neighbours among the pairs. -/
theorem prs_next : ∀ (cs : List Int) (pre : List (Int × Int)) (x : Int × Int) (post : List (Int × Int)), prs cs = pre ++ x :: post → (∀ p, pre.getLast? = some p → p.2 = x.1)
  | [], pre, x, post, h => by
    simp [prs] at h
  | [_], pre, x, post, h => by
    simp [prs] at h
  | c :: d :: r, [], x, post, h => by
    simp
  | c :: d :: r, q :: pre, x, post, h => by
    simp only [prs, List.cons_append, List.cons.injEq] at h
    obtain ⟨h1, h2⟩ := h
    intro p hp
    cases pre with
    | nil =>
      simp at hp
      subst hp
      subst h1
      cases r with
      | nil => simp [prs] at h2
      | cons e r =>
        simp only [prs, List.nil_append, List.cons.injEq] at h2
        rw [← h2.1]
    | cons q' pre => exact prs_next (d :: r) (q' :: pre) x post h2 p (by simpa [List.getLast?_cons_cons] using hp)
theorem prs_lt : ∀ (cs : List Int), cs.Pairwise (· < ·) → ∀ x ∈ prs cs, x.1 < x.2 ∧ x.1 ∈ cs
  | [], _, x, h => by simp [prs] at h
  | [_], _, x, h => by simp [prs] at h
  | c :: d :: r, hs, x, h => by
    simp only [prs, List.mem_cons] at h
    rcases h with rfl | h
    · exact ⟨(List.pairwise_cons.1 hs).1 d (by simp), by simp⟩
    · have := prs_lt (d :: r) (List.pairwise_cons.1 hs).2 x h
      exact ⟨this.1, by simp only [List.mem_cons] at this ⊢; exact .inr this.2⟩
/-- The sweep over whatever sorted cuts hold all xs is the joined list. -/
theorem swp_join {h : Bool → Bool → Bool} (h0 : h false false = false) {a b : List R4} (ha : ∀ r ∈ a, wf4 r) (hb : ∀ r ∈ b, wf4 r) {cs : List Int} (hs : cs.Pairwise (· < ·)) (hca : ∀ c ∈ cutsL a, c ∈ cs) (hcb : ∀ c ∈ cutsL b, c ∈ cs) :
    flat (swp (fun c => sjoin h (crossL a c) (crossL b c)) (prs cs)) = rjoin h a b := by
  rw [swp_sweep]
  obtain ⟨h1, h2⟩ := sweep_join (g := fun c => sjoin h (crossL a c) (crossL b c)) h0 hs hca hcb (fun c _ => sjoin_ok h0 (crossL_wf ha c) (crossL_wf hb c))
  exact rjoin_eq h0 ha hb h1 h2
/-- What made returns. -/
def madeF (l : List R4) : List R4 × Int := if 400 < (rjoin hFst l []).length then ([], 4) else (rjoin hFst l [], 0)
end Go.Proofs.YtdolpeljengpaaaGreat

/- Plain law: the reference's sorted lists, and its canonical list of spans. -/
namespace Go.Proofs.YtdolpeljengpaaaGreat
set_option linter.unusedVariables false
set_option linter.unusedSimpArgs false

def srt (l : List Int) : List Int := l.foldl (fun acc c => insI c acc) []
theorem srt_from : ∀ (l acc : List Int), acc.Pairwise (· < ·) → (l.foldl (fun acc c => insI c acc) acc).Pairwise (· < ·) ∧ ∀ x, x ∈ l.foldl (fun acc c => insI c acc) acc ↔ x ∈ l ∨ x ∈ acc
  | [], acc, h => ⟨h, by simp⟩
  | c :: l, acc, h => by
    obtain ⟨h1, h2⟩ := srt_from l (insI c acc) (insI_sorted c acc h)
    refine ⟨h1, fun x => ?_⟩
    simp only [List.foldl_cons]
    rw [h2, mem_insI]
    simp only [List.mem_cons]
    constructor
    · rintro (h | h | h)
      · exact .inl (.inr h)
      · exact .inl (.inl h)
      · exact .inr h
    · rintro ((h | h) | h)
      · exact .inr (.inl h)
      · exact .inl h
      · exact .inr (.inr h)
theorem srt_ok (l : List Int) : (srt l).Pairwise (· < ·) ∧ ∀ x, x ∈ srt l ↔ x ∈ l := by
  obtain ⟨h1, h2⟩ := srt_from l [] List.Pairwise.nil
  exact ⟨h1, fun x => by rw [show srt l = l.foldl (fun acc c => insI c acc) [] from rfl, h2]; simp⟩
/-- The canonical list: from each cut that is in to the next one. -/
def canF (cs : List Int) (bs : List Bool) : List Sp := ((prs cs).zip bs).foldl (fun out x => if x.2 then sext out x.1.1 x.1.2 else out) []
def canG (p : Int → Bool) : List Sp → List Int → List Sp
  | out, c :: d :: r => canG p (if p c then sext out c d else out) (d :: r)
  | out, _ => out
theorem sext_len (out : List Sp) (c d : Int) : (sext out c d).length ≤ out.length + 1 := by
  unfold sext
  split
  · split
    · simp
    · simp
  · simp
/-- The cuts in y. -/
def cutsY (l : List R4) : List Int := l.flatMap fun r => [r.y0, r.y1]
theorem mem_cutsY {l : List R4} {r : R4} (h : r ∈ l) : r.y0 ∈ cutsY l ∧ r.y1 ∈ cutsY l := by
  unfold cutsY
  exact ⟨List.mem_flatMap.2 ⟨r, h, by simp⟩, List.mem_flatMap.2 ⟨r, h, by simp⟩⟩
theorem pmem_sameY {l : List R4} {cs : List Int} (hcs : ∀ c ∈ cutsY l, c ∈ cs) {c d x y : Int} (hgap : ∀ e ∈ cs, e ≤ c ∨ d ≤ e) (h1 : c ≤ y) (h2 : y < d) : pmem l x y ↔ pmem l x c := by
  constructor
  · rintro ⟨r, hr, a, b, e, f⟩
    have g0 := hgap _ (hcs _ (mem_cutsY hr).1)
    have g1 := hgap _ (hcs _ (mem_cutsY hr).2)
    exact ⟨r, hr, a, b, by omega, by omega⟩
  · rintro ⟨r, hr, a, b, e, f⟩
    have g0 := hgap _ (hcs _ (mem_cutsY hr).1)
    have g1 := hgap _ (hcs _ (mem_cutsY hr).2)
    exact ⟨r, hr, a, b, by omega, by omega⟩
/-- The reference's cross-section at a cut. -/
def refG (h : Bool → Bool → Bool) (a b : List R4) (ys : List Int) (x : Int) : List Sp := canF ys (ys.map fun y => h (decide (pmem a x y)) (decide (pmem b x y)))
end Go.Proofs.YtdolpeljengpaaaGreat

/- Plain law: how far two regions are along each other: counted by moved rectangles, and by cells between cuts. -/
namespace Go.Proofs.YtdolpeljengpaaaGreat
set_option linter.unusedVariables false
set_option linter.unusedSimpArgs false

def mvA (x y : Int) (r : R4) : R4 := ⟨r.x0 + x, r.y0 + y, r.x1 + x, r.y1 + y⟩
def shF (a b : List R4) (x y : Int) : Int := (a.map fun p => (b.map fun q => box (meet4 (mvA x y p) q)).sum).sum
def ok4 (r : R4) : Bool := decide (r.x0 < r.x1) && decide (r.y0 < r.y1)
def bothP (p : R4) (b : List R4) : List R4 := (b.map (meet4 p)).filter ok4
def bothL (a b : List R4) : List R4 := a.flatMap fun p => bothP p b
def dirF (a b : List R4) (x y : Int) : Int := shF a b x y - shF (bothL a b) b x y - shF a (bothL a b) x y + shF (bothL a b) (bothL a b) x y
def alongC (a b : List R4) : Int := dirF a b 1 0 + dirF a b (-1) 0 + dirF a b 0 1 + dirF a b 0 (-1)
/-- A point of the first alone beside one of the second alone. -/
def hitZ (A B U V : Int) : Int := U * (1 - V) * (B * (1 - A)) + A * (1 - B) * (V * (1 - U))
def hit (a b : List R4) (X Y U V : Int) : Int := hitZ (one a X Y) (one b X Y) (one a U V) (one b U V)
def fits (m : Nat) (a : List R4) : Prop := a.Pairwise apart4 ∧ ∀ r ∈ a, inFr m r
/-! ### sums over cuts -/
/-! ### x and y change places -/
def fl4 (r : R4) : R4 := ⟨r.y0, r.x0, r.y1, r.x1⟩
/-! ### by cells -/
def inC (a : List R4) (xs ys : List Int) (i k : Int) : Bool := if i < 0 ∨ k < 0 then false else decide (pmem a (xs.getD i.toNat 0) (ys.getD k.toNat 0))
def hitB (p q u v : Bool) : Bool := p != q && (u == q && v == p)
def tL (a b : List R4) (xs ys : List Int) (i k : Nat) : Int := if hitB (inC a xs ys i k) (inC b xs ys i k) (inC a xs ys ((i : Int) - 1) k) (inC b xs ys ((i : Int) - 1) k) = true ∧ k + 1 < ys.length then ys.getD (k + 1) 0 - ys.getD k 0 else 0
def tB (a b : List R4) (xs ys : List Int) (i k : Nat) : Int := if hitB (inC a xs ys i k) (inC b xs ys i k) (inC a xs ys i ((k : Int) - 1)) (inC b xs ys i ((k : Int) - 1)) = true ∧ i + 1 < xs.length then xs.getD (i + 1) 0 - xs.getD i 0 else 0
def rowA (a b : List R4) (xs ys : List Int) (i n : Nat) : Int := ((List.range n).map fun k => tL a b xs ys i k + tB a b xs ys i k).sum
def alongR (a b : List R4) (xs ys : List Int) (n : Nat) : Int := ((List.range n).map fun i => rowA a b xs ys i ys.length).sum
end Go.Proofs.YtdolpeljengpaaaGreat

/- Plain law: the fronts of a lot's lots; lots that are turned or moved. -/
namespace Go.Proofs.YtdolpeljengpaaaGreat
set_option linter.unusedVariables false
set_option linter.unusedSimpArgs false

def isSide (s : Int) : Prop := s = 1 ∨ s = 2 ∨ s = 4 ∨ s = 8
def onS (a b : R4) (s : Int) : Bool := if s = 1 then decide (a.x0 = b.x0) else if s = 2 then decide (a.x1 = b.x1) else if s = 4 then decide (a.y0 = b.y0) else decide (a.y1 = b.y1)
/-! ### moved -/
def moveL (x y : Int) (l : Lot5) : Lot5 := ⟨mvA x y l.r, l.f⟩
/-! ### x and y change places -/
def turnF (f : Int) : Int := (if hasS f 1 = true then 4 else 0) + (if hasS f 2 = true then 8 else 0) + (if hasS f 4 = true then 1 else 0) + (if hasS f 8 = true then 2 else 0)
def turnL (l : Lot5) : Lot5 := ⟨fl4 l.r, turnF l.f⟩
end Go.Proofs.YtdolpeljengpaaaGreat

/- slices.Sort and slices.Compact on a row of the call's own. -/
namespace Go.Proofs.YtdolpeljengpaaaGreat
open Go.RowKit Go.Sort
set_option linter.unusedVariables false
set_option linter.unusedSimpArgs false

abbrev iv (x : Int) : Value := .int .i64 x
theorem own_grow {w : World} {base size : Nat} {e : TypeId} {v : Value} {n : Nat} {xs : List Value} (h : w.ownsRow base e size v n xs) (os : Array Obj) : (grow w os).ownsRow base e size v n xs := by
  refine ⟨h.1, ?_⟩
  rcases h.2 with hn | ⟨g, cap, cur, hv, hg, hh, r⟩
  · exact .inl hn
  · refine .inr ⟨g, cap, cur, hv, hg, ?_, r⟩
    show (w.heap ++ os)[g]? = _
    rw [Array.getElem?_append_left (Array.getElem?_eq_some_iff.1 hh).1]
    exact hh
theorem putRow_grown {α : Type} [Inhabited α] {enc : α → Value} (w : World) (q g : Nat) (d : Array α) (os : Array Obj) : w.grownBy (grow (putRow enc (Sort.ahead w q) g 0 d) os) (some g) := by
  refine ⟨rfl, rfl, rfl, ?_, fun k hk hne => ?_⟩
  · show w.heap.size ≤ (_ ++ os).size
    simp [putRow, mapBlock, Sort.ahead]
  · have hg : g ≠ k := fun e => hne (by rw [e])
    show ((putRow enc (Sort.ahead w q) g 0 d).heap ++ os)[k]? = _
    rw [Array.getElem?_append_left (by simpa [putRow, mapBlock, Sort.ahead] using hk)]
    simp [putRow, mapBlock, Sort.ahead, Array.getElem?_modify, hg]
theorem grown_self (w : World) (row : Option Nat) : w.grownBy w row := ⟨rfl, rfl, rfl, Nat.le_refl _, fun _ _ _ => rfl⟩
theorem own_form {w : World} {base size : Nat} {e : TypeId} {v : Value} {n : Nat} {xs : List Value} (h : w.ownsRow base e size v n xs) : ∃ A c, v = .slice A n c := by
  rcases h.2 with ⟨rfl, rfl⟩ | ⟨g, cap, cur, rfl, _⟩
  · exact ⟨_, _, rfl⟩
  · exact ⟨_, _, rfl⟩

theorem sortI_any (base : Nat) (v : Value) (zs : List Int) (w : World) (hown : w.ownsRow base 3 1 v zs.length (zs.map iv)) (hsz : zs.length < 4611686018427387904) :
    Calls Tryz.prog 178 #[v] w fun e w' => e = .returned (.tuple #[]) ∧ w'.ownsRow base 3 1 v zs.length ((zs.mergeSort fun x y => decide (x ≤ y)).map iv) ∧ w.grownBy w' v.ownBlock := by
  by_cases h0 : zs = []
  · subst h0
    obtain ⟨A, c, rfl⟩ := own_form hown
    refine (Tryz.slices_Sort_int_none A c w).mono ?_
    rintro e w' ⟨rfl, rfl⟩
    exact ⟨rfl, by simpa using hown, grown_self _ _⟩
  · have hv : v ≠ .slice none 0 0 := by
      rintro rfl
      rcases hown.2 with ⟨_, h⟩ | ⟨g, cap, cur, h, _⟩
      · exact h0 (List.eq_nil_of_length_eq_zero h)
      · cases h
    obtain ⟨g, cap, rfl, hb, hg, hn, hm, _, hH⟩ := Lib.holds_of_ownsRow hown hv
    refine (Tryz.slices_Sort_int g 0 cap zs w hH hg hsz).mono ?_
    rintro e w' ⟨rfl, n, os, rfl⟩
    refine ⟨rfl, own_grow ?_ os, putRow_grown _ _ _ _ _⟩
    have hl : (zs.mergeSort fun x y => decide (x ≤ y)).length = zs.length := List.length_mergeSort zs
    have := Lib.ownsRow_putRow (enc := iv) (q := n) (k := zs.length) (ys := zs.mergeSort fun x y => decide (x ≤ y)) hown hl (Nat.le_refl _)
    rw [List.take_of_length_le (by omega)] at this
    exact this

theorem compI_any (base : Nat) (v : Value) (zs : List Int) (w : World) (hown : w.ownsRow base 3 1 v zs.length (zs.map iv)) (hsz : zs.length < 4611686018427387904) :
    Calls Tryz.prog 179 #[v] w fun e w' => ∃ v', e = .returned v' ∧ v'.ownBlock = v.ownBlock ∧ w'.ownsRow base 3 1 v' (Lib.compact zs).length ((Lib.compact zs).map iv) ∧ w.grownBy w' v.ownBlock := by
  by_cases h0 : zs = []
  · subst h0
    obtain ⟨A, c, rfl⟩ := own_form hown
    refine (Tryz.slices_Compact_int_empty A c w).mono ?_
    rintro e w' ⟨rfl, rfl⟩
    exact ⟨_, rfl, rfl, hown, grown_self _ _⟩
  · have hv : v ≠ .slice none 0 0 := by
      rintro rfl
      rcases hown.2 with ⟨_, h⟩ | ⟨g, cap, cur, h, _⟩
      · exact h0 (List.eq_nil_of_length_eq_zero h)
      · cases h
    obtain ⟨g, cap, rfl, hb, hg, hn, hm, _, hH⟩ := Lib.holds_of_ownsRow hown hv
    refine (Tryz.slices_Compact_int g 0 cap zs w hH (by omega) hn).mono ?_
    rintro e w' ⟨rfl, q, rfl⟩
    have hle : (Lib.compact zs).length ≤ zs.length := Lib.compact_length_le zs
    have := Lib.ownsRow_putRow (enc := iv) (q := q) (k := (Lib.compact zs).length) (ys := Lib.compact zs ++ List.replicate (zs.length - (Lib.compact zs).length) 0) hown (by simp; omega) hle
    rw [List.take_left] at this
    refine ⟨_, rfl, rfl, this, ?_⟩
    have h2 := putRow_grown (enc := iv) w q g (Lib.compact zs ++ List.replicate (zs.length - (Lib.compact zs).length) 0).toArray #[]
    rwa [Go.Sort.grow_empty] at h2
end Go.Proofs.YtdolpeljengpaaaGreat

/- A region that draws its order: reads that stay as they are under a condition S, and a tail in one order. The operation L, which waits for all reads (the store at the end), may break S. -/
namespace Go.Proofs.YtdolpeljengpaaaGreat
open Go.RowKit
set_option linter.unusedVariables false
set_option linter.unusedSimpArgs false

section
variable {P : Program} {ops : Array Oper} {Q : Exit → Act → World → Prop} {md : Region.Mode} {S : World → Prop}

/-- Whatever order is picked from here on, and S holds behind each operation but L. -/
def wpAnyE (P : Program) (md : Region.Mode) (ops : Array Oper) (Q : Exit → Act → World → Prop) (S : World → Prop) (L : Nat) : Nat → Array Bool → Act → World → Prop
  | 0, listed, a, w => Region.ready md ops listed = [] ∧ Q .normal a w
  | fuel + 1, listed, a, w =>
    (Region.ready md ops listed = [] → Q .normal a w) ∧
    ∀ i ∈ Region.ready md ops listed, wpOp P ops Q i (fun a' w' => (i ≠ L → S w') ∧ wpAnyE P md ops Q S L fuel (listed.setIfInBounds i true) a' w') a w

variable {L : Nat}
theorem wpAny_of_E : ∀ (fuel : Nat) (listed : Array Bool) (a : Act) (w : World), wpAnyE P md ops Q S L fuel listed a w → wpAny P md ops Q fuel listed a w
  | 0, _, _, _, h => h
  | fuel + 1, _, _, _, h => ⟨h.1, fun i hi => wpOp_mono (fun a' w' h' => wpAny_of_E fuel _ a' w' h'.2) (h.2 i hi)⟩

theorem wpAnyE_first {i : Nat} {oi : Oper} {v : Value} (hi : ops[i]? = some oi) (hsel : ∀ (j : Nat) (o : Oper) cs b, ops[j]? = some o → o.op ≠ .select cs b)
    (hQ : ∀ c a w, Q (.panic c) (a.put oi.dst v) w → Q (.panic c) a w) (hL : ∀ o, ops[L]? = some o → ∃ e ∈ o.after, Region.binds md e = true ∧ e.on = i) :
    ∀ (fuel : Nat) (listed : Array Bool) (a : Act) (w : World),
      (∀ j oj, ops[j]? = some oj → j ≠ i → listed.getD j true = false → (∀ e ∈ oj.after, Region.binds md e = true → e.on ≠ i) → oi.apart ops oj = true) →
      i ∈ Region.ready md ops listed → YieldsIf P ops S oi v a → S w →
      wpAnyE P md ops Q S L fuel (listed.setIfInBounds i true) (a.put oi.dst v) w → wpAnyE P md ops Q S L (fuel + 1) listed a w := by
  intro fuel
  induction fuel with
  | zero =>
    intro listed a w _ hr hy hS H
    refine ⟨fun h => (by rw [h] at hr; cases hr), fun j hj => ?_⟩
    by_cases hji : j = i
    · subst hji; exact hy.wpOp hi hS ⟨fun _ => hS, H⟩
    · have := ready_mono hj hji
      rw [H.1] at this
      cases this
  | succ fuel ih =>
    intro listed a w hfree hr hy hS H
    refine ⟨fun h => (by rw [h] at hr; cases hr), fun j hj => ?_⟩
    by_cases hji : j = i
    · subst hji; exact hy.wpOp hi hS ⟨fun _ => hS, H⟩
    · have h1 := H.2 j (ready_mono hj hji)
      obtain ⟨hjun, oj, hoj, hall⟩ := mem_ready.1 hj
      have hnot : ∀ e ∈ oj.after, Region.binds md e = true → e.on ≠ i := fun e he hb heq => by
        have g1 := hall e he hb
        have g0 := (mem_ready.1 hr).1
        rw [heq] at g1
        rcases Nat.lt_or_ge i listed.size with h' | h'
        · simp [h'] at g0 g1; rw [g0] at g1; cases g1
        · simp [Array.getElem?_eq_none h'] at g1
      have hjL : j ≠ L := by
        rintro rfl
        obtain ⟨e, he, hb, hon⟩ := hL oj hoj
        exact hnot e he hb hon
      have h2 := wpOp_putIf hoj (hfree j oj hoj hji hjun hnot) (fun cs b => hsel i oi cs b hi) (fun cs b => hsel j oj cs b hoj) hQ hy h1
      have hfree' : ∀ k ok, ops[k]? = some ok → k ≠ i → (listed.setIfInBounds j true).getD k true = false →
          (∀ e ∈ ok.after, Region.binds md e = true → e.on ≠ i) → oi.apart ops ok = true := fun k ok hk hki hun hno => by
        refine hfree k ok hk hki ?_ hno
        by_cases hjk : j = k
        · subst hjk; exact hjun
        · rw [getD_set_ne true hjk] at hun; exact hun
      refine wpOp_mono (fun a' w' h3 => ⟨fun _ => h3.2.1 hjL, ih (listed.setIfInBounds j true) a' w' hfree' (ready_mono hr (Ne.symm hji)) h3.1 (h3.2.1 hjL) ?_⟩) h2
      rw [Array.setIfInBounds_comm _ _ hji]
      exact h3.2.2

/-! ### One law for the whole region: n reads, in the order of the text, then a tail in one order -/
def pre (m : Nat) : Nat → Array Bool
  | 0 => Array.replicate m false
  | k + 1 => (pre m k).setIfInBounds k true
def waitsFor (md : Region.Mode) (ops : Array Oper) (L i : Nat) : Bool := match ops[L]? with | some o => o.after.any (fun e => Region.binds md e && e.on == i) | none => true
def heldB (md : Region.Mode) (ops : Array Oper) (n : Nat) : Bool :=
  Region.noSelect ops && decide (n < ops.size) && (List.range n).all (fun i => Region.free md ops (pre ops.size i) i && (Region.ready md ops (pre ops.size i)).contains i && waitsFor md ops (ops.size - 1) i) &&
    (List.range (ops.size - n)).all (fun j => Region.ready md ops (pre ops.size (n + j)) == [n + j]) && (Region.ready md ops (pre ops.size ops.size)).isEmpty

/-- The reads, one behind the other: each yields its value in every world that meets S. -/
def wpReads (P : Program) (ops : Array Oper) (S : World → Prop) (K : Act → Prop) : List Oper → Act → Prop
  | [], a => K a
  | o :: r, a => ∃ v, YieldsIf P ops S o v a ∧ wpReads P ops S K r (a.put o.dst v)
/-- The tail, one operation behind the other; behind each but the last S is shown anew. -/
def wpTail (P : Program) (ops : Array Oper) (S : World → Prop) (Q : Exit → Act → World → Prop) : List Oper → Act → World → Prop
  | [], a, w => Q .normal a w
  | o :: r, a, w => ∀ K : Act → World → Prop, (∀ a' w', (r ≠ [] → S w') → wpTail P ops S Q r a' w' → K a' w') → if Region.wanted o (yielded ops a.tmps) = true then o.wp P a w K Q else K (a.put o.dst undef) w
theorem wpTail_E {n : Nat} {l : List Oper} (hT : ∀ j, j < l.length - n → Region.ready md l.toArray (pre l.length (n + j)) = [n + j]) (hE : Region.ready md l.toArray (pre l.length l.length) = []) :
    ∀ (r : List Oper) (k : Nat) (a : Act) (w : World), n ≤ k → k + r.length = l.length → l.drop k = r → wpTail P l.toArray S Q r a w → wpAnyE P md l.toArray Q S (l.length - 1) r.length (pre l.length k) a w
  | [], k, a, w, hk, hl, hd, h => by
    obtain rfl : k = l.length := by simpa using hl
    exact ⟨hE, h⟩
  | o :: r, k, a, w, hk, hl, hd, h => by
    have hkl : k < l.length := by simp at hl; omega
    have hr := hT (k - n) (by omega)
    rw [show n + (k - n) = k by omega] at hr
    have ho : l.toArray[k]? = some o := by
      have : (l.drop k)[0]? = some o := by rw [hd]; rfl
      simpa using this
    have hd' : l.drop (k + 1) = r := by rw [← List.drop_drop, hd]; rfl
    refine ⟨fun h0 => (by rw [hr] at h0; cases h0), fun i hi => ?_⟩
    rw [hr] at hi
    obtain rfl : i = k := by simpa using hi
    refine wpOp_step ho fun K' hK => h K' fun a' w' hS hT' => hK a' w' ⟨fun hne => hS ?_, ?_⟩
    · rintro rfl
      simp at hl
      omega
    · exact wpTail_E hT hE r (i + 1) a' w' (by omega) (by simp at hl; omega) hd' hT'
theorem wpReads_E {n : Nat} {l : List Oper} (hsel : ∀ (j : Nat) (o : Oper) cs b, l.toArray[j]? = some o → o.op ≠ .select cs b) (hQ : ∀ c a a' w, Q (.panic c) a w → Q (.panic c) a' w)
    (hF : ∀ i, i < n → Region.free md l.toArray (pre l.length i) i = true ∧ i ∈ Region.ready md l.toArray (pre l.length i) ∧ waitsFor md l.toArray (l.length - 1) i = true) (hn : n ≤ l.length)
    {w : World} (hS : S w) (K : Act → Prop) (hK : ∀ a, K a → wpAnyE P md l.toArray Q S (l.length - 1) (l.length - n) (pre l.length n) a w) :
    ∀ (r : List Oper) (i : Nat) (a : Act), i + r.length = n → (l.take n).drop i = r → wpReads P l.toArray S K r a → wpAnyE P md l.toArray Q S (l.length - 1) (l.length - i) (pre l.length i) a w
  | [], i, a, hi, hd, h => by
    obtain rfl : i = n := by simpa using hi
    exact hK a h
  | o :: r, i, a, hi, hd, h => by
    have hin : i < n := by simp at hi; omega
    obtain ⟨f1, f2, f3⟩ := hF i hin
    obtain ⟨v, hy, h⟩ := h
    have ho : l.toArray[i]? = some o := by
      have : ((l.take n).drop i)[0]? = some o := by rw [hd]; rfl
      rw [List.getElem?_drop, List.getElem?_take] at this
      simpa [hin] using this
    have hd' : (l.take n).drop (i + 1) = r := by rw [← List.drop_drop, hd]; rfl
    have ih := wpReads_E hsel hQ hF hn hS K hK r (i + 1) (a.put o.dst v) (by simp at hi; omega) hd' h
    have e : l.length - i = (l.length - (i + 1)) + 1 := by omega
    rw [e]
    refine wpAnyE_first ho hsel (fun c a w h => hQ c _ _ w h) ?_ _ _ _ _ (Region.free_spec ho f1) f2 hy hS ih
    intro oL hoL
    unfold waitsFor at f3
    rw [hoL] at f3
    obtain ⟨e, he, h2⟩ := Array.any_eq_true'.1 f3
    simp only [Bool.and_eq_true, beq_iff_eq] at h2
    exact ⟨e, he, h2.1, h2.2⟩
/-- **The law.** -/
theorem wp_region_reads {id : Nat} {a : Act} {w : World} {l : List Oper} (n : Nat) (S : World → Prop) (hm : P.follows .mixedOrders = true) (hB : heldB .any l.toArray n = true) (hS : S w.drew)
    (h : wpReads P l.toArray S (fun a' => wpTail P l.toArray S (NoPanic Q) (l.drop n) a' w.drew) (l.take n) a) : (Code.region id l.toArray true).wp P Q a w := by
  refine wp_region_noPanic (wp_region_any hm (wpAny_of_E (S := S) (L := l.length - 1) _ _ _ _ ?_))
  simp only [heldB, Bool.and_eq_true, decide_eq_true_eq, List.all_eq_true, List.mem_range, beq_iff_eq, List.isEmpty_iff, List.size_toArray, List.contains_iff_mem] at hB
  obtain ⟨⟨⟨⟨b1, b2⟩, b3⟩, b4⟩, b5⟩ := hB
  have := wpReads_E (Q := NoPanic Q) (S := S) (n := n) (l := l) (w := w.drew) (Region.noSelect_spec b1) (fun _ _ _ _ h => h) (fun i hi => ⟨(b3 i hi).1.1, (b3 i hi).1.2, (b3 i hi).2⟩) (by omega) hS _
    (fun a' h' => by
      have h2 := wpTail_E (S := S) (n := n) b4 b5 (l.drop n) n a' w.drew (Nat.le_refl _) (by simp; omega) rfl h'
      rw [List.length_drop] at h2
      exact h2) (l.take n) 0 a (by simp; omega) rfl h
  simpa [pre] using this

/-! ### The same, where the reads hang on no cell: nothing is to be kept -/
def heldB0 (md : Region.Mode) (ops : Array Oper) (n : Nat) : Bool :=
  Region.noSelect ops && decide (n ≤ ops.size) && (List.range n).all (fun i => Region.free md ops (pre ops.size i) i && (Region.ready md ops (pre ops.size i)).contains i) &&
    (List.range (ops.size - n)).all (fun j => Region.ready md ops (pre ops.size (n + j)) == [n + j]) && (Region.ready md ops (pre ops.size ops.size)).isEmpty
/-! ### Reads that stand between calls: R, the reads, in an order in which they may come up; T, all else, in the one order that it has -/
def opAt (l : List Oper) (i : Nat) : Oper := (l[i]?).getD ⟨none, .move (.const undef), 0, "", #[], none⟩
def mixTB (md : Region.Mode) (ops : Array Oper) : List Nat → Array Bool → Bool
  | [], l => (Region.ready md ops l).isEmpty
  | t :: r, l => (Region.ready md ops l == [t]) && mixTB md ops r (l.setIfInBounds t true)
def mixRB (md : Region.Mode) (ops : Array Oper) (T : List Nat) : List Nat → Array Bool → Bool
  | [], l => mixTB md ops T l
  | i :: r, l => Region.free md ops l i && (Region.ready md ops l).contains i && waitsFor md ops (ops.size - 1) i && mixRB md ops T r (l.setIfInBounds i true)
def mixB (md : Region.Mode) (ops : Array Oper) (R T : List Nat) : Bool := Region.noSelect ops && decide (R.length + T.length = ops.size) && (T.getLast? == some (ops.size - 1)) && mixRB md ops T R (Array.replicate ops.size false)
theorem opAt_some {l : List Oper} {i : Nat} {o : Oper} (h : l[i]? = some o) : opAt l i = o := by simp [opAt, h]
theorem wpTail_mix {l : List Oper} : ∀ (T : List Nat) (listed : Array Bool) (a : Act) (w : World), (∀ t, T.getLast? = some t → t = l.length - 1) → mixTB md l.toArray T listed = true → wpTail P l.toArray S Q (T.map (opAt l)) a w → wpAnyE P md l.toArray Q S (l.length - 1) T.length listed a w
  | [], listed, a, w, _, hT, h => by
    simp only [mixTB, List.isEmpty_iff] at hT
    exact ⟨hT, h⟩
  | t :: r, listed, a, w, hL, hT, h => by
    simp only [mixTB, Bool.and_eq_true, beq_iff_eq] at hT
    refine ⟨fun h0 => (by rw [hT.1] at h0; cases h0), fun i hi => ?_⟩
    obtain ⟨_, o, ho, _⟩ := mem_ready.1 hi
    rw [hT.1] at hi
    obtain rfl : i = t := by simpa using hi
    have ho' : l[i]? = some o := by simpa using ho
    simp only [List.map_cons, opAt_some ho'] at h
    refine wpOp_step ho fun K' hK => h K' fun a' w' hS hT' => hK a' w' ⟨fun hne => hS fun hr => hne ?_, ?_⟩
    · have : r = [] := by simpa using hr
      subst this
      exact hL i rfl
    · refine wpTail_mix r _ a' w' (fun q hq => ?_) hT.2 hT'
      cases r with
      | nil => cases hq
      | cons x r => exact hL q (by rw [List.getLast?_cons_cons]; exact hq)
theorem wpReads_mix {l : List Oper} {T : List Nat} (hsel : ∀ (j : Nat) (o : Oper) cs b, l.toArray[j]? = some o → o.op ≠ .select cs b) (hQ : ∀ c a a' w, Q (.panic c) a w → Q (.panic c) a' w) (hL : ∀ t, T.getLast? = some t → t = l.length - 1)
    {w : World} (hS : S w) : ∀ (R : List Nat) (listed : Array Bool) (a : Act), mixRB md l.toArray T R listed = true → wpReads P l.toArray S (fun a' => wpTail P l.toArray S Q (T.map (opAt l)) a' w) (R.map (opAt l)) a →
      wpAnyE P md l.toArray Q S (l.length - 1) (R.length + T.length) listed a w
  | [], listed, a, hR, h => by
    rw [List.length_nil, Nat.zero_add]
    exact wpTail_mix T listed a w hL hR h
  | i :: r, listed, a, hR, h => by
    simp only [mixRB, Bool.and_eq_true, List.contains_iff_mem] at hR
    obtain ⟨⟨⟨f1, f2⟩, f3⟩, f4⟩ := hR
    obtain ⟨_, o, ho, _⟩ := mem_ready.1 f2
    have ho' : l[i]? = some o := by simpa using ho
    simp only [List.map_cons, opAt_some ho'] at h
    obtain ⟨v, hy, h⟩ := h
    have ih := wpReads_mix hsel hQ hL hS r _ _ f4 h
    rw [List.length_cons, Nat.add_right_comm]
    refine wpAnyE_first ho hsel (fun c a w h => hQ c _ _ w h) ?_ _ _ _ _ (Region.free_spec ho f1) f2 hy hS ih
    intro oL hoL
    unfold waitsFor at f3
    simp only [List.size_toArray] at f3
    rw [hoL] at f3
    obtain ⟨e, he, h2⟩ := Array.any_eq_true'.1 f3
    simp only [Bool.and_eq_true, beq_iff_eq] at h2
    exact ⟨e, he, h2.1, h2.2⟩
/-- **The law.** -/
theorem wp_region_mix {id : Nat} {a : Act} {w : World} {l : List Oper} (R T : List Nat) (S : World → Prop) (hm : P.follows .mixedOrders = true) (hB : mixB .any l.toArray R T = true) (hS : S w.drew)
    (h : wpReads P l.toArray S (fun a' => wpTail P l.toArray S (NoPanic Q) (T.map (opAt l)) a' w.drew) (R.map (opAt l)) a) : (Code.region id l.toArray true).wp P Q a w := by
  refine wp_region_noPanic (wp_region_any hm (wpAny_of_E (S := S) (L := l.length - 1) _ _ _ _ ?_))
  simp only [mixB, Bool.and_eq_true, decide_eq_true_eq, beq_iff_eq, List.size_toArray] at hB
  obtain ⟨⟨⟨b1, b2⟩, b3⟩, b4⟩ := hB
  have := wpReads_mix (Q := NoPanic Q) (S := S) (l := l) (T := T) (w := w.drew) (Region.noSelect_spec b1) (fun _ _ _ _ h => h) (fun t ht => by rw [b3] at ht; injection ht with ht; exact ht.symm) hS R _ a b4 h
  rw [b2] at this
  exact this
end
end Go.Proofs.YtdolpeljengpaaaGreat

/- slices.Equal at []Span: two lists are one. -/
namespace Go.Proofs.YtdolpeljengpaaaGreat
open Go.RowKit
set_option linter.unusedVariables false
set_option linter.unusedSimpArgs false

set_option maxHeartbeats 2000000 in
theorem eqSpan_any {w : World} {vs vt : Value} {s t : List Sp} {B C : Nat} (hs : RdK encS 2 w B vs s) (ht : RdK encS 2 w C vt t) (ns : s.length ≤ 100000000) (hB : B ≤ w.heap.size) (hC : C ≤ w.heap.size) :
    Calls Tryz.prog 186 #[vs, vt] w fun e w' => e = .returned (.bool (decide (s = t))) ∧ Below w.heap.size w w' := by
  obtain ⟨A1, c1, rfl, h1⟩ := hs
  obtain ⟨A2, c2, rfl, h2⟩ := ht
  have g : Tryz.prog.eqGuardType Tryz.prog.depth 188 = false := by kernel_rfl
  have H1 := hide h1
  have H2 := hide h2
  clear h1 h2
  go_enter Tryz.func186, Tryz.ntmps186
  by_cases hl : s.length = t.length
  · have hne : ((s.length : Int) != (t.length : Int)) = false := by rw [hl]; simp
    have HL := hide hl
    clear hl
    go_wp2
    go_loopw [13] (fun i wr => ∃ k : Nat, k ≤ s.length ∧ i = .int .i64 k ∧ Hid (s.take k = t.take k) ∧ Below w.heap.size w wr) (fun i _ => s.length - (intOf i).toNat)
    case atStart => exact ⟨0, Nat.zero_le _, rfl, hide rfl, Below.refl _ _⟩
    case round =>
      obtain ⟨k, hk, rfl, HT, hb⟩ := hrel
      by_cases hlt : k < s.length
      · obtain ⟨⟨a, b⟩, hp⟩ : ∃ p, s[k]? = some p := ⟨_, List.getElem?_eq_getElem hlt⟩
        have hlt2 : k < t.length := by rw [← HL.out]; exact hlt
        obtain ⟨⟨c, d⟩, hq⟩ : ∃ p, t[k]? = some p := ⟨_, List.getElem?_eq_getElem hlt2⟩
        obtain ⟨b1, o1, rfl, hb1, k1⟩ := H1.out (by intro e; rw [e] at hlt; simp at hlt)
        obtain ⟨b2, o2, rfl, hb2, k2⟩ := H2.out (by intro e; rw [e] at hlt2; simp at hlt2)
        have x0 : wr.cell? ⟨b1, o1 + k * 2, none⟩ = some (.int .i64 a) := (hb.cell (p := ⟨b1, _, none⟩) (by show b1 < _; omega)).trans (k1 k _ hp 0 _ rfl)
        have x1 : wr.cell? ⟨b1, o1 + k * 2 + 1, none⟩ = some (.int .i64 b) := (hb.cell (p := ⟨b1, _, none⟩) (by show b1 < _; omega)).trans (k1 k _ hp 1 _ rfl)
        have y0 : wr.cell? ⟨b2, o2 + k * 2, none⟩ = some (.int .i64 c) := (hb.cell (p := ⟨b2, _, none⟩) (by show b2 < _; omega)).trans (k2 k _ hq 0 _ rfl)
        have y1 : wr.cell? ⟨b2, o2 + k * 2 + 1, none⟩ = some (.int .i64 d) := (hb.cell (p := ⟨b2, _, none⟩) (by show b2 < _; omega)).trans (k2 k _ hq 1 _ rfl)
        have z1 : (k : Int) < (s.length : Int) := by omega
        have z2 : (k : Int) < (t.length : Int) := by omega
        have HP := hide hp
        have HQ := hide hq
        clear hp hq k1 k2
        by_cases hac : a = c
        · by_cases hbd : b = d
          · subst hac; subst hbd
            go_wp2
            go_region
            go_wp2
            go_roundw
            case rel =>
              refine ⟨k + 1, by omega, by go_num, hide ?_, hb.drew⟩
              obtain ⟨i1, e1⟩ := List.getElem?_eq_some_iff.1 HP.out
              obtain ⟨i2, e2⟩ := List.getElem?_eq_some_iff.1 HQ.out
              rw [List.take_succ_eq_append_getElem i1, List.take_succ_eq_append_getElem i2, HT.out, e1, e2]
            case measure => simp [intOf]; omega
          · subst hac
            have hd : decide (s = t) = false := decide_eq_false fun e => by
              subst e
              have := HP.out.symm.trans HQ.out
              injection this with this
              injection this with _ h2
              exact hbd h2
            have HD := hide hd
            clear hd
            go_wp2
            go_region
            go_wp2
            go_ret
            exact ⟨ret_eq (bool_eq HD.out.symm), hb.drew⟩
        · have hd : decide (s = t) = false := decide_eq_false fun e => by
            subst e
            have := HP.out.symm.trans HQ.out
            injection this with this
            injection this with h2 _
            exact hac h2
          have HD := hide hd
          clear hd
          go_wp2
          go_region
          go_wp2
          go_ret
          exact ⟨ret_eq (bool_eq HD.out.symm), hb.drew⟩
      · have hlz : ¬ (k : Int) < (s.length : Int) := by omega
        have hd : decide (s = t) = true := decide_eq_true (by
          have := HT.out
          rw [List.take_of_length_le (by omega), List.take_of_length_le (by rw [← HL.out]; omega)] at this
          exact this)
        have HD := hide hd
        clear hd
        go_wp2
        go_ret
        exact ⟨ret_eq (bool_eq HD.out.symm), hb⟩
  · have hne : ((s.length : Int) != (t.length : Int)) = true := by simp; omega
    have hd : decide (s = t) = false := decide_eq_false fun e => hl (by rw [e])
    rw [hd]
    clear hl hd
    go_wp2
    go_ret
    exact ⟨rfl, Below.refl _ _⟩
end Go.Proofs.YtdolpeljengpaaaGreat

/- region's builder: its cells, and 'result'. -/
namespace Go.Proofs.YtdolpeljengpaaaGreat
open Go.RowKit
set_option linter.unusedVariables false
set_option linter.unusedSimpArgs false

/-- The builder in block bb has put the slabs S together; its rows lie at or above Bo. -/
structure BW (bb Bo : Nat) (S : List Slab) (last : List Sp) (first : Nat) (e : Int) (W : World) : Prop where
  low : bb < Bo
  size : Bo ≤ W.heap.size
  out : ∃ vo, W.cell? ⟨bb, 0, none⟩ = some vo ∧ W.ownsRow Bo 69 4 vo (flat S).length ((flat S).flatMap encR)
  la : ∃ vl, W.cell? ⟨bb, 1, none⟩ = some vl ∧ W.ownsRow Bo 188 2 vl last.length (last.flatMap encS)
  fi : W.cell? ⟨bb, 2, none⟩ = some (.int .i64 first)
  en : W.cell? ⟨bb, 3, none⟩ = some (.int .i64 e)
  fz : ∀ j, W.frozen? ⟨bb, j, none⟩ = false
  inv : BInv S last first e

set_option maxHeartbeats 1000000 in
theorem result_any {bb Bo : Nat} {S : List Slab} {last : List Sp} {first : Nat} {e : Int} {w : World} (h : BW bb Bo S last first e w) (hn : (flat S).length ≤ 1000000000) :
    Calls Tryz.prog 145 #[.pointer (some ⟨bb, 0, none⟩)] w fun r w' => w = w' ∧
      ((400 < (flat S).length ∧ r = .returned (.tuple #[.slice none 0 0, .int .i64 4])) ∨ ((flat S).length ≤ 400 ∧ ∃ A c, r = .returned (.tuple #[.slice A (flat S).length c, .int .i64 0]) ∧ w.ownsRow Bo 69 4 (.slice A (flat S).length c) (flat S).length ((flat S).flatMap encR))) := by
  obtain ⟨vo, h0, ho⟩ := h.out
  obtain ⟨A, c, hv, _⟩ := own_rd ho (fun _ => rfl)
  subst hv
  have HO := hide ho
  clear ho
  generalize (flat S).length = n at *
  by_cases h4 : 400 < n
  · have hz : (400 : Int) < (n : Int) := by omega
    go_enter Tryz.func145, Tryz.ntmps145
    go_wp2
    go_ret2
    exact ⟨rfl, .inl ⟨h4, rfl⟩⟩
  · have hz : (n : Int) ≤ 400 := by omega
    go_enter Tryz.func145, Tryz.ntmps145
    go_wp2
    go_ret2
    exact ⟨rfl, .inr ⟨by omega, A, c, rfl, HO.out⟩⟩
end Go.Proofs.YtdolpeljengpaaaGreat
