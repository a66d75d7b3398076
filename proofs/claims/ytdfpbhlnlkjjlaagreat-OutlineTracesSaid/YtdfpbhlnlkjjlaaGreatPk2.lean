/- Texts laid together: Ends, Close, Join, IdxC, SpanB, MMade, MSort, SortI, EqS, Build, SlabA. Lemmas for the statements of this seat; no condition. -/
import Derived.Test.YtdfpbhlnlkjjlaaGreatPk1
import Derived.OwnWalk
import Derived.Deep.AppendLies
import Derived.Laws.EntriesVeiled
import Derived.StillTactics
import Derived.Deep.LoopGhost
import Derived.Shelf.Abstract
import Derived.Test.YtdfpbhlnlkjjlaaGreatShelf
import Derived.Lib.OwnBridge
import Derived.Laws.StructEq
import Derived.Deep.QuietTactic
import Derived.BigQuiet

/- span.ends: the ends of the spans of two lists, in order, as an iterator. -/
namespace Go.Proofs.YtdfpbhlnlkjjlaaGreat
open Go.RowKit Go.Sort
set_option linter.unusedVariables false
set_option linter.unusedSimpArgs false
theorem evs_append (i : Int) (s t : List Sp) : evs i (s ++ t) = evs i s ++ evs i t := by
 induction s with
 | nil => rfl
 | cons p s ih => simp [evs, ih]
theorem evs_length (i : Int) (s : List Sp) : (evs i s).length = 2 * s.length := by
 induction s with
 | nil => rfl
 | cons p s ih => simp [evs, ih]; omega
theorem evs_take (i : Int) (s : List Sp) (m : Nat) (p : Sp) (h : s[m]? = some p) : evs i (s.take (m + 1)) = evs i (s.take m) ++ [(p.1, i, 1), (p.2, i, -1)] := by
 obtain ⟨hm, hp⟩ := List.getElem?_eq_some_iff.1 h
 rw [List.take_succ_eq_append_getElem hm, hp, evs_append]; rfl
theorem evs_mem {i : Int} {s : List Sp} {e : En} (h : e ∈ evs i s) : ∃ p ∈ s, (e.1 = p.1 ∨ e.1 = p.2) ∧ e.2.1 = i ∧ (e.2.2 = 1 ∨ e.2.2 = -1) := by
 induction s with
 | nil => simp [evs] at h
 | cons p s ih =>
  simp only [evs, List.mem_cons] at h
  rcases h with rfl | rfl | h
  ·exact ⟨p, by simp, by simp⟩
  ·exact ⟨p, by simp, by simp⟩
  ·obtain ⟨q, hq, h⟩ := ih h
   exact ⟨q, by simp [hq], h⟩
def evK (a b : List Sp) (k : Nat) : List En := if k = 0 then [] else if k = 1 then evs 0 a else evs 0 a ++ evs 1 b
theorem infoE : (Tryz.prog.info? 189).map (fun i => (i.zero, i.size, i.bytes)) = some (some (.agg #[.int .i64 0, .int .i64 0, .int .i64 0]), 3, 24) := by kernel_rfl
theorem rel_push {w1 : World} {base : Nat} {v1 : Value} {P : List En} {x y : En} {cells : List Value} (h : w1.ownsRow base 189 3 v1 (P.length + 2) (P.flatMap encE ++ cells)) (hc : cells = encE x ++ encE y) :
  w1.ownsRow base 189 3 v1 (P ++ [x, y]).length ((P ++ [x, y]).flatMap encE) := by
 rw [List.flatMap_append, List.length_append]
 subst hc
 simpa using h
set_option maxHeartbeats 2000000 in
theorem ends_loop (a b : List Sp) (L c : Nat) (va vb : Value) (w : World) (hL : L < w.heap.size) (h0 : w.cell? ⟨L, 0, none⟩ = some va) (h1 : w.cell? ⟨L, 1, none⟩ = some vb)
  (ra : RdK encS 2 w w.heap.size va a) (rb : RdK encS 2 w w.heap.size vb b) (na : a.length ≤ 100000000) (nb : b.length ≤ 100000000) (ba : ∀ p ∈ a, validS p) (bb : ∀ p ∈ b, validS p) :
  Calls Tryz.prog 137 #[.slice (some ⟨L, 0, none⟩) 2 c] w fun e w' => ∃ (E : List En) (Bx rw : Nat), e = .returned (.func (.func 158) #[] #[.pointer (some ⟨Bx, 0, none⟩)]) ∧
   E.Perm (evs 0 a ++ evs 1 b) ∧ E.Pairwise (fun a b => a.1 ≤ b.1) ∧ Below w.heap.size w w' ∧ w.heap.size ≤ rw ∧ rw < w'.heap.size ∧
   Iter Tryz.prog 158 #[.pointer (some ⟨Bx, 0, none⟩)] E (fun x args _ => args = #[.agg (encE x).toArray]) (KpB rw) w' := by
 obtain ⟨i0, hi, hz0, hz1, hz2⟩ := info_parts infoE
 go_enter Tryz.func137, Tryz.ntmps137
 go_wp2
 go_loopw [3, 10] (fun v i wr => ∃ k : Nat, k ≤ 2 ∧ i = .int .i64 k ∧ wr.ownsRow w.heap.size 189 3 v (evK a b k).length ((evK a b k).flatMap encE) ∧ Below w.heap.size w wr)
  (fun _ i _ => 2 - (intOf i).toNat)
 case atStart => exact ⟨0, by omega, rfl, World.ownsRow_nil _ _ _ _, Below.refl _ _⟩
 case round =>
  obtain ⟨k, hk, rfl, hown, hb⟩ := hrel
  by_cases hlt : k < 2
  ·obtain ⟨l, v, hc, hr, hn, hv, hK, hnK⟩ : ∃ l v, wr.cell? ⟨L, k, none⟩ = some v ∧ RdK encS 2 w w.heap.size v l ∧ l.length ≤ 100000000 ∧ (∀ p ∈ l, validS p) ∧ evK a b (k + 1) = evK a b k ++ evs k l ∧ (evK a b k).length ≤ 2000000000 := by
    rcases (show k = 0 ∨ k = 1 by omega) with rfl | rfl
    ·exact ⟨a, va, (hb.cell (p := ⟨L, 0, none⟩) hL).trans h0, ra, na, ba, rfl, by simp [evK]⟩
    ·exact ⟨b, vb, (hb.cell (p := ⟨L, 1, none⟩) hL).trans h1, rb, nb, bb, rfl, by show (evs 0 a).length ≤ _; rw [evs_length]; omega⟩
   obtain ⟨A, c0, rfl, hcl⟩ := hr
   have HK := hide hK
   have HV := hide hv
   have HR := hide hcl
   generalize evK a b k = P at *
   generalize wr = w1 at *
   clear hK hv hcl h0 h1 ra rb na nb ba bb
   have hkz : (k : Int) < 2 := by omega
   go_wp2
   go_loopw [3, 17] (fun u j wi => ∃ m : Nat, m ≤ l.length ∧ j = .int .i64 m ∧ wi.ownsRow w.heap.size 189 3 u (P ++ evs k (l.take m)).length ((P ++ evs k (l.take m)).flatMap encE) ∧ Below w.heap.size w wi)
    (fun _ j _ => l.length - (intOf j).toNat)
   case atStart => exact ⟨0, by omega, rfl, by simpa [evs] using hown, hb⟩
   case round =>
    obtain ⟨m, hm, rfl, hownm, hbm⟩ := hrel
    by_cases hml : m < l.length
    ·obtain ⟨p, hp⟩ : ∃ p, l[m]? = some p := ⟨_, List.getElem?_eq_getElem hml⟩
     obtain ⟨x, y⟩ := p
     have hne : l ≠ [] := by intro e; rw [e] at hml; simp at hml
     obtain ⟨bk, off, rfl, hbk, hcell⟩ := HR.out hne
     have c0' : wr.cell? ⟨bk, off + m * 2, none⟩ = some (.int .i64 x) := (hbm.cell hbk).trans (hcell m _ hp 0 _ rfl)
     have c1' : wr.cell? ⟨bk, off + m * 2 + 1, none⟩ = some (.int .i64 y) := (hbm.cell hbk).trans (hcell m _ hp 1 _ rfl)
     have hmz : (m : Int) < (l.length : Int) := by omega
     clear hcell
     have hlenE : (P ++ evs k (l.take m)).length ≤ 4000000000 := by rw [List.length_append, evs_length, List.length_take]; omega
     have hbs := hbm.size
     have HE : Hid (P ++ evs k (l.take (m + 1)) = P ++ evs k (l.take m) ++ [(x, (k : Int), 1), (y, (k : Int), -1)]) := hide (by rw [evs_take k l m _ hp, List.append_assoc])
     generalize P ++ evs k (l.take m) = E0 at *
     go_wp2_with (at_builtin; go_loud (refine wpList_append_lies _ rfl (.tmp 21) (.tmp 30) 200 rfl w.heap.size 189 i0 (.agg #[.int .i64 0, .int .i64 0, .int .i64 0]) 3 24 Tryz.underlying200 hi hz0 hz1 hz2 rfl (by decide) _ _ _ rfl ((hownm.alloc _).alloc _) ⟨wr.heap.size + 1, 0, none⟩ 2 2 [.int .i64 x, .int .i64 k, .int .i64 1, .int .i64 y, .int .i64 k, .int .i64 (-1)] rfl rfl (news_new (wr.alloc _) _ _ _ (by simp)) (ints_one rfl) (by omega) (by unfold maxLen; omega) (by omega) (by simp; omega) _ rfl ?_))
     intro g cap w2 hown2 hgrow _ _
     have R := rel_push (x := (x, (k : Int), 1)) (y := (y, (k : Int), -1)) hown2 rfl
     rw [← HE.out] at R
     have hb2 : Below w.heap.size w w2 := ((hbm.alloc (by omega) _).alloc (by simp; omega) _).grown hgrow (by simp; omega) fun k h => (hownm.lt k h).1
     clear hown2 hgrow hownm hown
     go_wp2
     go_roundw
     case rel => exact ⟨m + 1, by omega, by go_num, R, hb2⟩
     case measure => simp [intOf]; omega
    ·have hme : ¬ (m : Int) < (l.length : Int) := by omega
     have hmt : l.take m = l := List.take_of_length_le (by omega)
     rw [hmt, ← HK.out] at hownm
     clear hmt hown
     go_wp2
     go_roundw
     case rel => exact ⟨k + 1, by omega, by go_num, hownm, hbm⟩
     case measure => simp [intOf]; omega
  ·obtain rfl : k = 2 := by omega
   have hE : evK a b 2 = evs 0 a ++ evs 1 b := rfl
   rw [hE] at hown
   have hl : (evs 0 a ++ evs 1 b).length ≤ 400000000 := by rw [List.length_append, evs_length, evs_length]; omega
   have hin : ∀ e ∈ evs 0 a ++ evs 1 b, -1000000 ≤ e.1 ∧ e.1 ≤ 1000000 := by
    intro e he
    have key : ∃ p, validS p ∧ (e.1 = p.1 ∨ e.1 = p.2) := by
     rcases List.mem_append.1 he with he | he
     ·obtain ⟨p, hp, h, _⟩ := evs_mem he
      exact ⟨p, ba p hp, h⟩
     ·obtain ⟨p, hp, h, _⟩ := evs_mem he
      exact ⟨p, bb p hp, h⟩
    obtain ⟨p, ⟨v1, v2, v3⟩, h⟩ := key
    omega
   clear hE h0 h1 ra rb na nb ba bb
   have HE : ∃ E0, Hid (evs 0 a ++ evs 1 b = E0) := ⟨_, hide rfl⟩
   obtain ⟨E0, HE⟩ := HE
   rw [HE.out] at hown hin hl
   obtain ⟨A0, c0, hv, _⟩ := own_rd hown (fun _ => rfl)
   subst hv
   go_wp2_with (first
    | (go_at_call 150; refine (sortE_any w.heap.size _ E0 hin _ hown (by omega)).mono ?_; rintro e w1 ⟨rfl, E1, hp, hs, ho, hg⟩)
    | (go_at_call 152; refine (values_any _ _ rfl).mono ?_; rintro e w2 ⟨rfl, rfl⟩))
   go_ret
   have hb1 : Below w.heap.size w w1 := hb.grown hg hb.size fun k h => (hown.lt k h).1
   have hlen : E1.length = E0.length := hp.length_eq
   have hrd := own_rd ho (fun _ => rfl)
   obtain ⟨A1, c1, e1, hcl⟩ := hrd
   rw [hlen] at e1
   injection e1 with e2 _ e3
   subst e2; subst e3
   have hw2 : ∀ b o, b < w1.heap.size → (w1.alloc (.cells #[.slice A0 E0.length c0] 200)).cell? ⟨b, o, none⟩ = w1.cell? ⟨b, o, none⟩ := fun b o h => World.cell?_alloc_lt w1 _ ⟨b, o, none⟩ h
   have hbx : (w1.alloc (.cells #[.slice A0 E0.length c0] 200)).cell? ⟨w1.heap.size, 0, none⟩ = some (.slice A0 E1.length c0) := by rw [hlen]; simp [go_sem]
   by_cases h0 : E1 = []
   ·refine ⟨E1, w1.heap.size, w1.heap.size, rfl, HE.out ▸ hp, hs, hb1.alloc hb1.size _, hb1.size, by simp, ?_⟩
    exact values1_iter w1.heap.size w1.heap.size 0 c0 E1 _ (by omega) A0 (by simp) hbx fun h => absurd h0 h
   ·obtain ⟨bk, off, rfl, hbk, hc⟩ := hcl h0
    refine ⟨E1, w1.heap.size, bk, rfl, HE.out ▸ hp, hs, hb1.alloc hb1.size _, (ho.lt bk rfl).1, by simp; omega, ?_⟩
    exact values1_iter w1.heap.size bk off c0 E1 _ (by omega) _ (by simp) hbx fun h => ⟨rfl, by simp; omega, fun j x hx i u hu => (hw2 _ _ hbk).trans (hc j x hx i u hu)⟩
end Go.Proofs.YtdfpbhlnlkjjlaaGreat

/- span.join's closure 'close': one more span at the end of the list. -/
namespace Go.Proofs.YtdfpbhlnlkjjlaaGreat
open Go.RowKit
set_option linter.unusedVariables false
set_option linter.unusedSimpArgs false
structure Upd (o : Nat) (row : Option Nat) (w w' : World) : Prop where
 os : w'.os = w.os
 tape : w'.tape = w.tape
 output : w'.output = w.output
 size : w.heap.size ≤ w'.heap.size
 block : ∀ k, k < w.heap.size → k ≠ o → row ≠ some k → w'.heap[k]? = w.heap[k]?
theorem Upd.refl (o : Nat) (row : Option Nat) (w : World) : Upd o row w w := ⟨rfl, rfl, rfl, Nat.le_refl _, fun _ _ _ _ => rfl⟩
theorem Upd.trans {o : Nat} {row : Option Nat} {a b c : World} (h : Upd o row a b) (k : Upd o row b c) : Upd o row a c :=
 ⟨k.os.trans h.os, k.tape.trans h.tape, k.output.trans h.output, Nat.le_trans h.size k.size, fun i hi ho hr => (k.block i (Nat.lt_of_lt_of_le hi h.size) ho hr).trans (h.block i hi ho hr)⟩
theorem Upd.of_below {o : Nat} {row : Option Nat} {a b : World} (h : Below a.heap.size a b) : Upd o row a b := ⟨h.os, h.tape, h.output, h.size, fun i hi _ _ => h.block i hi⟩
theorem Upd.of_grown {o : Nat} {row : Option Nat} {a b : World} (h : a.grownBy b row) : Upd o row a b := ⟨h.os, h.tape, h.output, h.size, fun i hi _ hr => h.block i hi (fun e => hr e.symm)⟩
theorem Upd.setCell {o : Nat} {row : Option Nat} {a b : World} (h : Upd o row a b) (off : Nat) (u : Value) : Upd o row a (b.setCell ⟨o, off, none⟩ u) :=
 h.trans ⟨rfl, rfl, rfl, by simp [World.setCell], fun k hk ho _ => Below.heap_setCell _ _ _ _ ho⟩
theorem Upd.setRow {o g : Nat} {a b : World} (h : Upd o (some g) a b) (off : Nat) (u : Value) : Upd o (some g) a (b.setCell ⟨g, off, none⟩ u) :=
 h.trans ⟨rfl, rfl, rfl, by simp [World.setCell], fun k hk _ hr => Below.heap_setCell _ _ _ _ (fun e => hr (by rw [e]))⟩
theorem Upd.cell {o : Nat} {row : Option Nat} {a b : World} (h : Upd o row a b) {k off : Nat} (hk : k < a.heap.size) (ho : k ≠ o) (hr : row ≠ some k) : b.cell? ⟨k, off, none⟩ = a.cell? ⟨k, off, none⟩ := World.cell?_of_block (w := a) (h.block k hk ho hr)
theorem Upd.frozen {o : Nat} {row : Option Nat} {a b : World} (h : Upd o row a b) {k off : Nat} (hk : k < a.heap.size) (ho : k ≠ o) (hr : row ≠ some k) : b.frozen? ⟨k, off, none⟩ = a.frozen? ⟨k, off, none⟩ := World.frozen?_of_block (w := a) (h.block k hk ho hr)
theorem Upd.below {o n : Nat} {row : Option Nat} {a b : World} (h : Upd o row a b) (hn : n ≤ o) (hB : n ≤ a.heap.size) (hr : ∀ k, row = some k → n ≤ k) : Below n a b :=
 ⟨h.os, h.tape, h.output, h.size, fun k hk => h.block k (by omega) (by omega) (fun e => by have := hr k e; omega)⟩
def jcl (inn : Bool) (last : Int) (out : List Sp) (e : Int) : List Sp := if inn = true ∧ last ≠ e then sext out last e else out
theorem infoS : (Tryz.prog.info? 104).map (fun i => (i.zero, i.size, i.bytes)) = some (some (.agg #[.int .i64 0, .int .i64 0]), 2, 16) := by kernel_rfl
theorem set_last (q : List Sp) (x y e : Int) : ((q ++ [(x, y)]).flatMap encS).set (q.length * 2 + 1) (.int .i64 e) = (q ++ [(x, e)]).flatMap encS := by
 have hl := flat_len (enc := encS) (k := 2) (fun _ => rfl) q
 rw [List.flatMap_append, List.flatMap_append, List.set_append_right _ _ (by omega)]
 congr 1
 rw [hl, show q.length * 2 + 1 - q.length * 2 = 1 by omega]
 rfl
theorem close_set {B o g cap : Nat} {w w1 : World} {q : List Sp} {x y e : Int} (kb : Upd o (some g) w w1) (hoB : o < B) (hBg : B ≤ g) (k3 : w1.cell? ⟨o, 0, none⟩ = some (.slice (some ⟨g, 0, none⟩) (q.length + 1) cap)) (k4 : w1.frozen? ⟨o, 0, none⟩ = false)
  (k5 : w1.ownsRow B 104 2 (.slice (some ⟨g, 0, none⟩) (q.length + 1) cap) (q.length + 1) ((q ++ [(x, y)]).flatMap encS)) :
  ∃ vo', (w1.setCell ⟨g, q.length * 2 + 1, none⟩ (.int .i64 e)).cell? ⟨o, 0, none⟩ = some vo' ∧ (w1.setCell ⟨g, q.length * 2 + 1, none⟩ (.int .i64 e)).frozen? ⟨o, 0, none⟩ = false ∧
   (w1.setCell ⟨g, q.length * 2 + 1, none⟩ (.int .i64 e)).ownsRow B 104 2 vo' (q ++ [(x, e)]).length ((q ++ [(x, e)]).flatMap encS) ∧ Upd o (some g) w (w1.setCell ⟨g, q.length * 2 + 1, none⟩ (.int .i64 e)) := by
 obtain ⟨s1, s2⟩ := k5.stored (q.length * 2 + 1) (.int .i64 e)
 rw [set_last] at s1
 have hb : Below B w1 (w1.setCell ⟨g, q.length * 2 + 1, none⟩ (.int .i64 e)) := (Below.refl B w1).setCell hBg _
 exact ⟨_, (hb.cell (p := ⟨o, 0, none⟩) hoB).trans k3, (hb.frozen (p := ⟨o, 0, none⟩) hoB).trans k4, by simpa using s1, kb.setRow _ _⟩
theorem close_fin {B o : Nat} {w w1 w2 : World} {row : Option Nat} {v2 x : Value} {out' : List Sp} {n : Nat} (kb : Upd o row w w1) (ks : B ≤ w1.heap.size) (hoB : o < B) (k3 : w1.cell? ⟨o, 0, none⟩ = some x) (k4 : w1.frozen? ⟨o, 0, none⟩ = false) (blk : Obj)
  (hgrow : (w1.alloc blk).grownBy w2 row) (hr : ∀ k, row = some k → B ≤ k) (hown2 : w2.ownsRow B 104 2 v2 n (out'.flatMap encS)) (hn : n = out'.length) :
  w2.cell? ⟨o, 0, none⟩ = some x ∧ w2.frozen? ⟨o, 0, none⟩ = false ∧ Hid (∃ vo', (w2.setCell ⟨o, 0, none⟩ v2).cell? ⟨o, 0, none⟩ = some vo' ∧ (w2.setCell ⟨o, 0, none⟩ v2).frozen? ⟨o, 0, none⟩ = false ∧
   (w2.setCell ⟨o, 0, none⟩ v2).ownsRow B 104 2 vo' out'.length (out'.flatMap encS) ∧ Upd o row w (w2.setCell ⟨o, 0, none⟩ v2)) := by
 have hb : Below B w1 w2 := ((Below.refl B w1).alloc ks _).grown hgrow (by simp; omega) hr
 have c := (hb.cell (p := ⟨o, 0, none⟩) hoB).trans k3
 have f := (hb.frozen (p := ⟨o, 0, none⟩) hoB).trans k4
 subst hn
 refine ⟨c, f, hide ⟨v2, by simp [go_sem, c], by simp [go_sem, f], ownsRow_setCell_below hown2 hoB _, (kb.trans ((Upd.of_below ((Below.refl _ _).alloc (Nat.le_refl _) blk)).trans (.of_grown hgrow))).setCell _ _⟩⟩
set_option maxHeartbeats 2000000 in
theorem close_any (B i l o : Nat) (vo : Value) (out : List Sp) (last e : Int) (inn : Bool) (w : World) (h1 : w.cell? ⟨i, 0, none⟩ = some (.bool inn)) (h2 : w.cell? ⟨l, 0, none⟩ = some (.int .i64 last)) (h3 : w.cell? ⟨o, 0, none⟩ = some vo) (h4 : w.frozen? ⟨o, 0, none⟩ = false)
  (hoB : o < B) (hB : B ≤ w.heap.size) (hown : w.ownsRow B 104 2 vo out.length (out.flatMap encS)) (hn : out.length ≤ 1000000000) :
  Calls Tryz.prog 136 #[.int .i64 e, .pointer (some ⟨i, 0, none⟩), .pointer (some ⟨l, 0, none⟩), .pointer (some ⟨o, 0, none⟩)] w fun r w' => r = .returned (.tuple #[]) ∧
   ∃ vo', w'.cell? ⟨o, 0, none⟩ = some vo' ∧ w'.frozen? ⟨o, 0, none⟩ = false ∧ w'.ownsRow B 104 2 vo' (jcl inn last out e).length ((jcl inn last out e).flatMap encS) ∧ Upd o vo.ownBlock w w' := by
 obtain ⟨i0, hi, hz0, hz1, hz2⟩ := info_parts infoS
 obtain ⟨A, c, hv, hcl⟩ := own_rd hown (fun _ => rfl)
 subst hv
 go_enter Tryz.func136, Tryz.ntmps136
 cases inn with
 | false =>
  go_wp2
  refine bodyPost_ret (results_none rfl _ _ _) rfl ?_
  exact ⟨rfl, _, h3, h4, hown, Upd.refl _ _ _⟩
 | true =>
  by_cases hle : last = e
  ·subst hle
   go_wp2
   refine bodyPost_ret (results_none rfl _ _ _) rfl ?_
   exact ⟨rfl, _, h3, h4, by simpa [jcl] using hown, Upd.refl _ _ _⟩
  ·have hj : jcl true last out e = sext out last e := if_pos ⟨rfl, hle⟩
   rw [hj]
   clear hj
   have hbe : (last == e) = false := by simpa using hle
   clear hle
   have nlt : ∀ (b : Nat), w.heap.size ≤ b → ¬ b = o := fun b h => by omega
   rcases List.eq_nil_or_concat out with rfl | ⟨q, p, rfl⟩
   ·have hs : sext [] last e = [(last, e)] := rfl
    rw [hs]
    clear hs nlt hcl
    simp only [List.length_nil, List.flatMap_nil] at *
    go_wp2
    have hg : decide ((0 : Int) < 0) = false := rfl
    go_quiet (fail)
    obtain ⟨w1, hw1⟩ : ∃ w1, w1 = w.drewN nq := ⟨_, rfl⟩
    rw [← hw1]
    have k2 : w1.cell? ⟨l, 0, none⟩ = some (.int .i64 last) := by rw [hw1]; exact h2
    have k3 : w1.cell? ⟨o, 0, none⟩ = some (.slice A 0 c) := by rw [hw1]; exact h3
    have k4 : w1.frozen? ⟨o, 0, none⟩ = false := by rw [hw1]; exact h4
    have k5 : w1.ownsRow B 104 2 (.slice A 0 c) 0 [] := by rw [hw1]; exact hown
    have kb : Upd o (Value.slice A 0 c).ownBlock w w1 := by rw [hw1]; exact ⟨rfl, rfl, rfl, Nat.le_refl _, fun _ _ _ _ => rfl⟩
    have ks : B ≤ w1.heap.size := by rw [hw1]; exact hB
    clear hw1 h1 h2 h3 h4 hown hg
    go_wp2_with (at_builtin; (refine wpList_append_lies _ rfl (.tmp 33) (.tmp 37) 99 rfl B 104 i0 (.agg #[.int .i64 0, .int .i64 0]) 2 16 Tryz.underlying99 hi hz0 hz1 hz2 rfl (by decide) _ _ _ rfl (k5.alloc _) ⟨w1.heap.size, 0, none⟩ 1 1 [.int .i64 last, .int .i64 e] rfl rfl (news_new w1 _ _ _ (by simp)) (ints_one rfl) (by omega) (by unfold maxLen; omega) (by omega) (by simp; omega) _ rfl ?_))
    intro g cap w2 hown2 hgrow _ _
    obtain ⟨c2, f2, HF⟩ := close_fin (out' := [(last, e)]) kb ks hoB k3 k4 _ hgrow (fun k h => (k5.lt k h).1) hown2 rfl
    clear hown2 hgrow k2 k3 k4 k5 kb
    go_wp2
    go_end0
    exact ⟨rfl, HF.out⟩
   ·obtain ⟨x, y⟩ := p
    rw [List.concat_eq_append] at *
    have hy : sext (q ++ [(x, y)]) last e = if y = last then q ++ [(x, e)] else q ++ [(x, y)] ++ [(last, e)] := by
     unfold sext
     simp [List.getLast?_append, List.dropLast_concat]
    rw [hy]
    clear hy nlt
    clear hcl
    obtain ⟨g, cap, hv, hBg, hgw⟩ := hown.form (by simp)
    injection hv with e1 _ e3
    subst e1; subst e3
    have cy : w.cell? ⟨g, q.length * 2 + 1, none⟩ = some (.int .i64 y) := by
     have := (hown.cells (g := g) rfl) _ _ (flat_get (k := 2) (fun _ => rfl) _ q.length (x, y) 1 _ (by simp) rfl)
     rwa [addr_add] at this
    have fy : w.frozen? ⟨g, q.length * 2 + 1, none⟩ = false := hown.frozenAt _
    simp only [List.length_append, List.length_cons, List.length_nil, Nat.zero_add] at hown h3 hn
    have hg : decide ((0 : Int) < (q.length : Int) + 1) = true := decide_eq_true (by omega)
    have q1 : (q.length : Int) < (q.length : Int) + 1 := by omega
    have q0 : (0 : Int) ≤ (q.length : Int) := by omega
    by_cases hyl : y = last
    ·rw [if_pos hyl]
     have hb2 : (y == last) = true := by simpa using hyl
     clear hyl
     go_wp2
     go_quiet (fail)
     obtain ⟨w1, hw1⟩ : ∃ w1, w1 = w.drewN nq := ⟨_, rfl⟩
     rw [← hw1]
     have k3 : w1.cell? ⟨o, 0, none⟩ = some (.slice (some ⟨g, 0, none⟩) (q.length + 1) c) := by rw [hw1]; exact h3
     have k4 : w1.frozen? ⟨o, 0, none⟩ = false := by rw [hw1]; exact h4
     have k5 : w1.ownsRow B 104 2 (.slice (some ⟨g, 0, none⟩) (q.length + 1) c) (q.length + 1) ((q ++ [(x, y)]).flatMap encS) := by rw [hw1]; exact hown
     have k6 : w1.cell? ⟨g, q.length * 2 + 1, none⟩ = some (.int .i64 y) := by rw [hw1]; exact cy
     have k7 : w1.frozen? ⟨g, q.length * 2 + 1, none⟩ = false := by rw [hw1]; exact fy
     have kb : Upd o (some g) w w1 := by rw [hw1]; exact ⟨rfl, rfl, rfl, Nat.le_refl _, fun _ _ _ _ => rfl⟩
     have HF := hide (close_set (e := e) kb hoB hBg k3 k4 k5)
     clear hw1 h1 h2 h3 h4 hown cy fy k5 kb hg
     go_wp2
     go_end0
     exact ⟨rfl, HF.out⟩
    ·rw [if_neg hyl]
     have hb2 : (y == last) = false := by simpa using hyl
     clear hyl
     go_wp2
     go_quiet (fail)
     obtain ⟨w1, hw1⟩ : ∃ w1, w1 = w.drewN nq := ⟨_, rfl⟩
     rw [← hw1]
     have k2 : w1.cell? ⟨l, 0, none⟩ = some (.int .i64 last) := by rw [hw1]; exact h2
     have k3 : w1.cell? ⟨o, 0, none⟩ = some (.slice (some ⟨g, 0, none⟩) (q.length + 1) c) := by rw [hw1]; exact h3
     have k4 : w1.frozen? ⟨o, 0, none⟩ = false := by rw [hw1]; exact h4
     have k5 : w1.ownsRow B 104 2 (.slice (some ⟨g, 0, none⟩) (q.length + 1) c) (q.length + 1) ((q ++ [(x, y)]).flatMap encS) := by rw [hw1]; exact hown
     have kb : Upd o (some g) w w1 := by rw [hw1]; exact ⟨rfl, rfl, rfl, Nat.le_refl _, fun _ _ _ _ => rfl⟩
     have ks : B ≤ w1.heap.size := by rw [hw1]; exact hB
     clear hw1 h1 h2 h3 h4 hown hg cy fy
     go_wp2_with (at_builtin; refine wpList_append_lies _ rfl (.tmp 33) (.tmp 37) 99 rfl B 104 i0 (.agg #[.int .i64 0, .int .i64 0]) 2 16 Tryz.underlying99 hi hz0 hz1 hz2 rfl (by decide) _ _ _ rfl (k5.alloc _) ⟨w1.heap.size, 0, none⟩ 1 1 [.int .i64 last, .int .i64 e] rfl rfl (news_new w1 _ _ _ (by simp)) (ints_one rfl) (by omega) (by unfold maxLen; omega) (by omega) (by simp; omega) _ rfl ?_)
     intro g2 cap w2 hown2 hgrow _ _
     rw [show q.flatMap encS ++ (encS (x, y) ++ [.int .i64 last, .int .i64 e]) = (q ++ [(x, y)] ++ [(last, e)]).flatMap encS by simp [encS]] at hown2
     obtain ⟨c2, f2, HF⟩ := close_fin (out' := q ++ [(x, y)] ++ [(last, e)]) kb ks hoB k3 k4 _ hgrow (fun k h => (k5.lt k h).1) hown2 (by simp)
     clear hown2 hgrow k2 k3 k4 k5 kb
     go_wp2
     go_end0
     exact ⟨rfl, HF.out⟩
end Go.Proofs.YtdfpbhlnlkjjlaaGreat

/- span.join: the sweep over the ends of two lists. -/
namespace Go.Proofs.YtdfpbhlnlkjjlaaGreat
open Go.RowKit
set_option linter.unusedVariables false
set_option linter.unusedSimpArgs false
attribute [local go_sem] Oper.semAt_some
def ptr (b : Nat) : Value := .pointer (some ⟨b, 0, none⟩)
structure JW (N B : Nat) (fv : Value) (st : JS) (W : World) : Prop where
 fb : W.cell? ⟨N, 0, none⟩ = some fv
 o0 : W.cell? ⟨N + 1, 0, none⟩ = some (.int .i64 st.o0)
 o1 : W.cell? ⟨N + 1, 1, none⟩ = some (.int .i64 st.o1)
 f0 : W.frozen? ⟨N + 1, 0, none⟩ = false
 f1 : W.frozen? ⟨N + 1, 1, none⟩ = false
 out : ∃ vo, W.cell? ⟨N + 2, 0, none⟩ = some vo ∧ W.ownsRow B 104 2 vo st.out.length (st.out.flatMap encS)
 fo : W.frozen? ⟨N + 2, 0, none⟩ = false
 la : W.cell? ⟨N + 3, 0, none⟩ = some (.int .i64 st.last)
 fl : W.frozen? ⟨N + 3, 0, none⟩ = false
 inn : W.cell? ⟨N + 4, 0, none⟩ = some (.bool st.inn)
 fi : W.frozen? ⟨N + 4, 0, none⟩ = false
 cl : W.cell? ⟨N + 5, 0, none⟩ = some (.func (.func 136) #[] #[ptr (N + 4), ptr (N + 3), ptr (N + 2)])
 low : N + 6 ≤ B
 size : B ≤ W.heap.size
theorem JW.keep {N B : Nat} {fv : Value} {st : JS} {W W' : World} (h : JW N B fv st W) (hs : W.heap.size ≤ W'.heap.size) (hk : ∀ (k : Nat) (o : Obj), W.heap[k]? = some o → o.isCells = true → W'.heap[k]? = some o) : JW N B fv st W' := by
 have key : ∀ {b o v}, W.cell? ⟨b, o, none⟩ = some v → W'.heap[b]? = W.heap[b]? := fun {b o v} e => by
  obtain ⟨ob, h1, h2⟩ := cells_of_cell e
  exact (hk b ob h1 h2).trans h1.symm
 have hc : ∀ {b o v}, W.cell? ⟨b, o, none⟩ = some v → W'.cell? ⟨b, o, none⟩ = some v := fun {b o v} e => (World.cell?_of_block (w := W) (a := ⟨b, o, none⟩) (key e)).trans e
 have hf : ∀ {b o v}, W.cell? ⟨b, 0, none⟩ = some v → W.frozen? ⟨b, o, none⟩ = false → W'.frozen? ⟨b, o, none⟩ = false := fun {b o v} c e => (World.frozen?_of_block (w := W) (a := ⟨b, o, none⟩) (key c)).trans e
 obtain ⟨vo, ho, hr⟩ := h.out
 refine ⟨hc h.fb, hc h.o0, hc h.o1, hf h.o0 h.f0, hf h.o0 h.f1, ⟨vo, hc ho, ?_⟩, hf ho h.fo, hc h.la, hf h.la h.fl, hc h.inn, hf h.inn h.fi, hc h.cl, h.low, Nat.le_trans h.size hs⟩
 refine ⟨hr.1, ?_⟩
 rcases hr.2 with hn | ⟨g, cap, cur, rfl, hb, hg, rest⟩
 ·exact .inl hn
 ·exact .inr ⟨g, cap, cur, rfl, hb, hk g _ hg rfl, rest⟩
theorem JW.below {N B : Nat} {fv : Value} {st : JS} {W W' : World} (h : JW N B fv st W) (hb : Below W.heap.size W W') : JW N B fv st W' :=
 h.keep hb.size fun k o hk _ => (hb.block k (Array.getElem?_eq_some_iff.1 hk).1).trans hk
theorem sum_jfold (h : Bool → Bool → Bool) : ∀ (E : List En) (st : JS) (n : Int), (∀ e ∈ E, e.2.2 = 1 ∨ e.2.2 = -1) → -n ≤ st.o0 → st.o0 ≤ n → -n ≤ st.o1 → st.o1 ≤ n →
  -(n + E.length) ≤ (E.foldl (jstep h) st).o0 ∧ (E.foldl (jstep h) st).o0 ≤ n + E.length ∧ -(n + E.length) ≤ (E.foldl (jstep h) st).o1 ∧ (E.foldl (jstep h) st).o1 ≤ n + E.length
 | [], st, n, _, h1, h2, h3, h4 => by simp; omega
 | e :: E, st, n, hE, h1, h2, h3, h4 => by
  have he := hE e (by simp)
  have := sum_jfold h E (jstep h st e) (n + 1) (fun x hx => hE x (by simp [hx])) (by simp only [jstep]; split <;> omega) (by simp only [jstep]; split <;> omega) (by simp only [jstep]; split <;> omega) (by simp only [jstep]; split <;> omega)
  simp only [List.foldl_cons, List.length_cons, Int.natCast_add, Int.natCast_one]
  omega
theorem jfold_snoc (h : Bool → Bool → Bool) (P : List En) (e : En) : jfold h (P ++ [e]) = jstep h (jfold h P) e := by
 unfold jfold
 rw [List.foldl_append]; rfl
theorem jout_len (h : Bool → Bool → Bool) (P : List En) (st : JS) : (P.foldl (jstep h) st).out.length ≤ st.out.length + P.length := by
 induction P generalizing st with
 | nil => simp
 | cons e P ih =>
  have := ih (jstep h st e)
  have h2 : (jstep h st e).out.length ≤ st.out.length + 1 := by
   show (jclose st e.1).length ≤ _
   unfold jclose sext
   split
   ·split
    ·split
     ·rename_i q hq _
      obtain ⟨o, ho⟩ := List.getLast?_eq_some_iff.1 hq
      rw [ho]; simp
     ·simp
    ·simp
   ·omega
  simp only [List.foldl_cons, List.length_cons]
  omega
theorem JW.putObj {N B : Nat} {fv : Value} {st : JS} {W : World} (h : JW N B fv st W) {l : Nat} {o o' : Obj} (hl : W.heap[l]? = some o) (ho : o.isCells = false) : JW N B fv st (W.putObj l o') :=
 h.keep (by simp) fun k x hk hx => (World.putObj_heap_other (fun hkl => by subst hkl; rw [hl] at hk; injection hk with hk; subst hk; rw [ho] at hx; cases hx)).trans hk
theorem jw_fin {N B rb : Nat} {fv vo vo' : Value} {st st' : JS} {W0 A2 A3 A7 : World} {b0 : Nat} (J2 : JW N B fv st A2) (hb2 : Below N W0 A2) (hown : A2.ownsRow B 104 2 vo st.out.length (st.out.flatMap encS)) (ho : A2.cell? ⟨N + 2, 0, none⟩ = some vo)
  (U : Upd (N + 2) vo.ownBlock A2 A3) (p1 : A3.cell? ⟨N + 2, 0, none⟩ = some vo') (p2 : A3.frozen? ⟨N + 2, 0, none⟩ = false) (p3 : A3.ownsRow B 104 2 vo' st'.out.length (st'.out.flatMap encS))
  (E7 : A7.os = A3.os ∧ A7.tape = A3.tape ∧ A7.output = A3.output ∧ A7.heap.size = A3.heap.size) (C7 : ∀ k, k ≠ N + 1 → k ≠ N + 3 → k ≠ N + 4 → A7.heap[k]? = A3.heap[k]?) (F7 : ∀ p, A7.frozen? p = A3.frozen? p)
  (z0 : A7.cell? ⟨N + 1, 0, none⟩ = some (.int .i64 st'.o0)) (z1 : A7.cell? ⟨N + 1, 1, none⟩ = some (.int .i64 st'.o1)) (z3 : A7.cell? ⟨N + 3, 0, none⟩ = some (.int .i64 st'.last)) (z4 : A7.cell? ⟨N + 4, 0, none⟩ = some (.bool st'.inn))
  (h1 : N + 7 ≤ rb) (h2 : rb < B) : KeepsFrom B A2 A7 ∧ KpB rb A2 A7 ∧ JW N B fv st' A7 ∧ Below N W0 A7 := by
 have hlow := J2.low
 have hsz := J2.size
 have hrow : ∀ k, vo.ownBlock = some k → B ≤ k := fun k hk => (hown.lt k hk).1
 have hsame : ∀ k, k < A2.heap.size → k ≠ N + 1 → k ≠ N + 2 → k ≠ N + 3 → k ≠ N + 4 → vo.ownBlock ≠ some k → A7.heap[k]? = A2.heap[k]? := fun k a b c d e f => (C7 k b d e).trans (U.block k a c f)
 have hc : ∀ k o, k < B → k ≠ N + 1 → k ≠ N + 2 → k ≠ N + 3 → k ≠ N + 4 → A7.cell? ⟨k, o, none⟩ = A2.cell? ⟨k, o, none⟩ := fun k o a b c d e => World.cell?_of_block (w := A2) (a := ⟨k, o, none⟩) (hsame k (by omega) b c d e fun f => by have := hrow k f; omega)
 have hf : ∀ k o, k < B → k ≠ N + 2 → A7.frozen? ⟨k, o, none⟩ = A2.frozen? ⟨k, o, none⟩ := fun k o a b => (F7 _).trans (U.frozen (by omega) b fun f => by have := hrow k f; omega)
 refine ⟨⟨by rw [E7.2.2.2]; exact U.size, fun k o hk ho' hco => ?_⟩, fun o => hc rb o h2 (by omega) (by omega) (by omega) (by omega), ?_, ?_⟩
 ·have hk2 := (Array.getElem?_eq_some_iff.1 ho').1
  have hnr : vo.ownBlock ≠ some k := by
   intro f
   rcases hown.2 with ⟨rfl, _⟩ | ⟨g, cap, cur, rfl, _, hg, _⟩
   ·simp [Value.ownBlock] at f
   ·simp [Value.ownBlock] at f
    subst f
    rw [hg] at ho'
    injection ho' with ho'
    subst ho'
    cases hco
  exact (hsame k hk2 (by omega) (by omega) (by omega) (by omega) hnr).trans ho'
 ·refine ⟨(hc N 0 (by omega) (by omega) (by omega) (by omega) (by omega)).trans J2.fb, z0, z1, (hf _ _ (by omega) (by omega)).trans J2.f0, (hf _ _ (by omega) (by omega)).trans J2.f1, ⟨vo', ?_, ?_⟩, ?_, z3, (hf _ _ (by omega) (by omega)).trans J2.fl, z4, (hf _ _ (by omega) (by omega)).trans J2.fi, (hc (N + 5) 0 (by omega) (by omega) (by omega) (by omega) (by omega)).trans J2.cl, hlow, ?_⟩
  ·exact (World.cell?_of_block (w := A3) (a := ⟨N + 2, 0, none⟩) (C7 (N + 2) (by omega) (by omega) (by omega))).trans p1
  ·refine ⟨p3.1, ?_⟩
   rcases p3.2 with hn | ⟨g, cap, cur, hv, hg, hh, r⟩
   ·exact .inl hn
   ·exact .inr ⟨g, cap, cur, hv, hg, (C7 g (by omega) (by omega) (by omega)).trans hh, r⟩
  ·exact (F7 _).trans p2
  ·rw [E7.2.2.2]; exact Nat.le_trans hsz U.size
 ·refine ⟨(E7.1.trans U.os).trans hb2.os, (E7.2.1.trans U.tape).trans hb2.tape, (E7.2.2.1.trans U.output).trans hb2.output, ?_, fun k hk => ?_⟩
  ·rw [E7.2.2.2]; exact Nat.le_trans hb2.size U.size
  ·exact (hsame k (by omega) (by omega) (by omega) (by omega) (by omega) fun f => by have := hrow k f; omega).trans (hb2.block k hk)
set_option maxRecDepth 100000 in
set_option maxHeartbeats 2000000 in
theorem join_any (a b : List Sp) (va vb : Value) (w : World) (g : Nat) (h : Bool → Bool → Bool) (eg : ∀ args w, (callFunc g args).run Tryz.prog w = .ok (.enter g args) w) (hg : ∀ (x y : Bool) (W : World), Calls Tryz.prog g #[.bool x, .bool y] W fun e w' => e = .returned (.bool (h x y)) ∧ W = w')
    (ra : RdK encS 2 w w.heap.size va a) (rb : RdK encS 2 w w.heap.size vb b) (na : a.length ≤ 100000000) (nb : b.length ≤ 100000000) (ba : ∀ p ∈ a, validS p) (bb : ∀ p ∈ b, validS p) :
    Calls Tryz.prog 113 #[va, vb, .func (.func g) #[] #[]] w fun e w' => ∃ (E : List En) (v : Value), e = .returned v ∧ E.Perm (evs 0 a ++ evs 1 b) ∧ E.Pairwise (fun a b => a.1 ≤ b.1) ∧ Below w.heap.size w w' ∧
      w'.ownsRow w.heap.size 104 2 v (jfold h E).out.length ((jfold h E).out.flatMap encS) := by
  obtain ⟨A0, c0, hva, hra⟩ := ra
  obtain ⟨A1, c1, hvb, hrb⟩ := rb
  subst hva; subst hvb
  have RA : Hid (RdK encS 2 w w.heap.size (.slice A0 a.length c0) a) := hide ⟨_, _, rfl, hra⟩
  have RB : Hid (RdK encS 2 w w.heap.size (.slice A1 b.length c1) b) := hide ⟨_, _, rfl, hrb⟩
  clear hra hrb
  refine (callsIn_wide (n := 0)).1 ?_
  refine callsIn_of_wp_marks Tryz.func113 rfl trivial ?_
  simp only [Tryz.ntmps113, List.size_toArray, List.length_cons, List.length_nil, Nat.reduceAdd, Nat.reduceSub, Array.replicate_succ, Array.replicate_zero, List.push_toArray, List.append_toArray, List.nil_append, List.cons_append]
  refine wpIn_wide.2 ?_
  go_wp2_with (fail)
  obtain ⟨w1, hw1⟩ : ∃ w1, w1 = ((((((w.alloc (Obj.cells #[Value.func (Fn.func g) #[] #[]] 148)).alloc (Obj.cells #[Value.int IntKind.i64 0, Value.int IntKind.i64 0] 184)).alloc (Obj.cells #[Value.slice none 0 0] 99)).alloc (Obj.cells #[Value.int IntKind.i64 0] 3)).alloc (Obj.cells #[Value.bool false] 4)).alloc
     (Obj.cells #[.func (.func 136) #[] #[ptr (w.heap.size + 1 + 1 + 1 + 1), ptr (w.heap.size + 1 + 1 + 1), ptr (w.heap.size + 1 + 1)]] 185)).alloc (.cells #[.slice A0 a.length c0, .slice A1 b.length c1] 99) := ⟨_, rfl⟩
  have hb1 : Below w.heap.size w w1 := by
    rw [hw1]
    exact (((((((Below.refl _ w).alloc (Nat.le_refl _) _).alloc (by simp) _).alloc (by simp; omega) _).alloc (by simp; omega) _).alloc (by simp; omega) _).alloc (by simp; omega) _).alloc (by simp; omega) _
  have hs1 : w1.heap.size = w.heap.size + 7 := by rw [hw1]; simp
  have hJ : ∀ (B : Nat) (W : World), Below w1.heap.size w1 W → w.heap.size + 6 ≤ B → B ≤ W.heap.size → JW w.heap.size B (.func (.func g) #[] #[]) js0 W := by
    intro B W hb hB1 hB2
    have hc : ∀ b o, b < w.heap.size + 7 → W.cell? ⟨b, o, none⟩ = w1.cell? ⟨b, o, none⟩ := fun b o h => hb.cell (p := ⟨b, o, none⟩) (by show b < _; omega)
    have hf : ∀ b o, b < w.heap.size + 7 → W.frozen? ⟨b, o, none⟩ = w1.frozen? ⟨b, o, none⟩ := fun b o h => hb.frozen (p := ⟨b, o, none⟩) (by show b < _; omega)
    refine ⟨?_, ?_, ?_, ?_, ?_, ⟨.slice none 0 0, ?_, World.ownsRow_nil _ _ _ _⟩, ?_, ?_, ?_, ?_, ?_, ?_, hB1, hB2⟩
    all_goals first
      | (refine (hc _ _ (by omega)).trans ?_; rw [hw1]; simp [go_sem, js0, ptr]; done)
      | (refine (hf _ _ (by omega)).trans ?_; rw [hw1]; simp [go_sem]; done)
  have hL0 : w1.cell? ⟨w.heap.size + 6, 0, none⟩ = some (.slice A0 a.length c0) := by rw [hw1]; simp [go_sem]
  have hL1 : w1.cell? ⟨w.heap.size + 6, 1, none⟩ = some (.slice A1 b.length c1) := by rw [hw1]; simp [go_sem]
  have hends := ends_loop a b (w.heap.size + 6) 2 (.slice A0 a.length c0) (.slice A1 b.length c1) w1 (by omega) hL0 hL1 ((RA.out.below hb1).mono (by omega)) ((RB.out.below hb1).mono (by omega)) na nb ba bb
  have HJ := hide hJ
  clear hJ hL0 hL1 RA RB
  simp only [ptr] at hw1
  rw [← hw1]
  clear hw1
  refine hends.mono ?_
  rintro e wE ⟨E, Bx, rw', rfl, hp, hs, hbE, hr1, hr2, hit⟩
  go_wp2_with (fail)
  have HW : Hid (Below w.heap.size w wE) := hide (hb1.trans (hbE.mono (by omega)))
  have hsE : w.heap.size + 7 ≤ wE.heap.size := by have := hbE.size; omega
  have hJ0 := HJ.out wE.heap.size wE hbE (by omega) (Nat.le_refl _)
  have hEl : E.length ≤ 400000000 := by rw [hp.length_eq, List.length_append, evs_length, evs_length]; omega
  have hby : ∀ e ∈ E, (e.2.1 = 0 ∨ e.2.1 = 1) ∧ (e.2.2 = 1 ∨ e.2.2 = -1) := by
    intro e he
    rcases List.mem_append.1 (hp.mem_iff.1 he) with h1 | h1
    · obtain ⟨_, _, _, q1, q2⟩ := evs_mem h1
      exact ⟨.inl q1, q2⟩
    · obtain ⟨_, _, _, q1, q2⟩ := evs_mem h1
      exact ⟨.inr q1, q2⟩
  have HP : Hid (E.Perm (evs 0 a ++ evs 1 b) ∧ E.Pairwise (fun a b => a.1 ≤ b.1)) := hide ⟨hp, hs⟩
  have HG := hide hg
  clear HJ hb1 hbE hp hs hg na nb ba bb
  refine (wpIn_wide (n := 0)).1 ?_
  refine wp_range rfl (enters_of Tryz.func158 (by kernel_rfl) rfl) hit (Below.refl _ _) (fun x args A hx => by rw [hx]; rfl) KpB.trans ?_
    (fun pre W => JW w.heap.size wE.heap.size (.func (.func g) #[] #[]) (jfold h pre) W ∧ Below w.heap.size w W) (fun _ _ => False) ?_ ?_ (fun _ _ _ _ _ h => h.elim) ⟨hJ0, HW.out⟩ ?_ ?_ (fun _ _ _ _ h => h.elim)
  · intro A l o o' _ h1 h2 h3 off
    exact (cell_putObj h1 h2 h3 _).1
  · intro pre A B h1 hb
    exact ⟨h1.1.below hb, h1.2.trans (hb.mono h1.2.size)⟩
  · intro pre A l o o' h1 hl h2 h3 h4
    exact ⟨h1.1.putObj h2 h3, below_putObj h1.2 (by omega) _⟩
  · rintro l pre x args A ⟨hJA, hbA⟩ hpost rfl hl1 ⟨ol, hl2, hl3⟩
    obtain ⟨at', li, by'⟩ := x
    have hll : l < A.heap.size := (Array.getElem?_eq_some_iff.1 hl2).1
    obtain ⟨post, hpost⟩ := hpost
    have hlen : pre.length ≤ 400000000 := by rw [hpost, List.length_append] at hEl; omega
    have hbo := sum_jfold h pre js0 0 (fun e he => (hby e (by rw [hpost]; simp [he])).2) (by simp [js0]) (by simp [js0]) (by simp [js0]) (by simp [js0])
    have hol := jout_len h pre js0
    change _ ∧ _ ∧ _ ∧ _ at hbo
    have hxx := hby (at', li, by') (by rw [hpost]; simp)
    have HS := hide (jfold_snoc h pre (at', li, by'))
    change JW _ _ _ (pre.foldl (jstep h) js0) A at hJA
    change Hid (_ = jstep h (pre.foldl (jstep h) js0) _) at HS
    generalize pre.foldl (jstep h) js0 = st at *
    have hpl : (js0.out.length) = 0 := rfl
    rw [hpl] at hol
    clear hby hpost hJ0 HW hpl
    simp only [encE]
    gi_wp2
    refine ⟨KeepsFrom.of_below ((Below.refl _ _).alloc (Nat.le_refl _) _), fun o => World.cell?_alloc_lt A _ ⟨rw', o, none⟩ (by show rw' < _; omega), ?_⟩
    intro A2 g2 s2 e2 f2
    have c20 : A2.cell? ⟨A.heap.size, 0, none⟩ = some (.int .i64 at') := (e2 _).trans (by simp [go_sem])
    have c21 : A2.cell? ⟨A.heap.size, 1, none⟩ = some (.int .i64 li) := (e2 _).trans (by simp [go_sem])
    have c22 : A2.cell? ⟨A.heap.size, 2, none⟩ = some (.int .i64 by') := (e2 _).trans (by simp [go_sem])
    have s3 : A2.heap.size = A.heap.size + 1 := by rw [s2]; simp
    have J2 : JW w.heap.size wE.heap.size (.func (.func g) #[] #[]) st A2 :=
      (hJA.below ((Below.refl _ _).alloc (Nat.le_refl _) (.cells #[.int .i64 at', .int .i64 li, .int .i64 by'] 189))).keep (by omega) fun k o hk ho => (g2.block k (Array.getElem?_eq_some_iff.1 hk).1 (fun e => by
        injection e with e; subst e; rw [Below.heap_alloc _ _ _ hll, hl2] at hk; injection hk with hk; subst hk; rw [hl3] at ho; cases ho)).trans hk
    have hb2 : Below w.heap.size w A2 := (hbA.alloc (by omega) (.cells #[.int .i64 at', .int .i64 li, .int .i64 by'] 189)).grown g2 (by simp; omega) (fun k e => by injection e with e; omega)
    obtain ⟨vo, ho, hown⟩ := J2.out
    have hAE := hJA.size
    have hrow : ∀ k, vo.ownBlock = some k → wE.heap.size ≤ k ∧ k < A.heap.size := by
      intro k hk
      obtain ⟨v0, q1, q2⟩ := hJA.out
      have e : A2.cell? ⟨w.heap.size + 2, 0, none⟩ = A.cell? ⟨w.heap.size + 2, 0, none⟩ := (e2 _).trans (World.cell?_alloc_lt A _ ⟨w.heap.size + 2, 0, none⟩ (by show w.heap.size + 2 < A.heap.size; omega))
      rw [ho, q1] at e
      injection e with e
      subst e
      exact q2.lt k hk
    have hclose := close_any wE.heap.size (w.heap.size + 4) (w.heap.size + 3) (w.heap.size + 2) vo st.out st.last at' st.inn A2 J2.inn J2.la ho J2.fo (by omega) J2.size hown (by omega)
    have k5 := J2.cl
    have hAsz := hbA.size
    simp only [ptr] at k5
    have HN := hide hown
    have HO2 := hide ho
    clear e2 f2 g2 s2 hl2 hit hends hJA hbA hl3 ho hown
    simp only [Nat.add_assoc, Nat.reduceAdd]
    gi_wp2_with (first | (refine ⟨trivial, rfl, ?_⟩) | (gi_at_call 136; go_loud (refine (CallsIn.inRound l (callsIn_wide.2 hclose)).mono ?_); rintro e A3 ⟨rfl, vo', p1, p2, p3, U⟩))
    have uc : ∀ b o, b < A2.heap.size → b ≠ w.heap.size + 2 → (wE.heap.size ≤ b → A.heap.size ≤ b) → A3.cell? ⟨b, o, none⟩ = A2.cell? ⟨b, o, none⟩ := fun b o h1 h2 h3 => U.cell h1 h2 fun e => by have := hrow b e; omega
    have uf : ∀ b o, b < A2.heap.size → b ≠ w.heap.size + 2 → (wE.heap.size ≤ b → A.heap.size ≤ b) → A3.frozen? ⟨b, o, none⟩ = A2.frozen? ⟨b, o, none⟩ := fun b o h1 h2 h3 => U.frozen h1 h2 fun e => by have := hrow b e; omega
    have m20 := (uc A.heap.size 0 (by omega) (by omega) (by omega)).trans c20
    have m21 := (uc A.heap.size 1 (by omega) (by omega) (by omega)).trans c21
    have m22 := (uc A.heap.size 2 (by omega) (by omega) (by omega)).trans c22
    have mfb := (uc w.heap.size 0 (by omega) (by omega) (by omega)).trans J2.fb
    have mo0 := (uc (w.heap.size + 1) 0 (by omega) (by omega) (by omega)).trans J2.o0
    have mo1 := (uc (w.heap.size + 1) 1 (by omega) (by omega) (by omega)).trans J2.o1
    have mf0 := (uf (w.heap.size + 1) 0 (by omega) (by omega) (by omega)).trans J2.f0
    have mf1 := (uf (w.heap.size + 1) 1 (by omega) (by omega) (by omega)).trans J2.f1
    have mla := (uc (w.heap.size + 3) 0 (by omega) (by omega) (by omega)).trans J2.la
    have mfl := (uf (w.heap.size + 3) 0 (by omega) (by omega) (by omega)).trans J2.fl
    have min := (uc (w.heap.size + 4) 0 (by omega) (by omega) (by omega)).trans J2.inn
    have mfi := (uf (w.heap.size + 4) 0 (by omega) (by omega) (by omega)).trans J2.fi
    have UU := hide U
    have P3 := hide p3
    have P1 := hide p1
    have P2 := hide p2
    have HC := hide (And.intro uc uf)
    clear U p1 p2 p3 uc uf c20 c21 c22 k5 hclose
    obtain ⟨hli, hby2⟩ := hxx
    rcases hli with rfl | rfl
    · refine wpIn_region_tail_named 8 (by kernel_rfl) (by kernel_rfl) (by kernel_rfl) (fun a w h => h) ?_
      intro A4 hA4
      have n20 : A4.cell? ⟨A.heap.size, 0, none⟩ = some (.int .i64 at') := by rw [hA4]; exact m20
      have n21 : A4.cell? ⟨A.heap.size, 1, none⟩ = some (.int .i64 0) := by rw [hA4]; exact m21
      have n22 : A4.cell? ⟨A.heap.size, 2, none⟩ = some (.int .i64 by') := by rw [hA4]; exact m22
      have no : A4.cell? ⟨w.heap.size + 1, 0, none⟩ = some (.int .i64 st.o0) := by rw [hA4]; exact mo0
      have nf : A4.frozen? ⟨w.heap.size + 1, 0, none⟩ = false := by rw [hA4]; exact mf0
      have no' : A4.cell? ⟨w.heap.size + 1, 1, none⟩ = some (.int .i64 st.o1) := by rw [hA4]; exact mo1
      have nfb : A4.cell? ⟨w.heap.size, 0, none⟩ = some (.func (.func g) #[] #[]) := by rw [hA4]; exact mfb
      have nla : A4.cell? ⟨w.heap.size + 3, 0, none⟩ = some (.int .i64 st.last) := by rw [hA4]; exact mla
      have nin : A4.cell? ⟨w.heap.size + 4, 0, none⟩ = some (.bool st.inn) := by rw [hA4]; exact min
      have nfl : A4.frozen? ⟨w.heap.size + 3, 0, none⟩ = false := by rw [hA4]; exact mfl
      have nfi : A4.frozen? ⟨w.heap.size + 4, 0, none⟩ = false := by rw [hA4]; exact mfi
      have HA4 := hide hA4
      have HB := hide hb2
      have HJ := hide J2
      clear hA4 m20 m21 m22 mo0 mo1 mf0 mf1 mfb mla min mfl mfi hb2 J2
      have b1 : -9223372036854775808 ≤ st.o0 + by' := by omega
      have b2 : st.o0 + by' ≤ 9223372036854775807 := by omega
      simp only [List.take_succ_cons, List.take_zero, List.drop_succ_cons, List.drop_zero]
      repeat still_step
      refine wpStill_nil ?_
      go_wp2_with (fail)
      obtain ⟨z, hz⟩ : ∃ z, st.o0 + by' = z := ⟨_, rfl⟩
      rw [hz]
      have HZ := hide hz
      have q0 : A.heap.size ≠ w.heap.size + 1 := by omega
      refine wpIn_region_tail_named 10 (by kernel_rfl) (by kernel_rfl) (by kernel_rfl) (fun a w h => h) ?_
      intro A5 hA5
      have k20 : A5.cell? ⟨A.heap.size, 0, none⟩ = some (.int .i64 at') := by rw [hA5]; simp [go_sem, n20, q0]
      have ko : A5.cell? ⟨w.heap.size + 1, 0, none⟩ = some (.int .i64 z) := by rw [hA5]; simp [go_sem, no]
      have ko' : A5.cell? ⟨w.heap.size + 1, 1, none⟩ = some (.int .i64 st.o1) := by rw [hA5]; simp [go_sem, no']
      have kfb : A5.cell? ⟨w.heap.size, 0, none⟩ = some (.func (.func g) #[] #[]) := by rw [hA5]; simp [go_sem, nfb]
      have kla : A5.cell? ⟨w.heap.size + 3, 0, none⟩ = some (.int .i64 st.last) := by rw [hA5]; simp [go_sem, nla]
      have kin : A5.cell? ⟨w.heap.size + 4, 0, none⟩ = some (.bool st.inn) := by rw [hA5]; simp [go_sem, nin]
      have kfl : A5.frozen? ⟨w.heap.size + 3, 0, none⟩ = false := by rw [hA5]; simp [go_sem, nfl]
      have kfi : A5.frozen? ⟨w.heap.size + 4, 0, none⟩ = false := by rw [hA5]; simp [go_sem, nfi]
      have HA5 := hide hA5
      clear hA5 n20 n21 n22 no nf no' nfb nla nin nfl nfi b1 b2 hz
      simp only [List.take_succ_cons, List.take_zero, List.drop_succ_cons, List.drop_zero]
      repeat still_step
      still_call ((HG.out _ _ _).mono fun _ _ q => ⟨q.1, q.2.symm⟩)
      refine wpStill_nil ?_
      go_wp2_with (fail)
      have hst : jstep h st (at', 0, by') = ⟨z, st.o1, jcl st.inn st.last st.out at', at', h (decide ((0 : Int) < z)) (decide ((0 : Int) < st.o1))⟩ := by
        have := HZ.out
        subst this
        rfl
      have hA5 := HA5.out
      have hA4 := HA4.out
      clear HA5 HA4 HZ
      refine ?fin
      case fin =>
        have R := jw_fin (rb := rw') (A7 := (A5.setCell ⟨w.heap.size + 3, 0, none⟩ (.int .i64 at')).setCell ⟨w.heap.size + 4, 0, none⟩ (.bool (h (decide ((0 : Int) < z)) (decide ((0 : Int) < st.o1))))) (st' := jstep h st (at', 0, by')) (b0 := 0) HJ.out HB.out HN.out HO2.out UU.out P1.out P2.out
          (by rw [hst]; exact P3.out) (by rw [hA5, hA4]; exact ⟨rfl, rfl, rfl, by simp [World.setCell]⟩)
          (fun k k1 k3 k4 => (Below.heap_setCell _ _ _ _ k4).trans ((Below.heap_setCell _ _ _ _ k3).trans (by rw [hA5, hA4]; exact Below.heap_setCell _ _ _ _ k1)))
          (fun p => by rw [hA5, hA4]; simp [go_sem]) (by rw [hst]; simp [go_sem, ko, ko']) (by rw [hst]; simp [go_sem, ko, ko']) (by rw [hst]; simp [go_sem, kla]) (by rw [hst]; simp [go_sem, kin]) (by omega) hr2
        exact ⟨R.1, R.2.1, by rw [HS.out]; exact R.2.2.1, R.2.2.2⟩
    · refine wpIn_region_tail_named 8 (by kernel_rfl) (by kernel_rfl) (by kernel_rfl) (fun a w h => h) ?_
      intro A4 hA4
      have n20 : A4.cell? ⟨A.heap.size, 0, none⟩ = some (.int .i64 at') := by rw [hA4]; exact m20
      have n21 : A4.cell? ⟨A.heap.size, 1, none⟩ = some (.int .i64 1) := by rw [hA4]; exact m21
      have n22 : A4.cell? ⟨A.heap.size, 2, none⟩ = some (.int .i64 by') := by rw [hA4]; exact m22
      have no : A4.cell? ⟨w.heap.size + 1, 1, none⟩ = some (.int .i64 st.o1) := by rw [hA4]; exact mo1
      have nf : A4.frozen? ⟨w.heap.size + 1, 1, none⟩ = false := by rw [hA4]; exact mf1
      have no' : A4.cell? ⟨w.heap.size + 1, 0, none⟩ = some (.int .i64 st.o0) := by rw [hA4]; exact mo0
      have nfb : A4.cell? ⟨w.heap.size, 0, none⟩ = some (.func (.func g) #[] #[]) := by rw [hA4]; exact mfb
      have nla : A4.cell? ⟨w.heap.size + 3, 0, none⟩ = some (.int .i64 st.last) := by rw [hA4]; exact mla
      have nin : A4.cell? ⟨w.heap.size + 4, 0, none⟩ = some (.bool st.inn) := by rw [hA4]; exact min
      have nfl : A4.frozen? ⟨w.heap.size + 3, 0, none⟩ = false := by rw [hA4]; exact mfl
      have nfi : A4.frozen? ⟨w.heap.size + 4, 0, none⟩ = false := by rw [hA4]; exact mfi
      have HA4 := hide hA4
      have HB := hide hb2
      have HJ := hide J2
      clear hA4 m20 m21 m22 mo0 mo1 mf0 mf1 mfb mla min mfl mfi hb2 J2
      have b1 : -9223372036854775808 ≤ st.o1 + by' := by omega
      have b2 : st.o1 + by' ≤ 9223372036854775807 := by omega
      simp only [List.take_succ_cons, List.take_zero, List.drop_succ_cons, List.drop_zero]
      repeat still_step
      refine wpStill_nil ?_
      go_wp2_with (fail)
      obtain ⟨z, hz⟩ : ∃ z, st.o1 + by' = z := ⟨_, rfl⟩
      rw [hz]
      have HZ := hide hz
      have q0 : A.heap.size ≠ w.heap.size + 1 := by omega
      refine wpIn_region_tail_named 10 (by kernel_rfl) (by kernel_rfl) (by kernel_rfl) (fun a w h => h) ?_
      intro A5 hA5
      have k20 : A5.cell? ⟨A.heap.size, 0, none⟩ = some (.int .i64 at') := by rw [hA5]; simp [go_sem, n20, q0]
      have ko : A5.cell? ⟨w.heap.size + 1, 1, none⟩ = some (.int .i64 z) := by rw [hA5]; simp [go_sem, no]
      have ko' : A5.cell? ⟨w.heap.size + 1, 0, none⟩ = some (.int .i64 st.o0) := by rw [hA5]; simp [go_sem, no']
      have kfb : A5.cell? ⟨w.heap.size, 0, none⟩ = some (.func (.func g) #[] #[]) := by rw [hA5]; simp [go_sem, nfb]
      have kla : A5.cell? ⟨w.heap.size + 3, 0, none⟩ = some (.int .i64 st.last) := by rw [hA5]; simp [go_sem, nla]
      have kin : A5.cell? ⟨w.heap.size + 4, 0, none⟩ = some (.bool st.inn) := by rw [hA5]; simp [go_sem, nin]
      have kfl : A5.frozen? ⟨w.heap.size + 3, 0, none⟩ = false := by rw [hA5]; simp [go_sem, nfl]
      have kfi : A5.frozen? ⟨w.heap.size + 4, 0, none⟩ = false := by rw [hA5]; simp [go_sem, nfi]
      have HA5 := hide hA5
      clear hA5 n20 n21 n22 no nf no' nfb nla nin nfl nfi b1 b2 hz
      simp only [List.take_succ_cons, List.take_zero, List.drop_succ_cons, List.drop_zero]
      repeat still_step
      still_call ((HG.out _ _ _).mono fun _ _ q => ⟨q.1, q.2.symm⟩)
      refine wpStill_nil ?_
      go_wp2_with (fail)
      have hst : jstep h st (at', 1, by') = ⟨st.o0, z, jcl st.inn st.last st.out at', at', h (decide ((0 : Int) < st.o0)) (decide ((0 : Int) < z))⟩ := by
        have := HZ.out
        subst this
        rfl
      have hA5 := HA5.out
      have hA4 := HA4.out
      clear HA5 HA4 HZ
      refine ?fin
      case fin =>
        have R := jw_fin (rb := rw') (A7 := (A5.setCell ⟨w.heap.size + 3, 0, none⟩ (.int .i64 at')).setCell ⟨w.heap.size + 4, 0, none⟩ (.bool (h (decide ((0 : Int) < st.o0)) (decide ((0 : Int) < z))))) (st' := jstep h st (at', 1, by')) (b0 := 0) HJ.out HB.out HN.out HO2.out UU.out P1.out P2.out
          (by rw [hst]; exact P3.out) (by rw [hA5, hA4]; exact ⟨rfl, rfl, rfl, by simp [World.setCell]⟩)
          (fun k k1 k3 k4 => (Below.heap_setCell _ _ _ _ k4).trans ((Below.heap_setCell _ _ _ _ k3).trans (by rw [hA5, hA4]; exact Below.heap_setCell _ _ _ _ k1)))
          (fun p => by rw [hA5, hA4]; simp [go_sem]) (by rw [hst]; simp [go_sem, ko, ko']) (by rw [hst]; simp [go_sem, ko, ko']) (by rw [hst]; simp [go_sem, kla]) (by rw [hst]; simp [go_sem, kin]) (by omega) hr2
        exact ⟨R.1, R.2.1, by rw [HS.out]; exact R.2.2.1, R.2.2.2⟩
  · rintro D W hD ⟨hJW, hbW⟩ hK
    obtain ⟨vo, ho, hown⟩ := hJW.out
    obtain ⟨Av, cv, hv, _⟩ := own_rd hown (fun _ => rfl)
    subst hv
    have HO := hide hown
    have HB := hide hbW
    clear hown hbW hJW
    simp only [Exit.inBlock, Exit.then]
    go_wp2_with (fail)
    refine ⟨by simp, .inl ⟨_, _, rfl, run_takeDeferred hK, ?_⟩⟩
    refine ⟨_, results_tmp rfl _ _ _, E, _, rfl, HP.out.1, HP.out.2, below_putObj HB.out (by omega) _, ?_⟩
    exact own_base (own_putObj HO.out hK rfl) (by omega)
end Go.Proofs.YtdfpbhlnlkjjlaaGreat

/- slices.IndexFunc and slices.ContainsFunc at the program's structs. -/
namespace Go.Proofs.YtdfpbhlnlkjjlaaGreat
open Go.RowKit Go.Shelf
set_option linter.unusedVariables false
set_option linter.unusedSimpArgs false
set_option maxHeartbeats 1000000 in
theorem cfSpan_idx {w : World} {v : Value} {l : List Sp} (h : RdK encS 2 w w.heap.size v l) (hl : l.length ≤ 1000000000) (g : Nat) (lb : Array Value) (p : Sp → Bool)
  (eg : ∀ args w, (callFunc g args).run Tryz.prog w = .ok (.enter g args) w)
  (hp : ∀ (W : World) (x : Sp), x ∈ l → Below w.heap.size w W → Calls Tryz.prog g (#[.agg (encS x).toArray] ++ lb) W fun e w' => e = .returned (.bool (p x)) ∧ Below W.heap.size W w') :
  Calls Tryz.prog 135 #[v, .func (.func g) #[] lb] w fun e w' => e = .returned (.int .i64 (idxI p l)) ∧ Below w.heap.size w w' := by
 obtain ⟨A, c, rfl, hc⟩ := h
 go_enter Tryz.func135, Tryz.ntmps135
 go_wp2
 go_loopg [5, 8] l.length (fun gg _ s8 wr => ∃ kk : Nat, kk ≤ l.length ∧ l.length - kk ≤ gg ∧ s8 = .int .i64 kk ∧ Hid (Below w.heap.size w wr) ∧ Hid (∀ x ∈ l.take kk, p x = false))
 case atStart => exact ⟨0, Nat.zero_le _, by omega, rfl, hide (Below.refl _ w), hide (by simp)⟩
 case round =>
  obtain ⟨kk, hkk, hg, rfl, BW, A'⟩ := hrel
  by_cases hlt : kk < l.length
  ·have hltz : (kk : Int) < (l.length : Int) := by omega
   obtain ⟨b, off, rfl, hb, hcell⟩ := hc (by intro e; rw [e] at hlt; simp at hlt)
   have hx : l[kk]? = some l[kk] := List.getElem?_eq_getElem hlt
   have hcall := hp wr l[kk] (List.getElem_mem hlt) BW.out
   have hfi : l.take (kk + 1) = l.take kk ++ [l[kk]] := List.take_succ_eq_append_getElem hlt
   have c0 : wr.cell? ⟨b, off + kk * 2, none⟩ = some (.int .i64 l[kk].1) := (BW.out.cell (p := ⟨b, off + kk * 2, none⟩) hb).trans (hcell kk _ hx 0 _ rfl)
   have c1 : wr.cell? ⟨b, off + kk * 2 + 1, none⟩ = some (.int .i64 l[kk].2) := (BW.out.cell (p := ⟨b, off + kk * 2 + 1, none⟩) hb).trans (hcell kk _ hx 1 _ rfl)
   clear hc hcell hp
   obtain ⟨x, hxe⟩ : ∃ x, l[kk] = x := ⟨_, rfl⟩
   have XE := hide hxe
   have FI := hide hfi
   rw [hxe] at hcall c0 c1
   clear hx hxe hfi
   cases hq : p x with
   | true =>
    have HQ := hide hq
    rw [hq] at hcall
    clear hq
    go_wp2_with (go_at_fn g; refine hcall.mono ?_; rintro e w' ⟨rfl, hb'⟩)
    go_ret
    refine ⟨ret_eq (int_eq ?_), BW.out.trans (hb'.mono BW.out.size)⟩
    have hxl : p l[kk] = true := by rw [XE.out]; exact HQ.out
    unfold idxI
    rw [if_pos (List.any_eq_true.2 ⟨l[kk], List.getElem_mem hlt, hxl⟩)]
    have : l.findIdx p = kk := by
     rw [List.findIdx_eq hlt]
     refine ⟨hxl, fun j hj => ?_⟩
     have := A'.out l[j] (by rw [List.mem_take_iff_getElem]; exact ⟨j, by omega, rfl⟩)
     simpa using this
    rw [this]
   | false =>
    have HQ := hide hq
    rw [hq] at hcall
    clear hq
    go_wp2_with (go_at_fn g; refine hcall.mono ?_; rintro e w' ⟨rfl, hb'⟩)
    go_roundg (l.length - (kk + 1))
    case measure => omega
    case rel =>
     refine ⟨kk + 1, by omega, by omega, by go_num, hide (BW.out.trans (hb'.mono BW.out.size)), hide fun y hy => ?_⟩
     rw [FI.out, List.mem_append] at hy
     rcases hy with hy | hy
     ·exact A'.out y hy
     ·simp only [List.mem_singleton] at hy
      rw [hy, XE.out]; exact HQ.out
  ·have hltz : ¬ (kk : Int) < (l.length : Int) := by omega
   have hk : kk = l.length := by omega
   go_wp2
   go_ret
   refine ⟨ret_eq (int_eq ?_), BW.out⟩
   have hA := A'.out
   rw [hk, List.take_length] at hA
   unfold idxI
   rw [if_neg (by rw [List.any_eq_true]; rintro ⟨y, hy, hpy⟩; rw [hA y hy] at hpy; cases hpy)]
set_option maxHeartbeats 400000 in
theorem cfSpan_any {w : World} {v : Value} {l : List Sp} (h : RdK encS 2 w w.heap.size v l) (hl : l.length ≤ 1000000000) (g : Nat) (lb : Array Value) (p : Sp → Bool)
  (eg : ∀ args w, (callFunc g args).run Tryz.prog w = .ok (.enter g args) w)
  (hp : ∀ (W : World) (x : Sp), x ∈ l → Below w.heap.size w W → Calls Tryz.prog g (#[.agg (encS x).toArray] ++ lb) W fun e w' => e = .returned (.bool (p x)) ∧ Below W.heap.size W w') :
  Calls Tryz.prog 110 #[v, .func (.func g) #[] lb] w fun e w' => e = .returned (.bool (l.any p)) ∧ Below w.heap.size w w' := by
 have hi := cfSpan_idx h hl g lb p eg hp
 obtain ⟨A, c, rfl, hc⟩ := h
 clear hp hc eg
 cases ha : l.any p with
 | true =>
  simp only [idxI, ha, if_true] at hi
  clear ha
  obtain ⟨n, hn⟩ : ∃ n, l.findIdx p = n := ⟨_, rfl⟩
  rw [hn] at hi
  clear hn
  have hn0 : decide ((0 : Int) ≤ (n : Int)) = true := by simp
  go_enter Tryz.func110, Tryz.ntmps110
  go_wp2_with (go_at_call 135; refine hi.mono ?_; rintro e w1 ⟨rfl, hb1⟩)
  go_ret
  exact ⟨rfl, hb1⟩
 | false =>
  simp only [idxI, ha, Bool.false_eq_true, if_false] at hi
  clear ha
  go_enter Tryz.func110, Tryz.ntmps110
  go_wp2_with (go_at_call 135; refine hi.mono ?_; rintro e w1 ⟨rfl, hb1⟩)
  go_ret
  exact ⟨rfl, hb1⟩
end Go.Proofs.YtdfpbhlnlkjjlaaGreat

/- span.Make, span.Check, span.Union .. by their contracts, at lists in range. -/
namespace Go.Proofs.YtdfpbhlnlkjjlaaGreat
open Go.RowKit
set_option linter.unusedVariables false
set_option linter.unusedSimpArgs false
theorem sjoin_any (a b : List Sp) (va vb : Value) (w : World) (g : Nat) (h : Bool → Bool → Bool) (h0 : h false false = false) (eg : ∀ args w, (callFunc g args).run Tryz.prog w = .ok (.enter g args) w)
  (hg : ∀ (x y : Bool) (W : World), Calls Tryz.prog g #[.bool x, .bool y] W fun e w' => e = .returned (.bool (h x y)) ∧ W = w')
  (ra : RdK encS 2 w w.heap.size va a) (rb : RdK encS 2 w w.heap.size vb b) (na : a.length ≤ 100000000) (nb : b.length ≤ 100000000) (ba : ∀ p ∈ a, validS p) (bb : ∀ p ∈ b, validS p) :
  Calls Tryz.prog 113 #[va, vb, .func (.func g) #[] #[]] w fun e w' => ∃ A c, e = .returned (.slice A (sjoin h a b).length c) ∧ w'.ownsRow w.heap.size 104 2 (.slice A (sjoin h a b).length c) (sjoin h a b).length ((sjoin h a b).flatMap encS) ∧ Below w.heap.size w w' := by
 refine (join_any a b va vb w g h eg hg ra rb na nb ba bb).mono ?_
 rintro e w' ⟨E, v, rfl, hp, hs, hb, ho⟩
 obtain ⟨j1, j2⟩ := jfold_ok (h := h) h0 (fun p hp => (ba p hp).1) (fun p hp => (bb p hp).1) hp hs
 have e := sjoin_eq h0 (fun p hp => (ba p hp).1) (fun p hp => (bb p hp).1) j1 j2
 rw [e] at ho
 obtain ⟨A, c, rfl, hc⟩ := own_rd ho (fun _ => rfl)
 exact ⟨A, c, rfl, ho, hb⟩
def hSub (a b : Bool) : Bool := a && !b
def hFst (a b : Bool) : Bool := a
theorem fst_any (x y : Bool) (W : World) : Calls Tryz.prog 114 #[.bool x, .bool y] W fun e w' => e = .returned (.bool (hFst x y)) ∧ W = w' := by
 go_enter Tryz.func114, Tryz.ntmps114
 go_wp2
 go_ret
 exact ⟨rfl, rfl⟩
theorem spInv_any (p : Sp) (w : World) :
  Calls Tryz.prog 111 #[.agg (encS p).toArray] w fun e w' => e = .returned (.bool (!decide (validS p))) ∧ Below w.heap.size w w' := by
 have hv := fun W => validS_any p W
 obtain ⟨a, b⟩ := p
 generalize decide (validS (a, b)) = r at hv ⊢
 show Calls Tryz.prog 111 #[.agg #[.int .i64 a, .int .i64 b]] w _
 change ∀ W, Calls Tryz.prog 112 #[.agg #[.int .i64 a, .int .i64 b]] W _ at hv
 go_enter Tryz.func111, Tryz.ntmps111
 go_wp2_with (go_at_call 112; refine (hv _).mono ?_; rintro e w1 ⟨rfl, hb⟩)
 go_ret
 exact ⟨rfl, ((Below.refl _ _).alloc (Nat.le_refl _) _).trans (hb.mono (by simp))⟩
theorem enter_fst : ∀ args w, (callFunc 114 args).run Tryz.prog w = .ok (.enter 114 args) w := enters_of Tryz.func114 (by kernel_rfl) rfl
theorem enter_spInv : ∀ args w, (callFunc 111 args).run Tryz.prog w = .ok (.enter 111 args) w := enters_of Tryz.func111 (by kernel_rfl) rfl
set_option maxHeartbeats 1000000 in
theorem spanMake_ok {w : World} {v : Value} {l : List Sp} (hr : RdK encS 2 w w.heap.size v l) (hl : l.length ≤ 400) (hv : ∀ p ∈ l, validS p) :
  Calls Tryz.prog 76 #[v] w fun e w' => ∃ A c, e = .returned (.tuple #[.slice A (sjoin hFst l []).length c, .int .i64 0]) ∧ w'.ownsRow w.heap.size 104 2 (.slice A (sjoin hFst l []).length c) (sjoin hFst l []).length ((sjoin hFst l []).flatMap encS) ∧ Below w.heap.size w w' := by
 have hcf := cfSpan_any hr (by omega) 111 #[] (fun p => !decide (validS p)) enter_spInv (fun W x _ _ => spInv_any x W)
 have hany : l.any (fun p => !decide (validS p)) = false := by
  rw [List.any_eq_false]
  intro p hp
  simp [hv p hp]
 rw [hany] at hcf
 have hj := fun (W : World) (hb : Below w.heap.size w W) => sjoin_any l [] v (.slice none 0 0) W 114 hFst rfl enter_fst fst_any ((hr.below hb).mono hb.size) (RdK.nil none 0) (by omega) (by simp) hv (by simp)
 obtain ⟨A, c, rfl, _⟩ := hr
 have HCF := hide hcf
 have HJ := hide hj
 clear hcf hj hv hany
 generalize sjoin hFst l [] = r at *
 have hlz : (l.length : Int) ≤ 400 := by omega
 go_enter Tryz.func76, Tryz.ntmps76
 go_wp2_with (first
  | (go_at_call 110; refine HCF.out.mono ?_; rintro e w1 ⟨rfl, hb1⟩)
  | (go_at_call 113; refine (HJ.out _ hb1).mono ?_; rintro e w2 ⟨A2, c2, rfl, hr2, hb2⟩))
 go_ret2
 exact ⟨A2, c2, rfl, own_base hr2 hb1.size, hb1.trans (hb2.mono hb1.size)⟩
end Go.Proofs.YtdfpbhlnlkjjlaaGreat

/- Plain law: what region.made computes. -/
namespace Go.Proofs.YtdfpbhlnlkjjlaaGreat
set_option linter.unusedVariables false
set_option linter.unusedSimpArgs false
theorem flat1_len (a : Slab) : (flat1 a).length = a.s.length := by simp [flat1]
theorem addS_len (S : List Slab) (f t : Int) (s : List Sp) : (flat (addS S f t s)).length ≤ (flat S).length + s.length := by
 unfold addS
 by_cases h0 : s = []
 ·rw [if_pos h0]; omega
 rw [if_neg h0]
 cases hg : S.getLast? with
 | none => simp only [flat_one, flat1_len]; omega
 | some a =>
  obtain ⟨o, rfl⟩ := List.getLast?_eq_some_iff.1 hg
  simp only [List.dropLast_concat]
  split
  ·rename_i hb
   rw [flat_append, flat_append, flat_one, flat_one, List.length_append, List.length_append, flat1_len, flat1_len]
   show _ + s.length ≤ _
   omega
  ·rw [flat_append, flat_one, List.length_append, flat1_len]
   show _ + s.length ≤ _
   omega
def swp (g : Int → List Sp) (ps : List (Int × Int)) : List Slab := ps.foldl (fun S p => addS S p.1 p.2 (g p.1)) []
theorem swp_snoc (g : Int → List Sp) (ps : List (Int × Int)) (x : Int × Int) : swp g (ps ++ [x]) = addS (swp g ps) x.1 x.2 (g x.1) := by simp [swp]
theorem swp_len_from (g : Int → List Sp) (m : Nat) (hg : ∀ c, (g c).length ≤ m) : ∀ (ps : List (Int × Int)) (S : List Slab), (flat (ps.foldl (fun S p => addS S p.1 p.2 (g p.1)) S)).length ≤ (flat S).length + ps.length * m
 | [], S => by simp
 | p :: ps, S => by
  have h1 := swp_len_from g m hg ps (addS S p.1 p.2 (g p.1))
  have h2 := addS_len S p.1 p.2 (g p.1)
  have h3 := hg p.1
  simp only [List.foldl_cons, List.length_cons, Nat.add_mul]
  omega
theorem swp_len (g : Int → List Sp) (m : Nat) (hg : ∀ c, (g c).length ≤ m) (ps : List (Int × Int)) : (flat (swp g ps)).length ≤ ps.length * m := by
 have := swp_len_from g m hg ps []
 simpa [swp, flat] using this
theorem swp_sweep (g : Int → List Sp) (cs : List Int) : swp g (prs cs) = sweep g [] cs := (sweep_prs g cs []).symm
theorem sjoin_len (h : Bool → Bool → Bool) (a b : List Sp) : (sjoin h a b).length ≤ 2 * a.length + 2 * b.length := by
 have h1 := jout_len h (isort (evs 0 a ++ evs 1 b)) js0
 have h2 := (isort_perm (evs 0 a ++ evs 1 b)).length_eq
 rw [List.length_append, evs_length, evs_length] at h2
 have h3 : js0.out.length = 0 := rfl
 unfold sjoin jfold
 omega
theorem crossL_len (l : List R4) (c : Int) : (crossL l c).length ≤ l.length := by
 unfold crossL
 rw [List.length_map]
 exact List.length_filter_le _ _
theorem prs_next : ∀ (cs : List Int) (pre : List (Int × Int)) (x : Int × Int) (post : List (Int × Int)), prs cs = pre ++ x :: post → (∀ p, pre.getLast? = some p → p.2 = x.1)
 | [], pre, x, post, h => by
  simp [prs] at h
 | [_], pre, x, post, h => by
  simp [prs] at h
 | c :: d :: r, [], x, post, h => by
  simp
 | c :: d :: r, q :: pre, x, post, h => by
  simp only [prs, List.cons_append, List.cons.injEq] at h
  obtain ⟨h1, h2⟩ := h
  intro p hp
  cases pre with
  | nil =>
   simp at hp
   subst hp
   subst h1
   cases r with
   | nil => simp [prs] at h2
   | cons e r =>
    simp only [prs, List.nil_append, List.cons.injEq] at h2
    rw [← h2.1]
  | cons q' pre => exact prs_next (d :: r) (q' :: pre) x post h2 p (by simpa [List.getLast?_cons_cons] using hp)
theorem prs_lt : ∀ (cs : List Int), cs.Pairwise (· < ·) → ∀ x ∈ prs cs, x.1 < x.2 ∧ x.1 ∈ cs
  | [], _, x, h => by simp [prs] at h
  | [_], _, x, h => by simp [prs] at h
  | c :: d :: r, hs, x, h => by
    simp only [prs, List.mem_cons] at h
    rcases h with rfl | h
    · exact ⟨(List.pairwise_cons.1 hs).1 d (by simp), by simp⟩
    · have := prs_lt (d :: r) (List.pairwise_cons.1 hs).2 x h
      exact ⟨this.1, by simp only [List.mem_cons] at this ⊢; exact .inr this.2⟩
theorem swp_join {h : Bool → Bool → Bool} (h0 : h false false = false) {a b : List R4} (ha : ∀ r ∈ a, wf4 r) (hb : ∀ r ∈ b, wf4 r) {cs : List Int} (hs : cs.Pairwise (· < ·)) (hca : ∀ c ∈ cutsL a, c ∈ cs) (hcb : ∀ c ∈ cutsL b, c ∈ cs) :
    flat (swp (fun c => sjoin h (crossL a c) (crossL b c)) (prs cs)) = rjoin h a b := by
  rw [swp_sweep]
  obtain ⟨h1, h2⟩ := sweep_join (g := fun c => sjoin h (crossL a c) (crossL b c)) h0 hs hca hcb (fun c _ => sjoin_ok h0 (crossL_wf ha c) (crossL_wf hb c))
  exact rjoin_eq h0 ha hb h1 h2
def madeF (l : List R4) : List R4 × Int := if 400 < (rjoin hFst l []).length then ([], 4) else (rjoin hFst l [], 0)
end Go.Proofs.YtdfpbhlnlkjjlaaGreat

/- Plain law: the reference's sorted lists, and its canonical list of spans. -/
namespace Go.Proofs.YtdfpbhlnlkjjlaaGreat
set_option linter.unusedVariables false
set_option linter.unusedSimpArgs false
def srt (l : List Int) : List Int := l.foldl (fun acc c => insI c acc) []
theorem srt_snoc (l : List Int) (c : Int) : srt (l ++ [c]) = insI c (srt l) := by simp [srt]
theorem srt_from : ∀ (l acc : List Int), acc.Pairwise (· < ·) → (l.foldl (fun acc c => insI c acc) acc).Pairwise (· < ·) ∧ ∀ x, x ∈ l.foldl (fun acc c => insI c acc) acc ↔ x ∈ l ∨ x ∈ acc
  | [], acc, h => ⟨h, by simp⟩
  | c :: l, acc, h => by
    obtain ⟨h1, h2⟩ := srt_from l (insI c acc) (insI_sorted c acc h)
    refine ⟨h1, fun x => ?_⟩
    simp only [List.foldl_cons]
    rw [h2, mem_insI]
    simp only [List.mem_cons]
    constructor
    · rintro (h | h | h)
      · exact .inl (.inr h)
      · exact .inl (.inl h)
      · exact .inr h
    · rintro ((h | h) | h)
      · exact .inr (.inl h)
      · exact .inl h
      · exact .inr (.inr h)
theorem srt_ok (l : List Int) : (srt l).Pairwise (· < ·) ∧ ∀ x, x ∈ srt l ↔ x ∈ l := by
  obtain ⟨h1, h2⟩ := srt_from l [] List.Pairwise.nil
  exact ⟨h1, fun x => by rw [show srt l = l.foldl (fun acc c => insI c acc) [] from rfl, h2]; simp⟩
theorem insI_len (c : Int) : ∀ (l : List Int), (insI c l).length ≤ l.length + 1
 | [] => by simp [insI]
 | a :: l => by
  have := insI_len c l
  simp only [insI]
  split
  ·simp
  ·split
   ·simp
   ·simp; omega
theorem srt_len_from : ∀ (l acc : List Int), (l.foldl (fun acc c => insI c acc) acc).length ≤ acc.length + l.length
 | [], acc => by simp
 | c :: l, acc => by
  have h1 := srt_len_from l (insI c acc)
  have h2 := insI_len c acc
  simp only [List.foldl_cons, List.length_cons]
  omega
theorem srt_len (l : List Int) : (srt l).length ≤ l.length := by
 have := srt_len_from l []
 simpa [srt] using this
theorem insI_at (c : Int) : ∀ (S : List Int) (k : Nat), S.Pairwise (· < ·) → k ≤ S.length → (∀ j x, k ≤ j → S[j]? = some x → c < x) → (∀ x, k ≠ 0 → S[k - 1]? = some x → x < c) → insI c S = S.take k ++ c :: S.drop k
  | [], k, _, hk, _, _ => by
    obtain rfl : k = 0 := by simpa using hk
    rfl
  | a :: S, 0, h, _, h1, _ => by
    have := h1 0 a (Nat.le_refl _) rfl
    simp [insI, this]
  | a :: S, k + 1, h, hk, h1, h2 => by
    obtain ⟨p1, p2⟩ := List.pairwise_cons.1 h
    have hac : a < c := by
      cases k with
      | zero => exact h2 a (by simp) rfl
      | succ k =>
        have hkl : k < S.length := by simp at hk; omega
        have e := h2 S[k] (by simp) (by simp [hkl])
        have := p1 S[k] (List.getElem_mem hkl)
        omega
    have ih := insI_at c S k p2 (by simpa using hk) (fun j x hj hx => h1 (j + 1) x (by omega) (by simpa using hx)) (fun x hk0 hx => by
      refine h2 x (by simp) ?_
      obtain ⟨j, rfl⟩ : ∃ j, k = j + 1 := ⟨k - 1, by omega⟩
      simpa using hx)
    simp only [insI]
    rw [if_neg (by omega), if_neg (by omega), ih]
    simp
theorem insI_there (c : Int) : ∀ (S : List Int), S.Pairwise (· < ·) → c ∈ S → insI c S = S
  | a :: S, h, hc => by
    obtain ⟨p1, p2⟩ := List.pairwise_cons.1 h
    simp only [insI]
    rcases List.mem_cons.1 hc with rfl | hc
    · rw [if_neg (by omega), if_pos rfl]
    · have := p1 c hc
      rw [if_neg (by omega), if_neg (by omega), insI_there c S p2 hc]
def canF (cs : List Int) (bs : List Bool) : List Sp := ((prs cs).zip bs).foldl (fun out x => if x.2 then sext out x.1.1 x.1.2 else out) []
def canG (p : Int → Bool) : List Sp → List Int → List Sp
 | out, c :: d :: r => canG p (if p c then sext out c d else out) (d :: r)
 | out, _ => out
theorem canG_fold (p : Int → Bool) : ∀ (cs : List Int) (out : List Sp), ((prs cs).zip (cs.map p)).foldl (fun out x => if x.2 then sext out x.1.1 x.1.2 else out) out = canG p out cs
 | [], out => rfl
 | [c], out => rfl
 | c :: d :: r, out => by
  have := canG_fold p (d :: r) (if p c then sext out c d else out)
  simp only [prs, List.map_cons, List.zip_cons_cons, List.foldl_cons, canG] at this ⊢
  exact this
theorem canF_canG (p : Int → Bool) (cs : List Int) : canF cs (cs.map p) = canG p [] cs := canG_fold p cs []
theorem sext_len (out : List Sp) (c d : Int) : (sext out c d).length ≤ out.length + 1 := by
 unfold sext
 split
 ·split
  ·simp
  ·simp
 ·simp
theorem canF_len_from : ∀ (xs : List ((Int × Int) × Bool)) (out : List Sp), (xs.foldl (fun out x => if x.2 then sext out x.1.1 x.1.2 else out) out).length ≤ out.length + xs.length
 | [], out => by simp
 | x :: xs, out => by
  have h1 := canF_len_from xs (if x.2 then sext out x.1.1 x.1.2 else out)
  have h2 := sext_len out x.1.1 x.1.2
  simp only [List.foldl_cons, List.length_cons]
  by_cases hx : x.2 = true
  ·rw [if_pos hx] at h1 ⊢; omega
  ·rw [if_neg hx] at h1 ⊢; omega
theorem canF_len (cs : List Int) (bs : List Bool) : (canF cs bs).length ≤ cs.length := by
 have := canF_len_from ((prs cs).zip bs) []
 have h2 := prs_len cs
 have h3 : ((prs cs).zip bs).length ≤ (prs cs).length := by simp; omega
 unfold canF
 simp at this h3 ⊢
 omega
theorem canG_from {H : Int → Prop} {p : Int → Bool} {cs : List Int} (hs : cs.Pairwise (· < ·))
    (hH : ∀ c d x, c ∈ cs → d ∈ cs → c < d → (∀ e ∈ cs, e ≤ c ∨ d ≤ e) → c ≤ x → x < d → (H x ↔ p c = true)) (hhi : ∀ x, (∀ c ∈ cs, c ≤ x) → ¬ H x) :
    ∀ (r : List Int) (A : List Int) (c : Int) (out : List Sp), cs = A ++ c :: r → SCan out → (∀ q ∈ out, q.2 ≤ c) → (∀ x, smem out x ↔ x < c ∧ H x) →
      SCan (canG p out (c :: r)) ∧ ∀ x, smem (canG p out (c :: r)) x ↔ H x
  | [], A, c, out, hcs, h1, h2, h3 => by
    refine ⟨h1, fun x => ?_⟩
    show smem out x ↔ _
    rw [h3]
    constructor
    · exact fun q => q.2
    · intro q
      refine ⟨?_, q⟩
      rcases Int.lt_or_le x c with hx | hx
      · exact hx
      · exfalso
        refine hhi x (fun e he => ?_) q
        rw [hcs] at he hs
        rcases List.mem_append.1 he with he | he
        · have := (List.pairwise_append.1 hs).2.2 e he c (by simp); omega
        · simp at he; omega
  | d :: r, A, c, out, hcs, h1, h2, h3 => by
    have hc : c ∈ cs := by rw [hcs]; simp
    have hd : d ∈ cs := by rw [hcs]; simp
    have hs' := hs
    rw [hcs, List.pairwise_append] at hs'
    have hcd : c < d := (List.pairwise_cons.1 hs'.2.1).1 d (by simp)
    have hgap : ∀ e ∈ cs, e ≤ c ∨ d ≤ e := by
      intro e he
      rw [hcs] at he
      rcases List.mem_append.1 he with he | he
      · have := hs'.2.2 e he c (by simp); omega
      · rcases List.mem_cons.1 he with rfl | he
        · omega
        · rcases List.mem_cons.1 he with rfl | he
          · omega
          · have := (List.pairwise_cons.1 (List.pairwise_cons.1 hs'.2.1).2).1 e he; omega
    have key : SCan (if p c then sext out c d else out) ∧ (∀ q ∈ (if p c then sext out c d else out), q.2 ≤ d) ∧ ∀ x, smem (if p c then sext out c d else out) x ↔ x < d ∧ H x := by
      by_cases hp : p c = true
      · rw [if_pos hp]
        obtain ⟨a1, a2, a3⟩ := sext_ok h1 h2 hcd
        refine ⟨a1, a2, fun x => ?_⟩
        rw [a3, h3]
        constructor
        · rintro (⟨q1, q2⟩ | ⟨q1, q2⟩)
          · exact ⟨by omega, q2⟩
          · exact ⟨q2, (hH c d x hc hd hcd hgap q1 q2).2 hp⟩
        · rintro ⟨q1, q2⟩
          by_cases hx : x < c
          · exact .inl ⟨hx, q2⟩
          · exact .inr ⟨by omega, q1⟩
      · rw [if_neg hp]
        refine ⟨h1, fun q hq => by have := h2 q hq; omega, fun x => ?_⟩
        rw [h3]
        constructor
        · rintro ⟨q1, q2⟩
          exact ⟨by omega, q2⟩
        · rintro ⟨q1, q2⟩
          refine ⟨?_, q2⟩
          rcases Int.lt_or_le x c with hx | hx
          · exact hx
          · exact absurd ((hH c d x hc hd hcd hgap hx q1).1 q2) hp
    exact canG_from hs hH hhi r (A ++ [c]) d _ (by rw [hcs]; simp) key.1 key.2.1 key.2.2
theorem canF_ok {H : Int → Prop} {p : Int → Bool} {cs : List Int} (hs : cs.Pairwise (· < ·))
    (hH : ∀ c d x, c ∈ cs → d ∈ cs → c < d → (∀ e ∈ cs, e ≤ c ∨ d ≤ e) → c ≤ x → x < d → (H x ↔ p c = true)) (hhi : ∀ x, (∀ c ∈ cs, c ≤ x) → ¬ H x) (hlo : ∀ x, (∀ c ∈ cs, x < c) → ¬ H x) :
    SCan (canF cs (cs.map p)) ∧ ∀ x, smem (canF cs (cs.map p)) x ↔ H x := by
  rw [canF_canG]
  cases cs with
  | nil =>
    refine ⟨SCan.nil, fun x => ?_⟩
    have := hhi x (by simp)
    constructor
    · exact fun h => (smem_nil h).elim
    · exact fun h => (this h).elim
  | cons c r =>
    refine canG_from hs hH hhi r [] c [] rfl SCan.nil (by simp) (fun x => ?_)
    constructor
    · exact fun h => (smem_nil h).elim
    · rintro ⟨q1, q2⟩
      exfalso
      refine hlo x (fun e he => ?_) q2
      rcases List.mem_cons.1 he with rfl | he
      · exact q1
      · have := (List.pairwise_cons.1 hs).1 e he; omega
def cutsY (l : List R4) : List Int := l.flatMap fun r => [r.y0, r.y1]
theorem mem_cutsY {l : List R4} {r : R4} (h : r ∈ l) : r.y0 ∈ cutsY l ∧ r.y1 ∈ cutsY l := by
 unfold cutsY
 exact ⟨List.mem_flatMap.2 ⟨r, h, by simp⟩, List.mem_flatMap.2 ⟨r, h, by simp⟩⟩
theorem pmem_sameY {l : List R4} {cs : List Int} (hcs : ∀ c ∈ cutsY l, c ∈ cs) {c d x y : Int} (hgap : ∀ e ∈ cs, e ≤ c ∨ d ≤ e) (h1 : c ≤ y) (h2 : y < d) : pmem l x y ↔ pmem l x c := by
 constructor
 ·rintro ⟨r, hr, a, b, e, f⟩
  have g0 := hgap _ (hcs _ (mem_cutsY hr).1)
  have g1 := hgap _ (hcs _ (mem_cutsY hr).2)
  exact ⟨r, hr, a, b, by omega, by omega⟩
 ·rintro ⟨r, hr, a, b, e, f⟩
  have g0 := hgap _ (hcs _ (mem_cutsY hr).1)
  have g1 := hgap _ (hcs _ (mem_cutsY hr).2)
  exact ⟨r, hr, a, b, by omega, by omega⟩
theorem pmem_hiY {l : List R4} {cs : List Int} (hcs : ∀ c ∈ cutsY l, c ∈ cs) {x y : Int} (h : ∀ c ∈ cs, c ≤ y) : ¬ pmem l x y := by
 rintro ⟨r, hr, _, _, _, h2⟩
 have := h _ (hcs _ (mem_cutsY hr).2); omega
theorem pmem_loY {l : List R4} {cs : List Int} (hcs : ∀ c ∈ cutsY l, c ∈ cs) {x y : Int} (h : ∀ c ∈ cs, y < c) : ¬ pmem l x y := by
 rintro ⟨r, hr, _, _, h2, _⟩
 have := h _ (hcs _ (mem_cutsY hr).1); omega
def refG (h : Bool → Bool → Bool) (a b : List R4) (ys : List Int) (x : Int) : List Sp := canF ys (ys.map fun y => h (decide (pmem a x y)) (decide (pmem b x y)))
theorem refG_ok {h : Bool → Bool → Bool} (h0 : h false false = false) {a b : List R4} {ys : List Int} (hs : ys.Pairwise (· < ·)) (ha : ∀ c ∈ cutsY a, c ∈ ys) (hb : ∀ c ∈ cutsY b, c ∈ ys) (x : Int) :
    SCan (refG h a b ys x) ∧ ∀ y, smem (refG h a b ys x) y ↔ h (decide (pmem a x y)) (decide (pmem b x y)) = true := by
  refine canF_ok (H := fun y => h (decide (pmem a x y)) (decide (pmem b x y)) = true) hs ?_ ?_ ?_
  · intro c d y hc hd hcd hgap h1 h2
    rw [decide_eq_decide.2 (pmem_sameY ha hgap h1 h2), decide_eq_decide.2 (pmem_sameY hb hgap h1 h2)]
  · intro y hy
    rw [decide_eq_false (pmem_hiY ha hy), decide_eq_false (pmem_hiY hb hy), h0]
    exact Bool.false_ne_true
  · intro y hy
    rw [decide_eq_false (pmem_loY ha hy), decide_eq_false (pmem_loY hb hy), h0]
    exact Bool.false_ne_true
theorem ref_join {h : Bool → Bool → Bool} (h0 : h false false = false) {a b : List R4} (ha : ∀ r ∈ a, wf4 r) (hb : ∀ r ∈ b, wf4 r) :
  flat (swp (refG h a b (srt (cutsY a ++ cutsY b))) (prs (srt (cutsL a ++ cutsL b)))) = rjoin h a b := by
 rw [swp_sweep]
 obtain ⟨y1, y2⟩ := srt_ok (cutsY a ++ cutsY b)
 obtain ⟨x1, x2⟩ := srt_ok (cutsL a ++ cutsL b)
 have hG := refG_ok h0 y1 (a := a) (b := b) (fun c hc => (y2 c).2 (by simp [hc])) (fun c hc => (y2 c).2 (by simp [hc]))
 obtain ⟨h1, h2⟩ := sweep_join (h := h) h0 (a := a) (b := b) x1 (fun c hc => (x2 c).2 (by simp [hc])) (fun c hc => (x2 c).2 (by simp [hc])) (g := refG h a b (srt (cutsY a ++ cutsY b))) (fun c _ => by
  refine ⟨(hG c).1, fun y => ?_⟩
  rw [(hG c).2, decide_eq_decide.2 (smem_crossL (l := a)), decide_eq_decide.2 (smem_crossL (l := b))])
 exact rjoin_eq h0 ha hb h1 h2
theorem refG_len (h : Bool → Bool → Bool) (a b : List R4) (ys : List Int) (x : Int) : (refG h a b ys x).length ≤ ys.length := canF_len _ _
end Go.Proofs.YtdfpbhlnlkjjlaaGreat

/- slices.Sort and slices.Compact on a row of the call's own. -/
namespace Go.Proofs.YtdfpbhlnlkjjlaaGreat
open Go.RowKit Go.Sort
set_option linter.unusedVariables false
set_option linter.unusedSimpArgs false
abbrev iv (x : Int) : Value := .int .i64 x
theorem own_grow {w : World} {base size : Nat} {e : TypeId} {v : Value} {n : Nat} {xs : List Value} (h : w.ownsRow base e size v n xs) (os : Array Obj) : (grow w os).ownsRow base e size v n xs := by
 refine ⟨h.1, ?_⟩
 rcases h.2 with hn | ⟨g, cap, cur, hv, hg, hh, r⟩
 ·exact .inl hn
 ·refine .inr ⟨g, cap, cur, hv, hg, ?_, r⟩
  show (w.heap ++ os)[g]? = _
  rw [Array.getElem?_append_left (Array.getElem?_eq_some_iff.1 hh).1]
  exact hh
theorem putRow_grown {α : Type} [Inhabited α] {enc : α → Value} (w : World) (q g : Nat) (d : Array α) (os : Array Obj) : w.grownBy (grow (putRow enc (Sort.ahead w q) g 0 d) os) (some g) := by
 refine ⟨rfl, rfl, rfl, ?_, fun k hk hne => ?_⟩
 ·show w.heap.size ≤ (_ ++ os).size
  simp [putRow, mapBlock, Sort.ahead]
 ·have hg : g ≠ k := fun e => hne (by rw [e])
  show ((putRow enc (Sort.ahead w q) g 0 d).heap ++ os)[k]? = _
  rw [Array.getElem?_append_left (by simpa [putRow, mapBlock, Sort.ahead] using hk)]
  simp [putRow, mapBlock, Sort.ahead, Array.getElem?_modify, hg]
theorem grown_self (w : World) (row : Option Nat) : w.grownBy w row := ⟨rfl, rfl, rfl, Nat.le_refl _, fun _ _ _ => rfl⟩
theorem own_form {w : World} {base size : Nat} {e : TypeId} {v : Value} {n : Nat} {xs : List Value} (h : w.ownsRow base e size v n xs) : ∃ A c, v = .slice A n c := by
 rcases h.2 with ⟨rfl, rfl⟩ | ⟨g, cap, cur, rfl, _⟩
 ·exact ⟨_, _, rfl⟩
 ·exact ⟨_, _, rfl⟩
theorem sortI_any (base : Nat) (v : Value) (zs : List Int) (w : World) (hown : w.ownsRow base 3 1 v zs.length (zs.map iv)) (hsz : zs.length < 4611686018427387904) :
  Calls Tryz.prog 62 #[v] w fun e w' => e = .returned (.tuple #[]) ∧ w'.ownsRow base 3 1 v zs.length ((zs.mergeSort fun x y => decide (x ≤ y)).map iv) ∧ w.grownBy w' v.ownBlock := by
 by_cases h0 : zs = []
 ·subst h0
  obtain ⟨A, c, rfl⟩ := own_form hown
  refine (Tryz.slices_Sort_int_none A c w).mono ?_
  rintro e w' ⟨rfl, rfl⟩
  exact ⟨rfl, by simpa using hown, grown_self _ _⟩
 ·have hv : v ≠ .slice none 0 0 := by
   rintro rfl
   rcases hown.2 with ⟨_, h⟩ | ⟨g, cap, cur, h, _⟩
   ·exact h0 (List.eq_nil_of_length_eq_zero h)
   ·cases h
  obtain ⟨g, cap, rfl, hb, hg, hn, hm, _, hH⟩ := Lib.holds_of_ownsRow hown hv
  refine (Tryz.slices_Sort_int g 0 cap zs w hH hg hsz).mono ?_
  rintro e w' ⟨rfl, n, os, rfl⟩
  refine ⟨rfl, own_grow ?_ os, putRow_grown _ _ _ _ _⟩
  have hl : (zs.mergeSort fun x y => decide (x ≤ y)).length = zs.length := List.length_mergeSort zs
  have := Lib.ownsRow_putRow (enc := iv) (q := n) (k := zs.length) (ys := zs.mergeSort fun x y => decide (x ≤ y)) hown hl (Nat.le_refl _)
  rw [List.take_of_length_le (by omega)] at this
  exact this
theorem compI_any (base : Nat) (v : Value) (zs : List Int) (w : World) (hown : w.ownsRow base 3 1 v zs.length (zs.map iv)) (hsz : zs.length < 4611686018427387904) :
  Calls Tryz.prog 63 #[v] w fun e w' => ∃ v', e = .returned v' ∧ v'.ownBlock = v.ownBlock ∧ w'.ownsRow base 3 1 v' (Lib.compact zs).length ((Lib.compact zs).map iv) ∧ w.grownBy w' v.ownBlock := by
 by_cases h0 : zs = []
 ·subst h0
  obtain ⟨A, c, rfl⟩ := own_form hown
  refine (Tryz.slices_Compact_int_empty A c w).mono ?_
  rintro e w' ⟨rfl, rfl⟩
  exact ⟨_, rfl, rfl, hown, grown_self _ _⟩
 ·have hv : v ≠ .slice none 0 0 := by
   rintro rfl
   rcases hown.2 with ⟨_, h⟩ | ⟨g, cap, cur, h, _⟩
   ·exact h0 (List.eq_nil_of_length_eq_zero h)
   ·cases h
  obtain ⟨g, cap, rfl, hb, hg, hn, hm, _, hH⟩ := Lib.holds_of_ownsRow hown hv
  refine (Tryz.slices_Compact_int g 0 cap zs w hH (by omega) hn).mono ?_
  rintro e w' ⟨rfl, q, rfl⟩
  have hle : (Lib.compact zs).length ≤ zs.length := Lib.compact_length_le zs
  have := Lib.ownsRow_putRow (enc := iv) (q := q) (k := (Lib.compact zs).length) (ys := Lib.compact zs ++ List.replicate (zs.length - (Lib.compact zs).length) 0) hown (by simp; omega) hle
  rw [List.take_left] at this
  refine ⟨_, rfl, rfl, this, ?_⟩
  have h2 := putRow_grown (enc := iv) w q g (Lib.compact zs ++ List.replicate (zs.length - (Lib.compact zs).length) 0).toArray #[]
  rwa [Go.Sort.grow_empty] at h2
end Go.Proofs.YtdfpbhlnlkjjlaaGreat

/- slices.Equal at []Span: two lists are one. -/
namespace Go.Proofs.YtdfpbhlnlkjjlaaGreat
open Go.RowKit
set_option linter.unusedVariables false
set_option linter.unusedSimpArgs false
set_option maxHeartbeats 2000000 in
theorem eqSpan_any {w : World} {vs vt : Value} {s t : List Sp} {B C : Nat} (hs : RdK encS 2 w B vs s) (ht : RdK encS 2 w C vt t) (ns : s.length ≤ 100000000) (hB : B ≤ w.heap.size) (hC : C ≤ w.heap.size) :
  Calls Tryz.prog 115 #[vs, vt] w fun e w' => e = .returned (.bool (decide (s = t))) ∧ Below w.heap.size w w' := by
 obtain ⟨A1, c1, rfl, h1⟩ := hs
 obtain ⟨A2, c2, rfl, h2⟩ := ht
 have g : Tryz.prog.eqGuardType Tryz.prog.depth 104 = false := by kernel_rfl
 have H1 := hide h1
 have H2 := hide h2
 clear h1 h2
 go_enter Tryz.func115, Tryz.ntmps115
 by_cases hl : s.length = t.length
 ·have hne : ((s.length : Int) != (t.length : Int)) = false := by rw [hl]; simp
  have HL := hide hl
  clear hl
  go_wp2
  go_loopw [13] (fun i wr => ∃ k : Nat, k ≤ s.length ∧ i = .int .i64 k ∧ Hid (s.take k = t.take k) ∧ Below w.heap.size w wr) (fun i _ => s.length - (intOf i).toNat)
  case atStart => exact ⟨0, Nat.zero_le _, rfl, hide rfl, Below.refl _ _⟩
  case round =>
   obtain ⟨k, hk, rfl, HT, hb⟩ := hrel
   by_cases hlt : k < s.length
   ·obtain ⟨⟨a, b⟩, hp⟩ : ∃ p, s[k]? = some p := ⟨_, List.getElem?_eq_getElem hlt⟩
    have hlt2 : k < t.length := by rw [← HL.out]; exact hlt
    obtain ⟨⟨c, d⟩, hq⟩ : ∃ p, t[k]? = some p := ⟨_, List.getElem?_eq_getElem hlt2⟩
    obtain ⟨b1, o1, rfl, hb1, k1⟩ := H1.out (by intro e; rw [e] at hlt; simp at hlt)
    obtain ⟨b2, o2, rfl, hb2, k2⟩ := H2.out (by intro e; rw [e] at hlt2; simp at hlt2)
    have x0 : wr.cell? ⟨b1, o1 + k * 2, none⟩ = some (.int .i64 a) := (hb.cell (p := ⟨b1, _, none⟩) (by show b1 < _; omega)).trans (k1 k _ hp 0 _ rfl)
    have x1 : wr.cell? ⟨b1, o1 + k * 2 + 1, none⟩ = some (.int .i64 b) := (hb.cell (p := ⟨b1, _, none⟩) (by show b1 < _; omega)).trans (k1 k _ hp 1 _ rfl)
    have y0 : wr.cell? ⟨b2, o2 + k * 2, none⟩ = some (.int .i64 c) := (hb.cell (p := ⟨b2, _, none⟩) (by show b2 < _; omega)).trans (k2 k _ hq 0 _ rfl)
    have y1 : wr.cell? ⟨b2, o2 + k * 2 + 1, none⟩ = some (.int .i64 d) := (hb.cell (p := ⟨b2, _, none⟩) (by show b2 < _; omega)).trans (k2 k _ hq 1 _ rfl)
    have z1 : (k : Int) < (s.length : Int) := by omega
    have z2 : (k : Int) < (t.length : Int) := by omega
    have HP := hide hp
    have HQ := hide hq
    clear hp hq k1 k2
    by_cases hac : a = c
    ·by_cases hbd : b = d
     ·subst hac; subst hbd
      go_wp2
      go_region
      go_wp2
      go_roundw
      case rel =>
       refine ⟨k + 1, by omega, by go_num, hide ?_, hb.drew⟩
       obtain ⟨i1, e1⟩ := List.getElem?_eq_some_iff.1 HP.out
       obtain ⟨i2, e2⟩ := List.getElem?_eq_some_iff.1 HQ.out
       rw [List.take_succ_eq_append_getElem i1, List.take_succ_eq_append_getElem i2, HT.out, e1, e2]
      case measure => simp [intOf]; omega
     ·subst hac
      have hd : decide (s = t) = false := decide_eq_false fun e => by
       subst e
       have := HP.out.symm.trans HQ.out
       injection this with this
       injection this with _ h2
       exact hbd h2
      have HD := hide hd
      clear hd
      go_wp2
      go_region
      go_wp2
      go_ret
      exact ⟨ret_eq (bool_eq HD.out.symm), hb.drew⟩
    ·have hd : decide (s = t) = false := decide_eq_false fun e => by
      subst e
      have := HP.out.symm.trans HQ.out
      injection this with this
      injection this with h2 _
      exact hac h2
     have HD := hide hd
     clear hd
     go_wp2
     go_region
     go_wp2
     go_ret
     exact ⟨ret_eq (bool_eq HD.out.symm), hb.drew⟩
   ·have hlz : ¬ (k : Int) < (s.length : Int) := by omega
    have hd : decide (s = t) = true := decide_eq_true (by
     have := HT.out
     rw [List.take_of_length_le (by omega), List.take_of_length_le (by rw [← HL.out]; omega)] at this
     exact this)
    have HD := hide hd
    clear hd
    go_wp2
    go_ret
    exact ⟨ret_eq (bool_eq HD.out.symm), hb⟩
 ·have hne : ((s.length : Int) != (t.length : Int)) = true := by simp; omega
  have hd : decide (s = t) = false := decide_eq_false fun e => hl (by rw [e])
  rw [hd]
  clear hl hd
  go_wp2
  go_ret
  exact ⟨rfl, Below.refl _ _⟩
end Go.Proofs.YtdfpbhlnlkjjlaaGreat

/- region's builder: its cells, and 'result'. -/
namespace Go.Proofs.YtdfpbhlnlkjjlaaGreat
open Go.RowKit
set_option linter.unusedVariables false
set_option linter.unusedSimpArgs false
structure BW (bb Bo : Nat) (S : List Slab) (last : List Sp) (first : Nat) (e : Int) (W : World) : Prop where
 low : bb < Bo
 size : Bo ≤ W.heap.size
 out : ∃ vo, W.cell? ⟨bb, 0, none⟩ = some vo ∧ W.ownsRow Bo 49 4 vo (flat S).length ((flat S).flatMap encR)
 la : ∃ vl, W.cell? ⟨bb, 1, none⟩ = some vl ∧ W.ownsRow Bo 104 2 vl last.length (last.flatMap encS)
 fi : W.cell? ⟨bb, 2, none⟩ = some (.int .i64 first)
 en : W.cell? ⟨bb, 3, none⟩ = some (.int .i64 e)
 fz : ∀ j, W.frozen? ⟨bb, j, none⟩ = false
 inv : BInv S last first e
set_option maxHeartbeats 1000000 in
theorem result_any {bb Bo : Nat} {S : List Slab} {last : List Sp} {first : Nat} {e : Int} {w : World} (h : BW bb Bo S last first e w) (hn : (flat S).length ≤ 1000000000) :
  Calls Tryz.prog 78 #[.pointer (some ⟨bb, 0, none⟩)] w fun r w' => w = w' ∧
   ((400 < (flat S).length ∧ r = .returned (.tuple #[.slice none 0 0, .int .i64 4])) ∨ ((flat S).length ≤ 400 ∧ ∃ A c, r = .returned (.tuple #[.slice A (flat S).length c, .int .i64 0]) ∧ w.ownsRow Bo 49 4 (.slice A (flat S).length c) (flat S).length ((flat S).flatMap encR))) := by
 obtain ⟨vo, h0, ho⟩ := h.out
 obtain ⟨A, c, hv, _⟩ := own_rd ho (fun _ => rfl)
 subst hv
 have HO := hide ho
 clear ho
 generalize (flat S).length = n at *
 by_cases h4 : 400 < n
 ·have hz : (400 : Int) < (n : Int) := by omega
  go_enter Tryz.func78, Tryz.ntmps78
  go_wp2
  go_ret2
  exact ⟨rfl, .inl ⟨h4, rfl⟩⟩
 ·have hz : (n : Int) ≤ 400 := by omega
  go_enter Tryz.func78, Tryz.ntmps78
  go_wp2
  go_ret2
  exact ⟨rfl, .inr ⟨by omega, A, c, rfl, HO.out⟩⟩
end Go.Proofs.YtdfpbhlnlkjjlaaGreat

/- region.slabs: the cuts of some lists, and the iterator bound to them. -/
namespace Go.Proofs.YtdfpbhlnlkjjlaaGreat
open Go.RowKit
set_option linter.unusedVariables false
set_option linter.unusedSimpArgs false
theorem infoIA : (Tryz.prog.info? 3).map (fun i => (i.zero, i.size, i.bytes)) = some (some (.int .i64 0), 1, 8) := by kernel_rfl
theorem cutsL_take (l : List R4) (m : Nat) (r : R4) (h : l[m]? = some r) : cutsL (l.take (m + 1)) = cutsL (l.take m) ++ [r.x0, r.x1] := by
 obtain ⟨hm, hp⟩ := List.getElem?_eq_some_iff.1 h
 rw [List.take_succ_eq_append_getElem hm, hp]
 simp [cutsL]
theorem cutsL_len (l : List R4) : (cutsL l).length = 2 * l.length := by
 induction l with
 | nil => rfl
 | cons p s ih => simp [cutsL] at ih ⊢; omega
theorem flat_take (ls : List (List R4)) (k : Nat) (l : List R4) (h : ls[k]? = some l) : (ls.take (k + 1)).flatMap cutsL = (ls.take k).flatMap cutsL ++ cutsL l := by
 obtain ⟨hm, hp⟩ := List.getElem?_eq_some_iff.1 h
 rw [List.take_succ_eq_append_getElem hm, hp]
 simp
theorem len_take (ls : List (List R4)) (k : Nat) (l : List R4) (h : ls[k]? = some l) : ((ls.take k).flatMap cutsL).length + (cutsL l).length ≤ (ls.flatMap cutsL).length := by
 rw [← List.length_append, ← flat_take ls k l h]
 conv => rhs; rw [← List.take_append_drop (k + 1) ls]
 rw [List.flatMap_append, List.length_append]; omega
theorem box_fin {B o : Nat} {w1 wa w2 : World} {row : Option Nat} {v2 x : Value} {e : TypeId} {size n : Nat} {xs : List Value} (ks : B ≤ w1.heap.size) (hoB : o < B) (k3 : w1.cell? ⟨o, 0, none⟩ = some x) (k4 : w1.frozen? ⟨o, 0, none⟩ = false)
  (ha : Below w1.heap.size w1 wa) (hgrow : wa.grownBy w2 row) (hr : ∀ k, row = some k → B ≤ k) (hown2 : w2.ownsRow B e size v2 n xs) :
  w2.cell? ⟨o, 0, none⟩ = some x ∧ w2.frozen? ⟨o, 0, none⟩ = false ∧ Hid ((w2.setCell ⟨o, 0, none⟩ v2).cell? ⟨o, 0, none⟩ = some v2 ∧ (w2.setCell ⟨o, 0, none⟩ v2).frozen? ⟨o, 0, none⟩ = false ∧
   (w2.setCell ⟨o, 0, none⟩ v2).ownsRow B e size v2 n xs ∧ Below o w1 (w2.setCell ⟨o, 0, none⟩ v2) ∧ (∀ q off, q < B → q ≠ o → (w2.setCell ⟨o, 0, none⟩ v2).cell? ⟨q, off, none⟩ = w1.cell? ⟨q, off, none⟩) ∧ w1.heap.size ≤ (w2.setCell ⟨o, 0, none⟩ v2).heap.size) := by
 have hb : Below B w1 w2 := (ha.mono ks).grown hgrow (by have := ha.size; omega) hr
 have c := (hb.cell (p := ⟨o, 0, none⟩) hoB).trans k3
 have f := (hb.frozen (p := ⟨o, 0, none⟩) hoB).trans k4
 refine ⟨c, f, hide ⟨by simp [go_sem, c], by simp [go_sem, f], ownsRow_setCell_below hown2 hoB _, (hb.mono (Nat.le_of_lt hoB)).setCell (p := ⟨o, 0, none⟩) (Nat.le_refl o) _, fun q off hq hne => ?_, ?_⟩⟩
 ·refine (World.cell?_of_block (w := w2) (a := ⟨q, off, none⟩) (Below.heap_setCell _ _ _ _ hne)).trans (hb.cell (p := ⟨q, off, none⟩) hq)
 ·have := hb.size
  simpa [World.setCell] using this
set_option maxHeartbeats 2000000 in
theorem slabsA_any (ls : List (List R4)) (L c : Nat) (w : World) (hL : L < w.heap.size) (hv : ∀ k l, ls[k]? = some l → ∃ v, w.cell? ⟨L, k, none⟩ = some v ∧ RdK encR 4 w w.heap.size v l) (hn : (ls.flatMap cutsL).length ≤ 100000000) (hls : ls.length ≤ 1000) :
  Calls Tryz.prog 75 #[.slice (some ⟨L, 0, none⟩) ls.length c] w fun e w' => ∃ v, e = .returned (.func (.func 109) #[] #[.pointer (some ⟨w.heap.size + 1, 0, none⟩), .pointer (some ⟨w.heap.size, 0, none⟩)]) ∧
   w'.cell? ⟨w.heap.size, 0, none⟩ = some (.slice (some ⟨L, 0, none⟩) ls.length c) ∧ w'.cell? ⟨w.heap.size + 1, 0, none⟩ = some v ∧ w'.ownsRow (w.heap.size + 2) 3 1 v (cutsOf (ls.flatMap cutsL)).length ((cutsOf (ls.flatMap cutsL)).map iv) ∧ Below w.heap.size w w' := by
 obtain ⟨i0, hi, hz0, hz1, hz2⟩ := info_parts infoIA
 have HV := hide hv
 clear hv
 go_enter Tryz.func75, Tryz.ntmps75
 go_wp2
 go_loopw [10] (fun i wr => ∃ k : Nat, k ≤ ls.length ∧ i = .int .i64 k ∧ ∃ v, wr.cell? ⟨w.heap.size + 1, 0, none⟩ = some v ∧ wr.frozen? ⟨w.heap.size + 1, 0, none⟩ = false ∧ wr.cell? ⟨w.heap.size, 0, none⟩ = some (.slice (some ⟨L, 0, none⟩) ls.length c) ∧
   wr.ownsRow (w.heap.size + 2) 3 1 v ((ls.take k).flatMap cutsL).length (((ls.take k).flatMap cutsL).map iv) ∧ Below w.heap.size w wr ∧ w.heap.size + 2 ≤ wr.heap.size)
  (fun i _ => ls.length - (intOf i).toNat)
 case atStart =>
  refine ⟨0, Nat.zero_le _, rfl, .slice none 0 0, by simp [go_sem], by simp [go_sem], by simp [go_sem], World.ownsRow_nil _ _ _ _, ((Below.refl _ _).alloc (Nat.le_refl _) _).alloc (by simp) _, by simp⟩
 case round =>
  obtain ⟨k, hk, rfl, v, hc1, hf1, hc0, hown, hb, hsz⟩ := hrel
  by_cases hlt : k < ls.length
  ·obtain ⟨l, hlk⟩ : ∃ l, ls[k]? = some l := ⟨_, List.getElem?_eq_getElem hlt⟩
   obtain ⟨vl, hcl, A, c0, rfl, hrd⟩ := HV.out k l hlk
   have hcl' : wr.cell? ⟨L, k, none⟩ = some (.slice A l.length c0) := (hb.cell (p := ⟨L, k, none⟩) hL).trans hcl
   have hle := len_take ls k l hlk
   have HK := hide (flat_take ls k l hlk)
   have HR := hide hrd
   have hkz : (k : Int) < (ls.length : Int) := by omega
   rw [cutsL_len] at hle
   generalize (ls.take k).flatMap cutsL = P at *
   generalize wr = w1 at *
   clear hcl hrd
   go_wp2
   go_loopw [16] (fun j wi => ∃ m : Nat, m ≤ l.length ∧ j = .int .i64 m ∧ ∃ v, wi.cell? ⟨w.heap.size + 1, 0, none⟩ = some v ∧ wi.frozen? ⟨w.heap.size + 1, 0, none⟩ = false ∧ wi.cell? ⟨w.heap.size, 0, none⟩ = some (.slice (some ⟨L, 0, none⟩) ls.length c) ∧
     wi.ownsRow (w.heap.size + 2) 3 1 v (P ++ cutsL (l.take m)).length ((P ++ cutsL (l.take m)).map iv) ∧ Below w.heap.size w wi ∧ w.heap.size + 2 ≤ wi.heap.size)
    (fun j _ => l.length - (intOf j).toNat)
   case atStart => exact ⟨0, by omega, rfl, v, hc1, hf1, hc0, by simpa [cutsL] using hown, hb, hsz⟩
   case round =>
    clear hc1 hf1 hc0 hown
    obtain ⟨m, hm, rfl, v, hc1, hf1, hc0, hownm, hbm, hszm⟩ := hrel
    by_cases hml : m < l.length
    ·obtain ⟨⟨x0, y0, x1, y1⟩, hp⟩ : ∃ p, l[m]? = some p := ⟨_, List.getElem?_eq_getElem hml⟩
     have hne : l ≠ [] := by intro e; rw [e] at hml; simp at hml
     obtain ⟨bk, off, rfl, hbk, hcell⟩ := HR.out hne
     have d0 : wr.cell? ⟨bk, off + m * 4, none⟩ = some (.int .i64 x0) := (hbm.cell hbk).trans (hcell m _ hp 0 _ rfl)
     have d1 : wr.cell? ⟨bk, off + m * 4 + 1, none⟩ = some (.int .i64 y0) := (hbm.cell hbk).trans (hcell m _ hp 1 _ rfl)
     have d2 : wr.cell? ⟨bk, off + m * 4 + 2, none⟩ = some (.int .i64 x1) := (hbm.cell hbk).trans (hcell m _ hp 2 _ rfl)
     have d3 : wr.cell? ⟨bk, off + m * 4 + 3, none⟩ = some (.int .i64 y1) := (hbm.cell hbk).trans (hcell m _ hp 3 _ rfl)
     have hmz : (m : Int) < (l.length : Int) := by omega
     have hlenE : (P ++ cutsL (l.take m)).length ≤ 100000000 := by rw [List.length_append, cutsL_len, List.length_take]; omega
     have HE : Hid (P ++ cutsL (l.take (m + 1)) = P ++ cutsL (l.take m) ++ [x0, x1]) := hide (by rw [cutsL_take l m _ hp, List.append_assoc])
     obtain ⟨Av, cv, rfl⟩ := own_form hownm
     have hlt1 : w.heap.size + 1 < wr.heap.size := by omega
     have hlt0 : w.heap.size < wr.heap.size := by omega
     clear hcell
     generalize P ++ cutsL (l.take m) = E0 at *
     go_wp2_with (at_builtin; go_loud (refine wpList_append_lies _ rfl (.tmp 20) (.tmp 25) 96 rfl (w.heap.size + 2) 3 i0 (.int .i64 0) 1 8 Tryz.underlying96 hi hz0 hz1 hz2 rfl (by decide) _ _ _ rfl ((hownm.alloc _).alloc _) ⟨wr.heap.size + 1, 0, none⟩ 2 2 [.int .i64 x0, .int .i64 x1] rfl rfl (news_new (wr.alloc _) _ _ _ (by simp)) (ints_one rfl) (by omega) (by unfold maxLen; omega) (by omega) (by simp; omega) _ rfl ?_))
     intro g cap w2 hown2 hgrow _ _
     have hx2 : E0.map iv ++ [.int .i64 x0, .int .i64 x1] = (E0 ++ [x0, x1]).map iv := by simp
     have HL : Hid (E0.length + 2 = (P ++ cutsL (l.take (m + 1))).length) := hide (by rw [HE.out]; simp)
     rw [hx2, ← HE.out] at hown2
     obtain ⟨k3, k4, HF⟩ := box_fin hszm (Nat.lt_succ_self _) hc1 hf1 (((Below.refl _ wr).alloc (Nat.le_refl _) _).alloc (by simp) _) hgrow (fun k h => (hownm.lt k h).1) hown2
     have HC := hide hc0
     clear hown2 hgrow hownm hx2 hc1 hf1 hc0 d0 d1 d2 d3
     go_wp2
     go_roundw
     case rel =>
      obtain ⟨z1, z2, z3, z4, z5, z6⟩ := HF.out
      exact ⟨m + 1, by omega, by go_num, _, z1, z2, (z5 _ _ (by omega) (by omega)).trans HC.out, own_n z3 HL.out, hbm.trans (z4.mono (by omega)), by omega⟩
     case measure => simp [intOf]; omega
    ·have hme : ¬ (m : Int) < (l.length : Int) := by omega
     have hmt : l.take m = l := List.take_of_length_le (by omega)
     rw [hmt, ← HK.out] at hownm
     have HO := hide hownm
     clear hmt hownm
     go_wp2
     go_roundw
     case rel => exact ⟨k + 1, by omega, by go_num, v, hc1, hf1, hc0, HO.out, hbm, hszm⟩
     case measure => simp [intOf]; omega
  ·have hkz : ¬ (k : Int) < (ls.length : Int) := by omega
   have hkt : ls.take k = ls := List.take_of_length_le (by omega)
   rw [hkt] at hown
   have HO := hide hown
   clear hkt hown
   have hl : (ls.flatMap cutsL).length < 4611686018427387904 := by omega
   have hlm : ((ls.flatMap cutsL).mergeSort fun x y => decide (x ≤ y)).length = (ls.flatMap cutsL).length := List.length_mergeSort _
   have HM := hide hlm
   have HC0 := hide hc0
   clear hc0 hlm
   go_wp2_with (first
    | (go_at_call 62; refine (sortI_any _ v _ wr HO.out hl).mono ?_; rintro e w1 ⟨rfl, ho1, hg1⟩; have hb1 : Below (w.heap.size + 2) wr w1 := (Below.refl _ _).grown hg1 hsz (fun k h => (HO.out.lt k h).1); have e1 := (hb1.cell (p := ⟨w.heap.size + 1, 0, none⟩) (Nat.lt_succ_self _)).trans hc1; have HO1 := hide ho1; have HB1 := hide hb1; clear ho1 hg1 hb1)
    | (go_at_call 63; refine (compI_any _ v _ w1 (own_n HO1.out HM.out.symm) (by rw [HM.out]; exact hl)).mono ?_; rintro e w2 ⟨v2, rfl, hv2, ho2, hg2⟩; have hb2 : Below (w.heap.size + 2) w1 w2 := (Below.refl _ _).grown hg2 (Nat.le_trans hsz HB1.out.size) (fun k h => (HO1.out.lt k h).1); have e2 := (hb2.cell (p := ⟨w.heap.size + 1, 0, none⟩) (Nat.lt_succ_self _)).trans e1; have f2 := ((HB1.out.trans hb2).frozen (p := ⟨w.heap.size + 1, 0, none⟩) (Nat.lt_succ_self _)).trans hf1; have HO2 := hide ho2; have HB2 := hide hb2; clear ho2 hg2 hb2; obtain ⟨Av, cv, hv2⟩ := own_form HO2.out; subst hv2))
   go_ret
   have hB : Below (w.heap.size + 2) wr w2 := HB1.out.trans HB2.out
   refine ⟨_, rfl, ?_, by simp [go_sem, e2], ownsRow_setCell_below HO2.out (Nat.lt_succ_self _) _, (hb.trans (hB.mono (by omega))).setCell (p := ⟨w.heap.size + 1, 0, none⟩) (Nat.le_succ _) _⟩
   exact (World.cell?_of_block (w := w2) (a := ⟨w.heap.size, 0, none⟩) (Below.heap_setCell _ _ _ _ (Nat.ne_of_lt (Nat.lt_succ_self _)))).trans ((hB.cell (p := ⟨w.heap.size, 0, none⟩) (by show w.heap.size < _; omega)).trans HC0.out)
end Go.Proofs.YtdfpbhlnlkjjlaaGreat
