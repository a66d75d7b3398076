/- span.join's closure 'close': one more span at the end of the list. -/
import Derived.Test.YtamnaojheecopaaRegA
import Derived.Test.YtamnaojheecopaaOwn
import Derived.Deep.AppendLies
import Derived.OwnWalk
namespace Go.Proofs.Ytamnaojheecopaa
open Go.RowKit
set_option linter.unusedVariables false
set_option linter.unusedSimpArgs false

/-- Old blocks are as they were, but for block o and for the row. -/
structure Upd (o : Nat) (row : Option Nat) (w w' : World) : Prop where
  os : w'.os = w.os
  tape : w'.tape = w.tape
  output : w'.output = w.output
  size : w.heap.size ≤ w'.heap.size
  block : ∀ k, k < w.heap.size → k ≠ o → row ≠ some k → w'.heap[k]? = w.heap[k]?
theorem Upd.refl (o : Nat) (row : Option Nat) (w : World) : Upd o row w w := ⟨rfl, rfl, rfl, Nat.le_refl _, fun _ _ _ _ => rfl⟩
theorem Upd.trans {o : Nat} {row : Option Nat} {a b c : World} (h : Upd o row a b) (k : Upd o row b c) : Upd o row a c :=
  ⟨k.os.trans h.os, k.tape.trans h.tape, k.output.trans h.output, Nat.le_trans h.size k.size, fun i hi ho hr => (k.block i (Nat.lt_of_lt_of_le hi h.size) ho hr).trans (h.block i hi ho hr)⟩
theorem Upd.of_below {o : Nat} {row : Option Nat} {a b : World} (h : Below a.heap.size a b) : Upd o row a b := ⟨h.os, h.tape, h.output, h.size, fun i hi _ _ => h.block i hi⟩
theorem Upd.of_grown {o : Nat} {row : Option Nat} {a b : World} (h : a.grownBy b row) : Upd o row a b := ⟨h.os, h.tape, h.output, h.size, fun i hi _ hr => h.block i hi (fun e => hr e.symm)⟩
theorem Upd.setCell {o : Nat} {row : Option Nat} {a b : World} (h : Upd o row a b) (off : Nat) (u : Value) : Upd o row a (b.setCell ⟨o, off, none⟩ u) :=
  h.trans ⟨rfl, rfl, rfl, by simp [World.setCell], fun k hk ho _ => Below.heap_setCell _ _ _ _ ho⟩
theorem Upd.setRow {o g : Nat} {a b : World} (h : Upd o (some g) a b) (off : Nat) (u : Value) : Upd o (some g) a (b.setCell ⟨g, off, none⟩ u) :=
  h.trans ⟨rfl, rfl, rfl, by simp [World.setCell], fun k hk _ hr => Below.heap_setCell _ _ _ _ (fun e => hr (by rw [e]))⟩
theorem Upd.cell {o : Nat} {row : Option Nat} {a b : World} (h : Upd o row a b) {k off : Nat} (hk : k < a.heap.size) (ho : k ≠ o) (hr : row ≠ some k) : b.cell? ⟨k, off, none⟩ = a.cell? ⟨k, off, none⟩ := World.cell?_of_block (w := a) (h.block k hk ho hr)
theorem Upd.frozen {o : Nat} {row : Option Nat} {a b : World} (h : Upd o row a b) {k off : Nat} (hk : k < a.heap.size) (ho : k ≠ o) (hr : row ≠ some k) : b.frozen? ⟨k, off, none⟩ = a.frozen? ⟨k, off, none⟩ := World.frozen?_of_block (w := a) (h.block k hk ho hr)
theorem Upd.below {o n : Nat} {row : Option Nat} {a b : World} (h : Upd o row a b) (hn : n ≤ o) (hB : n ≤ a.heap.size) (hr : ∀ k, row = some k → n ≤ k) : Below n a b :=
  ⟨h.os, h.tape, h.output, h.size, fun k hk => h.block k (by omega) (by omega) (fun e => by have := hr k e; omega)⟩

/-- The list behind 'close(at)'. -/
def jcl (inn : Bool) (last : Int) (out : List Sp) (e : Int) : List Sp := if inn = true ∧ last ≠ e then sext out last e else out
theorem infoS : (Try.prog.info? 78).map (fun i => (i.zero, i.size, i.bytes)) = some (some (.agg #[.int .i64 0, .int .i64 0]), 2, 16) := by kernel_rfl

theorem set_last (q : List Sp) (x y e : Int) : ((q ++ [(x, y)]).flatMap encS).set (q.length * 2 + 1) (.int .i64 e) = (q ++ [(x, e)]).flatMap encS := by
  have hl := flat_len (enc := encS) (k := 2) (fun _ => rfl) q
  rw [List.flatMap_append, List.flatMap_append, List.set_append_right _ _ (by omega)]
  congr 1
  rw [hl, show q.length * 2 + 1 - q.length * 2 = 1 by omega]
  rfl
theorem close_set {B o g cap : Nat} {w w1 : World} {q : List Sp} {x y e : Int} (kb : Upd o (some g) w w1) (hoB : o < B) (hBg : B ≤ g) (k3 : w1.cell? ⟨o, 0, none⟩ = some (.slice (some ⟨g, 0, none⟩) (q.length + 1) cap)) (k4 : w1.frozen? ⟨o, 0, none⟩ = false)
    (k5 : w1.ownsRow B 78 2 (.slice (some ⟨g, 0, none⟩) (q.length + 1) cap) (q.length + 1) ((q ++ [(x, y)]).flatMap encS)) :
    ∃ vo', (w1.setCell ⟨g, q.length * 2 + 1, none⟩ (.int .i64 e)).cell? ⟨o, 0, none⟩ = some vo' ∧ (w1.setCell ⟨g, q.length * 2 + 1, none⟩ (.int .i64 e)).frozen? ⟨o, 0, none⟩ = false ∧
      (w1.setCell ⟨g, q.length * 2 + 1, none⟩ (.int .i64 e)).ownsRow B 78 2 vo' (q ++ [(x, e)]).length ((q ++ [(x, e)]).flatMap encS) ∧ Upd o (some g) w (w1.setCell ⟨g, q.length * 2 + 1, none⟩ (.int .i64 e)) := by
  obtain ⟨s1, s2⟩ := k5.stored (q.length * 2 + 1) (.int .i64 e)
  rw [set_last] at s1
  have hb : Below B w1 (w1.setCell ⟨g, q.length * 2 + 1, none⟩ (.int .i64 e)) := (Below.refl B w1).setCell hBg _
  exact ⟨_, (hb.cell (p := ⟨o, 0, none⟩) hoB).trans k3, (hb.frozen (p := ⟨o, 0, none⟩) hoB).trans k4, by simpa using s1, kb.setRow _ _⟩
theorem close_fin {B o : Nat} {w w1 w2 : World} {row : Option Nat} {v2 x : Value} {out' : List Sp} {n : Nat} (kb : Upd o row w w1) (ks : B ≤ w1.heap.size) (hoB : o < B) (k3 : w1.cell? ⟨o, 0, none⟩ = some x) (k4 : w1.frozen? ⟨o, 0, none⟩ = false) (blk : Obj)
    (hgrow : (w1.alloc blk).grownBy w2 row) (hr : ∀ k, row = some k → B ≤ k) (hown2 : w2.ownsRow B 78 2 v2 n (out'.flatMap encS)) (hn : n = out'.length) :
    w2.cell? ⟨o, 0, none⟩ = some x ∧ w2.frozen? ⟨o, 0, none⟩ = false ∧ Hid (∃ vo', (w2.setCell ⟨o, 0, none⟩ v2).cell? ⟨o, 0, none⟩ = some vo' ∧ (w2.setCell ⟨o, 0, none⟩ v2).frozen? ⟨o, 0, none⟩ = false ∧
      (w2.setCell ⟨o, 0, none⟩ v2).ownsRow B 78 2 vo' out'.length (out'.flatMap encS) ∧ Upd o row w (w2.setCell ⟨o, 0, none⟩ v2)) := by
  have hb : Below B w1 w2 := ((Below.refl B w1).alloc ks _).grown hgrow (by simp; omega) hr
  have c := (hb.cell (p := ⟨o, 0, none⟩) hoB).trans k3
  have f := (hb.frozen (p := ⟨o, 0, none⟩) hoB).trans k4
  subst hn
  refine ⟨c, f, hide ⟨v2, by simp [go_sem, c], by simp [go_sem, f], ownsRow_setCell_below hown2 hoB _, (kb.trans ((Upd.of_below ((Below.refl _ _).alloc (Nat.le_refl _) blk)).trans (.of_grown hgrow))).setCell _ _⟩⟩

set_option maxHeartbeats 2000000 in
theorem close_any (B i l o : Nat) (vo : Value) (out : List Sp) (last e : Int) (inn : Bool) (w : World) (h1 : w.cell? ⟨i, 0, none⟩ = some (.bool inn)) (h2 : w.cell? ⟨l, 0, none⟩ = some (.int .i64 last)) (h3 : w.cell? ⟨o, 0, none⟩ = some vo) (h4 : w.frozen? ⟨o, 0, none⟩ = false)
    (hoB : o < B) (hB : B ≤ w.heap.size) (hown : w.ownsRow B 78 2 vo out.length (out.flatMap encS)) (hn : out.length ≤ 1000000000) :
    Calls Try.prog 90 #[.int .i64 e, .pointer (some ⟨i, 0, none⟩), .pointer (some ⟨l, 0, none⟩), .pointer (some ⟨o, 0, none⟩)] w fun r w' => r = .returned (.tuple #[]) ∧
      ∃ vo', w'.cell? ⟨o, 0, none⟩ = some vo' ∧ w'.frozen? ⟨o, 0, none⟩ = false ∧ w'.ownsRow B 78 2 vo' (jcl inn last out e).length ((jcl inn last out e).flatMap encS) ∧ Upd o vo.ownBlock w w' := by
  obtain ⟨i0, hi, hz0, hz1, hz2⟩ := info_parts infoS
  obtain ⟨A, c, hv, hcl⟩ := own_rd hown (fun _ => rfl)
  subst hv
  go_enter Try.func90, Try.ntmps90
  cases inn with
  | false =>
    go_wp2
    refine bodyPost_ret (results_none rfl _ _ _) rfl ?_
    exact ⟨rfl, _, h3, h4, hown, Upd.refl _ _ _⟩
  | true =>
    by_cases hle : last = e
    · subst hle
      go_wp2
      refine bodyPost_ret (results_none rfl _ _ _) rfl ?_
      exact ⟨rfl, _, h3, h4, by simpa [jcl] using hown, Upd.refl _ _ _⟩
    · have hj : jcl true last out e = sext out last e := if_pos ⟨rfl, hle⟩
      rw [hj]
      clear hj
      have hbe : (last == e) = false := by simpa using hle
      clear hle
      have nlt : ∀ (b : Nat), w.heap.size ≤ b → ¬ b = o := fun b h => by omega
      rcases List.eq_nil_or_concat out with rfl | ⟨q, p, rfl⟩
      · have hs : sext [] last e = [(last, e)] := rfl
        rw [hs]
        clear hs nlt hcl
        simp only [List.length_nil, List.flatMap_nil] at *
        go_wp2
        have hg : decide ((0 : Int) < 0) = false := rfl
        go_quiet (fail)
        obtain ⟨w1, hw1⟩ : ∃ w1, w1 = w.drewN nq := ⟨_, rfl⟩
        rw [← hw1]
        have k2 : w1.cell? ⟨l, 0, none⟩ = some (.int .i64 last) := by rw [hw1]; exact h2
        have k3 : w1.cell? ⟨o, 0, none⟩ = some (.slice A 0 c) := by rw [hw1]; exact h3
        have k4 : w1.frozen? ⟨o, 0, none⟩ = false := by rw [hw1]; exact h4
        have k5 : w1.ownsRow B 78 2 (.slice A 0 c) 0 [] := by rw [hw1]; exact hown
        have kb : Upd o (Value.slice A 0 c).ownBlock w w1 := by rw [hw1]; exact ⟨rfl, rfl, rfl, Nat.le_refl _, fun _ _ _ _ => rfl⟩
        have ks : B ≤ w1.heap.size := by rw [hw1]; exact hB
        clear hw1 h1 h2 h3 h4 hown hg
        go_wp2_with (at_builtin; (refine wpList_append_lies _ rfl (.tmp 33) (.tmp 37) 48 rfl B 78 i0 (.agg #[.int .i64 0, .int .i64 0]) 2 16 Try.underlying48 hi hz0 hz1 hz2 rfl (by decide) _ _ _ rfl (k5.alloc _) ⟨w1.heap.size, 0, none⟩ 1 1 [.int .i64 last, .int .i64 e] rfl rfl (news_new w1 _ _ _ (by simp)) (ints_one rfl) (by omega) (by unfold maxLen; omega) (by omega) (by simp; omega) _ rfl ?_))
        intro g cap w2 hown2 hgrow _ _
        obtain ⟨c2, f2, HF⟩ := close_fin (out' := [(last, e)]) kb ks hoB k3 k4 _ hgrow (fun k h => (k5.lt k h).1) hown2 rfl
        clear hown2 hgrow k2 k3 k4 k5 kb
        go_wp2
        go_end0
        exact ⟨rfl, HF.out⟩
      · obtain ⟨x, y⟩ := p
        rw [List.concat_eq_append] at *
        have hy : sext (q ++ [(x, y)]) last e = if y = last then q ++ [(x, e)] else q ++ [(x, y)] ++ [(last, e)] := by
          unfold sext
          simp [List.getLast?_append, List.dropLast_concat]
        rw [hy]
        clear hy nlt
        clear hcl
        obtain ⟨g, cap, hv, hBg, hgw⟩ := hown.form (by simp)
        injection hv with e1 _ e3
        subst e1; subst e3
        have cy : w.cell? ⟨g, q.length * 2 + 1, none⟩ = some (.int .i64 y) := by
          have := (hown.cells (g := g) rfl) _ _ (flat_get (k := 2) (fun _ => rfl) _ q.length (x, y) 1 _ (by simp) rfl)
          rwa [addr_add] at this
        have fy : w.frozen? ⟨g, q.length * 2 + 1, none⟩ = false := hown.frozenAt _
        simp only [List.length_append, List.length_cons, List.length_nil, Nat.zero_add] at hown h3 hn
        have hg : decide ((0 : Int) < (q.length : Int) + 1) = true := decide_eq_true (by omega)
        have q1 : (q.length : Int) < (q.length : Int) + 1 := by omega
        have q0 : (0 : Int) ≤ (q.length : Int) := by omega
        by_cases hyl : y = last
        · rw [if_pos hyl]
          have hb2 : (y == last) = true := by simpa using hyl
          clear hyl
          go_wp2
          go_quiet (fail)
          obtain ⟨w1, hw1⟩ : ∃ w1, w1 = w.drewN nq := ⟨_, rfl⟩
          rw [← hw1]
          have k3 : w1.cell? ⟨o, 0, none⟩ = some (.slice (some ⟨g, 0, none⟩) (q.length + 1) c) := by rw [hw1]; exact h3
          have k4 : w1.frozen? ⟨o, 0, none⟩ = false := by rw [hw1]; exact h4
          have k5 : w1.ownsRow B 78 2 (.slice (some ⟨g, 0, none⟩) (q.length + 1) c) (q.length + 1) ((q ++ [(x, y)]).flatMap encS) := by rw [hw1]; exact hown
          have k6 : w1.cell? ⟨g, q.length * 2 + 1, none⟩ = some (.int .i64 y) := by rw [hw1]; exact cy
          have k7 : w1.frozen? ⟨g, q.length * 2 + 1, none⟩ = false := by rw [hw1]; exact fy
          have kb : Upd o (some g) w w1 := by rw [hw1]; exact ⟨rfl, rfl, rfl, Nat.le_refl _, fun _ _ _ _ => rfl⟩
          have HF := hide (close_set (e := e) kb hoB hBg k3 k4 k5)
          clear hw1 h1 h2 h3 h4 hown cy fy k5 kb hg
          go_wp2
          go_end0
          exact ⟨rfl, HF.out⟩
        · rw [if_neg hyl]
          have hb2 : (y == last) = false := by simpa using hyl
          clear hyl
          go_wp2
          go_quiet (fail)
          obtain ⟨w1, hw1⟩ : ∃ w1, w1 = w.drewN nq := ⟨_, rfl⟩
          rw [← hw1]
          have k2 : w1.cell? ⟨l, 0, none⟩ = some (.int .i64 last) := by rw [hw1]; exact h2
          have k3 : w1.cell? ⟨o, 0, none⟩ = some (.slice (some ⟨g, 0, none⟩) (q.length + 1) c) := by rw [hw1]; exact h3
          have k4 : w1.frozen? ⟨o, 0, none⟩ = false := by rw [hw1]; exact h4
          have k5 : w1.ownsRow B 78 2 (.slice (some ⟨g, 0, none⟩) (q.length + 1) c) (q.length + 1) ((q ++ [(x, y)]).flatMap encS) := by rw [hw1]; exact hown
          have kb : Upd o (some g) w w1 := by rw [hw1]; exact ⟨rfl, rfl, rfl, Nat.le_refl _, fun _ _ _ _ => rfl⟩
          have ks : B ≤ w1.heap.size := by rw [hw1]; exact hB
          clear hw1 h1 h2 h3 h4 hown hg cy fy
          go_wp2_with (at_builtin; refine wpList_append_lies _ rfl (.tmp 33) (.tmp 37) 48 rfl B 78 i0 (.agg #[.int .i64 0, .int .i64 0]) 2 16 Try.underlying48 hi hz0 hz1 hz2 rfl (by decide) _ _ _ rfl (k5.alloc _) ⟨w1.heap.size, 0, none⟩ 1 1 [.int .i64 last, .int .i64 e] rfl rfl (news_new w1 _ _ _ (by simp)) (ints_one rfl) (by omega) (by unfold maxLen; omega) (by omega) (by simp; omega) _ rfl ?_)
          intro g2 cap w2 hown2 hgrow _ _
          rw [show q.flatMap encS ++ (encS (x, y) ++ [.int .i64 last, .int .i64 e]) = (q ++ [(x, y)] ++ [(last, e)]).flatMap encS by simp [encS]] at hown2
          obtain ⟨c2, f2, HF⟩ := close_fin (out' := q ++ [(x, y)] ++ [(last, e)]) kb ks hoB k3 k4 _ hgrow (fun k h => (k5.lt k h).1) hown2 (by simp)
          clear hown2 hgrow k2 k3 k4 k5 kb
          go_wp2
          go_end0
          exact ⟨rfl, HF.out⟩
end Go.Proofs.Ytamnaojheecopaa
