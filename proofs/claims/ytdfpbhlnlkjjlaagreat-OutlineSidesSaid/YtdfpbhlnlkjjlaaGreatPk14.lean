/- Texts laid together: RdLit, OuhA, MJoin, RowSet, MLabel, TouchC, PartsB, MWhole, OutT, OulB, OuiA, OuhB, LawOA, OutI, LawOB, OuiB, Row, Open, Regs, RegsB. Lemmas for the statements of this seat; no condition. -/
import Derived.Test.YtdfpbhlnlkjjlaaGreatPk1
import Derived.Test.YtdfpbhlnlkjjlaaGreatPk13
import Derived.Test.YtdfpbhlnlkjjlaaGreatPk5
import Derived.Test.YtdfpbhlnlkjjlaaGreatPk8
import Derived.Test.YtdfpbhlnlkjjlaaGreatPk7
import Derived.Test.YtdfpbhlnlkjjlaaGreatPk6
import Derived.Deep.QuietTactic
import Derived.BigQuiet
import Derived.StillTactics
import Derived.Deep.CutBlock
import Derived.Test.YtdfpbhlnlkjjlaaGreatPk12
import Derived.ProofKit
import Derived.Lib.SmallJoins
import Derived.Deep.Slices
import Derived.Deep.Fields
import Derived.ChangeSame

/- A list of rectangles that has just been written out is read as a list. -/
namespace Go.Proofs.YtdfpbhlnlkjjlaaGreat
open Go.RowKit
set_option linter.unusedVariables false
set_option linter.unusedSimpArgs false
theorem rd_lit (w : World) (l : List R4) (t : TypeId) (c : Nat) : RdK encR 4 (w.alloc (.cells (l.flatMap encR).toArray t)) (w.alloc (.cells (l.flatMap encR).toArray t)).heap.size (.slice (some ⟨w.heap.size, 0, none⟩) l.length c) l := by
 refine ⟨_, c, rfl, fun _ => ⟨w.heap.size, 0, rfl, by simp, fun j x hx i u hu => ?_⟩⟩
 have := news_new w (l.flatMap encR) t w.heap.size rfl _ _ (flat_get (k := 4) (fun _ => rfl) l j x i u hx hu)
 rw [addr_add] at this
 rwa [Nat.zero_add]
end Go.Proofs.YtdfpbhlnlkjjlaaGreat

/- Outlines: law.go's at, ring, hole and fit; lists that are written out. -/
namespace Go.Proofs.YtdfpbhlnlkjjlaaGreat
open Go.RowKit
set_option linter.unusedVariables false
set_option linter.unusedSimpArgs false
theorem rd_litP (w : World) (l : List Pt) (t : TypeId) (c : Nat) : RdK encS 2 (w.alloc (.cells (l.flatMap encS).toArray t)) (w.alloc (.cells (l.flatMap encS).toArray t)).heap.size (.slice (some ⟨w.heap.size, 0, none⟩) l.length c) l := by
 refine ⟨_, c, rfl, fun _ => ⟨w.heap.size, 0, rfl, by simp, fun j x hx i u hu => ?_⟩⟩
 have := news_new w (l.flatMap encS) t w.heap.size rfl _ _ (flat_get (k := 2) (fun _ => rfl) l j x i u hx hu)
 rw [addr_add] at this
 rwa [Nat.zero_add]
theorem rd_pts4 (w : World) (a b c d e f g h : Int) (t : TypeId) : RdK encS 2 (w.alloc (.cells #[.int .i64 a, .int .i64 b, .int .i64 c, .int .i64 d, .int .i64 e, .int .i64 f, .int .i64 g, .int .i64 h] t)) (w.alloc (.cells #[.int .i64 a, .int .i64 b, .int .i64 c, .int .i64 d, .int .i64 e, .int .i64 f, .int .i64 g, .int .i64 h] t)).heap.size (.slice (some ⟨w.heap.size, 0, none⟩) 4 4) [(a, b), (c, d), (e, f), (g, h)] :=
 rd_litP w [(a, b), (c, d), (e, f), (g, h)] t 4
theorem rd_rects2 (w : World) (a b c d e f g h : Int) (t : TypeId) : RdK encR 4 (w.alloc (.cells #[.int .i64 a, .int .i64 b, .int .i64 c, .int .i64 d, .int .i64 e, .int .i64 f, .int .i64 g, .int .i64 h] t)) (w.alloc (.cells #[.int .i64 a, .int .i64 b, .int .i64 c, .int .i64 d, .int .i64 e, .int .i64 f, .int .i64 g, .int .i64 h] t)).heap.size (.slice (some ⟨w.heap.size, 0, none⟩) 2 2) [⟨a, b, c, d⟩, ⟨e, f, g, h⟩] :=
 rd_lit w [⟨a, b, c, d⟩, ⟨e, f, g, h⟩] t 2
theorem rd_rects1 (w : World) (a b c d : Int) (t : TypeId) : RdK encR 4 (w.alloc (.cells #[.int .i64 a, .int .i64 b, .int .i64 c, .int .i64 d] t)) (w.alloc (.cells #[.int .i64 a, .int .i64 b, .int .i64 c, .int .i64 d] t)).heap.size (.slice (some ⟨w.heap.size, 0, none⟩) 1 1) [⟨a, b, c, d⟩] :=
 rd_lit w [⟨a, b, c, d⟩] t 1
theorem sqP_2 : sqP 0 0 2 = [(0, 0), (2, 0), (2, 1), (0, 1)] := by decide
theorem rdps_lit (w : World) (vs : List Value) (L : List (List Pt)) (h : ∀ (j : Nat) (r : List Pt), L[j]? = some r → ∃ u, vs[j]? = some u ∧ RdK encS 2 w w.heap.size u r) (t : TypeId) (c : Nat) : RdPs (w.alloc (.cells vs.toArray t)) (w.alloc (.cells vs.toArray t)).heap.size (.slice (some ⟨w.heap.size, 0, none⟩) L.length c) L := by
 have hb : Below w.heap.size w (w.alloc (.cells vs.toArray t)) := (Below.refl _ _).alloc (Nat.le_refl _) _
 refine ⟨_, c, rfl, fun _ => ⟨w.heap.size, 0, rfl, by simp, fun j r hr => ?_⟩⟩
 obtain ⟨u, hu, hrd⟩ := h j r hr
 have := news_new w vs t w.heap.size rfl j u hu
 rw [addr_add] at this
 rw [Nat.zero_add]
 exact ⟨u, this, (hrd.below hb).mono hb.size⟩
theorem rdps_one (w : World) (u : Value) (l : List Pt) (h : RdK encS 2 w w.heap.size u l) (t : TypeId) (c : Nat) : RdPs (w.alloc (.cells #[u] t)) (w.alloc (.cells #[u] t)).heap.size (.slice (some ⟨w.heap.size, 0, none⟩) 1 c) [l] :=
 rdps_lit w [u] [l] (fun j r hr => by
  cases j with
  | zero => simp at hr; subst hr; exact ⟨u, rfl, h⟩
  | succ j => simp at hr) t c
theorem rdps_one_at {w : World} {B : Nat} (hB : w.heap.size = B) (u : Value) (l : List Pt) (h : RdK encS 2 w w.heap.size u l) (t : TypeId) (c : Nat) : RdPs (w.alloc (.cells #[u] t)) (w.alloc (.cells #[u] t)).heap.size (.slice (some ⟨B, 0, none⟩) 1 c) [l] := by
 subst hB
 exact rdps_one w u l h t c
theorem of_is {w : World} {v : Value} {l : List R4} {L : List (List Pt)} (hO : Outl (setR l) L) (hr : RdK encR 4 w w.heap.size v l) (hl : l.length ≤ 60) (hk : checkF l = 0) :
  Calls Tryz.prog 11 #[v] w fun e w' => (∃ A c, e = .returned (.tuple #[.slice A L.length c, .int .i64 0]) ∧ RdPs w' w'.heap.size (.slice A L.length c) L) ∧ Below w.heap.size w w' := by
 refine (of_any hr hl hk).mono ?_
 rintro e w' ⟨A, c, K, vs, rfl, h1, h2, h3, h4⟩
 have e := h1.ext hO
 subst e
 exact ⟨⟨A, c, rfl, RdPs.of_own h2 h3⟩, h4⟩
set_option maxHeartbeats 1000000 in
theorem at13_any (x y : Int) (w : World) : Calls Tryz.prog 29 #[.int .i64 x, .int .i64 y] w fun e w' => e = .returned (.agg #[.int .i64 x, .int .i64 y]) ∧ Below w.heap.size w w' := by
 go_enter Tryz.func29, Tryz.ntmps29
 go_wp2
 refine bodyPost_ret (v := .agg #[.int .i64 x, .int .i64 y]) (by simp [results, Tryz.results29, go_sem]) rfl ⟨rfl, ?_⟩
 repeat (first | with_reducible exact Below.refl _ _ | with_reducible refine Below.setCell ?_ (by first | (simp; done) | (simp; omega)) _ | with_reducible refine Below.alloc ?_ (by first | omega | (simp; omega) | simp) _)
set_option maxHeartbeats 1000000 in
theorem ring13_any (w : World) : Calls Tryz.prog 30 #[] w fun e w' => ∃ v, e = .returned v ∧ RdK encR 4 w' w'.heap.size v ringR ∧ Below w.heap.size w w' := by
 go_enter Tryz.func30, Tryz.ntmps30
 go_wp2
 go_ret
 exact ⟨_, rfl, rd_lit w ringR _ _, (Below.refl _ _).alloc (Nat.le_refl _) _⟩
set_option maxHeartbeats 2000000 in
theorem hole13_any (w : World) : Calls Tryz.prog 31 #[] w fun e w' => ∃ v, e = .returned v ∧ RdK encS 2 w' w'.heap.size v holeP ∧ Below w.heap.size w w' := by
 have K := hide (Below.refl w.heap.size w)
 go_enter Tryz.func31, Tryz.ntmps31
 go_wp2_with (fail)
 refine (at13_any 1 1 _).mono ?_
 rintro e v1 ⟨rfl, hb⟩
 replace K := hide (K.out.trans (hb.mono K.out.size))
 clear hb
 go_wp2_with (fail)
 refine (at13_any 1 2 _).mono ?_
 rintro e v2 ⟨rfl, hb⟩
 replace K := hide (K.out.trans (hb.mono K.out.size))
 clear hb
 go_wp2_with (fail)
 refine (at13_any 2 2 _).mono ?_
 rintro e v3 ⟨rfl, hb⟩
 replace K := hide (K.out.trans (hb.mono K.out.size))
 clear hb
 go_wp2_with (fail)
 refine (at13_any 2 1 _).mono ?_
 rintro e v4 ⟨rfl, hb⟩
 replace K := hide (K.out.trans (hb.mono K.out.size))
 clear hb
 go_wp2_with (fail)
 go_ret
 exact ⟨_, rfl, rd_litP v4 holeP _ _, K.out.trans (Below.alloc (Below.refl _ _) (by have := K.out.size; omega) _)⟩
set_option maxHeartbeats 2000000 in
theorem fit13_any {w : World} {v : Value} {l : List R4} (hr : RdK encR 4 w w.heap.size v l) (hl : l.length ≤ maxLen) :
  Calls Tryz.prog 10 #[v] w fun e w' => e = .returned (.bool (decide (l.length ≤ 60) && decide (checkF l = 0))) ∧ Below w.heap.size w w' := by
 obtain ⟨A, c, rfl, _⟩ := id hr
 by_cases h1 : l.length ≤ 60
 ·have z1 : (l.length : Int) ≤ 60 := by omega
  have HC := hide (rCheck_any hr (by omega))
  have HD := hide (decide_eq_true h1)
  clear h1 hr
  by_cases h2 : checkF l = 0
  ·rw [h2] at HC
   have HE := hide (decide_eq_true h2)
   clear h2
   go_enter Tryz.func10, Tryz.ntmps10
   go_wp2_with (go_at_call 32; refine HC.out.mono ?_; rintro e w1 ⟨rfl, hb⟩; have HB := hide hb; clear hb)
   go_ret
   exact ⟨by rw [HD.out, HE.out]; rfl, HB.out⟩
  ·have HE := hide (decide_eq_false h2)
   obtain ⟨k, hk⟩ : ∃ k, checkF l = k := ⟨_, rfl⟩
   have b2 : (k == 0) = false := by rw [← hk]; simpa using h2
   rw [hk] at HC
   clear h2 hk
   go_enter Tryz.func10, Tryz.ntmps10
   go_wp2_with (go_at_call 32; refine HC.out.mono ?_; rintro e w1 ⟨rfl, hb⟩; have HB := hide hb; clear hb)
   go_ret
   exact ⟨by rw [HD.out, HE.out]; rfl, HB.out⟩
 ·have z1 : ¬ (l.length : Int) ≤ 60 := by omega
  have HD := hide (decide_eq_false h1)
  clear h1 hr
  go_enter Tryz.func10, Tryz.ntmps10
  go_wp2_with (fail)
  go_ret
  exact ⟨by rw [HD.out]; rfl, Below.refl _ _⟩
theorem lt_ext : ∀ {a b : List Int}, a.Pairwise (· < ·) → b.Pairwise (· < ·) → (∀ x, x ∈ a ↔ x ∈ b) → a = b
  | [], [], _, _, _ => rfl
  | [], y :: b, _, _, h => absurd ((h y).2 (by simp)) (by simp)
  | x :: a, [], _, _, h => absurd ((h x).1 (by simp)) (by simp)
  | x :: a, y :: b, ha, hb, h => by
    rw [List.pairwise_cons] at ha hb
    have exy : x = y := by
      have h1 := (h x).1 (by simp)
      have h2 := (h y).2 (by simp)
      rw [List.mem_cons] at h1 h2
      rcases h1 with h1 | h1
      · exact h1
      · rcases h2 with h2 | h2
        · exact h2.symm
        · have := hb.1 x h1
          have := ha.1 y h2
          omega
    subst exy
    rw [lt_ext ha.2 hb.2 fun z => ⟨fun hz => ?_, fun hz => ?_⟩]
    · have h1 := (h z).1 (List.mem_cons_of_mem _ hz)
      rcases List.mem_cons.1 h1 with rfl | h1
      · have := ha.1 z hz; omega
      · exact h1
    · have h1 := (h z).2 (List.mem_cons_of_mem _ hz)
      rcases List.mem_cons.1 h1 with rfl | h1
      · have := hb.1 z hz; omega
      · exact h1
theorem cuts_srt (xs : List Int) : cutsOf xs = srt xs := lt_ext (cutsOf_ok xs).1 (srt_ok xs).1 fun x => by rw [(cutsOf_ok xs).2, (srt_ok xs).2]
def fldS (L : List (List Pt)) : List R4 := flat (sweep (fun x => canF (srt (ysL L)) ((srt (ysL L)).map fun y => decide (wlS (x, y) (wallsF L) = 1))) [] (srt (xsL L)))
theorem fldF_srt (L : List (List Pt)) : fldF L = fldS L := by
 unfold fldF fldS
 rw [cuts_srt]
 congr 2
 funext x
 unfold colF
 rw [cuts_srt]
theorem ex_ck1 : checkF ringR = 0 := by kernel_rfl
theorem ex_ck2 : checkF [⟨0, 0, 1, 1⟩, ⟨1, 1, 2, 2⟩] = 0 := by kernel_rfl
theorem ex_ck3 : checkF [⟨0, 0, 2, 1⟩] = 0 := by kernel_rfl
theorem ex_fl1 : fldF [sqP 0 0 2] = [⟨0, 0, 2, 1⟩] := (fldF_srt _).trans (by kernel_rfl)
theorem ex_ar : areaO holeP = (-1, 0) := by kernel_rfl
theorem ex_ln : lenO holeP = (4, 0) := by kernel_rfl
theorem ex_tn : turnO holeP = (-1, 0) := by kernel_rfl
theorem ex_co1 : chkO (sqP 0 0 2) = 0 := by kernel_rfl
theorem fill_is {w : World} {v : Value} {L K : List (List Pt)} {l : List R4} (hf : fldF L = l) (hO : Outl (setR l) K) (hk : checkF l = 0) (hl : l.length ≤ 60) (hc : ∀ p ∈ L, chkO p = 0) (hn : (L.map List.length).sum ≤ 2000) (hr : RdPs w w.heap.size v L) :
  Calls Tryz.prog 23 #[v] w fun e w' => (∃ A n c, e = .returned (.tuple #[.slice A n c, .int .i64 (if K = L then 0 else 28)]) ∧ RdK encR 4 w' w'.heap.size (.slice A n c) (if K = L then l else [])) ∧ Below w.heap.size w w' := by
 subst hf
 refine (fill_any hr hc hn (by have := len_sum hc; omega) hk hl hO).mono ?_
 rintro e w' ⟨vo, rfl, h1, h2⟩
 obtain ⟨A, c, rfl⟩ := own_form h1
 exact ⟨⟨A, _, c, rfl, own_rd h1 (fun _ => rfl)⟩, h2⟩
end Go.Proofs.YtdfpbhlnlkjjlaaGreat

/- Plain: what a join is; areas of regions. -/
namespace Go.Proofs.YtdfpbhlnlkjjlaaGreat
open Go.RowKit
set_option linter.unusedVariables false
set_option linter.unusedSimpArgs false
end Go.Proofs.YtdfpbhlnlkjjlaaGreat

/- A store into a row of the call's own; the sum of a row of numbers, read off the world. -/
namespace Go.Proofs.YtdfpbhlnlkjjlaaGreat
open Go.RowKit
set_option linter.unusedVariables false
set_option linter.unusedSimpArgs false
end Go.Proofs.YtdfpbhlnlkjjlaaGreat

/- Plain law: labels that go down along neighbours, step by step. -/
namespace Go.Proofs.YtdfpbhlnlkjjlaaGreat
set_option linter.unusedVariables false
set_option linter.unusedSimpArgs false
def Lb (l : List R4) (L : List Int) : Prop := L.length = l.length ∧ ∀ (i : Nat) x, L[i]? = some x → ∃ j : Nat, x = (j : Int) ∧ Conn l i j ∧ j ≤ i
def sumN (L : List Int) : Nat := (L.map Int.toNat).sum
def Seen (l : List R4) (L : List Int) (m j : Nat) : Prop := ∀ i k x y, adj l i k → L[i]? = some x → L[k]? = some y → (i < m ∨ (i = m ∧ k < j)) → x ≤ y
def Pass (l : List R4) (L0 L : List Int) (mb : Bool) (m j : Nat) : Prop := Lb l L ∧ ((mb = true ∧ sumN L < sumN L0) ∨ (mb = false ∧ L = L0 ∧ Seen l L m j))
theorem Lb.start (l : List R4) : Lb l ((List.range l.length).map fun i : Nat => (i : Int)) := by
 refine ⟨by simp, fun i x h => ?_⟩
 rw [List.getElem?_map] at h
 obtain ⟨j, hj, rfl⟩ := Option.map_eq_some_iff.1 h
 obtain ⟨h1, h2⟩ := List.getElem?_eq_some_iff.1 hj
 simp at h2
 subst h2
 exact ⟨i, rfl, .refl, Nat.le_refl _⟩
theorem Pass.stay {l : List R4} {L0 L : List Int} {mb : Bool} {m j : Nat} (h : Pass l L0 L mb m j) (hn : ∀ x y, adj l m j → L[m]? = some x → L[j]? = some y → x ≤ y) : Pass l L0 L mb m (j + 1) := by
 refine ⟨h.1, h.2.imp id fun ⟨a, b, c⟩ => ⟨a, b, fun i k x y ha hx hy hs => ?_⟩⟩
 by_cases e : i = m ∧ k = j
 ·obtain ⟨rfl, rfl⟩ := e
  exact hn x y ha hx hy
 ·exact c i k x y ha hx hy (by omega)
theorem Pass.row {l : List R4} {L0 L : List Int} {mb : Bool} {m j : Nat} (h : Pass l L0 L mb m j) (hj : l.length ≤ j) : Pass l L0 L mb (m + 1) 0 := by
 refine ⟨h.1, h.2.imp id fun ⟨a, b, c⟩ => ⟨a, b, fun i k x y ha hx hy hs => ?_⟩⟩
 have hk : k < L.length := (List.getElem?_eq_some_iff.1 hy).1
 have := h.1.1
 exact c i k x y ha hx hy (by omega)
theorem Pass.done {l : List R4} {L0 L : List Int} {m j : Nat} (h : Pass l L0 L false m j) (hm : l.length ≤ m) : L = (List.range l.length).map fun i => ((mn l i : Nat) : Int) := by
 obtain ⟨⟨h1, h2⟩, h3⟩ := h
 obtain ⟨_, _, hs⟩ := h3.resolve_left (fun q => by cases q.1)
 have key := labels_mn (l := l) (f := fun i => ((L[i]?).getD 0).toNat) (fun i hi => by
  obtain ⟨x, hx⟩ : ∃ x, L[i]? = some x := ⟨_, List.getElem?_eq_getElem (by omega)⟩
  obtain ⟨j, rfl, c, le⟩ := h2 i x hx
  simp only [hx, Option.getD_some, Int.toNat_natCast]
  exact ⟨c, le⟩) (fun i k ha => by
  obtain ⟨x0, y0, g1, g2, _⟩ := id ha
  have hi := (List.getElem?_eq_some_iff.1 g1).1
  have hk := (List.getElem?_eq_some_iff.1 g2).1
  obtain ⟨x, hx⟩ : ∃ x, L[i]? = some x := ⟨_, List.getElem?_eq_getElem (by omega)⟩
  obtain ⟨y, hy⟩ : ∃ y, L[k]? = some y := ⟨_, List.getElem?_eq_getElem (by omega)⟩
  have := hs i k x y ha hx hy (.inl (by omega))
  simp only [hx, hy, Option.getD_some]
  omega)
 apply List.ext_getElem?
 intro i
 by_cases hi : i < l.length
 ·obtain ⟨x, hx⟩ : ∃ x, L[i]? = some x := ⟨_, List.getElem?_eq_getElem (by omega)⟩
  obtain ⟨j, rfl, c, le⟩ := h2 i x hx
  have := key i hi
  simp only [hx, Option.getD_some, Int.toNat_natCast] at this
  rw [hx, List.getElem?_map, List.getElem?_range hi]
  simp [this]
 ·rw [List.getElem?_eq_none (by omega), List.getElem?_eq_none (by simpa using hi)]
end Go.Proofs.YtdfpbhlnlkjjlaaGreat

/- The reference's Touch. -/
namespace Go.Proofs.YtdfpbhlnlkjjlaaGreat
open Go.RowKit
set_option linter.unusedVariables false
set_option linter.unusedSimpArgs false
end Go.Proofs.YtdfpbhlnlkjjlaaGreat

/- The reference's Parts. -/
namespace Go.Proofs.YtdfpbhlnlkjjlaaGreat
open Go.RowKit
set_option linter.unusedVariables false
set_option linter.unusedSimpArgs false
structure Regs (w : World) (vo : Value) (R : List (List R4)) (wr : World) : Prop where
 low : Below w.heap.size w wr
 o : ∃ vs, wr.ownsRow w.heap.size 34 1 vo R.length vs ∧ ∀ (i : Nat) (r : List R4), R[i]? = some r → ∃ v, vs[i]? = some v ∧ wr.ownsRow w.heap.size 49 4 v r.length (r.flatMap encR)
theorem Regs.below {w wr w2 : World} {vo : Value} {R : List (List R4)} (h : Regs w vo R wr) (hb : Below wr.heap.size wr w2) : Regs w vo R w2 := by
 obtain ⟨vs, h1, h2⟩ := h.o
 refine ⟨h.low.trans (hb.mono h.low.size), vs, own_below h1 hb, fun i r hr => ?_⟩
 obtain ⟨v, h3, h4⟩ := h2 i r hr
 exact ⟨v, h3, own_below h4 hb⟩
theorem Regs.push {w wr w2 : World} {vo v2 v : Value} {R : List (List R4)} {r : List R4} {vs : List Value} (low : Below w.heap.size w wr) (h1 : wr.ownsRow w.heap.size 34 1 vo R.length vs)
  (h2 : ∀ (i : Nat) (r : List R4), R[i]? = some r → ∃ v, vs[i]? = some v ∧ wr.ownsRow w.heap.size 49 4 v r.length (r.flatMap encR)) (hv : wr.ownsRow w.heap.size 49 4 v r.length (r.flatMap encR))
  (hg : wr.grownBy w2 vo.ownBlock) (h3 : w2.ownsRow w.heap.size 34 1 v2 (R.length + 1) (vs ++ [v])) : Regs w v2 (R ++ [r]) w2 := by
 have hl : vs.length = R.length := by have := h1.1; omega
 refine ⟨low.grown hg low.size (fun q hq => (h1.lt q hq).1), vs ++ [v], by simpa using h3, fun i x hx => ?_⟩
 by_cases hi : i < R.length
 ·rw [List.getElem?_append_left hi] at hx
  obtain ⟨u, h4, h5⟩ := h2 i x hx
  exact ⟨u, by rw [List.getElem?_append_left (by omega)]; exact h4, h5.kept hg (own_apart h5 h1 (by decide))⟩
 ·rw [List.getElem?_append_right (by omega)] at hx
  have hi0 : i - R.length = 0 := by
   have := (List.getElem?_eq_some_iff.1 hx).1
   simp at this
   omega
  rw [hi0] at hx
  simp at hx
  subst hx
  refine ⟨v, by rw [List.getElem?_append_right (by omega), hl, hi0]; rfl, hv.kept hg (own_apart hv h1 (by decide))⟩
def RegsRet (B : Nat) (x : List (List R4) × Int) (e : Ending) (w' : World) : Prop :=
 ∃ A c vs, e = .returned (.tuple #[.slice A x.1.length c, .int .i64 x.2]) ∧ w'.ownsRow B 34 1 (.slice A x.1.length c) x.1.length vs ∧ ∀ (i : Nat) (r : List R4), x.1[i]? = some r → ∃ v, vs[i]? = some v ∧ w'.ownsRow B 49 4 v r.length (r.flatMap encR)
noncomputable def partsE (l : List R4) : List (List R4) × Int := if checkF l = 0 then (partsF l, 0) else ([], checkF l)
theorem infoRg : (Tryz.prog.info? 34).map (fun i => (i.zero, i.size, i.bytes)) = some (some (.slice none 0 0), 1, 24) := by kernel_rfl
noncomputable def partsP (l : List R4) (m : Nat) : List (List R4) := ((List.range m).filter fun i => decide (mn l i = i)).map fun i => rjoin hFst (compL l i) []
theorem partsP_in {l : List R4} {m : Nat} (h : mn l m = m) : partsP l (m + 1) = partsP l m ++ [rjoin hFst (compL l m) []] := by
 unfold partsP
 rw [List.range_succ, List.filter_append, List.map_append]
 simp [h]
theorem partsP_out {l : List R4} {m : Nat} (h : mn l m ≠ m) : partsP l (m + 1) = partsP l m := by
 unfold partsP
 rw [List.range_succ, List.filter_append, List.map_append]
 simp [h]
theorem partsP_all (l : List R4) : partsP l l.length = partsF l := rfl
theorem partsP_len (l : List R4) (m : Nat) : (partsP l m).length ≤ m := by
 unfold partsP
 rw [List.length_map]
 exact Nat.le_trans (List.length_filter_le _ _) (by simp)
theorem rects_at {W wr : World} {l : List R4} {b o m : Nat} (hk : ∀ (j : Nat) (x : R4), l[j]? = some x → ∀ (i : Nat) (u : Value), (encR x)[i]? = some u → W.cell? ⟨b, o + j * 4 + i, none⟩ = some u) (hb : ∀ q, wr.cell? ⟨b, q, none⟩ = W.cell? ⟨b, q, none⟩) {p0 p1 p2 p3 : Int} (hp : l[m]? = some ⟨p0, p1, p2, p3⟩) :
  wr.cell? ⟨b, o + m * 4, none⟩ = some (.int .i64 p0) ∧ wr.cell? ⟨b, o + m * 4 + 1, none⟩ = some (.int .i64 p1) ∧ wr.cell? ⟨b, o + m * 4 + 2, none⟩ = some (.int .i64 p2) ∧ wr.cell? ⟨b, o + m * 4 + 3, none⟩ = some (.int .i64 p3) :=
 ⟨(hb _).trans (hk m _ hp 0 _ rfl), (hb _).trans (hk m _ hp 1 _ rfl), (hb _).trans (hk m _ hp 2 _ rfl), (hb _).trans (hk m _ hp 3 _ rfl)⟩
end Go.Proofs.YtdfpbhlnlkjjlaaGreat

/- Plain law: components are disjoint, do not touch, cannot be divided, and are the region together. -/
namespace Go.Proofs.YtdfpbhlnlkjjlaaGreat
set_option linter.unusedVariables false
set_option linter.unusedSimpArgs false
def nb (x y u v : Int) : Prop := (u = x + 1 ∧ v = y) ∨ (u = x - 1 ∧ v = y) ∨ (u = x ∧ v = y + 1) ∨ (u = x ∧ v = y - 1)
inductive PW (S : Int → Int → Prop) (x y : Int) : Int → Int → Prop where
 | refl : PW S x y x y
 | step {u v u' v' : Int} : PW S x y u v → S u' v' → nb u v u' v' → PW S x y u' v'
theorem PW.trans {S : Int → Int → Prop} {x y u v a b : Int} (h : PW S x y u v) (g : PW S u v a b) : PW S x y a b := by
 induction g with
 | refl => exact h
 | step _ s n ih => exact ih.step s n
theorem rect_way {S : Int → Int → Prop} {r : R4} (hS : ∀ x y, rin r x y → S x y) {x y : Int} (h1 : rin r x y) : ∀ (n : Nat) (u v : Int), rin r u v → (u - x).natAbs + (v - y).natAbs = n → PW S x y u v := by
 intro n
 induction n with
 | zero =>
  intro u v h2 he
  have e1 : u = x := by omega
  have e2 : v = y := by omega
  subst e1; subst e2
  exact .refl
 | succ n ih =>
  intro u v h2 he
  simp only [rin] at h1 h2
  by_cases c1 : x < u
  ·exact (ih (u - 1) v (by simp only [rin]; omega) (by omega)).step (hS u v (by simp only [rin]; omega)) (.inl ⟨by omega, rfl⟩)
  by_cases c2 : u < x
  ·exact (ih (u + 1) v (by simp only [rin]; omega) (by omega)).step (hS u v (by simp only [rin]; omega)) (.inr (.inl ⟨by omega, rfl⟩))
  by_cases c3 : y < v
  ·exact (ih u (v - 1) (by simp only [rin]; omega) (by omega)).step (hS u v (by simp only [rin]; omega)) (.inr (.inr (.inl ⟨rfl, by omega⟩)))
  ·exact (ih u (v + 1) (by simp only [rin]; omega) (by omega)).step (hS u v (by simp only [rin]; omega)) (.inr (.inr (.inr ⟨rfl, by omega⟩)))
theorem bsd_iff {a b : R4} : bsd a b = true ↔ (min a.x1 b.x1 - max a.x0 b.x0 = 0 ∧ 0 < min a.y1 b.y1 - max a.y0 b.y0) ∨ (0 < min a.x1 b.x1 - max a.x0 b.x0 ∧ min a.y1 b.y1 - max a.y0 b.y0 = 0) := by
 unfold bsd
 simp only [Bool.or_eq_true, Bool.and_eq_true, decide_eq_true_eq]
theorem bsd_points {a b : R4} (ha : wf4 a) (hb : wf4 b) (h : bsd a b = true) : ∃ x y u v, rin a x y ∧ rin b u v ∧ nb x y u v := by
 rw [bsd_iff] at h
 obtain ⟨a1, a2⟩ := ha
 obtain ⟨b1, b2⟩ := hb
 rcases h with ⟨h1, h2⟩ | ⟨h1, h2⟩
 ·by_cases c : a.x1 = b.x0
  ·exact ⟨a.x1 - 1, max a.y0 b.y0, b.x0, max a.y0 b.y0, by simp only [rin]; omega, by simp only [rin]; omega, .inl ⟨by omega, rfl⟩⟩
  ·exact ⟨a.x0, max a.y0 b.y0, b.x1 - 1, max a.y0 b.y0, by simp only [rin]; omega, by simp only [rin]; omega, .inr (.inl ⟨by omega, rfl⟩)⟩
 ·by_cases c : a.y1 = b.y0
  ·exact ⟨max a.x0 b.x0, a.y1 - 1, max a.x0 b.x0, b.y0, by simp only [rin]; omega, by simp only [rin]; omega, .inr (.inr (.inl ⟨rfl, by omega⟩))⟩
  ·exact ⟨max a.x0 b.x0, a.y0, max a.x0 b.x0, b.y1 - 1, by simp only [rin]; omega, by simp only [rin]; omega, .inr (.inr (.inr ⟨rfl, by omega⟩))⟩
theorem nb_bsd {a b : R4} (hab : apart4 a b) {x y u v : Int} (h1 : rin a x y) (h2 : rin b u v) (hn : nb x y u v) : bsd a b = true := by
 rw [bsd_iff]
 have k := hab (max a.x0 b.x0) (max a.y0 b.y0)
 simp only [rin] at h1 h2 k
 unfold nb at hn
 rcases hn with hn | hn | hn | hn
 ·left; omega
 ·left; omega
 ·right; omega
 ·right; omega
theorem apart_at {l : List R4} (h : l.Pairwise apart4) {i j : Nat} {a b : R4} (hi : l[i]? = some a) (hj : l[j]? = some b) (hne : i ≠ j) : apart4 a b := by
 obtain ⟨h1, e1⟩ := List.getElem?_eq_some_iff.1 hi
 obtain ⟨h2, e2⟩ := List.getElem?_eq_some_iff.1 hj
 have P := List.pairwise_iff_getElem.1 h
 rcases Nat.lt_or_gt_of_ne hne with hlt | hlt
 ·have := P i j h1 h2 hlt; rwa [e1, e2] at this
 ·have := P j i h2 h1 hlt
  rw [e1, e2] at this
  exact fun x y ⟨p, q⟩ => this x y ⟨q, p⟩
theorem nb_conn {l : List R4} (h : l.Pairwise apart4) {i j : Nat} {a b : R4} (hi : l[i]? = some a) (hj : l[j]? = some b) {x y u v : Int} (h1 : rin a x y) (h2 : rin b u v) (hn : nb x y u v) : Conn l i j := by
 by_cases e : i = j
 ·subst e; exact .refl
 ·exact Conn.refl.step ⟨a, b, hi, hj, nb_bsd (apart_at h hi hj e) h1 h2 hn⟩
def CS (l : List R4) (i : Nat) (x y : Int) : Prop := ∃ k s, Conn l i k ∧ l[k]? = some s ∧ rin s x y
theorem conn_way {l : List R4} (hw : ∀ r ∈ l, wf4 r) {i0 : Nat} {i j : Nat} (h0 : Conn l i0 i) (h : Conn l i j) : ∀ {a b : R4} {x y u v : Int}, l[i]? = some a → l[j]? = some b → rin a x y → rin b u v → PW (CS l i0) x y u v := by
 induction h with
 | refl =>
  intro a b x y u v h1 h2 h3 h4
  rw [h1] at h2
  injection h2 with h2
  subst h2
  exact rect_way (fun p q hp => ⟨_, _, h0, h1, hp⟩) h3 _ u v h4 rfl
 | step hc ha ih =>
  intro a b x y u v h1 h2 h3 h4
  obtain ⟨s, t, g1, g2, g3⟩ := ha
  rw [h2] at g2
  injection g2 with g2
  subst g2
  obtain ⟨p, q, p', q', k1, k2, k3⟩ := bsd_points (hw _ (List.mem_of_getElem? g1)) (hw _ (List.mem_of_getElem? h2)) g3
  have hcj := h0.trans (hc.step ⟨_, _, g1, h2, g3⟩)
  exact ((ih h1 g1 h3 k1).step ⟨_, _, hcj, h2, k2⟩ k3).trans (rect_way (fun c d hp => ⟨_, _, hcj, h2, hp⟩) k2 _ u v h4 rfl)
noncomputable def partJ (l : List R4) (m : Nat) : List R4 := rjoin hFst (compL l m) []
theorem sub_check {l C : List R4} (h : checkF l = 0) (hC : C.Sublist l) : checkF (rjoin hFst C []) = 0 ∧ ∀ x y, pmem (rjoin hFst C []) x y ↔ pmem C x y := by
 have hw : ∀ r ∈ C, wf4 r := fun r hr => check_wf h r (hC.subset hr)
 obtain ⟨h1, h2⟩ := rjoin_ok (h := hFst) rfl hw (b := []) (by simp)
 have h3 : ∀ x y, pmem (rjoin hFst C []) x y ↔ pmem C x y := fun x y => by rw [h2]; simp [hFst]
 refine ⟨can_check h1 (sub_valid (can_wf h1) (fun r hr => (checkF_ok h).2.1 r (hC.subset hr)) fun x y => (h3 x y).1) ?_, h3⟩
 have := sub_count (check_rcan h) (check_wf h) hC
 have := hC.length_le
 have := (checkF_ok h).1
 omega
theorem partJ_pts {l : List R4} (h : checkF l = 0) (m : Nat) (x y : Int) : pmem (partJ l m) x y ↔ ∃ j s, mn l j = m ∧ l[j]? = some s ∧ rin s x y := by
 unfold partJ
 rw [(sub_check h (compL_sub l m)).2]
 unfold pmem
 constructor
 ·rintro ⟨r, hr, hx⟩
  obtain ⟨j, h1, h2⟩ := mem_compL.1 hr
  exact ⟨j, r, h1, h2, hx⟩
 ·rintro ⟨j, s, h1, h2, hx⟩
  exact ⟨s, mem_compL.2 ⟨j, h1, h2⟩, hx⟩
theorem partJ_check {l : List R4} (h : checkF l = 0) (m : Nat) : checkF (partJ l m) = 0 := (sub_check h (compL_sub l m)).1
theorem partJ_ne {l : List R4} (h : checkF l = 0) {m : Nat} (hm : mn l m = m) (hlt : m < l.length) : partJ l m ≠ [] := by
 intro e
 obtain ⟨w1, w2⟩ := check_wf h _ (List.getElem_mem hlt)
 have : pmem (partJ l m) l[m].x0 l[m].y0 := (partJ_pts h m _ _).2 ⟨m, l[m], hm, List.getElem?_eq_getElem hlt, by simp only [rin]; omega⟩
 rw [e] at this
 exact pmem_nil this
theorem parts_far {l : List R4} (h : checkF l = 0) {k i : Nat} (hne : k ≠ i) {x y u v : Int} (h1 : pmem (partJ l k) x y) (h2 : pmem (partJ l i) u v) : ¬ nb x y u v ∧ ¬ (x = u ∧ y = v) := by
 obtain ⟨a, s, a1, a2, a3⟩ := (partJ_pts h k x y).1 h1
 obtain ⟨b, t, b1, b2, b3⟩ := (partJ_pts h i u v).1 h2
 have hap := (check_rcan h).apart
 refine ⟨fun hn => ?_, fun he => ?_⟩
 ·have := mn_eq (nb_conn hap a2 b2 a3 b3 hn)
  omega
 ·obtain ⟨rfl, rfl⟩ := he
  by_cases e : a = b
  ·subst e; omega
  ·exact apart_at hap a2 b2 e _ _ ⟨a3, b3⟩
noncomputable def ids (l : List R4) : List Nat := (List.range l.length).filter fun i => decide (mn l i = i)
theorem ids_sorted (l : List R4) : (ids l).Pairwise (· < ·) := List.Pairwise.sublist List.filter_sublist List.pairwise_lt_range
theorem mem_ids {l : List R4} {m : Nat} : m ∈ ids l ↔ m < l.length ∧ mn l m = m := by
 unfold ids
 rw [List.mem_filter, List.mem_range, decide_eq_true_eq]
noncomputable def low (l : List R4) (k : Nat) : Nat := match (ids l)[k - 1]?, k with | some m, _ + 1 => m + 1 | _, _ => 0
def Cut (l : List R4) (i n : Nat) : Prop := (∀ a ∈ (ids l).take i, a < n) ∧ ∀ a ∈ (ids l).drop i, n ≤ a
theorem Cut.start (l : List R4) : Cut l 0 0 := ⟨by simp, fun a _ => Nat.zero_le a⟩
theorem Cut.next {l : List R4} {i n m : Nat} (h : Cut l i n) (hm : (ids l)[i]? = some m) : n ≤ m ∧ (∀ j, n ≤ j → j < m → mn l j ≠ j) ∧ Cut l (i + 1) (m + 1) := by
 obtain ⟨hi, e⟩ := List.getElem?_eq_some_iff.1 hm
 have hd : m ∈ (ids l).drop i := by
  rw [List.drop_eq_getElem_cons hi, e]
  exact List.mem_cons_self
 have hs := List.pairwise_iff_getElem.1 (ids_sorted l)
 have hmi : m ∈ ids l := by rw [← e]; exact List.getElem_mem hi
 have hnm := h.2 m hd
 refine ⟨hnm, fun j h1 h2 hj => ?_, fun a ha => ?_, fun a ha => ?_⟩
 ·have hjm : j ∈ ids l := mem_ids.2 ⟨by have := (mem_ids.1 hmi).1; omega, hj⟩
  obtain ⟨k, hk, ek⟩ := List.getElem_of_mem hjm
  by_cases hki : k < i
  ·have : j ∈ (ids l).take i := by
    rw [List.mem_take_iff_getElem]
    exact ⟨k, by omega, ek⟩
   have := h.1 j this
   omega
  ·by_cases hki2 : k = i
   ·subst hki2; omega
   ·have := hs i k hi hk (by omega)
    omega
 ·rw [List.take_succ_eq_append_getElem hi, List.mem_append] at ha
  rcases ha with ha | ha
  ·have := h.1 a ha; omega
  ·rw [List.mem_singleton, e] at ha; omega
 ·obtain ⟨k, hk, ek⟩ := List.getElem_of_mem ha
  rw [List.getElem_drop] at ek
  have := hs i (i + 1 + k) hi (by rw [List.length_drop] at hk; omega) (by omega)
  omega
theorem Cut.done {l : List R4} {n : Nat} (h : Cut l (ids l).length n) : ∀ j, n ≤ j → j < l.length → mn l j ≠ j := fun j h1 h2 hj => by
 have := h.1 j (by rw [List.take_length]; exact mem_ids.2 ⟨h2, hj⟩)
 omega
end Go.Proofs.YtdfpbhlnlkjjlaaGreat

/- Outlines: a unit edge is in one side of one loop exactly if the set is on one side of it alone. -/
namespace Go.Proofs.YtdfpbhlnlkjjlaaGreat
set_option linter.unusedVariables false
set_option linter.unusedSimpArgs false
section
variable {S : Cs}
end
end Go.Proofs.YtdfpbhlnlkjjlaaGreat

/- Outlines, plain: the outlines of the parts are the loops of the whole; each part has one outer loop. -/
namespace Go.Proofs.YtdfpbhlnlkjjlaaGreat
set_option linter.unusedVariables false
set_option linter.unusedSimpArgs false
structure PartOf (C S : Cs) : Prop where
 sub : ∀ x y, C x y = true → S x y = true
 near : ∀ x y u v, C x y = true → S u v = true → nb x y u v → C u v = true
section
variable {C S : Cs} (h : PartOf C S)
include h
theorem PartOf.cell {a b : Pt} (ha : inC C a = true) (hn : nb a.1 a.2 b.1 b.2) : inC C b = inC S b := by
 unfold inC at *
 cases hb : S b.1 b.2
 ·cases hc : C b.1 b.2
  ·rfl
  ·rw [h.sub _ _ hc] at hb; cases hb
 ·exact h.near _ _ _ _ ha hb hn
theorem PartOf.sub' {a : Pt} (ha : inC C a = true) : inC S a = true := h.sub _ _ ha
theorem PartOf.bgn {u : Un} : bgn C u ↔ bgn S u ∧ inC C (lc u) = true := by
 unfold Go.Proofs.YtdfpbhlnlkjjlaaGreat.bgn
 have hn : nb (lc u).1 (lc u).2 (rc u).1 (rc u).2 := by
  obtain ⟨⟨x, y⟩, d⟩ := u
  cases d <;> simp [lc, rc, nb] <;> omega
 constructor
 ·rintro ⟨h1, h2⟩
  exact ⟨⟨h.sub' h1, by rw [← h.cell h1 hn]; exact h2⟩, h1⟩
 ·rintro ⟨⟨h1, h2⟩, h3⟩
  exact ⟨h3, by rw [h.cell h3 hn]; exact h2⟩
theorem PartOf.ahead {u : Un} (hu : Go.Proofs.YtdfpbhlnlkjjlaaGreat.bgn C u) : inC C (lc (hdU u, u.2)) = inC S (lc (hdU u, u.2)) ∧ (inC C (lc (hdU u, u.2)) = true → inC C (rc (hdU u, u.2)) = inC S (rc (hdU u, u.2))) := by
 refine ⟨h.cell hu.1 ?_, fun h1 => h.cell h1 ?_⟩ <;> obtain ⟨⟨x, y⟩, d⟩ := u <;> cases d <;> simp [lc, rc, hdU, Wy.v, nb] <;> omega
theorem PartOf.behind {u : Un} (hu : Go.Proofs.YtdfpbhlnlkjjlaaGreat.bgn C u) : inC C (lc (bkU u)) = inC S (lc (bkU u)) ∧ (inC C (lc (bkU u)) = true → inC C (rc (bkU u)) = inC S (rc (bkU u))) := by
 refine ⟨h.cell hu.1 ?_, fun h1 => h.cell h1 ?_⟩ <;> obtain ⟨⟨x, y⟩, d⟩ := u <;> cases d <;> simp [lc, rc, bkU, Wy.v, nb] <;> omega
theorem PartOf.nx {u : Un} (hu : Go.Proofs.YtdfpbhlnlkjjlaaGreat.bgn C u) : nx C u = nx S u := by
 obtain ⟨h1, h2⟩ := h.ahead hu
 unfold Go.Proofs.YtdfpbhlnlkjjlaaGreat.nx nxW
 rw [← h1]
 cases h3 : inC C (lc (hdU u, u.2))
 ·rfl
 ·rw [h2 h3]
theorem PartOf.trp {u : Un} (hu : Go.Proofs.YtdfpbhlnlkjjlaaGreat.bgn C u) : trp C u = trp S u := by
 obtain ⟨h1, h2⟩ := h.behind hu
 unfold Go.Proofs.YtdfpbhlnlkjjlaaGreat.trp
 rw [← h1]
 cases h3 : inC C (lc (bkU u))
 ·rfl
 ·rw [h2 h3]
theorem PartOf.it {u : Un} (hu : Go.Proofs.YtdfpbhlnlkjjlaaGreat.bgn C u) : ∀ k, itU C u k = itU S u k
 | 0 => rfl
 | k + 1 => by
  show Go.Proofs.YtdfpbhlnlkjjlaaGreat.nx C (itU C u k) = Go.Proofs.YtdfpbhlnlkjjlaaGreat.nx S (itU S u k)
  rw [← PartOf.it hu k, h.nx (itU_bgn hu k)]
theorem PartOf.lpC {u : Un} (hu : Go.Proofs.YtdfpbhlnlkjjlaaGreat.bgn C u) (n : Nat) : lpC C u n = lpC S u n := by
 have e : idxC C u n = idxC S u n := by
  unfold idxC
  refine List.filter_congr fun k _ => ?_
  rw [← h.it hu k, h.trp (itU_bgn hu k)]
 unfold Go.Proofs.YtdfpbhlnlkjjlaaGreat.lpC
 rw [e]
 exact List.map_congr_left fun k _ => by rw [h.it hu k]
theorem PartOf.lpU {u : Un} {n : Nat} : LpU C u n ↔ LpU S u n ∧ inC C (lc u) = true := by
 constructor
 ·intro hl
  have hu := hl.cyc.beg
  have hi := h.it hu
  have hb := h.bgn.1 hu
  refine ⟨⟨⟨hb.1, hl.cyc.pos, by rw [← hi]; exact hl.cyc.back, fun i j a b => by rw [← hi, ← hi]; exact hl.cyc.apart i j a b⟩, by rw [← h.trp hu]; exact hl.cor, fun k a b c => ?_⟩, hb.2⟩
  rw [← hi k] at c ⊢
  exact hl.low k a b (by rw [h.trp (itU_bgn hu k)]; exact c)
 ·rintro ⟨hl, hc⟩
  have hu := h.bgn.2 ⟨hl.cyc.beg, hc⟩
  have hi := h.it hu
  refine ⟨⟨hu, hl.cyc.pos, by rw [hi]; exact hl.cyc.back, fun i j a b => by rw [hi, hi]; exact hl.cyc.apart i j a b⟩, by rw [h.trp hu]; exact hl.cor, fun k a b c => ?_⟩
  rw [h.trp (itU_bgn hu k)] at c
  rw [hi k] at c ⊢
  exact hl.low k a b c
theorem PartOf.mem {L K : List (List Pt)} (hL : Outl S L) (hK : Outl C K) (l : List Pt) : l ∈ K ↔ ∃ u n, LpU S u n ∧ inC C (lc u) = true ∧ l = Go.Proofs.YtdfpbhlnlkjjlaaGreat.lpC S u n := by
 rw [hK.mem]
 constructor
 ·rintro ⟨u, n, hu, rfl⟩
  have := h.lpU.1 hu
  exact ⟨u, n, this.1, this.2, h.lpC hu.cyc.beg n⟩
 ·rintro ⟨u, n, hu, hc, rfl⟩
  have := h.lpU.2 ⟨hu, hc⟩
  exact ⟨u, n, this, (h.lpC this.cyc.beg n).symm⟩
end
def outerL (l : List Pt) : Bool := decide (turnS l l.length = 4)
theorem wn_way {C : Cs} {u : Un} {n : Nat} (hc : Cyc C u n) {x y p q : Int} (hw : PW (fun a b => C a b = true) x y p q) (h0 : C x y = true) : Wn C u n (p, q) = Wn C u n (x, y) := by
 induction hw with
 | refl => rfl
 | step h1 h2 h3 ih =>
  rename_i a b c d
  have h4 : C a b = true := by
   cases h1 with
   | refl => exact h0
   | step _ g _ => exact g
  rw [← ih]
  rcases h3 with ⟨e1, e2⟩ | ⟨e1, e2⟩ | ⟨e1, e2⟩ | ⟨e1, e2⟩ <;> rw [e1, e2] at h2 ⊢
  ·have := hc.wn_same (v := ((a + 1, b), .n)) (by simp only [lc, rc, inC]; rw [h2, show a + 1 - 1 = a by omega, h4])
   simp only [lc, rc] at this
   rw [← this, show a + 1 - 1 = a by omega]
  ·have := hc.wn_same (v := ((a, b), .n)) (by simp only [lc, rc, inC]; rw [h2, h4])
   simp only [lc, rc] at this
   exact this
  ·have := hc.wn_same (v := ((a, b + 1), .e)) (by simp only [lc, rc, inC]; rw [h2, show b + 1 - 1 = b by omega, h4])
   simp only [lc, rc] at this
   rw [this, show b + 1 - 1 = b by omega]
  ·have := hc.wn_same (v := ((a, b), .e)) (by simp only [lc, rc, inC]; rw [h2, h4])
   simp only [lc, rc] at this
   exact this.symm
theorem count_sum : ∀ (L : List (List Pt)), (∀ l ∈ L, turnS l l.length = 4 ∨ turnS l l.length = -4) → ((L.filter outerL).length : Int) = (L.map fun l => if turnS l l.length = 4 then (1 : Int) else 0).sum
 | [], _ => rfl
 | l :: L, h => by
  have ih := count_sum L fun a ha => h a (by simp [ha])
  rw [List.map_cons, List.sum_cons, ← ih, List.filter_cons]
  unfold outerL
  by_cases h1 : turnS l l.length = 4
  ·simp only [h1, decide_true, if_true, List.length_cons]
   omega
  ·simp only [h1, decide_false, Bool.false_eq_true, if_false]
   omega
theorem one_outer {C : Cs} {K : List (List Pt)} (hK : Outl C K) {M : Nat} (hM : bdC C M) {x y : Int} (h0 : C x y = true) (hw : ∀ p q, C p q = true → PW (fun a b => C a b = true) x y p q) : (K.filter outerL).length = 1 := by
 have hK2 := hK
 obtain ⟨⟨us, ht, hp⟩, _⟩ := hK
 have ht4 : ∀ l ∈ K, turnS l l.length = 4 ∨ turnS l l.length = -4 := fun l hl => by
  obtain ⟨u, n, hu, rfl⟩ := (hK2.mem l).1 hl
  rcases hu.turnS with h | h
  ·exact .inl h.1
  ·exact .inr h.1
 have h1 := count_sum K ht4
 have h2 := perm_sum (fun l => if turnS l l.length = 4 then (1 : Int) else 0) hp
 have h3 := ht.wind hM (x, y)
 rw [if_pos (show inC C (x, y) = true from h0)] at h3
 have h4 : sumT (fun q => Wn C q.1 q.2 (x, y)) us = sumT (fun q => if turnS (lpP C q) (lpP C q).length = 4 then (1 : Int) else 0) us := sumT_congr fun q hq => by
  have hl := ht.lp q hq
  have hb := hl.cyc.beg.1
  have e1 := wn_way hl.cyc (hw _ _ hb) h0
  show Wn C q.1 q.2 (x, y) = _
  rw [← e1]
  show Wn C q.1 q.2 (lc q.1) = _
  rcases hl.turnS with h | h
  ·rw [h.2, if_pos h.1]
  ·rw [h.2, if_neg (by show ¬ turnS (lpC C q.1 q.2) (lpC C q.1 q.2).length = 4; rw [h.1]; omega)]
 have h5 : sumT (fun q => if turnS (lpP C q) (lpP C q).length = 4 then (1 : Int) else 0) us = ((us.map (lpP C)).map fun l => if turnS l l.length = 4 then (1 : Int) else 0).sum := by
  unfold sumT
  rw [List.map_map]
  rfl
 rw [h2, ← h5, ← h4, h3] at h1
 omega
section
variable {l : List R4} (h : checkF l = 0)
include h
theorem part_of {m : Nat} : PartOf (setR (partJ l m)) (setR l) := by
 have key : ∀ x y, setR (partJ l m) x y = true ↔ ∃ j s, mn l j = m ∧ l[j]? = some s ∧ rin s x y := fun x y => by
  rw [← partJ_pts h]; simp [setR]
 refine ⟨fun x y hx => ?_, fun x y u v hx hu hn => ?_⟩
 ·obtain ⟨j, s, h1, h2, h3⟩ := (key x y).1 hx
  exact decide_eq_true ⟨s, List.mem_of_getElem? h2, h3⟩
 ·obtain ⟨j, s, h1, h2, h3⟩ := (key x y).1 hx
  obtain ⟨t, ht, h4⟩ : pmem l u v := by simpa [setR] using hu
  obtain ⟨k, hk, ek⟩ := List.getElem_of_mem ht
  have hk2 : l[k]? = some t := by rw [← ek]; exact List.getElem?_eq_getElem hk
  have hcn := nb_conn (check_rcan h).apart h2 hk2 h3 h4 hn
  exact (key u v).2 ⟨k, t, by rw [← mn_eq hcn, h1], hk2, h4⟩
theorem part_way {m : Nat} (hm : mn l m = m) (hlt : m < l.length) {x y p q : Int} (h1 : setR (partJ l m) x y = true) (h2 : setR (partJ l m) p q = true) : PW (fun a b => setR (partJ l m) a b = true) x y p q := by
 have key : ∀ x y, setR (partJ l m) x y = true ↔ ∃ j s, mn l j = m ∧ l[j]? = some s ∧ rin s x y := fun x y => by
  rw [← partJ_pts h]; simp [setR]
 obtain ⟨i', s, a1, a2, a3⟩ := (key _ _).1 h1
 obtain ⟨j', t, b1, b2, b3⟩ := (key _ _).1 h2
 have c1 : Conn l m i' := conn_of_mn (by rw [hm, a1])
 have c2 : Conn l i' j' := conn_of_mn (by rw [a1, b1])
 have hw := conn_way (check_wf h) c1 c2 a2 b2 a3 b3
 have hS : ∀ x y, CS l m x y → setR (partJ l m) x y = true := fun x y ⟨k, s, k1, k2, k3⟩ => (key x y).2 ⟨k, s, by rw [← mn_eq k1, hm], k2, k3⟩
 have gen : ∀ {x y u v : Int}, PW (CS l m) x y u v → PW (fun a b => setR (partJ l m) a b = true) x y u v := fun hp => by
  induction hp with
  | refl => exact .refl
  | step _ s n ih => exact ih.step (hS _ _ s) n
 exact gen hw
theorem part_at {x y : Int} (hx : setR l x y = true) : ∃ m, m < l.length ∧ mn l m = m ∧ setR (partJ l m) x y = true := by
 obtain ⟨t, ht, h4⟩ : pmem l x y := by simpa [setR] using hx
 obtain ⟨k, hk, ek⟩ := List.getElem_of_mem ht
 have hk2 : l[k]? = some t := by rw [← ek]; exact List.getElem?_eq_getElem hk
 refine ⟨mn l k, Nat.lt_of_le_of_lt (mn_le l k) hk, mn_mn l k, ?_⟩
 have := (partJ_pts h (mn l k) x y).2 ⟨k, t, rfl, hk2, h4⟩
 simpa [setR] using this
theorem part_one {m k : Nat} {x y : Int} (h1 : setR (partJ l m) x y = true) (h2 : setR (partJ l k) x y = true) : m = k := by
 refine Classical.byContradiction fun hne => ?_
 exact (parts_far h hne (x := x) (y := y) (u := x) (v := y) (by simpa [setR] using h1) (by simpa [setR] using h2)).2 ⟨rfl, rfl⟩
omit h in
open Classical in
theorem partsF_map : partsF l = ((List.range l.length).filter fun i => decide (mn l i = i)).map (partJ l) := rfl
theorem parts_loops {L : List (List Pt)} (hL : Outl (setR l) L) {K : List R4 → List (List Pt)} (hK : ∀ c ∈ partsF l, Outl (setR c) (K c)) :
  L.Perm ((partsF l).flatMap K) ∧ (L.filter outerL).length = (partsF l).length := by
 have hM : bdC (setR l) 1000000 := setR_bd fun r hr => by have := (checkF_ok h).2.1 r hr; unfold valid4 fineP at this; omega
 have hin : ∀ c ∈ partsF l, ∃ m, m < l.length ∧ mn l m = m ∧ c = partJ l m := fun c hc => by
  rw [partsF_map] at hc
  obtain ⟨m, hm, rfl⟩ := List.mem_map.1 hc
  obtain ⟨h1, h2⟩ := List.mem_filter.1 hm
  exact ⟨m, List.mem_range.1 h1, by simpa using h2, rfl⟩
 have hmem : ∀ m, m < l.length → mn l m = m → partJ l m ∈ partsF l := fun m h1 h2 => by
  rw [partsF_map]
  exact List.mem_map.2 ⟨m, List.mem_filter.2 ⟨List.mem_range.2 h1, by simpa using h2⟩, rfl⟩
 have nd : ∀ {S : Cs} {L : List (List Pt)}, Outl S L → L.Nodup := fun ho => ho.srt.imp fun {a b} hab e => by subst e; exact ltL_irr _ hab
 have hperm : L.Perm ((partsF l).flatMap K) := by
  refine (List.perm_ext_iff_of_nodup (nd hL) ?_).2 fun a => ?_
  ·refine List.pairwise_flatMap.2 ⟨fun c hc => nd (hK c hc), ?_⟩
   rw [partsF_map]
   refine List.pairwise_map.2 (List.Pairwise.imp_of_mem (fun {m k} hm hk hmk a ha b hb e => ?_) (List.Pairwise.filter _ List.pairwise_lt_range))
   subst e
   obtain ⟨m1, m2⟩ := List.mem_filter.1 hm
   obtain ⟨k1, k2⟩ := List.mem_filter.1 hk
   have km := hmem m (List.mem_range.1 m1) (by simpa using m2)
   have kk := hmem k (List.mem_range.1 k1) (by simpa using k2)
   obtain ⟨u, n, u1, u2, u3⟩ := ((part_of h).mem hL (hK _ km) a).1 ha
   obtain ⟨v, p, v1, v2, v3⟩ := ((part_of h).mem hL (hK _ kk) a).1 hb
   obtain ⟨rfl, rfl⟩ := u1.lp_inj v1 (u3.symm.trans v3)
   have := part_one h u2 v2
   omega
  ·constructor
   ·intro ha
    obtain ⟨u, n, hu, rfl⟩ := (hL.mem a).1 ha
    obtain ⟨m, m1, m2, m3⟩ := part_at h (show setR l (lc u).1 (lc u).2 = true from hu.cyc.beg.1)
    exact List.mem_flatMap.2 ⟨_, hmem m m1 m2, ((part_of h).mem hL (hK _ (hmem m m1 m2)) _).2 ⟨u, n, hu, m3, rfl⟩⟩
   ·intro ha
    obtain ⟨c, hc, ha⟩ := List.mem_flatMap.1 ha
    obtain ⟨m, m1, m2, rfl⟩ := hin c hc
    obtain ⟨u, n, hu, _, rfl⟩ := ((part_of h).mem hL (hK _ hc) _).1 ha
    exact (hL.mem _).2 ⟨u, n, hu, rfl⟩
 refine ⟨hperm, ?_⟩
 have e1 := (hperm.filter outerL).length_eq
 rw [e1, List.filter_flatMap, List.length_flatMap]
 have : ∀ c ∈ partsF l, ((fun a => (List.filter outerL (K a)).length) c) = 1 := fun c hc => by
  obtain ⟨m, m1, m2, rfl⟩ := hin c hc
  have hne := partJ_ne h m2 m1
  have hck := partJ_check h m
  obtain ⟨r, hr⟩ := List.exists_mem_of_ne_nil _ hne
  have w := check_wf hck r hr
  have h0 : setR (partJ l m) r.x0 r.y0 = true := decide_eq_true ⟨r, hr, by simp only [rin]; unfold wf4 at w; omega⟩
  refine one_outer (hK _ hc) (M := 1000000) (fun x y hx => hM x y ((part_of h).sub x y hx)) h0 fun p q hp => part_way h m2 m1 h0 hp
 rw [List.map_congr_left this]
 have hs : ∀ q : List (List R4), (q.map fun _ => (1 : Nat)).sum = q.length := fun q => by
  induction q with
  | nil => rfl
  | cons a q ih => simp only [List.map_cons, List.sum_cons, List.length_cons]; omega
 exact hs _
end
end Go.Proofs.YtdfpbhlnlkjjlaaGreat

/- Outlines, plain: what the outline of a checked region says about areas, turnings and numbers. -/
namespace Go.Proofs.YtdfpbhlnlkjjlaaGreat
set_option linter.unusedVariables false
set_option linter.unusedSimpArgs false
section
variable {l : List R4} {L : List (List Pt)}
theorem chk_bd (hk : checkF l = 0) : bdC (setR l) 1000000 := setR_bd fun t ht => by have := (checkF_ok hk).2.1 t ht; unfold valid4 fineP at this; omega
theorem out_chk (hk : checkF l = 0) (hO : Outl (setR l) L) : ∀ p ∈ L, chkO p = 0 := hO.chk (check_rcan hk) (by have := (checkF_ok hk).1; omega) (fun t ht => by have := (checkF_ok hk).2.1 t ht; unfold valid4 fineP at this; omega)
theorem out_cnt (hk : checkF l = 0) (hO : Outl (setR l) L) : L.length ≤ l.length ∧ (L.map List.length).sum ≤ 4 * l.length := ⟨(hO.count (check_rcan hk)).2, (hO.count (check_rcan hk)).1⟩
theorem out_area (hk : checkF l = 0) (hO : Outl (setR l) L) : (L.map arL).sum = areaS l := by
 rw [hO.area (chk_bd hk), area_vol hk (Nat.le_refl _)]
 refine vol_congr fun x y _ _ _ _ => ?_
 unfold one setR
 simp only [decide_eq_true_eq]
 rfl
theorem out_turn (hk : checkF l = 0) (hO : Outl (setR l) L) {p : List Pt} (hp : p ∈ L) : ∃ a : Int, areaO p = (a, 0) ∧ arL p = a ∧ (-4000000000000000 ≤ a ∧ a ≤ 4000000000000000) ∧ ((turnO p = (1, 0) ∧ 0 < a ∧ posL p = true) ∨ (turnO p = (-1, 0) ∧ a < 0 ∧ posL p = false)) := by
 have hc := out_chk hk hO p hp
 obtain ⟨u, n, hu, rfl⟩ := (hO.mem p).1 hp
 have hb := crsS_bd hc _ (Nat.le_refl _)
 have hlen := (chkO_ok hc).1
 have hs := hu.area_sign (chk_bd hk)
 have hna := Int.natAbs_tdiv_le_natAbs (crsS (lpC (setR l) u n) (lpC (setR l) u n).length) 2
 refine ⟨Int.tdiv (crsS (lpC (setR l) u n) (lpC (setR l) u n).length) 2, by unfold areaO; rw [if_pos hc], rfl, ?_, ?_⟩
 ·omega
 ·unfold turnO posL
  rw [if_pos hc]
  rcases hs with ⟨h1, h2⟩ | ⟨h1, h2⟩
  ·exact .inl ⟨by rw [h1]; rfl, h2, by rw [h1]; rfl⟩
  ·exact .inr ⟨by rw [h1]; rfl, h2, by rw [h1]; rfl⟩
theorem sumA_step {k : Nat} {p : List Pt} (h : L[k]? = some p) : ((L.take (k + 1)).map arL).sum = ((L.take k).map arL).sum + arL p := by
 rw [List.take_add_one, h, Option.toList_some, List.map_append, List.sum_append]
 simp
theorem areaF_is (hk : checkF l = 0) : areaF l = (areaS l, 0) := by unfold areaF; rw [if_pos hk]
end
end Go.Proofs.YtdfpbhlnlkjjlaaGreat

/- Outlines: the chapter's examples hold (law.go's alive). -/
namespace Go.Proofs.YtdfpbhlnlkjjlaaGreat
open Go.RowKit
set_option linter.unusedVariables false
set_option linter.unusedSimpArgs false
set_option maxRecDepth 100000 in
set_option maxHeartbeats 8000000 in
theorem alive13_any (w : World) : Calls Tryz.prog 9 #[] w fun e w' => e = .returned (.bool true) ∧ Below w.heap.size w w' := by
 have G1 := hide (fun (w : World) (v : Value) (h : RdK encS 2 w w.heap.size v holeP) => by have := area_o_any h (by decide); rwa [ex_ar] at this)
 have G2 := hide (fun (w : World) (v : Value) (h : RdK encS 2 w w.heap.size v holeP) => by have := len_o_any h (by decide); rwa [ex_ln] at this)
 have G3 := hide (fun (w : World) (v : Value) (h : RdK encS 2 w w.heap.size v holeP) => by have := turn_o_any h (by decide); rwa [ex_tn] at this)
 have G4 := hide (fun (w : World) (v : Value) (h : RdPs w w.heap.size v [[(0, 0), (2, 0), (2, 1), (0, 1)]]) => by rw [← sqP_2] at h; have := fill_is ex_fl1 wide_outl ex_ck3 (by decide) (fun p hp => by rw [List.mem_singleton.1 hp]; exact ex_co1) (by decide) h; rw [if_pos rfl, if_pos rfl] at this; exact this)
 have GS := hide (fun (w : World) (u v : Value) (h : RdK encS 2 w w.heap.size u holeP) (h2 : RdK encS 2 w w.heap.size v holeP) => by have := rLoop13_any h h2 (by decide) (Nat.le_refl _) (Nat.le_refl _); rwa [decide_eq_true rfl] at this)
 have GR := hide (fun (w : World) (u v : Value) (h : RdK encR 4 w w.heap.size u [⟨0, 0, 2, 1⟩]) (h2 : RdK encR 4 w w.heap.size v [⟨0, 0, 2, 1⟩]) => by have := rSameRects_any h h2 (by decide) (Nat.le_refl _) (Nat.le_refl _); rwa [decide_eq_true rfl] at this)
 have K := hide (Below.refl w.heap.size w)
 go_enter Tryz.func9, Tryz.ntmps9
 go_wp2_with (fail)
 refine (ring13_any _).mono ?_
 rintro e v1 ⟨v, rfl, hr, hb⟩
 replace K := hide (K.out.trans (hb.mono K.out.size))
 have HR := hide hr
 clear hr
 clear hb
 go_wp2_with (fail)
 refine (of_is ring_outl HR.out (by decide) ex_ck1).mono ?_
 rintro e v2 ⟨⟨A1, c1, rfl, hp⟩, hb⟩
 replace K := hide (K.out.trans (hb.mono K.out.size))
 replace HR := hide ((HR.out.below hb).mono hb.size)
 have HP := hide hp
 clear hp
 clear hb
 clear HR
 go_wp2_with (fail)
 refine (hole13_any _).mono ?_
 rintro e v3 ⟨v, rfl, hr, hb⟩
 replace K := hide (K.out.trans (hb.mono K.out.size))
 replace HP := hide ((HP.out.below hb).mono hb.size)
 have HH := hide hr
 clear hr
 clear hb
 go_wp2_with (fail)
 refine (G1.out _ _ HH.out).mono ?_
 rintro e v4 ⟨rfl, hb⟩
 replace K := hide (K.out.trans (hb.mono K.out.size))
 replace HP := hide ((HP.out.below hb).mono hb.size)
 replace HH := hide ((HH.out.below hb).mono hb.size)
 clear hb
 clear HH
 go_wp2_with (fail)
 refine (hole13_any _).mono ?_
 rintro e v5 ⟨v, rfl, hr, hb⟩
 replace K := hide (K.out.trans (hb.mono K.out.size))
 replace HP := hide ((HP.out.below hb).mono hb.size)
 have HH := hide hr
 clear hr
 clear hb
 go_wp2_with (fail)
 refine (G2.out _ _ HH.out).mono ?_
 rintro e v6 ⟨rfl, hb⟩
 replace K := hide (K.out.trans (hb.mono K.out.size))
 replace HP := hide ((HP.out.below hb).mono hb.size)
 replace HH := hide ((HH.out.below hb).mono hb.size)
 clear hb
 clear HH
 go_wp2_with (fail)
 refine (hole13_any _).mono ?_
 rintro e v7 ⟨v, rfl, hr, hb⟩
 replace K := hide (K.out.trans (hb.mono K.out.size))
 replace HP := hide ((HP.out.below hb).mono hb.size)
 have HH := hide hr
 clear hr
 clear hb
 go_wp2_with (fail)
 refine (G3.out _ _ HH.out).mono ?_
 rintro e v8 ⟨rfl, hb⟩
 replace K := hide (K.out.trans (hb.mono K.out.size))
 replace HP := hide ((HP.out.below hb).mono hb.size)
 replace HH := hide ((HH.out.below hb).mono hb.size)
 clear hb
 clear HH
 go_wp2_with (fail)
 refine (at13_any 0 0 _).mono ?_
 rintro e v9 ⟨rfl, hb⟩
 replace K := hide (K.out.trans (hb.mono K.out.size))
 replace HP := hide ((HP.out.below hb).mono hb.size)
 clear hb
 go_wp2_with (fail)
 refine (at13_any 2 0 _).mono ?_
 rintro e v10 ⟨rfl, hb⟩
 replace K := hide (K.out.trans (hb.mono K.out.size))
 replace HP := hide ((HP.out.below hb).mono hb.size)
 clear hb
 go_wp2_with (fail)
 refine (at13_any 2 1 _).mono ?_
 rintro e v11 ⟨rfl, hb⟩
 replace K := hide (K.out.trans (hb.mono K.out.size))
 replace HP := hide ((HP.out.below hb).mono hb.size)
 clear hb
 go_wp2_with (fail)
 refine (at13_any 0 1 _).mono ?_
 rintro e v12 ⟨rfl, hb⟩
 replace K := hide (K.out.trans (hb.mono K.out.size))
 replace HP := hide ((HP.out.below hb).mono hb.size)
 clear hb
 go_wp2_with (fail)
 have hrp := rd_pts4 v12 0 0 2 0 2 1 0 1 53
 have hrr := rdps_one_at (B := v12.heap.size + 1) (by simp) _ _ hrp 36 1
 have hbz := ((Below.refl v12.heap.size v12).alloc (Nat.le_refl _) (.cells #[.int .i64 0, .int .i64 0, .int .i64 2, .int .i64 0, .int .i64 2, .int .i64 1, .int .i64 0, .int .i64 1] 53)).alloc (by simp) (.cells #[.slice (some ⟨v12.heap.size, 0, none⟩) 4 4] 36)
 refine (G4.out _ _ hrr).mono ?_
 rintro e v13 ⟨⟨A2, n2, c2, rfl, hp⟩, hb⟩
 replace hb := hbz.trans (hb.mono hbz.size)
 replace K := hide (K.out.trans (hb.mono K.out.size))
 replace HP := hide ((HP.out.below hb).mono hb.size)
 have HF := hide hp
 clear hp hb hrp hrr hbz
 go_wp2_with (fail)
 have hrr := rd_rects2 v13 0 0 1 1 1 1 2 2 49
 have hbz := (Below.refl v13.heap.size v13).alloc (Nat.le_refl _) (.cells #[.int .i64 0, .int .i64 0, .int .i64 1, .int .i64 1, .int .i64 1, .int .i64 1, .int .i64 2, .int .i64 2] 49)
 refine (of_is two_outl hrr (by decide) ex_ck2).mono ?_
 rintro e v14 ⟨⟨A3, c3, rfl, hp⟩, hb⟩
 replace hb := hbz.trans (hb.mono hbz.size)
 replace K := hide (K.out.trans (hb.mono K.out.size))
 replace HP := hide ((HP.out.below hb).mono hb.size)
 replace HF := hide ((HF.out.below hb).mono hb.size)
 clear hp hb hrr hbz
 obtain ⟨b, o, u, hA, hb, e0, hu⟩ := HP.out.get (j := 1) (r := holeP) rfl
 subst hA
 have HU := hide hu
 clear hu HP
 have HE := hide e0
 have HBB := hide hb
 clear hb
 go_upto_region 8 with fail
 refine wp_region_ords [0, 1, 2, 3, 4] 10 (.one 5 (.one 6 (.one 7 (.one 8 (.two 9 (.one 10 (.one 11 (.one 12 (.one 13 (.one 14 .done))))) 10 (.two 9 (.one 11 (.one 12 (.one 13 (.one 14 .done)))) 11 (.one 9 (.one 12 (.one 13 (.one 14 .done)))))))))) (fun w' => w'.cell? ⟨b, o + 1, none⟩ = some u) (by kernel_rfl) (by kernel_rfl) (by simpa [go_sem] using HE.out) ?_
 simp only [List.map_cons, List.map_nil, opAt, List.getElem?_cons_succ, List.getElem?_cons_zero, Option.getD_some]
 clear e0
 have hbk : Below v14.heap.size v14 v14.drew := (Below.refl _ _).drew
 replace K := hide (K.out.trans (hbk.mono K.out.size))
 replace HF := hide ((HF.out.below hbk).mono hbk.size)
 replace HU := hide ((HU.out.below hbk).mono hbk.size)
 replace HBB := hide (Nat.lt_of_lt_of_le HBB.out hbk.size)
 replace HE : Hid (v14.drew.cell? ⟨b, o + 1, none⟩ = some u) := hide (by simpa [go_sem] using HE.out)
 clear hbk
 generalize v14.drew = wk at *
 iterate 5
  refine ⟨?_, Or.inl ⟨by rfl, ?_⟩, ?_⟩
  rotate_left 1
  ·intro w' hSw
   go_simp
   first | done | with_reducible rfl
  simp only [Act.put, List.setIfInBounds_toArray, List.set_cons_zero, List.set_cons_succ]
 simp only [wpReads, wpOrds, wpOne, opAt, List.getElem?_cons_succ, List.getElem?_cons_zero, Option.getD_some]
 intro K9 hK
 simp only [Act.put, List.setIfInBounds_toArray, List.set_cons_zero, List.set_cons_succ] at hK ⊢
 go_simp
 refine (hole13_any _).mono ?_
 rintro e x20 ⟨v9, rfl, hh, hb⟩
 replace K := hide (K.out.trans (hb.mono K.out.size))
 replace HF := hide ((HF.out.below hb).mono hb.size)
 replace HU := hide ((HU.out.below hb).mono hb.size)
 replace HE := hide ((hb.cell (p := ⟨b, o + 1, none⟩) HBB.out).trans HE.out)
 replace HBB := hide (Nat.lt_of_lt_of_le HBB.out hb.size)
 have HH := hide hh
 clear hh hb
 refine hK _ _ ⟨fun _ => HE.out, ?_⟩
 clear hK K9
 intro K9 hK
 simp only [Act.put, List.setIfInBounds_toArray, List.set_cons_zero, List.set_cons_succ] at hK ⊢
 go_simp
 refine (GS.out _ _ _ HU.out HH.out).mono ?_
 rintro e x21 ⟨rfl, hb⟩
 replace K := hide (K.out.trans (hb.mono K.out.size))
 replace HF := hide ((HF.out.below hb).mono hb.size)
 replace HU := hide ((HU.out.below hb).mono hb.size)
 replace HE := hide ((hb.cell (p := ⟨b, o + 1, none⟩) HBB.out).trans HE.out)
 replace HBB := hide (Nat.lt_of_lt_of_le HBB.out hb.size)
 clear hb HH
 refine hK _ _ ⟨fun _ => HE.out, ?_⟩
 clear hK K9
 intro K9 hK
 simp only [Act.put, List.setIfInBounds_toArray, List.set_cons_zero, List.set_cons_succ] at hK ⊢
 go_simp
 refine hK _ _ ⟨fun _ => HE.out, ?_⟩
 clear hK K9
 intro K9 hK
 simp only [Act.put, List.setIfInBounds_toArray, List.set_cons_zero, List.set_cons_succ] at hK ⊢
 go_simp
 refine hK _ _ ⟨fun _ => HE.out, ?_⟩
 clear hK K9
 refine ⟨?_, ?_⟩
 ·
  intro K9 hK
  simp only [Act.put, List.setIfInBounds_toArray, List.set_cons_zero, List.set_cons_succ] at hK ⊢
  go_simp
  refine hK _ _ ⟨HE.out, ?_⟩
  clear hK K9
  intro K9 hK
  simp only [Act.put, List.setIfInBounds_toArray, List.set_cons_zero, List.set_cons_succ] at hK ⊢
  go_simp
  refine hK _ _ ⟨fun _ => HE.out, ?_⟩
  clear hK K9
  intro K9 hK
  simp only [Act.put, List.setIfInBounds_toArray, List.set_cons_zero, List.set_cons_succ] at hK ⊢
  go_simp
  have hrr := rd_rects1 x21 0 0 2 1 49
  have hb := (Below.refl x21.heap.size x21).alloc (Nat.le_refl _) (.cells #[.int .i64 0, .int .i64 0, .int .i64 2, .int .i64 1] 49)
  replace K := hide (K.out.trans (hb.mono K.out.size))
  replace HF := hide ((HF.out.below hb).mono hb.size)
  replace HU := hide ((HU.out.below hb).mono hb.size)
  replace HE := hide ((hb.cell (p := ⟨b, o + 1, none⟩) HBB.out).trans HE.out)
  replace HBB := hide (Nat.lt_of_lt_of_le HBB.out hb.size)
  have HR1 := hide hrr
  clear hrr hb
  generalize x21.alloc (.cells #[.int .i64 0, .int .i64 0, .int .i64 2, .int .i64 1] 49) = x26 at *
  generalize x21.heap.size = b5 at *
  refine hK _ _ ⟨fun _ => HE.out, ?_⟩
  clear hK K9
  intro K9 hK
  simp only [Act.put, List.setIfInBounds_toArray, List.set_cons_zero, List.set_cons_succ] at hK ⊢
  go_simp
  refine (GR.out _ _ _ HF.out HR1.out).mono ?_
  rintro e x27 ⟨rfl, hb⟩
  replace K := hide (K.out.trans (hb.mono K.out.size))
  replace HF := hide ((HF.out.below hb).mono hb.size)
  replace HU := hide ((HU.out.below hb).mono hb.size)
  replace HE := hide ((hb.cell (p := ⟨b, o + 1, none⟩) HBB.out).trans HE.out)
  replace HBB := hide (Nat.lt_of_lt_of_le HBB.out hb.size)
  clear hb HR1
  refine hK _ _ ⟨fun _ => HE.out, ?_⟩
  clear hK K9
  intro K9 hK
  simp only [Act.put, List.setIfInBounds_toArray, List.set_cons_zero, List.set_cons_succ] at hK ⊢
  go_simp
  refine hK _ _ ⟨fun _ => HE.out, ?_⟩
  clear hK K9
  intro K9 hK
  simp only [Act.put, List.setIfInBounds_toArray, List.set_cons_zero, List.set_cons_succ] at hK ⊢
  go_simp
  refine hK _ _ ⟨fun _ => HE.out, ?_⟩
  clear hK K9
  refine NoPanic.normal ?_
  go_wp2
  go_ret
  exact ⟨rfl, K.out⟩
 ·
  intro K9 hK
  simp only [Act.put, List.setIfInBounds_toArray, List.set_cons_zero, List.set_cons_succ] at hK ⊢
  go_simp
  refine hK _ _ ⟨HE.out, ?_⟩
  clear hK K9
  refine ⟨?_, ?_⟩
  ·
   intro K9 hK
   simp only [Act.put, List.setIfInBounds_toArray, List.set_cons_zero, List.set_cons_succ] at hK ⊢
   go_simp
   refine hK _ _ ⟨HE.out, ?_⟩
   clear hK K9
   intro K9 hK
   simp only [Act.put, List.setIfInBounds_toArray, List.set_cons_zero, List.set_cons_succ] at hK ⊢
   go_simp
   have hrr := rd_rects1 x21 0 0 2 1 49
   have hb := (Below.refl x21.heap.size x21).alloc (Nat.le_refl _) (.cells #[.int .i64 0, .int .i64 0, .int .i64 2, .int .i64 1] 49)
   replace K := hide (K.out.trans (hb.mono K.out.size))
   replace HF := hide ((HF.out.below hb).mono hb.size)
   replace HU := hide ((HU.out.below hb).mono hb.size)
   replace HE := hide ((hb.cell (p := ⟨b, o + 1, none⟩) HBB.out).trans HE.out)
   replace HBB := hide (Nat.lt_of_lt_of_le HBB.out hb.size)
   have HR1 := hide hrr
   clear hrr hb
   generalize x21.alloc (.cells #[.int .i64 0, .int .i64 0, .int .i64 2, .int .i64 1] 49) = x26 at *
   generalize x21.heap.size = b5 at *
   refine hK _ _ ⟨fun _ => HE.out, ?_⟩
   clear hK K9
   intro K9 hK
   simp only [Act.put, List.setIfInBounds_toArray, List.set_cons_zero, List.set_cons_succ] at hK ⊢
   go_simp
   refine (GR.out _ _ _ HF.out HR1.out).mono ?_
   rintro e x27 ⟨rfl, hb⟩
   replace K := hide (K.out.trans (hb.mono K.out.size))
   replace HF := hide ((HF.out.below hb).mono hb.size)
   replace HU := hide ((HU.out.below hb).mono hb.size)
   replace HE := hide ((hb.cell (p := ⟨b, o + 1, none⟩) HBB.out).trans HE.out)
   replace HBB := hide (Nat.lt_of_lt_of_le HBB.out hb.size)
   clear hb HR1
   refine hK _ _ ⟨fun _ => HE.out, ?_⟩
   clear hK K9
   intro K9 hK
   simp only [Act.put, List.setIfInBounds_toArray, List.set_cons_zero, List.set_cons_succ] at hK ⊢
   go_simp
   refine hK _ _ ⟨fun _ => HE.out, ?_⟩
   clear hK K9
   intro K9 hK
   simp only [Act.put, List.setIfInBounds_toArray, List.set_cons_zero, List.set_cons_succ] at hK ⊢
   go_simp
   refine hK _ _ ⟨fun _ => HE.out, ?_⟩
   clear hK K9
   refine NoPanic.normal ?_
   go_wp2
   go_ret
   exact ⟨rfl, K.out⟩
  ·
   intro K9 hK
   simp only [Act.put, List.setIfInBounds_toArray, List.set_cons_zero, List.set_cons_succ] at hK ⊢
   go_simp
   have hrr := rd_rects1 x21 0 0 2 1 49
   have hb := (Below.refl x21.heap.size x21).alloc (Nat.le_refl _) (.cells #[.int .i64 0, .int .i64 0, .int .i64 2, .int .i64 1] 49)
   replace K := hide (K.out.trans (hb.mono K.out.size))
   replace HF := hide ((HF.out.below hb).mono hb.size)
   replace HU := hide ((HU.out.below hb).mono hb.size)
   replace HE := hide ((hb.cell (p := ⟨b, o + 1, none⟩) HBB.out).trans HE.out)
   replace HBB := hide (Nat.lt_of_lt_of_le HBB.out hb.size)
   have HR1 := hide hrr
   clear hrr hb
   generalize x21.alloc (.cells #[.int .i64 0, .int .i64 0, .int .i64 2, .int .i64 1] 49) = x25 at *
   generalize x21.heap.size = b5 at *
   refine hK _ _ ⟨HE.out, ?_⟩
   clear hK K9
   intro K9 hK
   simp only [Act.put, List.setIfInBounds_toArray, List.set_cons_zero, List.set_cons_succ] at hK ⊢
   go_simp
   refine hK _ _ ⟨fun _ => HE.out, ?_⟩
   clear hK K9
   intro K9 hK
   simp only [Act.put, List.setIfInBounds_toArray, List.set_cons_zero, List.set_cons_succ] at hK ⊢
   go_simp
   refine (GR.out _ _ _ HF.out HR1.out).mono ?_
   rintro e x27 ⟨rfl, hb⟩
   replace K := hide (K.out.trans (hb.mono K.out.size))
   replace HF := hide ((HF.out.below hb).mono hb.size)
   replace HU := hide ((HU.out.below hb).mono hb.size)
   replace HE := hide ((hb.cell (p := ⟨b, o + 1, none⟩) HBB.out).trans HE.out)
   replace HBB := hide (Nat.lt_of_lt_of_le HBB.out hb.size)
   clear hb HR1
   refine hK _ _ ⟨fun _ => HE.out, ?_⟩
   clear hK K9
   intro K9 hK
   simp only [Act.put, List.setIfInBounds_toArray, List.set_cons_zero, List.set_cons_succ] at hK ⊢
   go_simp
   refine hK _ _ ⟨fun _ => HE.out, ?_⟩
   clear hK K9
   intro K9 hK
   simp only [Act.put, List.setIfInBounds_toArray, List.set_cons_zero, List.set_cons_succ] at hK ⊢
   go_simp
   refine hK _ _ ⟨fun _ => HE.out, ?_⟩
   clear hK K9
   refine NoPanic.normal ?_
   go_wp2
   go_ret
   exact ⟨rfl, K.out⟩
end Go.Proofs.YtdfpbhlnlkjjlaaGreat

/- OutlineAreas' walk. -/
namespace Go.Proofs.YtdfpbhlnlkjjlaaGreat
open Go.RowKit
set_option linter.unusedVariables false
set_option linter.unusedSimpArgs false
set_option maxRecDepth 100000 in
set_option maxHeartbeats 16000000 in
theorem oareas_walk {w : World} {v : Value} {l : List R4} (hr : RdK encR 4 w w.heap.size v l) (la : l.length ≤ maxLen) :
  Calls Tryz.prog 7 #[v] w fun e w' => e = .returned (.bool true) ∧ Below w.heap.size w w' := by
 have HR := hide hr
 obtain ⟨A0, c0, rfl, _⟩ := hr
 rename_i hrr
 clear hrr
 have K := hide (Below.refl w.heap.size w)
 have HLA := hide la
 clear la
 by_cases hf : l.length ≤ 60 ∧ checkF l = 0
 ·have HFT : Hid ((decide (l.length ≤ 60) && decide (checkF l = 0)) = true) := hide (by simp [hf])
  obtain ⟨hl6, hk⟩ := hf
  have HK := hide hk
  have HL6 := hide hl6
  clear hl6 hk
  go_enter Tryz.func7, Tryz.ntmps7
  go_wp2_with (fail)
  refine (alive13_any _).mono ?_
  rintro e v1 ⟨rfl, hb⟩
  replace K := hide (K.out.trans (hb.mono K.out.size))
  replace HR := hide ((HR.out.below hb).mono hb.size)
  clear hb
  go_wp2_with (fail)
  refine (fit13_any HR.out HLA.out).mono ?_
  rintro e v2 ⟨rfl, hb⟩
  rw [HFT.out]
  replace K := hide (K.out.trans (hb.mono K.out.size))
  replace HR := hide ((HR.out.below hb).mono hb.size)
  clear hb
  go_wp2_with (fail)
  refine (of_any HR.out HL6.out HK.out).mono ?_
  rintro e v3 ⟨A1, c1, L, vs, rfl, ho, hw, hv, hb⟩
  have HP := hide (RdPs.of_own hw hv)
  have HO := hide ho
  replace K := hide (K.out.trans (hb.mono K.out.size))
  replace HR := hide ((HR.out.below hb).mono hb.size)
  clear hb ho hw hv
  have hL6 : L.length ≤ 60 := by have := (out_cnt HK.out HO.out).1; have := HL6.out; omega
  have hz2 : ¬ (200 : Int) < (L.length : Int) := by omega
  have GA := hide (fun (w : World) (v : Value) (h : RdK encR 4 w w.heap.size v l) => by have := area_any h (by have := HL6.out; omega); rwa [areaF_is HK.out] at this)
  have HAS := hide (out_area HK.out HO.out)
  obtain ⟨n9, hn9⟩ : ∃ n, areaS l = n := ⟨_, rfl⟩
  rw [hn9] at GA HAS
  clear hn9
  go_wp2_with (fail)
  refine (GA.out _ _ HR.out).mono ?_
  rintro e v4 ⟨rfl, hb⟩
  replace K := hide (K.out.trans (hb.mono K.out.size))
  replace HP := hide ((HP.out.below hb).mono hb.size)
  clear hb HR GA
  go_wp2
  go_loopw [8, 9] (fun s i wr => ∃ (k : Nat) (s9 : Int), k ≤ L.length ∧ s = .int .i64 s9 ∧ i = .int .i64 (k : Int) ∧ Hid (((L.take k).map arL).sum = s9 ∧ -(4000000000000000 * (k : Int)) ≤ s9 ∧ s9 ≤ 4000000000000000 * (k : Int)) ∧ Hid (Below w.heap.size w wr) ∧ Hid (RdPs wr wr.heap.size (.slice A1 L.length c1) L)) (fun _ i _ => L.length - (intOf i).toNat)
  case atStart => exact ⟨0, 0, Nat.zero_le _, rfl, rfl, hide ⟨rfl, by omega, by omega⟩, K, HP⟩
  case round =>
   clear K HP
   obtain ⟨k, s9, hk, rfl, rfl, HS, K, HP⟩ := hrel
   by_cases hlt : k < L.length
   ·have kz : (k : Int) < (L.length : Int) := by omega
    have k0 : (0 : Int) ≤ (k : Int) := by omega
    obtain ⟨p, hp⟩ : ∃ p, L[k]? = some p := ⟨_, List.getElem?_eq_getElem hlt⟩
    obtain ⟨a, ha1, ha2, ha3, ha4⟩ := out_turn HK.out HO.out (List.mem_of_getElem? hp)
    have hpl := (chkO_ok (out_chk HK.out HO.out p (List.mem_of_getElem? hp))).1
    have GA := hide (fun (w : World) (v : Value) (h : RdK encS 2 w w.heap.size v p) => by have := area_o_any h (by omega); rwa [ha1] at this)
    have GT := hide (fun (w : World) (v : Value) (h : RdK encS 2 w w.heap.size v p) => turn_o_any h (by omega))
    have HS2 : Hid (((L.take (k + 1)).map arL).sum = s9 + a ∧ -(4000000000000000 * ((k + 1 : Nat) : Int)) ≤ s9 + a ∧ s9 + a ≤ 4000000000000000 * ((k + 1 : Nat) : Int)) := hide (by have := HS.out; refine ⟨by rw [sumA_step hp, ha2, this.1], ?_, ?_⟩ <;> omega)
    have ws : IntKind.i64.wrap (s9 + a) = s9 + a := IntWalk.i64_in _ (by have := HS2.out; omega)
    have HPP := hide hp
    clear hp ha1 ha2 ha3 hpl HS
    obtain ⟨b, o, u, hA, hb, e0, hu⟩ := HP.out.get HPP.out
    subst hA
    have HU := hide hu
    clear hu
    go_wp2_with (fail)
    refine (GA.out _ _ HU.out).mono ?_
    rintro e w1 ⟨rfl, hb1⟩
    have e1 := (hb1.cell (p := ⟨b, _, none⟩) hb).trans e0
    have hbw : b < w1.heap.size := Nat.lt_of_lt_of_le hb hb1.size
    have HU1 := hide ((HU.out.below hb1).mono hb1.size)
    have K1 := hide (K.out.trans (hb1.mono K.out.size))
    have HP1 := hide ((HP.out.below hb1).mono hb1.size)
    clear hb1 e0 hb K HP HU GA
    go_wp2_with (fail)
    refine (GT.out _ _ HU1.out).mono ?_
    rintro e w2 ⟨rfl, hb2⟩
    have K2 := hide (K1.out.trans (hb2.mono K1.out.size))
    have HP2 := hide ((HP1.out.below hb2).mono hb2.size)
    clear hb2 e1 hbw K1 HP1 HU1 GT
    rcases ha4 with ⟨h1, h2, _⟩ | ⟨h1, h2, _⟩
    ·rw [h1]
     have b2 : decide (a > 0) = true := decide_eq_true h2
     clear h1
     go_wp2
     go_roundw
     case rel => exact ⟨k + 1, s9 + a, hlt, rfl, by go_num, HS2, K2, HP2⟩
     case measure => simp [intOf]; omega
    ·rw [h1]
     have h3 : ¬ 0 < a := by omega
     have b2 : decide (a > 0) = false := decide_eq_false (by omega)
     clear h1 h2
     go_wp2
     go_roundw
     case rel => exact ⟨k + 1, s9 + a, hlt, rfl, by go_num, HS2, K2, HP2⟩
     case measure => simp [intOf]; omega
   ·have kz : ¬ (k : Int) < (L.length : Int) := by omega
    have hs9 : s9 = n9 := by
     have h := HS.out.1
     rw [List.take_of_length_le (by omega), HAS.out] at h
     exact h.symm
    subst hs9
    clear HS HAS
    go_wp2
    go_ret
    exact ⟨rfl, K.out⟩
 ·have HFT : Hid ((decide (l.length ≤ 60) && decide (checkF l = 0)) = false) := hide (by
   cases h1 : decide (l.length ≤ 60) with
   | false => rfl
   | true =>
    cases h2 : decide (checkF l = 0) with
    | false => rfl
    | true => exact absurd ⟨of_decide_eq_true h1, of_decide_eq_true h2⟩ hf)
  clear hf
  go_enter Tryz.func7, Tryz.ntmps7
  go_wp2_with (fail)
  refine (alive13_any _).mono ?_
  rintro e v1 ⟨rfl, hb⟩
  replace K := hide (K.out.trans (hb.mono K.out.size))
  replace HR := hide ((HR.out.below hb).mono hb.size)
  clear hb
  go_wp2_with (fail)
  refine (fit13_any HR.out HLA.out).mono ?_
  rintro e v2 ⟨rfl, hb⟩
  rw [HFT.out]
  replace K := hide (K.out.trans (hb.mono K.out.size))
  clear hb HR
  go_wp2_with (fail)
  go_ret
  exact ⟨rfl, K.out⟩
end Go.Proofs.YtdfpbhlnlkjjlaaGreat

/- Outlines: the reference's Check, of a list that is as it should be. -/
namespace Go.Proofs.YtdfpbhlnlkjjlaaGreat
open Go.RowKit
set_option linter.unusedVariables false
set_option linter.unusedSimpArgs false
def upC (l : List Pt) (m : Nat) : Bool := ((pAt l 0).1 == (pAt l 1).1) == (((m : Int) % 2) == 0)
theorem upC_succ (l : List Pt) (m : Nat) : upC l (m + 1) = !(upC l m) := by
 unfold upC
 have : ((((m + 1 : Nat) : Int) % 2) == 0) = !(((m : Int) % 2) == 0) := by
  rcases (show (m : Int) % 2 = 0 ∨ (m : Int) % 2 = 1 by omega) with h | h
  ·rw [show ((m + 1 : Nat) : Int) % 2 = 1 by omega, h]; rfl
  ·rw [show ((m + 1 : Nat) : Int) % 2 = 0 by omega, h]; rfl
 rw [this]
 cases ((pAt l 0).1 == (pAt l 1).1) <;> cases (((m : Int) % 2) == 0) <;> rfl
theorem chk_side {l : List Pt} (h : chkO l = 0) {m : Nat} (hm : m < l.length) : (upC l m = true → (pAt l m).1 = (qAt l m).1 ∧ (pAt l m).2 ≠ (qAt l m).2) ∧ (upC l m = false → (pAt l m).1 ≠ (qAt l m).1 ∧ (pAt l m).2 = (qAt l m).2) := by
 have hb := (chkO_ok h).2.2 m hm
 unfold badC at hb
 simp only [Bool.or_eq_false_iff] at hb
 obtain ⟨_, _, h3, h4⟩ := hb
 have h5 : ((pAt l m).1 == (qAt l m).1) = upC l m := by
  unfold upC
  simpa using h4
 rw [h5] at h3
 constructor
 ·intro hu
  rw [hu] at h3 h5
  refine ⟨by simpa using h5, fun e => ?_⟩
  rw [e] at h3
  simp at h3
 ·intro hu
  rw [hu] at h3 h5
  refine ⟨by simpa using h5, ?_⟩
  simpa using h3
set_option maxRecDepth 100000 in
set_option maxHeartbeats 16000000 in
theorem rCheck13_ok {w : World} {v : Value} {l : List Pt} (hr : RdK encS 2 w w.heap.size v l) (hk : chkO l = 0) :
    Calls Tryz.prog 21 #[v] w fun e w' => e = .returned (.int .i64 0) ∧ Below w.heap.size w w' := by
  have HRD := hide hr
  have HL := hide (chkO_ok hk).1
  have HSDS := hide (fun m hm => chk_side (l := l) hk (m := m) hm)
  have HFN := hide (fun i hi => chkO_fin (l := l) hk (i := i) hi)
  obtain ⟨A, c, rfl, _⟩ := hr
  have hl4 := HL.out
  obtain ⟨b, o, rfl, hb, hcell⟩ := rd_two HRD.out (show 0 < l.length by omega)
  have z0 : ¬ (2000 : Int) < (l.length : Int) := by omega
  have z1 : decide ((l.length : Int) < 4) = false := decide_eq_false (by omega)
  have z2 : ((l.length : Int) % 2 == 1) = false := by
    have := (chkO_ok hk).2.1
    rw [Bool.eq_false_iff]; intro h; rw [beq_iff_eq] at h; omega
  have z3 : (0 : Int) < (l.length : Int) := by omega
  have z4 : (1 : Int) < (l.length : Int) := by omega
  have d0 : w.cell? ⟨b, o, none⟩ = some (.int .i64 (pAt l 0).1) := by have := (hcell 0 (by omega)).1; simpa using this
  have d1 : w.cell? ⟨b, o + 2, none⟩ = some (.int .i64 (pAt l 1).1) := by have := (hcell 1 (by omega)).1; simpa using this
  have HUP0 : Hid (((pAt l 0).1 == (pAt l 1).1) = upC l 0) := hide (by unfold upC; simp)
  have HCL := hide hcell
  clear hl4 hcell hk
  obtain ⟨X0, hX0⟩ : ∃ x, (pAt l 0).1 = x := ⟨_, rfl⟩
  obtain ⟨X1, hX1⟩ : ∃ x, (pAt l 1).1 = x := ⟨_, rfl⟩
  rw [hX0] at d0 HUP0
  rw [hX1] at d1 HUP0
  clear hX0 hX1
  go_enter Tryz.func21, Tryz.ntmps21
  go_wp2
  go_quiet (fail)
  refine name_exit fun w0 hw0 => ?_
  have HB0 : Hid (Below w.heap.size w w0) := hide (by rw [hw0]; exact below_drewN (Below.refl _ _) _)
  clear hw0 d0 d1 z0 z1 z2 z3 z4
  rw [HUP0.out]
  go_wp2
  go_loopw [3, 4] (fun u i wr => ∃ m : Nat, m ≤ l.length ∧ i = .int .i64 (m : Int) ∧ u = .bool (upC l m) ∧ Hid (Below w.heap.size w wr)) (fun _ i _ => l.length - (intOf i).toNat)
  case atStart => exact ⟨0, Nat.zero_le _, rfl, rfl, HB0⟩
  case round =>
    obtain ⟨m, hm, rfl, rfl, HB⟩ := hrel
    have hll := HL.out
    by_cases hlt : m < l.length
    · have mz : (m : Int) < (l.length : Int) := by omega
      have m0 : (0 : Int) ≤ (m : Int) := by omega
      obtain ⟨j, hj⟩ : ∃ j, (m + 1) % l.length = j := ⟨_, rfl⟩
      have hjl : j < l.length := by rw [← hj]; exact Nat.mod_lt _ (by omega)
      have hmod : ((m : Int) + 1) % (l.length : Int) = (j : Int) := by rw [← hj]; simp
      have HQ : Hid (qAt l m = pAt l j) := hide (by unfold qAt; rw [hj])
      have e0 := (HB.out.cell (p := ⟨b, _, none⟩) hb).trans (HCL.out m hlt).1
      have e1 := (HB.out.cell (p := ⟨b, _, none⟩) hb).trans (HCL.out m hlt).2
      have f0 := (HB.out.cell (p := ⟨b, _, none⟩) hb).trans (HCL.out j hjl).1
      have f1 := (HB.out.cell (p := ⟨b, _, none⟩) hb).trans (HCL.out j hjl).2
      have hbr : b < wr.heap.size := Nat.lt_of_lt_of_le hb HB.out.size
      have HSD := hide (HSDS.out m hlt)
      rw [HQ.out] at HSD
      have HF1 := hide (HFN.out m hlt)
      unfold finC at HF1
      have w1' : IntKind.i64.wrap ((m : Int) + 1) = (m : Int) + 1 := IntWalk.i64_in _ (by omega)
      have jz : (j : Int) < (l.length : Int) := by omega
      have j0 : (0 : Int) ≤ (j : Int) := by omega
      have l0 : ¬ (l.length : Int) = 0 := by omega
      have lnil : ¬ l = [] := fun e => by rw [e] at hlt; simp at hlt
      have tm1 : ((m : Int) + 1).tmod (l.length : Int) = (j : Int) := by have h9 := tmod_nat (m + 1) l.length; rw [hj] at h9; exact h9
      have HCE := hide (And.intro (And.intro e0 e1) (And.intro (And.intro f0 f1) hbr))
      clear hj hlt e0 e1 f0 f1 hbr HQ hll
      go_upto_region 9 with fail
      generalize pAt l m = P9 at *
      generalize pAt l j = Q9 at *
      have HBK : Hid (Below wr.heap.size wr wr.drew) := hide (Below.refl _ _).drew
      refine wp_region_ordN [0, 1, 2, 3, 4, 5, 6, 7, 8, 9, 10, 11] 4 (.cons 12 (.cons 13 (.cons 14 (.cons 15 .nil .nil) .nil) .nil) (.cons 13 (.cons 12 (.cons 14 (.cons 15 .nil .nil) .nil) .nil) .nil)) (fun w' => Below wr.heap.size wr w') (by kernel_rfl) (by kernel_rfl) HBK.out ?_
      simp only [List.map_cons, List.map_nil, opAt, List.getElem?_cons_succ, List.getElem?_cons_zero, Option.getD_some]
      generalize wr.drew = wk at *
      iterate 12
        refine ⟨?_, Or.inl ⟨by rfl, ?_⟩, ?_⟩
        rotate_left 1
        · intro w' hSw
          obtain ⟨⟨e0, e1⟩, ⟨f0, f1⟩, hbr⟩ := HCE.out
          replace e0 := (hSw.cell (p := ⟨b, _, none⟩) hbr).trans e0
          replace e1 := (hSw.cell (p := ⟨b, _, none⟩) hbr).trans e1
          replace f0 := (hSw.cell (p := ⟨b, _, none⟩) hbr).trans f0
          replace f1 := (hSw.cell (p := ⟨b, _, none⟩) hbr).trans f1
          replace hbr := Nat.lt_of_lt_of_le hbr hSw.size
          clear hSw
          go_simp
          first | done | with_reducible rfl
        simp only [Act.put, List.setIfInBounds_toArray, List.set_cons_zero, List.set_cons_succ]
      simp only [wpReads, wpOrdN, wpOne, opAt, List.getElem?_cons_succ, List.getElem?_cons_zero, Option.getD_some]
      repeat' (first
        | with_reducible exact trivial
        | with_reducible refine ⟨?_, ?_⟩
        | with_reducible refine NoPanic.normal ?_
        | (with_reducible intro K0 hK
           simp only [Act.put, List.setIfInBounds_toArray, List.set_cons_zero, List.set_cons_succ] at hK ⊢
           go_simp
           refine hK _ _ ⟨fun _ => (by repeat (first | with_reducible exact HBK.out | with_reducible refine Below.setCell ?_ (by first | exact HBK.out.size | (simp; done) | (have := HBK.out.size; simp; omega)) _ | with_reducible refine Below.alloc ?_ (by first | exact HBK.out.size | omega | (simp; done) | (have := HBK.out.size; simp; omega)) _)), ?_⟩
           clear hK K0)
        | fail)
      · refine name_exit fun w3 hw3 => ?_
        have HB32 : Hid (Below wr.heap.size wr w3) := hide (by rw [hw3]; exact (by repeat (first | with_reducible exact HBK.out | with_reducible refine Below.setCell ?_ (by first | exact HBK.out.size | (simp; done) | (have := HBK.out.size; simp; omega)) _ | with_reducible refine Below.alloc ?_ (by first | exact HBK.out.size | omega | (simp; done) | (have := HBK.out.size; simp; omega)) _)))
        have HP9 : Hid (Bx2 w3 (wk.heap.size) P9.1 P9.2) := hide ⟨by first | (rw [hw3]; simp; done) | (rw [hw3]; simp; omega), by rw [hw3]; simp [go_sem], by rw [hw3]; simp [go_sem]⟩
        have HQ9 : Hid (Bx2 w3 (wk.heap.size + 1) Q9.1 Q9.2) := hide ⟨by first | (rw [hw3]; simp; done) | (rw [hw3]; simp; omega), by rw [hw3]; simp [go_sem], by rw [hw3]; simp [go_sem]⟩
        have HB3 := hide (HB.out.trans (HB32.out.mono HB.out.size))
        obtain ⟨gq, hgq⟩ : ∃ g, wk.heap.size + 1 = g := ⟨_, rfl⟩
        simp only [hgq] at HQ9 ⊢
        obtain ⟨gp, hgp⟩ : ∃ g, wk.heap.size = g := ⟨_, rfl⟩
        simp only [hgp] at HP9 ⊢
        clear hw3 hgp hgq HB32 HBK HB
        obtain ⟨hp0, hp1, hp2⟩ := HP9.out
        obtain ⟨hq0, hq1, hq2⟩ := HQ9.out
        have hf1 := HF1.out
        have z1 : decide (P9.1 < -1000000) = false := decide_eq_false (by omega)
        have z2 : decide (1000000 < P9.1) = false := decide_eq_false (by omega)
        have z3 : decide (P9.2 < -1000000) = false := decide_eq_false (by omega)
        have z4 : decide (1000000 < P9.2) = false := decide_eq_false (by omega)
        clear hf1 HF1 HP9 HQ9
        cases hu : upC l m with
        | true =>
          obtain ⟨y1, y2⟩ := HSD.out.1 hu
          have HU := hide (show upC l (m + 1) = false by rw [upC_succ, hu]; rfl)
          have y3 : (P9.1 != Q9.1) = false := by simp [y1]
          have y4 : (P9.2 == Q9.2) = false := by simpa using y2
          clear y1 y2 hu
          go_wp2
          go_roundw
          case rel => exact ⟨m + 1, by omega, by go_num, by rw [HU.out], HB3⟩
          case measure => simp [intOf]; omega
        | false =>
          obtain ⟨y1, y2⟩ := HSD.out.2 hu
          have HU := hide (show upC l (m + 1) = true by rw [upC_succ, hu]; rfl)
          have y3 : (P9.2 != Q9.2) = false := by simp [y2]
          have y4 : (P9.1 == Q9.1) = false := by simpa using y1
          clear y1 y2 hu
          go_wp2
          go_roundw
          case rel => exact ⟨m + 1, by omega, by go_num, by rw [HU.out], HB3⟩
          case measure => simp [intOf]; omega
      · refine name_exit fun w3 hw3 => ?_
        have HB32 : Hid (Below wr.heap.size wr w3) := hide (by rw [hw3]; exact (by repeat (first | with_reducible exact HBK.out | with_reducible refine Below.setCell ?_ (by first | exact HBK.out.size | (simp; done) | (have := HBK.out.size; simp; omega)) _ | with_reducible refine Below.alloc ?_ (by first | exact HBK.out.size | omega | (simp; done) | (have := HBK.out.size; simp; omega)) _)))
        have HP9 : Hid (Bx2 w3 (wk.heap.size + 1) P9.1 P9.2) := hide ⟨by first | (rw [hw3]; simp; done) | (rw [hw3]; simp; omega), by rw [hw3]; simp [go_sem], by rw [hw3]; simp [go_sem]⟩
        have HQ9 : Hid (Bx2 w3 (wk.heap.size) Q9.1 Q9.2) := hide ⟨by first | (rw [hw3]; simp; done) | (rw [hw3]; simp; omega), by rw [hw3]; simp [go_sem], by rw [hw3]; simp [go_sem]⟩
        have HB3 := hide (HB.out.trans (HB32.out.mono HB.out.size))
        obtain ⟨gp, hgp⟩ : ∃ g, wk.heap.size + 1 = g := ⟨_, rfl⟩
        simp only [hgp] at HP9 ⊢
        obtain ⟨gq, hgq⟩ : ∃ g, wk.heap.size = g := ⟨_, rfl⟩
        simp only [hgq] at HQ9 ⊢
        clear hw3 hgp hgq HB32 HBK HB
        obtain ⟨hp0, hp1, hp2⟩ := HP9.out
        obtain ⟨hq0, hq1, hq2⟩ := HQ9.out
        have hf1 := HF1.out
        have z1 : decide (P9.1 < -1000000) = false := decide_eq_false (by omega)
        have z2 : decide (1000000 < P9.1) = false := decide_eq_false (by omega)
        have z3 : decide (P9.2 < -1000000) = false := decide_eq_false (by omega)
        have z4 : decide (1000000 < P9.2) = false := decide_eq_false (by omega)
        clear hf1 HF1 HP9 HQ9
        cases hu : upC l m with
        | true =>
          obtain ⟨y1, y2⟩ := HSD.out.1 hu
          have HU := hide (show upC l (m + 1) = false by rw [upC_succ, hu]; rfl)
          have y3 : (P9.1 != Q9.1) = false := by simp [y1]
          have y4 : (P9.2 == Q9.2) = false := by simpa using y2
          clear y1 y2 hu
          go_wp2
          go_roundw
          case rel => exact ⟨m + 1, by omega, by go_num, by rw [HU.out], HB3⟩
          case measure => simp [intOf]; omega
        | false =>
          obtain ⟨y1, y2⟩ := HSD.out.2 hu
          have HU := hide (show upC l (m + 1) = true by rw [upC_succ, hu]; rfl)
          have y3 : (P9.2 != Q9.2) = false := by simp [y2]
          have y4 : (P9.1 == Q9.1) = false := by simpa using y1
          clear y1 y2 hu
          go_wp2
          go_roundw
          case rel => exact ⟨m + 1, by omega, by go_num, by rw [HU.out], HB3⟩
          case measure => simp [intOf]; omega
    · have mz : ¬ (m : Int) < (l.length : Int) := by omega
      clear hll
      go_wp2
      go_ret
      exact ⟨rfl, HB.out⟩
end Go.Proofs.YtdfpbhlnlkjjlaaGreat

/- OutlineBack's walk. -/
namespace Go.Proofs.YtdfpbhlnlkjjlaaGreat
open Go.RowKit
set_option linter.unusedVariables false
set_option linter.unusedSimpArgs false
set_option maxRecDepth 100000 in
set_option maxHeartbeats 16000000 in
theorem oback_walk {w : World} {v : Value} {l : List R4} (hr : RdK encR 4 w w.heap.size v l) (la : l.length ≤ maxLen) :
  Calls Tryz.prog 5 #[v] w fun e w' => e = .returned (.bool true) ∧ Below w.heap.size w w' := by
 have HR := hide hr
 obtain ⟨A0, c0, rfl, _⟩ := hr
 rename_i hrr
 clear hrr
 have K := hide (Below.refl w.heap.size w)
 have HLA := hide la
 clear la
 by_cases hf : l.length ≤ 60 ∧ checkF l = 0
 ·have HFT : Hid ((decide (l.length ≤ 60) && decide (checkF l = 0)) = true) := hide (by simp [hf])
  obtain ⟨hl6, hk⟩ := hf
  have HK := hide hk
  have HL6 := hide hl6
  clear hl6 hk
  go_enter Tryz.func5, Tryz.ntmps5
  go_wp2_with (fail)
  refine (alive13_any _).mono ?_
  rintro e v1 ⟨rfl, hb⟩
  replace K := hide (K.out.trans (hb.mono K.out.size))
  replace HR := hide ((HR.out.below hb).mono hb.size)
  clear hb
  go_wp2_with (fail)
  refine (fit13_any HR.out HLA.out).mono ?_
  rintro e v2 ⟨rfl, hb⟩
  rw [HFT.out]
  replace K := hide (K.out.trans (hb.mono K.out.size))
  replace HR := hide ((HR.out.below hb).mono hb.size)
  clear hb
  go_wp2_with (fail)
  refine (of_any HR.out HL6.out HK.out).mono ?_
  rintro e v3 ⟨A1, c1, L, vs, rfl, ho, hw, hv, hb⟩
  have HP := hide (RdPs.of_own hw hv)
  have HO := hide ho
  replace K := hide (K.out.trans (hb.mono K.out.size))
  replace HR := hide ((HR.out.below hb).mono hb.size)
  clear hb ho hw hv
  have hL6 : L.length ≤ 60 := by have := (out_cnt HK.out HO.out).1; have := HL6.out; omega
  have hz2 : ¬ (200 : Int) < (L.length : Int) := by omega
  have hsum := (out_cnt HK.out HO.out).2
  have GF := hide (fun (w : World) (v : Value) (h : RdPs w w.heap.size v L) => by have := fill_is (fld_back (check_rcan HK.out) HO.out (chk_bd HK.out)) HO.out HK.out HL6.out (out_chk HK.out HO.out) (by have := HL6.out; omega) h; rw [if_pos rfl, if_pos rfl] at this; exact this)
  clear hsum
  go_wp2
  go_loopw [6] (fun i wr => ∃ k : Nat, k ≤ L.length ∧ i = .int .i64 (k : Int) ∧ Hid (Below w.heap.size w wr) ∧ Hid (RdPs wr wr.heap.size (.slice A1 L.length c1) L) ∧ Hid (RdK encR 4 wr wr.heap.size (.slice A0 l.length c0) l)) (fun i _ => L.length - (intOf i).toNat)
  case atStart => exact ⟨0, Nat.zero_le _, rfl, K, HP, HR⟩
  case round =>
   clear K HP HR
   obtain ⟨k, hk, rfl, K, HP, HR⟩ := hrel
   by_cases hlt : k < L.length
   ·have kz : (k : Int) < (L.length : Int) := by omega
    have k0 : (0 : Int) ≤ (k : Int) := by omega
    obtain ⟨p, hp⟩ : ∃ p, L[k]? = some p := ⟨_, List.getElem?_eq_getElem hlt⟩
    obtain ⟨b, o, u, hA, hb, e0, hu⟩ := HP.out.get hp
    have hpc := out_chk HK.out HO.out p (List.mem_of_getElem? hp)
    have HSC : Hid (∀ y : Above wr, _) := hide (fun y : Above wr => above_of (x := y) (rCheck13_ok (w := y.get) ((hu.below y.keeps).mono y.keeps.size) hpc))
    subst hA
    by_cases hk1 : 0 < k
    ·obtain ⟨j, hj⟩ : ∃ j, k = j + 1 := ⟨k - 1, by omega⟩
     obtain ⟨q, hq⟩ : ∃ p, L[j]? = some p := ⟨_, List.getElem?_eq_getElem (by omega)⟩
     obtain ⟨b', o', u', hA, hb', f0, hu'⟩ := HP.out.get hq
     injection hA with hA
     injection hA with e1 e2
     subst e1; subst e2
     have hqc := out_chk HK.out HO.out q (List.mem_of_getElem? hq)
     have hlt9 : ltL q p := by
      obtain ⟨g1, rfl⟩ := List.getElem?_eq_some_iff.1 hq
      obtain ⟨g2, rfl⟩ := List.getElem?_eq_some_iff.1 hp
      exact List.pairwise_iff_getElem.1 HO.out.srt j k g1 g2 (by omega)
     have HSB : Hid (∀ y : Above wr, _) := hide (fun y : Above wr => above_of (x := y) (by have h := rBefore13_any (w := y.get) ((hu'.below y.keeps).mono y.keeps.size) ((hu.below y.keeps).mono y.keeps.size) (by have := (chkO_ok hqc).1; omega) (by have := (chkO_ok hpc).1; omega); rw [(befB_iff q p).2 hlt9] at h; exact h))
     have q1 : (0 : Int) < (k : Int) := by omega
     have q3 : IntKind.i64.wrap ((k : Int) - 1) = (j : Int) := by rw [IntWalk.i64_in _ (by omega)]; omega
     have jz : (j : Int) < (L.length : Int) := by omega
     have j0 : (0 : Int) ≤ (j : Int) := by omega
     clear hp hq hu hu' hpc hqc hlt9 hj hb'
     go_upto_region 10 with fail
     refine wp_hab fun hab => ?_
     refine wp_region_above (by kernel_rfl) (by kernel_rfl) ?_
     repeat (go_big_quiet_step ((first | (go_at_call 21; with_reducible exact HSC.out _) | (go_at_call 22; with_reducible exact HSB.out _))))
     refine wpQuiet_nil ?_
     refine above_ends fun w3 hb3 => ?_
     have K3 := hide (K.out.trans (hb3.mono K.out.size))
     have HP3 := hide ((HP.out.below hb3).mono hb3.size)
     have HR3 := hide ((HR.out.below hb3).mono hb3.size)
     clear hab e0 f0 hb hb3 HSC HSB K HP HR q3
     go_wp2
     go_roundw
     case rel => exact ⟨k + 1, hlt, by go_num, K3, HP3, HR3⟩
     case measure => simp [intOf]; omega
    ·have q1 : ¬ (0 : Int) < (k : Int) := by omega
     clear hp hu hpc
     go_upto_region 10 with fail
     refine wp_hab fun hab => ?_
     refine wp_region_above (by kernel_rfl) (by kernel_rfl) ?_
     repeat (go_big_quiet_step ((first | (go_at_call 21; with_reducible exact HSC.out _))))
     refine wpQuiet_nil ?_
     refine above_ends fun w3 hb3 => ?_
     have K3 := hide (K.out.trans (hb3.mono K.out.size))
     have HP3 := hide ((HP.out.below hb3).mono hb3.size)
     have HR3 := hide ((HR.out.below hb3).mono hb3.size)
     clear hab e0 hb hb3 HSC K HP HR
     go_wp2
     go_roundw
     case rel => exact ⟨k + 1, hlt, by go_num, K3, HP3, HR3⟩
     case measure => simp [intOf]; omega
   ·have kz : ¬ (k : Int) < (L.length : Int) := by omega
    go_wp2_with (fail)
    refine (GF.out _ _ HP.out).mono ?_
    rintro e w3 ⟨⟨A5, n5, c5, rfl, h5⟩, hb⟩
    have H5 := hide h5
    replace K := hide (K.out.trans (hb.mono K.out.size))
    replace HR := hide ((HR.out.below hb).mono hb.size)
    clear hb h5 HP GF
    go_wp2_with (fail)
    refine (rSameRects_any H5.out HR.out (by have := HL6.out; omega) (Nat.le_refl _) (Nat.le_refl _)).mono ?_
    rintro e w4 ⟨rfl, hb⟩
    rw [decide_eq_true rfl]
    replace K := hide (K.out.trans (hb.mono K.out.size))
    clear hb HR H5
    go_wp2
    go_ret
    exact ⟨rfl, K.out⟩
 ·have HFT : Hid ((decide (l.length ≤ 60) && decide (checkF l = 0)) = false) := hide (by
   cases h1 : decide (l.length ≤ 60) with
   | false => rfl
   | true =>
    cases h2 : decide (checkF l = 0) with
    | false => rfl
    | true => exact absurd ⟨of_decide_eq_true h1, of_decide_eq_true h2⟩ hf)
  clear hf
  go_enter Tryz.func5, Tryz.ntmps5
  go_wp2_with (fail)
  refine (alive13_any _).mono ?_
  rintro e v1 ⟨rfl, hb⟩
  replace K := hide (K.out.trans (hb.mono K.out.size))
  replace HR := hide ((HR.out.below hb).mono hb.size)
  clear hb
  go_wp2_with (fail)
  refine (fit13_any HR.out HLA.out).mono ?_
  rintro e v2 ⟨rfl, hb⟩
  rw [HFT.out]
  replace K := hide (K.out.trans (hb.mono K.out.size))
  clear hb HR
  go_wp2_with (fail)
  go_ret
  exact ⟨rfl, K.out⟩
end Go.Proofs.YtdfpbhlnlkjjlaaGreat

/- Outlines, plain: parts and their loops. -/
namespace Go.Proofs.YtdfpbhlnlkjjlaaGreat
set_option linter.unusedVariables false
set_option linter.unusedSimpArgs false
theorem parts_num (l : List R4) : (partsF l).length ≤ l.length := by
 unfold partsF
 rw [List.length_map]
 exact Nat.le_trans (List.length_filter_le _ _) (by rw [List.length_range]; exact Nat.le_refl _)
theorem parts_out {l : List R4} (hk : checkF l = 0) {c : List R4} (hc : c ∈ partsF l) : checkF c = 0 ∧ Outl (setR c) (outlR c) := by
 rw [partsF_map] at hc
 obtain ⟨m, _, rfl⟩ := List.mem_map.1 hc
 have h := partJ_check hk m
 exact ⟨h, outlR_ok (chk_bd h)⟩
theorem parts_len {l : List R4} (hk : checkF l = 0) {c : List R4} (hc : c ∈ partsF l) : c.length ≤ l.length := by
 rw [partsF_map] at hc
 obtain ⟨m, _, rfl⟩ := List.mem_map.1 hc
 have h1 : (partJ l m).length ≤ (compL l m).length := sub_count (check_rcan hk) (check_wf hk) (compL_sub l m)
 exact Nat.le_trans h1 (compL_sub l m).length_le
theorem parts_all {l : List R4} {L : List (List Pt)} (hk : checkF l = 0) (hO : Outl (setR l) L) : (L.filter posL).length = (partsF l).length ∧ L.length = ((partsF l).map fun c => (outlR c).length).sum ∧ ∀ c ∈ partsF l, ∀ p ∈ outlR c, p ∈ L := by
 obtain ⟨h1, h2⟩ := parts_loops hk hO (K := outlR) fun c hc => (parts_out hk hc).2
 refine ⟨?_, ?_, fun c hc p hp => ?_⟩
 ·rw [← h2]
  congr 1
  refine List.filter_congr fun p hp => ?_
  obtain ⟨u, n, hu, rfl⟩ := (hO.mem p).1 hp
  rcases hu.area_sign (chk_bd hk) with ⟨e, _⟩ | ⟨e, _⟩
  ·unfold posL outerL; rw [e]; rfl
  ·unfold posL outerL; rw [e]; rfl
 ·rw [h1.length_eq, List.length_flatMap]
 ·exact h1.mem_iff.2 (List.mem_flatMap.2 ⟨c, hc, hp⟩)
theorem sumP_step {P : List (List R4)} {k : Nat} {c : List R4} (h : P[k]? = some c) : ((P.take (k + 1)).map fun c => (outlR c).length).sum = ((P.take k).map fun c => (outlR c).length).sum + (outlR c).length := by
 rw [List.take_add_one, h, Option.toList_some, List.map_append, List.sum_append]
 simp
theorem sumP_le (P : List (List R4)) (k : Nat) : ((P.take k).map fun c => (outlR c).length).sum ≤ (P.map fun c => (outlR c).length).sum := by
 conv => rhs; rw [← List.take_append_drop k P]
 rw [List.map_append, List.sum_append]
 omega
theorem mem_take_step {L : List (List Pt)} {k : Nat} {q p : List Pt} (h : L[k]? = some q) : decide (p ∈ L.take (k + 1)) = (decide (p ∈ L.take k) || decide (q = p)) := by
 rw [List.take_add_one, h, Option.toList_some]
 by_cases h1 : p ∈ L.take k
 ·simp [h1]
 ·by_cases h2 : q = p
  ·simp [h2]
  ·have : ¬ p = q := fun e => h2 e.symm
   simp [h1, h2, this]
end Go.Proofs.YtdfpbhlnlkjjlaaGreat

/- The last step from a walk to a given statement, for every law of the seat: the call returns true, and what lay in memory lies as it lay. -/
namespace Go.Proofs.YtdfpbhlnlkjjlaaGreat
open Go.ChangeShapes Go.WideShapes Go.ChangeAt Go.RowKit Go.Joins Go.Deep
set_option linter.unusedVariables false
set_option linter.unusedSimpArgs false
theorem own : ownKnob Tryz.prog.godebug = none := by kernel_rfl
theorem laidOut : laidOutB Tryz.prog = true := by kernel_rfl
section
variable {H : Type} {enc : TypeId × Value → H}
theorem trodAll_carry {P : Program} (hl : laidOutB P = true) {W W' : World} (hb : Below W.heap.size W W') :
  ∀ (ts : List TypeId) (vs : List Value) (ds : List (DataW H)) (ps : List MemPlace), (ts.all fun t => P.readableRec t && decide (t < P.types.size)) = true →
   DataW.TrodAll enc P W 0 (fun _ => true) true ts vs ds ps → (∀ x ∈ ps, x.block < W.heap.size) → DataW.TrodAll enc P W' 0 (fun b => decide (b < W.heap.size)) true ts vs ds ps
 | [], [], [], ps, _, h, _ => h
 | [], [], _ :: _, _, _, h, _ => h.elim
 | [], _ :: _, _, _, _, h, _ => h.elim
 | _ :: _, [], _, _, _, h, _ => h.elim
 | _ :: _, _ :: _, [], _, _, h, _ => h.elim
 | t :: ts, v :: vs, d :: ds, ps, hr, h, hlt => by
  obtain ⟨p, q, h1, h2, rfl⟩ := h
  simp only [List.all_cons, Bool.and_eq_true, decide_eq_true_eq] at hr
  refine ⟨p, q, Below.trod hl hr.1.1 hr.1.2 h1 hb (fun x hx => hlt x (by simp [hx])), trodAll_carry hl hb ts vs ds q ?_ h2 (fun x hx => hlt x (by simp [hx])), rfl⟩
  simpa using hr.2
theorem law_post {P : Program} {f : Func} {s : ChangeSpec} {W W' : World} {args : Array Value} {ds gs : List (DataW H)} {before : List MemPlace} {tb : TypeId}
  (hl : laidOutB P = true) (hr : (f.params.toList.all fun t => P.readableRec t && decide (t < P.types.size)) = true) (hres : f.resultTypes = #[tb]) (hbool : P.underlying tb = some .bool)
  (hvars : s.vars = []) (hW : DataW.Whole enc P f.params.toList s.vars false W args.toList ds gs before)
  (hsr : (s.fn H (ds ++ gs)).results = [.lit (.bool true)]) (hsa : (s.fn H (ds ++ gs)).args = ds) (hsv : (s.fn H (ds ++ gs)).vars = [])
  (hb : Below W.heap.size W W') : s.post enc P f false true false false W args (.bool true) W' := by
 have hlt : ∀ p ∈ before, p.block < W.heap.size := fun p hp => hW.lt p hp
 have hW0 := hW
 obtain ⟨p, q, hA, hV, rfl, hz, hn⟩ := hW
 refine ⟨ds, gs, p ++ q, [], p, [], hW0, ?_, ?_, ?_, hb.frame _, fun h => by cases h⟩
 ·rw [hsr, hres]
  exact trodAll_mk1 (shut_bool hbool true)
 ·rw [hsa]
  exact trodAll_carry hl hb _ _ _ _ hr hA (fun x hx => hlt x (by simp [hx]))
 ·rw [hsv, hvars]
  rfl
end
end Go.Proofs.YtdfpbhlnlkjjlaaGreat

/- An argument that is a list of structs of ints, read as a list. -/
namespace Go.Proofs.YtdfpbhlnlkjjlaaGreat
open Go.ChangeShapes Go.WideShapes Go.ChangeAt Go.RowKit Go.Joins Go.Deep
set_option linter.unusedVariables false
set_option linter.unusedSimpArgs false
section
variable {H : Type} {enc : TypeId × Value → H} {P : Program} {w : World} {base : Nat} {spare : Nat → Bool} {held : Bool}
theorem trod_int_fields {t : TypeId} {fs : Array Field} {n : Nat} {cs : List Value} {y : DataW H × List MemPlace} (he : P.underlying t = some (.struct fs)) (hone : oneCellFields P fs = true) (hint : ∀ (j : Nat) (f : Field), fs[j]? = some f → P.underlying f.type = some (.int .i64))
  (hl : cs.length = fs.size) (h : DataW.trod enc P w base spare held n t cs = some y) : ∀ j, j < fs.size → ∃ z : Int, cs[j]? = some (.int .i64 z) := by
 obtain ⟨ys, n', _, _, _, hyl, hf⟩ := DataW.trod_struct he h
 intro j hj
 have hjf : fs[j]? = some fs[j] := Array.getElem?_eq_getElem hj
 obtain ⟨ho, hk⟩ := hone_of hone j _ hjf
 have h1 := hf j _ hjf
 rw [ho, hk] at h1
 have hd : (cs.drop j).take 1 = [cs[j]'(by omega)] := by rw [List.drop_eq_getElem_cons (by omega)]; rfl
 rw [hd] at h1
 have hy : ys[j]? = some (ys[j]'(by omega)) := List.getElem?_eq_getElem (by omega)
 rw [hy] at h1
 obtain ⟨z, hz, _⟩ := DataW.trod_int (hint j _ hjf) h1
 have hz' : cs[j]'(by omega) = .int .i64 z := by simpa using hz
 exact ⟨z, by rw [List.getElem?_eq_getElem (by omega), hz']⟩
theorem trod_rows {t e : TypeId} {fs : Array Field} {v : Value} {d : DataW H} {p : List MemPlace} {r : Reach} {b0 : Nat} (ht : P.underlying t = some (.slice e)) (he : P.underlying e = some (.struct fs)) (hone : oneCellFields P fs = true)
  (hint : ∀ (j : Nat) (f : Field), fs[j]? = some f → P.underlying f.type = some (.int .i64)) (hC : P.cellsOf e = fs.size) (hk : 0 < fs.size) (hv : Value.okWide P w r b0 t v) (h : DataW.Trod enc P w base spare held t v d p) :
  ∃ (A : Option Addr) (n c : Nat) (F : Nat → Nat → Int), v = .slice A n c ∧ n ≤ maxLen ∧ (0 < n → ∃ b off, A = some ⟨b, off, none⟩ ∧ b < w.heap.size ∧ ∀ i j, i < n → j < fs.size → w.cell? ⟨b, off + i * fs.size + j, none⟩ = some (.int .i64 (F i j))) := by
 obtain ⟨A, n, c, rfl⟩ := okWide_slice ht hv
 obtain ⟨fuel, hf⟩ := h
 rcases open_slice ht hf with ⟨hcs, _⟩ | ⟨a, len, cap, m, nn, D, Pl, hcs, hb, hl, hm, hmm, hx, hi⟩
 ·simp [Value.cells] at hcs
  obtain ⟨rfl, rfl, rfl⟩ := hcs
  exact ⟨none, 0, 0, fun _ _ => 0, rfl, Nat.zero_le _, fun h => absurd h (Nat.lt_irrefl 0)⟩
 ·simp [Value.cells] at hcs
  obtain ⟨rfl, rfl, rfl⟩ := hcs
  have hlm : n ≤ m := by rw [hmm]; split <;> omega
  have key : ∀ i, i < n → ∀ j, j < fs.size → ∃ z : Int, w.cell? (a.add (i * fs.size + j)) = some (.int .i64 z) := by
   intro i hin j hj
   obtain ⟨cs', hc, ht'⟩ := hi i (by omega)
   rw [hC] at hc
   obtain ⟨_, hcl, hat⟩ := World.cells?_some hc
   obtain ⟨z, hz⟩ := trod_int_fields he hone hint hcl ht' j hj
   have := hat j hj
   rw [← Go.Deep.add_add, this, hz]
   exact ⟨z, rfl⟩
  refine ⟨some a, n, c, fun i j => if h : i < n ∧ j < fs.size then Classical.choose (key i h.1 j h.2) else 0, rfl, by omega, fun hn => ?_⟩
  obtain ⟨z0, h0⟩ := key 0 hn 0 hk
  have hadd0 : a.add (0 * fs.size + 0) = a := by simp [Addr.add]
  rw [hadd0] at h0
  obtain ⟨b, off, sp⟩ := a
  have hsp : sp = none := by
   unfold World.cell? at h0
   cases sp with
   | none => rfl
   | some x => split at h0 <;> simp at h0
  subst hsp
  refine ⟨b, off, rfl, ?_, fun i j hin hj => ?_⟩
  ·unfold World.cell? at h0
   split at h0
   ·rename_i hh
    exact (Array.getElem?_eq_some_iff.1 hh).1
   ·cases h0
  ·have hz := Classical.choose_spec (key i hin j hj)
   have e1 : (⟨b, off, none⟩ : Addr).add (i * fs.size + j) = ⟨b, off + i * fs.size + j, none⟩ := by unfold Addr.add; split <;> simp_all [Nat.add_assoc]
   rw [← e1]
   simp only [dif_pos (And.intro hin hj)]
   exact hz
theorem trod_rects {t e : TypeId} {fs : Array Field} {v : Value} {d : DataW H} {p : List MemPlace} {r : Reach} {b0 : Nat} (ht : P.underlying t = some (.slice e)) (he : P.underlying e = some (.struct fs)) (hone : oneCellFields P fs = true)
  (hint : ∀ (j : Nat) (f : Field), fs[j]? = some f → P.underlying f.type = some (.int .i64)) (hC : P.cellsOf e = 4) (hk : fs.size = 4) (hv : Value.okWide P w r b0 t v) (h : DataW.Trod enc P w base spare held t v d p) :
  ∃ l : List R4, RdK encR 4 w w.heap.size v l ∧ l.length ≤ maxLen := by
 obtain ⟨A, n, c, F, rfl, hn, hF⟩ := trod_rows ht he hone hint (hC.trans hk.symm) (by omega) hv h
 rw [hk] at hF
 refine ⟨(List.range n).map fun i => ⟨F i 0, F i 1, F i 2, F i 3⟩, ⟨A, c, by simp, fun hl => ?_⟩, by simpa using hn⟩
 have hn0 : 0 < n := by
  rcases Nat.eq_zero_or_pos n with h | h
  ·subst h; exact absurd rfl hl
  ·exact h
 obtain ⟨b, off, hA, hb, hc⟩ := hF hn0
 refine ⟨b, off, hA, hb, fun j x hj i u hu => ?_⟩
 have hjn : j < n := by have := (List.getElem?_eq_some_iff.1 hj).1; simpa using this
 rw [List.getElem?_map, List.getElem?_range hjn] at hj
 simp only [Option.map_some, Option.some.injEq] at hj
 subst hj
 have hi : i < 4 := (List.getElem?_eq_some_iff.1 hu).1
 rw [hc j i hjn hi]
 match i, hi with
 | 0, _ => exact hu
 | 1, _ => exact hu
 | 2, _ => exact hu
 | 3, _ => exact hu
end
theorem rect_fields : ∀ (j : Nat) (f : Field), (match Tryz.prog.underlying 49 with | some (.struct fs) => fs | _ => #[])[j]? = some f → Tryz.prog.underlying f.type = some (.int .i64) := by
 rw [Tryz.underlying49]
 intro j f hf
 match j, hf with
 | 0, hf => simp at hf; subst hf; exact Tryz.underlying3
 | 1, hf => simp at hf; subst hf; exact Tryz.underlying3
 | 2, hf => simp at hf; subst hf; exact Tryz.underlying3
 | 3, hf => simp at hf; subst hf; exact Tryz.underlying3
 | j + 4, hf => simp at hf
end Go.Proofs.YtdfpbhlnlkjjlaaGreat

/- A slice that reads as a list of lists of rectangles; an argument that is one, read as such. -/
namespace Go.Proofs.YtdfpbhlnlkjjlaaGreat
open Go.ChangeShapes Go.WideShapes Go.ChangeAt Go.RowKit Go.Joins Go.Deep
set_option linter.unusedVariables false
set_option linter.unusedSimpArgs false
def RdRR (w : World) (B : Nat) (v : Value) (bs : List (List R4)) : Prop :=
 ∃ A c, v = .slice A bs.length c ∧ (bs ≠ [] → ∃ b off, A = some ⟨b, off, none⟩ ∧ b < B ∧ ∀ j x, bs[j]? = some x → ∃ u, w.cell? ⟨b, off + j, none⟩ = some u ∧ RdK encR 4 w B u x)
theorem RdRR.keep {w w' : World} {B : Nat} {v : Value} {bs : List (List R4)} (h : RdRR w B v bs) (hk : ∀ b o, b < B → w'.cell? ⟨b, o, none⟩ = w.cell? ⟨b, o, none⟩) : RdRR w' B v bs := by
 obtain ⟨A, c, hv, h⟩ := h
 refine ⟨A, c, hv, fun hl => ?_⟩
 obtain ⟨b, off, hA, hb, hc⟩ := h hl
 refine ⟨b, off, hA, hb, fun j x hx => ?_⟩
 obtain ⟨u, h1, h2⟩ := hc j x hx
 exact ⟨u, (hk b _ hb).trans h1, h2.keep hk⟩
theorem RdRR.mono {w : World} {B B' : Nat} {v : Value} {bs : List (List R4)} (h : RdRR w B v bs) (hB : B ≤ B') : RdRR w B' v bs := by
 obtain ⟨A, c, hv, h⟩ := h
 refine ⟨A, c, hv, fun hl => ?_⟩
 obtain ⟨b, off, hA, hb, hc⟩ := h hl
 refine ⟨b, off, hA, by omega, fun j x hx => ?_⟩
 obtain ⟨u, h1, h2⟩ := hc j x hx
 exact ⟨u, h1, h2.mono hB⟩
theorem RdRR.below {w w' : World} {B : Nat} {v : Value} {bs : List (List R4)} (h : RdRR w B v bs) (hb : Below B w w') : RdRR w' B v bs := h.keep fun b o hlt => hb.cell (p := ⟨b, o, none⟩) hlt
section
variable {H : Type} {enc : TypeId × Value → H} {P : Program} {w : World} {base : Nat} {spare : Nat → Bool} {held : Bool}
end
end Go.Proofs.YtdfpbhlnlkjjlaaGreat

/- A list of regions that a call has laid, read as such. -/
namespace Go.Proofs.YtdfpbhlnlkjjlaaGreat
open Go.RowKit
set_option linter.unusedVariables false
set_option linter.unusedSimpArgs false
theorem regs_rd {B : Nat} {R : List (List R4)} {A : Option Addr} {c : Nat} {vs : List Value} {w : World} (ho : w.ownsRow B 34 1 (.slice A R.length c) R.length vs) (hr : ∀ (i : Nat) (r : List R4), R[i]? = some r → ∃ v, vs[i]? = some v ∧ w.ownsRow B 49 4 v r.length (r.flatMap encR)) : RdRR w w.heap.size (.slice A R.length c) R := by
 refine ⟨A, c, rfl, fun hl => ?_⟩
 have hp : 0 < R.length := List.length_pos_iff.2 hl
 obtain ⟨g, cap, hv, hB, hg⟩ := ho.form (by omega)
 injection hv with e1 _ e3
 subst e1; subst e3
 refine ⟨g, 0, rfl, (ho.lt g rfl).2, fun j x hx => ?_⟩
 obtain ⟨v, h3, h4⟩ := hr j x hx
 refine ⟨v, ?_, own_rd h4 (fun _ => rfl)⟩
 have := (ho.cells (g := g) rfl) j _ h3
 rw [addr_add] at this
 rwa [Nat.zero_add]
theorem RegsRet.rd {B : Nat} {x : List (List R4) × Int} {e : Ending} {w : World} (h : RegsRet B x e w) : ∃ A c, e = .returned (.tuple #[.slice A x.1.length c, .int .i64 x.2]) ∧ RdRR w w.heap.size (.slice A x.1.length c) x.1 := by
 obtain ⟨A, c, vs, h1, h2, h3⟩ := h
 exact ⟨A, c, h1, regs_rd h2 h3⟩
theorem RdRR.get {w : World} {A : Option Addr} {n c : Nat} {bs : List (List R4)} (h : RdRR w w.heap.size (.slice A n c) bs) {j : Nat} {x : List R4} (hx : bs[j]? = some x) : ∃ b off A2 c2, A = some ⟨b, off, none⟩ ∧ b < w.heap.size ∧ w.cell? ⟨b, off + j, none⟩ = some (.slice A2 x.length c2) ∧ RdK encR 4 w w.heap.size (.slice A2 x.length c2) x := by
 obtain ⟨A1, c1, hv, h⟩ := h
 injection hv with e1 _ _
 subst e1
 obtain ⟨b, off, rfl, hb, k⟩ := h (by intro e; rw [e] at hx; simp at hx)
 obtain ⟨u, h1, h2⟩ := k j x hx
 obtain ⟨A2, c2, rfl, _⟩ := id h2
 exact ⟨b, off, A2, c2, rfl, hb, h1, h2⟩
end Go.Proofs.YtdfpbhlnlkjjlaaGreat
