/- Texts laid together: LotX, LawLParcels, MLotsC, LotH, LotV, MJoin, TouchA, TouchB, MParts, MCount, RowSet, MLabel, TouchC, PartsB, MWhole, MBeside, MBesB, MapR, StrM, MStr. Lemmas for the statements of this seat; no condition. -/
import Derived.Test.YtdolpeljengpaaaGreatPk1
import Derived.Test.YtdolpeljengpaaaGreatPk7
import Derived.Laws.StructEq
import Derived.Deep.QuietTactic
import Derived.BigQuiet
import Derived.Test.YtdolpeljengpaaaGreatPk5
import Derived.Test.YtdolpeljengpaaaGreatPk6
import Derived.Test.YtdolpeljengpaaaGreatPk4
import Derived.Test.YtdolpeljengpaaaGreatPk2
import Derived.Maps.RangeWalk
import Derived.Maps.OwnSet

/- The reference's Same of parcels: two lists are one. -/
namespace Go.Proofs.YtdolpeljengpaaaGreat
open Go.RowKit
set_option linter.unusedVariables false
set_option linter.unusedSimpArgs false

set_option maxHeartbeats 4000000 in
theorem rSameP_any {w : World} {vs vt : Value} {s t : List Par6} {B C : Nat} (hs : RdK encQ 6 w B vs s) (ht : RdK encQ 6 w C vt t) (ns : s.length ≤ 100000000) (hB : B ≤ w.heap.size) (hC : C ≤ w.heap.size) :
    Calls Tryz.prog 66 #[vs, vt] w fun e w' => e = .returned (.bool (decide (s = t))) ∧ Below w.heap.size w w' := by
  obtain ⟨A1, c1, rfl, h1⟩ := hs
  obtain ⟨A2, c2, rfl, h2⟩ := ht
  have g : Tryz.prog.eqGuardType Tryz.prog.depth 73 = false := by kernel_rfl
  have H1 := hide h1
  have H2 := hide h2
  clear h1 h2
  go_enter Tryz.func66, Tryz.ntmps66
  by_cases hl : s.length = t.length
  · have hne : ((s.length : Int) != (t.length : Int)) = false := by rw [hl]; simp
    have HL := hide hl
    clear hl
    go_wp2
    go_loopw [5] (fun i wr => ∃ k : Nat, k ≤ s.length ∧ i = .int .i64 k ∧ Hid (s.take k = t.take k) ∧ Below w.heap.size w wr) (fun i _ => s.length - (intOf i).toNat)
    case atStart => exact ⟨0, Nat.zero_le _, rfl, hide rfl, Below.refl _ _⟩
    case round =>
      obtain ⟨k, hk, rfl, HT, hb⟩ := hrel
      by_cases hlt : k < s.length
      · obtain ⟨⟨a0, ⟨⟨a1, a2, a3, a4⟩, a5⟩⟩, hp⟩ : ∃ p, s[k]? = some p := ⟨_, List.getElem?_eq_getElem hlt⟩
        have hlt2 : k < t.length := by rw [← HL.out]; exact hlt
        obtain ⟨⟨b0, ⟨⟨b1, b2, b3, b4⟩, b5⟩⟩, hq⟩ : ∃ p, t[k]? = some p := ⟨_, List.getElem?_eq_getElem hlt2⟩
        obtain ⟨p1, o1, rfl, hp1, k1⟩ := H1.out (by intro e; rw [e] at hlt; simp at hlt)
        obtain ⟨p2, o2, rfl, hp2, k2⟩ := H2.out (by intro e; rw [e] at hlt2; simp at hlt2)
        have x0 : wr.cell? ⟨p1, o1 + k * 6, none⟩ = some (.int .i64 a0) := (hb.cell (p := ⟨p1, _, none⟩) (by show p1 < _; omega)).trans (k1 k _ hp 0 _ rfl)
        have y0 : wr.cell? ⟨p2, o2 + k * 6, none⟩ = some (.int .i64 b0) := (hb.cell (p := ⟨p2, _, none⟩) (by show p2 < _; omega)).trans (k2 k _ hq 0 _ rfl)
        have x1 : wr.cell? ⟨p1, o1 + k * 6 + 1, none⟩ = some (.int .i64 a1) := (hb.cell (p := ⟨p1, _, none⟩) (by show p1 < _; omega)).trans (k1 k _ hp 1 _ rfl)
        have y1 : wr.cell? ⟨p2, o2 + k * 6 + 1, none⟩ = some (.int .i64 b1) := (hb.cell (p := ⟨p2, _, none⟩) (by show p2 < _; omega)).trans (k2 k _ hq 1 _ rfl)
        have x2 : wr.cell? ⟨p1, o1 + k * 6 + 2, none⟩ = some (.int .i64 a2) := (hb.cell (p := ⟨p1, _, none⟩) (by show p1 < _; omega)).trans (k1 k _ hp 2 _ rfl)
        have y2 : wr.cell? ⟨p2, o2 + k * 6 + 2, none⟩ = some (.int .i64 b2) := (hb.cell (p := ⟨p2, _, none⟩) (by show p2 < _; omega)).trans (k2 k _ hq 2 _ rfl)
        have x3 : wr.cell? ⟨p1, o1 + k * 6 + 3, none⟩ = some (.int .i64 a3) := (hb.cell (p := ⟨p1, _, none⟩) (by show p1 < _; omega)).trans (k1 k _ hp 3 _ rfl)
        have y3 : wr.cell? ⟨p2, o2 + k * 6 + 3, none⟩ = some (.int .i64 b3) := (hb.cell (p := ⟨p2, _, none⟩) (by show p2 < _; omega)).trans (k2 k _ hq 3 _ rfl)
        have x4 : wr.cell? ⟨p1, o1 + k * 6 + 4, none⟩ = some (.int .i64 a4) := (hb.cell (p := ⟨p1, _, none⟩) (by show p1 < _; omega)).trans (k1 k _ hp 4 _ rfl)
        have y4 : wr.cell? ⟨p2, o2 + k * 6 + 4, none⟩ = some (.int .i64 b4) := (hb.cell (p := ⟨p2, _, none⟩) (by show p2 < _; omega)).trans (k2 k _ hq 4 _ rfl)
        have x5 : wr.cell? ⟨p1, o1 + k * 6 + 5, none⟩ = some (.int .u8 a5) := (hb.cell (p := ⟨p1, _, none⟩) (by show p1 < _; omega)).trans (k1 k _ hp 5 _ rfl)
        have y5 : wr.cell? ⟨p2, o2 + k * 6 + 5, none⟩ = some (.int .u8 b5) := (hb.cell (p := ⟨p2, _, none⟩) (by show p2 < _; omega)).trans (k2 k _ hq 5 _ rfl)
        have z1 : (k : Int) < (s.length : Int) := by omega
        have z2 : (k : Int) < (t.length : Int) := by omega
        have HP := hide hp
        have HQ := hide hq
        clear hp hq k1 k2
        by_cases e0 : a0 = b0
        rotate_left 1
        · have hd : decide (s = t) = false := decide_eq_false fun e => by
            subst e
            have := HP.out.symm.trans HQ.out
            simp only [Option.some.injEq, Par6.mk.injEq, Lot5.mk.injEq, R4.mk.injEq] at this
            omega
          have HD := hide hd
          clear hd
          go_wp2
          go_region
          go_wp2
          go_ret
          exact ⟨ret_eq (bool_eq HD.out.symm), hb.drew⟩
        by_cases e1 : a1 = b1
        rotate_left 1
        · have hd : decide (s = t) = false := decide_eq_false fun e => by
            subst e
            have := HP.out.symm.trans HQ.out
            simp only [Option.some.injEq, Par6.mk.injEq, Lot5.mk.injEq, R4.mk.injEq] at this
            omega
          have HD := hide hd
          clear hd
          subst e0
          go_wp2
          go_region
          go_wp2
          go_ret
          exact ⟨ret_eq (bool_eq HD.out.symm), hb.drew⟩
        by_cases e2 : a2 = b2
        rotate_left 1
        · have hd : decide (s = t) = false := decide_eq_false fun e => by
            subst e
            have := HP.out.symm.trans HQ.out
            simp only [Option.some.injEq, Par6.mk.injEq, Lot5.mk.injEq, R4.mk.injEq] at this
            omega
          have HD := hide hd
          clear hd
          subst e0
          subst e1
          go_wp2
          go_region
          go_wp2
          go_ret
          exact ⟨ret_eq (bool_eq HD.out.symm), hb.drew⟩
        by_cases e3 : a3 = b3
        rotate_left 1
        · have hd : decide (s = t) = false := decide_eq_false fun e => by
            subst e
            have := HP.out.symm.trans HQ.out
            simp only [Option.some.injEq, Par6.mk.injEq, Lot5.mk.injEq, R4.mk.injEq] at this
            omega
          have HD := hide hd
          clear hd
          subst e0
          subst e1
          subst e2
          go_wp2
          go_region
          go_wp2
          go_ret
          exact ⟨ret_eq (bool_eq HD.out.symm), hb.drew⟩
        by_cases e4 : a4 = b4
        rotate_left 1
        · have hd : decide (s = t) = false := decide_eq_false fun e => by
            subst e
            have := HP.out.symm.trans HQ.out
            simp only [Option.some.injEq, Par6.mk.injEq, Lot5.mk.injEq, R4.mk.injEq] at this
            omega
          have HD := hide hd
          clear hd
          subst e0
          subst e1
          subst e2
          subst e3
          go_wp2
          go_region
          go_wp2
          go_ret
          exact ⟨ret_eq (bool_eq HD.out.symm), hb.drew⟩
        by_cases e5 : a5 = b5
        rotate_left 1
        · have hd : decide (s = t) = false := decide_eq_false fun e => by
            subst e
            have := HP.out.symm.trans HQ.out
            simp only [Option.some.injEq, Par6.mk.injEq, Lot5.mk.injEq, R4.mk.injEq] at this
            omega
          have HD := hide hd
          clear hd
          subst e0
          subst e1
          subst e2
          subst e3
          subst e4
          go_wp2
          go_region
          go_wp2
          go_ret
          exact ⟨ret_eq (bool_eq HD.out.symm), hb.drew⟩
        subst e0
        subst e1
        subst e2
        subst e3
        subst e4
        subst e5
        go_wp2
        go_region
        go_wp2
        go_roundw
        case rel =>
          refine ⟨k + 1, by omega, by go_num, hide ?_, hb.drew⟩
          obtain ⟨i1, e1⟩ := List.getElem?_eq_some_iff.1 HP.out
          obtain ⟨i2, e2⟩ := List.getElem?_eq_some_iff.1 HQ.out
          rw [List.take_succ_eq_append_getElem i1, List.take_succ_eq_append_getElem i2, HT.out, e1, e2]
        case measure => simp [intOf]; omega
      · have hlz : ¬ (k : Int) < (s.length : Int) := by omega
        have hd : decide (s = t) = true := decide_eq_true (by
          have := HT.out
          rw [List.take_of_length_le (by omega), List.take_of_length_le (by rw [← HL.out]; omega)] at this
          exact this)
        have HD := hide hd
        clear hd
        go_wp2
        go_ret
        exact ⟨ret_eq (bool_eq HD.out.symm), hb⟩
  · have hne : ((s.length : Int) != (t.length : Int)) = true := by simp; omega
    have hd : decide (s = t) = false := decide_eq_false fun e => hl (by rw [e])
    rw [hd]
    clear hl hd
    go_wp2
    go_ret
    exact ⟨rfl, Below.refl _ _⟩
end Go.Proofs.YtdolpeljengpaaaGreat

/- The walk of the law LotsParcels. -/
namespace Go.Proofs.YtdolpeljengpaaaGreat
open Go.RowKit
set_option linter.unusedVariables false
set_option linter.unusedSimpArgs false

/-- The wishes in a box of the law's own. -/
structure BoxW (n : Nat) (w : World) (p : Pl3) (wr : World) : Prop where
  box : Box3 wr n (.int .i64 p.mf) (.int .i64 p.ms) (.int .i64 p.ma)
  below : Below n w wr
  size : n + 1 ≤ wr.heap.size
theorem BoxW.keep {n : Nat} {w wr w' : World} {p : Pl3} (h : BoxW n w p wr) (hb : Below wr.heap.size wr w') : BoxW n w p w' :=
  ⟨h.box.below hb, h.below.trans (hb.mono (by have := h.size; omega)), Nat.le_trans h.size hb.size⟩
theorem boxW_new (w : World) (p : Pl3) (t : TypeId) : BoxW w.heap.size w p (w.alloc (.cells #[.int .i64 p.mf, .int .i64 p.ms, .int .i64 p.ma] t)) :=
  ⟨⟨by simp [go_sem], by simp [go_sem], by simp [go_sem]⟩, (Below.refl _ _).alloc (Nat.le_refl _) _, by simp⟩
theorem rd_ownP {W : World} {R : List Par6} {B : Nat} {A : Option Addr} {c : Nat} (h : W.ownsRow B 73 6 (.slice A R.length c) R.length (R.flatMap encQ)) : RdK encQ 6 W W.heap.size (.slice A R.length c) R := own_rd h (fun _ => rfl)
end Go.Proofs.YtdolpeljengpaaaGreat

/- Plain: the parcels of a block fill it; a parcel is good, or a whole rectangle. -/
namespace Go.Proofs.YtdolpeljengpaaaGreat
open Go.RowKit
set_option linter.unusedVariables false
set_option linter.unusedSimpArgs false

theorem of_ok {s : List R4} {p : Pl3} {r : R4} {l : Lot5} (hr : okR r) (h : ofRect s p r l) : okR l.r ∧ 0 ≤ l.f ∧ l.f ≤ 15 := by
  rcases h with ⟨h0, rfl⟩ | ⟨h0, hl⟩
  · exact ⟨hr, by simp, by simp⟩
  · have hv : validL ⟨r, frF r s⟩ := ⟨hr, fr_pos h0⟩
    have := leaves_valid hv l hl
    exact ⟨this.1, by have := this.2; omega, this.2.2⟩
theorem block_area {s : List R4} {p : Pl3} {k : Nat} (hp : okW p = 0) : ∀ {b : List R4}, (∀ r ∈ b, okR r) → (∀ r ∈ b, (rectR s p r).2 = 0) → ((pcB s p k b).map fun q => arQ q.l.r).sum = areaS b
  | [], _, _ => rfl
  | r :: b, hb, hf => by
    have h1 := of_area (hb r (by simp)) hp (hf r (by simp))
    have h2 := block_area hp (k := k) (fun x hx => hb x (List.mem_cons_of_mem _ hx)) (fun x hx => hf x (List.mem_cons_of_mem _ hx))
    have e : pcB s p k (r :: b) = pcR s p k r ++ pcB s p k b := by unfold pcB; rw [List.flatMap_cons]
    have e2 : (pcR s p k r).map (fun q => arQ q.l.r) = (rectR s p r).1.map areaL := by unfold pcR; rw [List.map_map]; rfl
    rw [e, List.map_append, List.sum_append, h2, e2, h1]
    unfold areaS
    rw [List.map_cons, List.sum_cons]
    rfl
/-! Good -/
end Go.Proofs.YtdolpeljengpaaaGreat

/- The helpers of the laws of chapter 36: box, wishes, piece, sides, valid; and its examples. -/
namespace Go.Proofs.YtdolpeljengpaaaGreat
open Go.RowKit
set_option linter.unusedVariables false
set_option linter.unusedSimpArgs false

/-- A list of rectangles comes back, as a slice that may be read. -/
def RdRet (w : World) (l : List R4) (e : Ending) (w' : World) : Prop := ∃ A c, e = .returned (.slice A l.length c) ∧ RdK encR 4 w' w'.heap.size (.slice A l.length c) l
theorem box36_any (x0 y0 x1 y1 : Int) (w : World) : Calls Tryz.prog 28 #[.int .i64 x0, .int .i64 y0, .int .i64 x1, .int .i64 y1] w fun e w' => RdRet w [⟨x0, y0, x1, y1⟩] e w' ∧ Below w.heap.size w w' := by
  go_enter Tryz.func28, Tryz.ntmps28
  go_wp2
  go_ret
  exact ⟨⟨_, 1, rfl, rd_lit w [⟨x0, y0, x1, y1⟩] _ 1⟩, (Below.refl _ _).alloc (Nat.le_refl _) _⟩
theorem wishes36_any (w : World) : Calls Tryz.prog 65 #[] w fun e w' => e = .returned (.agg #[.int .i64 2, .int .i64 2, .int .i64 8]) ∧ Below w.heap.size w w' := by
  go_enter Tryz.func65, Tryz.ntmps65
  go_wp2
  exact bodyPost_ret (v := .agg #[.int .i64 2, .int .i64 2, .int .i64 8]) (by simp [results, Tryz.results65, go_sem]) rfl ⟨rfl, (Below.refl _ _).alloc (Nat.le_refl _) _⟩
theorem piece36_any (i x0 y0 x1 y1 f : Int) (w : World) : Calls Tryz.prog 67 #[.int .i64 i, .int .i64 x0, .int .i64 y0, .int .i64 x1, .int .i64 y1, .int .u8 f] w fun e w' => e = .returned (.agg #[.int .i64 i, .int .i64 x0, .int .i64 y0, .int .i64 x1, .int .i64 y1, .int .u8 f]) ∧ Below w.heap.size w w' := by
  go_enter Tryz.func67, Tryz.ntmps67
  go_wp2
  exact bodyPost_ret (v := .agg #[.int .i64 i, .int .i64 x0, .int .i64 y0, .int .i64 x1, .int .i64 y1, .int .u8 f]) (by simp [results, Tryz.results67, go_sem]) rfl ⟨rfl, (Below.refl _ _).alloc (Nat.le_refl _) _⟩
def exQ : List Par6 := [⟨0, ⟨⟨0, 2, 4, 4⟩, 4⟩⟩, ⟨0, ⟨⟨4, 2, 8, 4⟩, 4⟩⟩, ⟨1, ⟨⟨6, 2, 12, 4⟩, 0⟩⟩]
theorem exQ_lots : lotsF [[⟨0, 2, 8, 4⟩], [⟨6, 2, 12, 4⟩]] [⟨0, 0, 10, 2⟩] ⟨2, 2, 8⟩ = (exQ, 0) := by kernel_rfl
theorem rd_litP (w : World) (l : List Par6) (t : TypeId) (c : Nat) : RdK encQ 6 (w.alloc (.cells (l.flatMap encQ).toArray t)) (w.alloc (.cells (l.flatMap encQ).toArray t)).heap.size (.slice (some ⟨w.heap.size, 0, none⟩) l.length c) l := by
  refine ⟨_, c, rfl, fun _ => ⟨w.heap.size, 0, rfl, by simp, fun j x hx i u hu => ?_⟩⟩
  have := news_new w (l.flatMap encQ) t w.heap.size rfl _ _ (flat_get (k := 6) (fun _ => rfl) l j x i u hx hu)
  rw [addr_add] at this
  rwa [Nat.zero_add]
/-- Two regions in a literal. -/
theorem rr_two {w : World} {v1 v2 : Value} {a b : List R4} (h1 : RdK encR 4 w w.heap.size v1 a) (h2 : RdK encR 4 w w.heap.size v2 b) (t : TypeId) (c : Nat) : RdRR (w.alloc (.cells #[v1, v2] t)) (w.alloc (.cells #[v1, v2] t)).heap.size (.slice (some ⟨w.heap.size, 0, none⟩) 2 c) [a, b] := by
  have hb : Below w.heap.size w (w.alloc (.cells #[v1, v2] t)) := (Below.refl _ _).alloc (Nat.le_refl _) _
  refine ⟨_, c, rfl, fun _ => ⟨w.heap.size, 0, rfl, by simp, fun j x hx => ?_⟩⟩
  match j, hx with
  | 0, hx =>
    simp at hx
    subst hx
    exact ⟨v1, by simp [go_sem], (h1.below hb).mono hb.size⟩
  | 1, hx =>
    simp at hx
    subst hx
    exact ⟨v2, by simp [go_sem], (h2.below hb).mono hb.size⟩
theorem RdRR.rows {w w' : World} {v : Value} {bs : List (List R4)} (h : RdRR w w.heap.size v bs) (hb : Below w.heap.size w w') : RdRR w' w'.heap.size v bs := (h.below hb).mono hb.size
set_option maxRecDepth 100000 in
set_option maxHeartbeats 8000000 in
theorem alive36_any (w : World) : Calls Tryz.prog 26 #[] w fun e w' => e = .returned (.bool true) ∧ Below w.heap.size w w' := by
  have HL : Hid (∀ (W : World) (u v : Value), RdRR W W.heap.size u [[⟨0, 2, 8, 4⟩], [⟨6, 2, 12, 4⟩]] → RdK encR 4 W W.heap.size v [⟨0, 0, 10, 2⟩] → Calls Tryz.prog 29 #[u, v, .agg #[.int .i64 2, .int .i64 2, .int .i64 8]] W (ParsRet W (exQ, 0))) := hide (fun W u v hu hv => by
    have := lots_any hu hv ⟨2, 2, 8⟩ (by decide) (by decide) (by decide)
    rwa [exQ_lots] at this)
  have K := hide (Below.refl w.heap.size w)
  go_enter Tryz.func26, Tryz.ntmps26
  go_wp2_with (fail)
  refine (box36_any 0 2 8 4 _).mono ?_
  rintro e v1 ⟨⟨A1, c1, rfl, hr1⟩, hb⟩
  replace K := hide (K.out.trans (hb.mono K.out.size))
  have R1 := hide hr1
  clear hb hr1
  go_wp2_with (fail)
  refine (box36_any 6 2 12 4 _).mono ?_
  rintro e v2 ⟨⟨A2, c2, rfl, hr2⟩, hb⟩
  replace K := hide (K.out.trans (hb.mono K.out.size))
  replace R1 := hide ((R1.out.below hb).mono hb.size)
  have R2 := hide hr2
  clear hb hr2
  go_wp2_with (fail)
  refine calls_name fun v3 hZ => ?_
  have hbz : Below v2.heap.size v2 v3 := by
    rw [hZ]
    repeat (first | with_reducible exact Below.refl _ _ | with_reducible refine Below.setCell ?_ (by first | (simp; done) | (simp; omega)) _ | with_reducible refine Below.alloc ?_ (by first | omega | (simp; omega) | simp) _)
  have RB : Hid (RdRR v3 v3.heap.size (.slice (some ⟨v2.heap.size, 0, none⟩) 2 2) [[⟨0, 2, 8, 4⟩], [⟨6, 2, 12, 4⟩]]) := hide (by rw [hZ]; exact rr_two R1.out R2.out _ 2)
  replace K := hide (K.out.trans (hbz.mono K.out.size))
  replace R1 := hide ((R1.out.below hbz).mono hbz.size)
  replace R2 := hide ((R2.out.below hbz).mono hbz.size)
  clear hZ hbz
  generalize v2.heap.size = gB at *
  clear R1 R2
  refine (box36_any 0 0 10 2 _).mono ?_
  rintro e v4 ⟨⟨A3, c3, rfl, hr3⟩, hb⟩
  replace K := hide (K.out.trans (hb.mono K.out.size))
  replace RB := hide ((RB.out.below hb).mono hb.size)
  have R3 := hide hr3
  clear hb hr3
  go_wp2_with (fail)
  refine (wishes36_any _).mono ?_
  rintro e v5 ⟨rfl, hb⟩
  replace K := hide (K.out.trans (hb.mono K.out.size))
  replace RB := hide ((RB.out.below hb).mono hb.size)
  replace R3 := hide ((R3.out.below hb).mono hb.size)
  clear hb
  go_wp2_with (fail)
  refine (HL.out _ _ _ RB.out R3.out).mono ?_
  rintro e v6 ⟨⟨A4, c4, rfl, ho⟩, hb⟩
  replace K := hide (K.out.trans (hb.mono K.out.size))
  replace RB := hide ((RB.out.below hb).mono hb.size)
  replace R3 := hide ((R3.out.below hb).mono hb.size)
  have RO := hide (rd_ownP ho)
  clear hb ho
  clear RB R3
  go_wp2_with (fail)
  refine (piece36_any 0 0 2 4 4 4 _).mono ?_
  rintro e v7 ⟨rfl, hb⟩
  replace K := hide (K.out.trans (hb.mono K.out.size))
  replace RO := hide ((RO.out.below hb).mono hb.size)
  clear hb
  go_wp2_with (fail)
  refine (piece36_any 0 4 2 8 4 4 _).mono ?_
  rintro e v8 ⟨rfl, hb⟩
  replace K := hide (K.out.trans (hb.mono K.out.size))
  replace RO := hide ((RO.out.below hb).mono hb.size)
  clear hb
  go_wp2_with (fail)
  refine (piece36_any 1 6 2 12 4 0 _).mono ?_
  rintro e v9 ⟨rfl, hb⟩
  replace K := hide (K.out.trans (hb.mono K.out.size))
  replace RO := hide ((RO.out.below hb).mono hb.size)
  clear hb
  go_wp2_with (fail)
  refine calls_name fun v10 hZ => ?_
  have hbz : Below v9.heap.size v9 v10 := by
    rw [hZ]
    repeat (first | with_reducible exact Below.refl _ _ | with_reducible refine Below.setCell ?_ (by first | (simp; done) | (simp; omega)) _ | with_reducible refine Below.alloc ?_ (by first | omega | (simp; omega) | simp) _)
  have RX : Hid (RdK encQ 6 v10 v10.heap.size (.slice (some ⟨v9.heap.size, 0, none⟩) 3 3) exQ) := hide (by rw [hZ]; exact rd_litP v9 exQ _ 3)
  replace K := hide (K.out.trans (hbz.mono K.out.size))
  replace RO := hide ((RO.out.below hbz).mono hbz.size)
  clear hZ hbz
  generalize v9.heap.size = gX at *
  have HS := hide (rSameP_any RO.out RX.out (by decide) (Nat.le_refl _) (Nat.le_refl _))
  rw [decide_eq_true (rfl : exQ = exQ)] at HS
  refine (HS.out).mono ?_
  rintro e v11 ⟨rfl, hb⟩
  replace K := hide (K.out.trans (hb.mono K.out.size))
  replace RO := hide ((RO.out.below hb).mono hb.size)
  replace RX := hide ((RX.out.below hb).mono hb.size)
  clear hb
  go_wp2_with (fail)
  go_ret
  exact ⟨rfl, K.out⟩
/-- The sides' lengths, so far. -/
def sdP (l : Lot5) : Nat → Int
  | 0 => 0
  | m + 1 => sdP l m + if hasS l.f (sideN m) = true then (if m < 2 then l.h else l.w) else 0
end Go.Proofs.YtdolpeljengpaaaGreat

/- valid and sides of the laws of chapter 36. -/
namespace Go.Proofs.YtdolpeljengpaaaGreat
open Go.RowKit
set_option linter.unusedVariables false
set_option linter.unusedSimpArgs false

structure OkAll (bs : List (List R4)) (s : List R4) (p : Pl3) : Prop where
  len : bs.length ≤ 6
  few : ∀ b ∈ bs, b.length ≤ 420
  ns : s.length ≤ 420
  chk : checkF s = 0
  ok : okW p = 0
  all : ∀ b ∈ bs, checkF b = 0
/-- What valid says: a true says that all is well. -/
def ValidRet (bs : List (List R4)) (s : List R4) (p : Pl3) (e : Ending) : Prop := ∃ g, e = .returned (.bool g) ∧ (g = true → OkAll bs s p)
set_option maxRecDepth 100000 in
set_option maxHeartbeats 4000000 in
theorem valid36_any {w : World} {vb v : Value} {bs : List (List R4)} {s : List R4} (hb : RdRR w w.heap.size vb bs) (hs : RdK encR 4 w w.heap.size v s) (p : Pl3) (nb : bs.length ≤ maxLen) (ns : s.length ≤ maxLen) (mb : ∀ b ∈ bs, b.length ≤ maxLen) :
    Calls Tryz.prog 25 #[vb, v, .agg (encP p).toArray] w fun e w' => ValidRet bs s p e ∧ Below w.heap.size w w' := by
  have HW := hide (boxW_new w p 58)
  generalize hW : w.alloc (.cells #[.int .i64 p.mf, .int .i64 p.ms, .int .i64 p.ma] 58) = W at *
  have HG : Hid (∀ W : World, Below w.heap.size w W → Calls Tryz.prog 63 #[vb, v] W fun e w' => GreatRet bs s.length e ∧ Below W.heap.size W w') := hide (fun W hW => by
    obtain ⟨A, c, rfl, _⟩ := hs
    exact rGreatB_any ((hb.below hW).mono hW.size) nb mb A s.length c ns)
  have HCK : Hid (s.length ≤ 420 → ∀ W : World, Below w.heap.size w W → Calls Tryz.prog 53 #[v] W fun e w' => e = .returned (.int .i64 (checkF s)) ∧ Below W.heap.size W w') := hide (fun h W hw => rCheck_any ((hs.below hw).mono hw.size) (by omega))
  have HCB : Hid (∀ (b : List R4) (u : Value), b.length ≤ 420 → RdK encR 4 w w.heap.size u b → ∀ W : World, Below w.heap.size w W → Calls Tryz.prog 53 #[u] W fun e w' => e = .returned (.int .i64 (checkF b)) ∧ Below W.heap.size W w') := hide (fun b u hm hu W hw => rCheck_any ((hu.below hw).mono hw.size) (by omega))
  have HPC : Hid (∀ W : World, Calls Tryz.prog 64 #[.agg #[.int .i64 0, .int .i64 0, .int .i64 1, .int .i64 1, .int .u8 1], .agg #[.int .i64 p.mf, .int .i64 p.ms, .int .i64 p.ma]] W fun e w' => e = .returned (.int .i64 (okW p)) ∧ Below W.heap.size W w') := hide (fun W => rCheckL_any ⟨⟨0, 0, 1, 1⟩, 1⟩ p (by decide) W)
  obtain ⟨As, cs, rfl, _⟩ := hs
  obtain ⟨Ab, cb, rfl, hbc⟩ := hb
  have HRB := hide hbc
  clear nb ns mb hbc
  generalize hn : w.heap.size = n at *
  have HN := hide hn
  show Calls Tryz.prog _ #[.slice Ab bs.length cb, .slice As s.length cs, .agg #[.int .i64 p.mf, .int .i64 p.ms, .int .i64 p.ma]] w _
  go_enter Tryz.func25, Tryz.ntmps25
  go_wp2_with (fail)
  refine (HG.out _ HW.out.below).mono ?_
  rintro e w1 ⟨⟨g, rfl, hg⟩, hb⟩
  have H1 := hide (HW.out.keep hb)
  clear hb hW hn HW HG
  cases g with
  | true =>
    have HB := hide H1.out.below
    clear hg H1
    go_wp2_with (fail)
    go_ret
    exact ⟨⟨false, rfl, fun h => by cases h⟩, HB.out⟩
  | false =>
    obtain ⟨h1, h2, h3⟩ := hg rfl
    have HS := hide h3
    have HM := hide h2
    have HCK2 := hide (HCK.out h3)
    have nz : (bs.length : Int) ≤ 410 := by omega
    clear hg h2 h3 HCK
    obtain ⟨ck, hck⟩ : ∃ x, checkF s = x := ⟨_, rfl⟩
    rw [hck] at HCK2
    have HCS := hide hck
    clear hck
    go_wp2_with (fail)
    refine (HCK2.out _ H1.out.below).mono ?_
    rintro e w2 ⟨rfl, hb⟩
    have H2 := hide (H1.out.keep hb)
    clear hb H1 HCK2
    by_cases hc : ck = 0
    · subst hc
      obtain ⟨p0, p1, p2⟩ := H2.out.box
      go_wp2_with (fail)
      refine (HPC.out _).mono ?_
      rintro e w3 ⟨rfl, hb⟩
      have H3 := hide (H2.out.keep hb).below
      clear hb H2 HPC p0 p1 p2
      by_cases hok : okW p = 0
      · rw [hok]
        have HOK := hide hok
        clear hok
        by_cases h6 : bs.length ≤ 6
        · have hz6 : (bs.length : Int) ≤ 6 := by omega
          go_wp2_with (fail)
          go_loopw [7] (fun i wr => ∃ m : Nat, m ≤ bs.length ∧ i = .int .i64 m ∧ Hid (∀ j x, j < m → bs[j]? = some x → checkF x = 0) ∧ Hid (Below n w wr)) (fun i _ => bs.length - (intOf i).toNat)
          case atStart => exact ⟨0, Nat.zero_le _, rfl, hide (fun j x hj => absurd hj (Nat.not_lt_zero _)), H3⟩
          case round =>
            clear H3
            obtain ⟨m, hm, rfl, HJ, HI⟩ := hrel
            by_cases hlt : m < bs.length
            · obtain ⟨b, hp⟩ : ∃ p, bs[m]? = some p := ⟨_, List.getElem?_eq_getElem hlt⟩
              obtain ⟨g, og, rfl, hbl, k⟩ := HRB.out (by intro e; rw [e] at hlt; simp at hlt)
              obtain ⟨u, d0, hu⟩ := k m _ hp
              have HCX := hide (HCB.out b u (HM.out b (List.mem_of_getElem? hp)) hu)
              obtain ⟨Ax, cx, rfl, _⟩ := hu
              have d0 := (HI.out.cell (p := ⟨g, og + m, none⟩) hbl).trans d0
              have mz : (m : Int) < (bs.length : Int) := by omega
              have HP := hide hp
              clear k hp
              obtain ⟨cb, hcb⟩ : ∃ x, checkF b = x := ⟨_, rfl⟩
              rw [hcb] at HCX
              have HCB2 := hide hcb
              clear hcb
              go_wp2_with (fail)
              refine (HCX.out _ HI.out).mono ?_
              rintro e w4 ⟨rfl, hb⟩
              have HI2 := hide (HI.out.trans (hb.mono (by have := HI.out.size; rw [HN.out] at this; exact this)))
              clear hb HI HCX d0
              by_cases hz : cb = 0
              · subst hz
                have HJS : Hid (∀ j x, j < m + 1 → bs[j]? = some x → checkF x = 0) := hide (fun j x hj hx => by
                  rcases Nat.lt_or_ge j m with h | h
                  · exact HJ.out j x h hx
                  · obtain rfl : j = m := by omega
                    rw [HP.out] at hx
                    cases hx
                    exact HCB2.out)
                clear HJ
                go_wp2_with (fail)
                go_roundw
                case rel => exact ⟨m + 1, by omega, by go_num, HJS, HI2⟩
                case measure => simp [intOf]; omega
              · have hne : (cb != 0) = true := by simpa using hz
                clear hz
                go_wp2_with (fail)
                go_ret
                exact ⟨⟨false, rfl, fun h => by cases h⟩, HI2.out⟩
            · obtain rfl : m = bs.length := by omega
              have HALL : Hid (∀ b ∈ bs, checkF b = 0) := hide (fun b hb => by
                obtain ⟨j, hj⟩ := List.getElem?_of_mem hb
                exact HJ.out j b (List.getElem?_eq_some_iff.1 hj).1 hj)
              clear HJ
              go_wp2_with (fail)
              go_ret
              exact ⟨⟨true, rfl, fun _ => ⟨h6, HM.out, HS.out, HCS.out, HOK.out, HALL.out⟩⟩, HI.out⟩
        · have hz6 : (6 : Int) < (bs.length : Int) := by omega
          go_wp2_with (fail)
          go_ret
          exact ⟨⟨false, rfl, fun h => by cases h⟩, H3.out⟩
      · have hne : (okW p != 0) = true := by simpa using hok
        clear hok
        generalize okW p = ok at *
        go_wp2_with (fail)
        go_ret
        exact ⟨⟨false, rfl, fun h => by cases h⟩, H3.out⟩
    · have hne : (ck != 0) = true := by simpa using hc
      have HB := hide H2.out.below
      clear hc H2
      go_wp2_with (fail)
      go_ret
      exact ⟨⟨false, rfl, fun h => by cases h⟩, HB.out⟩
/-- A lot in a box of the call's own. -/
structure BoxLK (n : Nat) (w : World) (l : Lot5) (wr : World) : Prop where
  c : BoxL5 n l wr
  below : Below n w wr
theorem BoxL5.keep {n : Nat} {l : Lot5} {wr w' : World} (h : BoxL5 n l wr) (hb : Below wr.heap.size wr w') : BoxL5 n l w' :=
  ⟨(hb.cell (p := ⟨n, 0, none⟩) h.lt).trans h.d0, (hb.cell (p := ⟨n, 1, none⟩) h.lt).trans h.d1, (hb.cell (p := ⟨n, 2, none⟩) h.lt).trans h.d2, (hb.cell (p := ⟨n, 3, none⟩) h.lt).trans h.d3, (hb.cell (p := ⟨n, 4, none⟩) h.lt).trans h.d4, Nat.lt_of_lt_of_le h.lt hb.size⟩
theorem BoxLK.keep {n : Nat} {w : World} {l : Lot5} {wr w' : World} (h : BoxLK n w l wr) (hb : Below wr.heap.size wr w') : BoxLK n w l w' :=
  ⟨h.c.keep hb, h.below.trans (hb.mono (by have := h.c.lt; omega))⟩
theorem ok_mid {r : R4} (h : okR r) : midR r := by
  unfold okR inR at h
  unfold midR
  omega
end Go.Proofs.YtdolpeljengpaaaGreat

/- Plain: what a join is; areas of regions. -/
namespace Go.Proofs.YtdolpeljengpaaaGreat
open Go.RowKit
set_option linter.unusedVariables false
set_option linter.unusedSimpArgs false

theorem join_is {h : Bool → Bool → Bool} (h0 : h false false = false) {a b c : List R4} (ha : checkF a = 0) (hb : checkF b = 0) (hc : checkF c = 0) (hp : ∀ x y, pmem c x y ↔ h (decide (pmem a x y)) (decide (pmem b x y)) = true) : joinF h a b = (c, 0) := by
  have e : rjoin h a b = c := (rjoin_eq h0 (check_wf ha) (check_wf hb) (check_rcan hc) hp).symm
  rw [joinF_ok ha hb, e, if_neg (by have := (checkF_ok hc).1; omega)]
theorem check_nil : checkF [] = 0 := by kernel_rfl
theorem area_le {l : List R4} (h : checkF l = 0) : 0 ≤ areaS l ∧ areaS l ≤ 1600000000000000 := by
  have h1 := areaS_bd (l := l) fun r hr => (checkF_ok h).2.1 r hr
  have h2 := (checkF_ok h).1
  omega
end Go.Proofs.YtdolpeljengpaaaGreat

/- Rectangles side by side: region.beside, and the reference's near and common. -/
namespace Go.Proofs.YtdolpeljengpaaaGreat
open Go.RowKit
set_option linter.unusedVariables false
set_option linter.unusedSimpArgs false

def cmn (a b : R4) : Bool := decide (a.x0 < b.x1) && decide (b.x0 < a.x1) && decide (a.y0 < b.y1) && decide (b.y0 < a.y1)
def nearF (a b : R4) : Bool := cmn ⟨a.x0 - 1, a.y0, a.x1 + 1, a.y1⟩ b || cmn ⟨a.x0, a.y0 - 1, a.x1, a.y1 + 1⟩ b
def bsd (a b : R4) : Bool := (decide (min a.x1 b.x1 - max a.x0 b.x0 = 0) && decide (0 < min a.y1 b.y1 - max a.y0 b.y0)) || (decide (0 < min a.x1 b.x1 - max a.x0 b.x0) && decide (min a.y1 b.y1 - max a.y0 b.y0 = 0))
theorem bsd_symm (a b : R4) : bsd a b = bsd b a := by
  unfold bsd
  rw [Int.min_comm a.x1, Int.max_comm a.x0, Int.min_comm a.y1, Int.max_comm a.y0]

def mid4 (r : R4) : Prop := (-1000000 ≤ r.x0 ∧ r.x0 ≤ 1000000) ∧ (-1000000 ≤ r.y0 ∧ r.y0 ≤ 1000000) ∧ (-1000000 ≤ r.x1 ∧ r.x1 ≤ 1000000) ∧ (-1000000 ≤ r.y1 ∧ r.y1 ≤ 1000000)
set_option maxHeartbeats 1000000 in
theorem beside_any (r s : R4) (hr : mid4 r) (hs : mid4 s) (w : World) :
    Calls Tryz.prog 98 #[.agg (encR r).toArray, .agg (encR s).toArray] w fun e w' => e = .returned (.bool (bsd r s)) ∧ Below w.heap.size w w' := by
  obtain ⟨a0, a1, a2, a3⟩ := r
  obtain ⟨b0, b1, b2, b3⟩ := s
  obtain ⟨⟨p0, p0'⟩, ⟨p1, p1'⟩, ⟨p2, p2'⟩, p3, p3'⟩ := hr
  obtain ⟨⟨q0, q0'⟩, ⟨q1, q1'⟩, ⟨q2, q2'⟩, q3, q3'⟩ := hs
  simp only at p0 p0' p1 p1' p2 p2' p3 p3' q0 q0' q1 q1' q2 q2' q3 q3'
  show Calls Tryz.prog 98 #[.agg #[.int .i64 a0, .int .i64 a1, .int .i64 a2, .int .i64 a3], .agg #[.int .i64 b0, .int .i64 b1, .int .i64 b2, .int .i64 b3]] w _
  have wx : wrap64 (min a2 b2 - max a0 b0) = min a2 b2 - max a0 b0 := by unfold wrap64; omega
  have wy : wrap64 (min a3 b3 - max a1 b1) = min a3 b3 - max a1 b1 := by unfold wrap64; omega
  have hF : bsd ⟨a0, a1, a2, a3⟩ ⟨b0, b1, b2, b3⟩ = ((decide (min a2 b2 - max a0 b0 = 0) && decide (0 < min a3 b3 - max a1 b1)) || (decide (0 < min a2 b2 - max a0 b0) && decide (min a3 b3 - max a1 b1 = 0))) := rfl
  rw [hF]
  have fin : Below w.heap.size w ((w.alloc (.cells #[.int .i64 a0, .int .i64 a1, .int .i64 a2, .int .i64 a3] 69)).alloc (.cells #[.int .i64 b0, .int .i64 b1, .int .i64 b2, .int .i64 b3] 69)) := ((Below.refl _ _).alloc (Nat.le_refl _) _).alloc (by simp) _
  have FIN := hide fin
  clear fin hF p0 p0' p1 p1' p2 p2' p3 p3' q0 q0' q1 q1' q2 q2' q3 q3'
  go_enter Tryz.func98, Tryz.ntmps98
  go_wp2_with (fail)
  all_goals go_ret
  all_goals refine ⟨ret_eq (bool_eq ?_), FIN.out⟩
  all_goals first
    | rfl
    | (rw [Bool.eq_iff_iff]; simp only [Bool.or_eq_true, Bool.and_eq_true, decide_eq_true_eq, Bool.false_eq_true, true_iff, iff_true, false_iff, iff_false, beq_iff_eq]; omega)
end Go.Proofs.YtdolpeljengpaaaGreat

/- region.Touch. -/
namespace Go.Proofs.YtdolpeljengpaaaGreat
open Go.RowKit
set_option linter.unusedVariables false
set_option linter.unusedSimpArgs false

def ovl (a b : List R4) : Bool := a.any fun x => b.any fun y => cmn x y
def sid (a b : List R4) : Bool := a.any fun x => b.any fun y => bsd x y
def touchF (a b : List R4) : Bool × Int := if bothF a b = 0 then (!ovl a b && sid a b, 0) else (false, bothF a b)
theorem valid_mid {r : R4} (h : valid4 r) : mid4 r := by
  obtain ⟨_, _, h1, h2, h3, h4⟩ := h
  unfold fineP at h1 h2 h3 h4
  unfold mid4
  omega

end Go.Proofs.YtdolpeljengpaaaGreat

/- Plain law: components of a list of rectangles, each named by its least index. -/
namespace Go.Proofs.YtdolpeljengpaaaGreat
set_option linter.unusedVariables false
set_option linter.unusedSimpArgs false

/-- Rectangles i and j lie side by side. -/
def adj (l : List R4) (i j : Nat) : Prop := ∃ x y, l[i]? = some x ∧ l[j]? = some y ∧ bsd x y = true
theorem adj.symm {l : List R4} {i j : Nat} (h : adj l i j) : adj l j i := by
  obtain ⟨x, y, h1, h2, h3⟩ := h
  exact ⟨y, x, h2, h1, by rw [bsd_symm]; exact h3⟩
inductive Conn (l : List R4) (i : Nat) : Nat → Prop where
  | refl : Conn l i i
  | step {j k : Nat} : Conn l i j → adj l j k → Conn l i k
theorem Conn.trans {l : List R4} {i j k : Nat} (h : Conn l i j) (g : Conn l j k) : Conn l i k := by
  induction g with
  | refl => exact h
  | step _ a ih => exact ih.step a
theorem Conn.symm {l : List R4} {i j : Nat} (h : Conn l i j) : Conn l j i := by
  induction h with
  | refl => exact .refl
  | step _ a ih => exact (Conn.refl.step a.symm).trans ih
theorem Conn.lt {l : List R4} {i j : Nat} (h : Conn l i j) (hi : i < l.length) : j < l.length := by
  cases h with
  | refl => exact hi
  | step _ a =>
    obtain ⟨x, y, _, h2, _⟩ := a
    exact (List.getElem?_eq_some_iff.1 h2).1
theorem least (p : Nat → Prop) : ∀ n, p n → ∃ m, p m ∧ ∀ k, p k → m ≤ k := by
  intro n
  induction n using Nat.strongRecOn with
  | _ n ih =>
    intro h
    by_cases hk : ∃ k, k < n ∧ p k
    · obtain ⟨k, h1, h2⟩ := hk
      exact ih k h1 h2
    · refine ⟨n, h, fun k hp => ?_⟩
      by_cases hkn : k < n
      · exact absurd ⟨k, hkn, hp⟩ hk
      · omega
/-- The least index of a component. -/
noncomputable def mn (l : List R4) (i : Nat) : Nat := Classical.choose (least (Conn l i) i .refl)
theorem mn_conn (l : List R4) (i : Nat) : Conn l i (mn l i) := (Classical.choose_spec (least (Conn l i) i .refl)).1
theorem mn_least {l : List R4} {i k : Nat} (h : Conn l i k) : mn l i ≤ k := (Classical.choose_spec (least (Conn l i) i .refl)).2 k h
theorem mn_le (l : List R4) (i : Nat) : mn l i ≤ i := mn_least .refl
theorem mn_eq {l : List R4} {i j : Nat} (h : Conn l i j) : mn l i = mn l j := by
  have h1 := mn_least (h.trans (mn_conn l j))
  have h2 := mn_least (h.symm.trans (mn_conn l i))
  omega
theorem mn_mn (l : List R4) (i : Nat) : mn l (mn l i) = mn l i := (mn_eq (mn_conn l i)).symm
theorem conn_of_mn {l : List R4} {i j : Nat} (h : mn l i = mn l j) : Conn l i j := by
  have h1 := mn_conn l i
  rw [h] at h1
  exact h1.trans (mn_conn l j).symm
/-- Labels that do not go down any more are the least indices. -/
theorem labels_mn {l : List R4} {f : Nat → Nat} (h1 : ∀ i, i < l.length → Conn l i (f i) ∧ f i ≤ i) (h2 : ∀ i k, adj l i k → f i ≤ f k) : ∀ i, i < l.length → f i = mn l i := by
  have key : ∀ i k, Conn l i k → f i = f k := by
    intro i k h
    induction h with
    | refl => rfl
    | step _ a ih => have := h2 _ _ a; have := h2 _ _ a.symm; omega
  intro i hi
  have a1 := mn_least (h1 i hi).1
  have a2 := (h1 _ ((mn_conn l i).lt hi)).2
  have a3 := key _ _ (mn_conn l i)
  omega
open Classical in
/-- The rectangles of the component whose least index is i, in their order. -/
noncomputable def compL (l : List R4) (i : Nat) : List R4 := ((List.range l.length).filter fun j => decide (mn l j = i)).filterMap fun j => l[j]?
open Classical in
noncomputable def partsF (l : List R4) : List (List R4) := ((List.range l.length).filter fun i => decide (mn l i = i)).map fun i => rjoin hFst (compL l i) []
theorem mem_compL {l : List R4} {i : Nat} {r : R4} : r ∈ compL l i ↔ ∃ j, mn l j = i ∧ l[j]? = some r := by
  unfold compL
  simp only [List.mem_filterMap, List.mem_filter, List.mem_range, decide_eq_true_eq]
  constructor
  · rintro ⟨j, ⟨_, h2⟩, h3⟩
    exact ⟨j, h2, h3⟩
  · rintro ⟨j, h2, h3⟩
    exact ⟨j, ⟨(List.getElem?_eq_some_iff.1 h3).1, h2⟩, h3⟩
/-- The region of a list hangs on its rectangles' set alone. -/
theorem rjoin_set {a b : List R4} (ha : ∀ r ∈ a, wf4 r) (hb : ∀ r ∈ b, wf4 r) (h : ∀ r, r ∈ a ↔ r ∈ b) : rjoin hFst a [] = rjoin hFst b [] := by
  obtain ⟨c1, p1⟩ := rjoin_ok (h := hFst) rfl ha (b := []) (by simp)
  obtain ⟨c2, p2⟩ := rjoin_ok (h := hFst) rfl hb (b := []) (by simp)
  refine c1.ext c2 fun x y => ?_
  rw [p1, p2]
  have : decide (pmem a x y) = decide (pmem b x y) := decide_eq_decide.2 (by
    unfold pmem
    constructor
    · rintro ⟨r, h1, h2⟩
      exact ⟨r, (h r).1 h1, h2⟩
    · rintro ⟨r, h1, h2⟩
      exact ⟨r, (h r).2 h1, h2⟩)
  rw [this]
end Go.Proofs.YtdolpeljengpaaaGreat

/- Plain law: a part of a canonical region, made a region, has no more rectangles than the part. -/
namespace Go.Proofs.YtdolpeljengpaaaGreat
set_option linter.unusedVariables false
set_option linter.unusedSimpArgs false

theorem swp_sum_from (g : Int → List Sp) : ∀ (ps : List (Int × Int)) (S : List Slab), (flat (ps.foldl (fun S p => addS S p.1 p.2 (g p.1)) S)).length ≤ (flat S).length + (ps.map fun p => (g p.1).length).sum
  | [], S => by simp
  | p :: ps, S => by
    have h1 := swp_sum_from g ps (addS S p.1 p.2 (g p.1))
    have h2 := addS_len S p.1 p.2 (g p.1)
    simp only [List.foldl_cons, List.map_cons, List.sum_cons]
    omega
theorem prs_sum (f : Int → Nat) : ∀ cs : List Int, ((prs cs).map fun p => f p.1).sum ≤ (cs.map f).sum
  | [] => by simp [prs]
  | [c] => by simp [prs]
  | c :: d :: r => by
    have := prs_sum f (d :: r)
    simp only [prs, List.map_cons, List.sum_cons] at this ⊢
    omega
theorem crossL_cons_len (r : R4) (C : List R4) (c : Int) : (crossL (r :: C) c).length = (if r.x0 ≤ c ∧ c < r.x1 then 1 else 0) + (crossL C c).length := by
  unfold crossL
  by_cases h : r.x0 ≤ c ∧ c < r.x1
  · rw [List.filter_cons_of_pos (by simp [h.1, h.2]), if_pos h]
    simp; omega
  · rw [List.filter_cons_of_neg (by simpa using h), if_neg h]
    simp
theorem sum_add {α : Type} (f g : α → Nat) : ∀ l : List α, (l.map fun x => f x + g x).sum = (l.map f).sum + (l.map g).sum
  | [] => rfl
  | a :: l => by have := sum_add f g l; simp only [List.map_cons, List.sum_cons, this]; omega
theorem one_cut {r : R4} : ∀ {cs : List Int}, cs.Pairwise (· < ·) → (∀ c ∈ cs, r.x0 ≤ c → c < r.x1 → r.x0 = c) → (cs.map fun c => if r.x0 ≤ c ∧ c < r.x1 then 1 else 0).sum ≤ 1
  | [], _, _ => by simp
  | c :: cs, hs, h => by
    have ih := one_cut (r := r) (List.pairwise_cons.1 hs).2 (fun c hc => h c (List.mem_cons_of_mem _ hc))
    simp only [List.map_cons, List.sum_cons]
    by_cases hc : r.x0 ≤ c ∧ c < r.x1
    · have e := h c (List.mem_cons_self) hc.1 hc.2
      have hz : (cs.map fun c => if r.x0 ≤ c ∧ c < r.x1 then 1 else 0).sum = 0 := by
        rw [List.sum_eq_zero_iff_forall_eq_nat]
        intro n hn
        obtain ⟨d, hd, rfl⟩ := List.mem_map.1 hn
        have h1 := (List.pairwise_cons.1 hs).1 d hd
        rw [if_neg]
        rintro ⟨h2, h3⟩
        have := h d (List.mem_cons_of_mem _ hd) h2 h3
        omega
      rw [if_pos hc, hz]
      omega
    · rw [if_neg hc]
      omega
theorem sum_cross {cs : List Int} (hs : cs.Pairwise (· < ·)) : ∀ {C : List R4}, (∀ r ∈ C, ∀ c ∈ cs, r.x0 ≤ c → c < r.x1 → r.x0 = c) → (cs.map fun c => (crossL C c).length).sum ≤ C.length
  | [], _ => by
    have : (cs.map fun c => (crossL [] c).length).sum = 0 := by
      rw [List.sum_eq_zero_iff_forall_eq_nat]
      intro n hn
      obtain ⟨d, _, rfl⟩ := List.mem_map.1 hn
      rfl
    omega
  | r :: C, h => by
    have ih := sum_cross hs (C := C) (fun r hr => h r (List.mem_cons_of_mem _ hr))
    have h1 := one_cut hs (h r (List.mem_cons_self))
    simp only [crossL_cons_len]
    rw [sum_add]
    simp only [List.length_cons]
    omega
theorem SOK.apart : ∀ {S : List Slab}, SOK S → ∀ a ∈ S, ∀ b ∈ S, a = b ∨ a.t ≤ b.f ∨ b.t ≤ a.f
  | [], _, a, ha, _, _ => by cases ha
  | c :: S, h, a, ha, b, hb => by
    rcases List.mem_cons.1 ha with e1 | ha'
    · rcases List.mem_cons.1 hb with e2 | hb'
      · exact .inl (e1.trans e2.symm)
      · exact .inr (.inl (e1 ▸ h.after b hb'))
    · rcases List.mem_cons.1 hb with e2 | hb'
      · exact .inr (.inr (e2 ▸ h.after a ha'))
      · exact SOK.apart h.tail a ha' b hb'
theorem SOK.wide : ∀ {S : List Slab}, SOK S → ∀ a ∈ S, a.f < a.t
  | [], _, a, ha => by cases ha
  | c :: S, h, a, ha => by
    rcases List.mem_cons.1 ha with rfl | ha
    · exact h.head.1
    · exact SOK.wide h.tail a ha
theorem mem_flat {S : List Slab} {r : R4} (h : r ∈ flat S) : ∃ a ∈ S, r.x0 = a.f ∧ r.x1 = a.t := by
  obtain ⟨a, ha, h⟩ := List.mem_flatMap.1 h
  obtain ⟨p, hp, rfl⟩ := List.mem_map.1 h
  exact ⟨a, ha, rfl, rfl⟩
theorem can_cut {l : List R4} (h : RCan l) {r s : R4} (hr : r ∈ l) (hs : s ∈ l) {c : Int} (hc : c = s.x0 ∨ c = s.x1) (h1 : r.x0 ≤ c) (h2 : c < r.x1) : r.x0 = c := by
  obtain ⟨S, hS, rfl⟩ := h
  obtain ⟨a, ha, a1, a2⟩ := mem_flat hr
  obtain ⟨b, hb, b1, b2⟩ := mem_flat hs
  have w1 := hS.wide a ha
  have w2 := hS.wide b hb
  rcases hS.apart a ha b hb with rfl | h3 | h3 <;> rcases hc with rfl | rfl <;> omega
theorem sub_count {l C : List R4} (h : RCan l) (hw : ∀ r ∈ l, wf4 r) (hC : C.Sublist l) : (rjoin hFst C []).length ≤ C.length := by
  have hcs := cutsOf_ok (cutsL C)
  have hwC : ∀ r ∈ C, wf4 r := fun r hr => hw r (hC.subset hr)
  have hg : ∀ c, sjoin hFst (crossL C c) (crossL [] c) = crossL C c := fun c => by
    refine (sjoin_eq (h := hFst) rfl (crossL_wf hwC c) (by simp [crossL]) ⟨crossL_wf hwC c, (crossL_can h c).2.sublist ((hC.filter _).map _)⟩ fun x => by simp [hFst]).symm
  rw [← swp_join (h := hFst) rfl hwC (b := []) (by simp) hcs.1 (fun c hc => (hcs.2 c).2 hc) (by simp [cutsL])]
  have h1 := swp_sum_from (fun c => sjoin hFst (crossL C c) (crossL [] c)) (prs (cutsOf (cutsL C))) []
  simp only [hg] at h1
  have h2 := prs_sum (fun c => (crossL C c).length) (cutsOf (cutsL C))
  have h3 := sum_cross hcs.1 (C := C) (fun r hr c hc q1 q2 => by
    have hc2 := (hcs.2 c).1 hc
    obtain ⟨s, hs, he⟩ : ∃ s ∈ C, c = s.x0 ∨ c = s.x1 := by simpa [cutsL] using hc2
    exact can_cut h (hC.subset hr) (hC.subset hs) he q1 q2)
  have h4 : (flat ([] : List Slab)).length = 0 := rfl
  unfold swp
  simp only [hg]
  omega
theorem filterMap_at {α : Type} : ∀ l : List α, (List.range l.length).filterMap (fun j => l[j]?) = l
  | [] => rfl
  | a :: l => by
    have ih := filterMap_at l
    rw [List.length_cons, List.range_succ_eq_map, List.filterMap_cons_some (by rfl : (a :: l)[0]? = some a), List.filterMap_map]
    show a :: List.filterMap (fun j => l[j]?) (List.range l.length) = a :: l
    rw [ih]
theorem compL_sub (l : List R4) (i : Nat) : (compL l i).Sublist l := by
  have h := filterMap_at l
  have h2 : (compL l i).Sublist ((List.range l.length).filterMap (fun j => l[j]?)) := (List.filter_sublist).filterMap _
  rwa [h] at h2
end Go.Proofs.YtdolpeljengpaaaGreat

/- A store into a row of the call's own; the sum of a row of numbers, read off the world. -/
namespace Go.Proofs.YtdolpeljengpaaaGreat
open Go.RowKit
set_option linter.unusedVariables false
set_option linter.unusedSimpArgs false

/-- The sum of n numbers of a row. -/
def cellSum (w : World) (v : Value) (n : Nat) : Nat :=
  match v with
  | .slice (some p) _ _ => ((List.range n).map fun j => match w.cell? ⟨p.block, p.off + j, none⟩ with | some (.int _ x) => x.toNat | _ => 0).sum
  | _ => 0
end Go.Proofs.YtdolpeljengpaaaGreat

/- Plain law: labels that go down along neighbours, step by step. -/
namespace Go.Proofs.YtdolpeljengpaaaGreat
set_option linter.unusedVariables false
set_option linter.unusedSimpArgs false

/-- Each label names a rectangle of the component, not behind its own. -/
def Lb (l : List R4) (L : List Int) : Prop := L.length = l.length ∧ ∀ (i : Nat) x, L[i]? = some x → ∃ j : Nat, x = (j : Int) ∧ Conn l i j ∧ j ≤ i
def sumN (L : List Int) : Nat := (L.map Int.toNat).sum
/-- No label is below a neighbour's, as far as the pairs have been seen: rows before m, and row m before j. -/
def Seen (l : List R4) (L : List Int) (m j : Nat) : Prop := ∀ i k x y, adj l i k → L[i]? = some x → L[k]? = some y → (i < m ∨ (i = m ∧ k < j)) → x ≤ y
/-- Inside one pass over all pairs: something went down, or nothing yet. -/
def Pass (l : List R4) (L0 L : List Int) (mb : Bool) (m j : Nat) : Prop := Lb l L ∧ ((mb = true ∧ sumN L < sumN L0) ∨ (mb = false ∧ L = L0 ∧ Seen l L m j))
theorem Lb.start (l : List R4) : Lb l ((List.range l.length).map fun i : Nat => (i : Int)) := by
  refine ⟨by simp, fun i x h => ?_⟩
  rw [List.getElem?_map] at h
  obtain ⟨j, hj, rfl⟩ := Option.map_eq_some_iff.1 h
  obtain ⟨h1, h2⟩ := List.getElem?_eq_some_iff.1 hj
  simp at h2
  subst h2
  exact ⟨i, rfl, .refl, Nat.le_refl _⟩
theorem Pass.stay {l : List R4} {L0 L : List Int} {mb : Bool} {m j : Nat} (h : Pass l L0 L mb m j) (hn : ∀ x y, adj l m j → L[m]? = some x → L[j]? = some y → x ≤ y) : Pass l L0 L mb m (j + 1) := by
  refine ⟨h.1, h.2.imp id fun ⟨a, b, c⟩ => ⟨a, b, fun i k x y ha hx hy hs => ?_⟩⟩
  by_cases e : i = m ∧ k = j
  · obtain ⟨rfl, rfl⟩ := e
    exact hn x y ha hx hy
  · exact c i k x y ha hx hy (by omega)
theorem Pass.row {l : List R4} {L0 L : List Int} {mb : Bool} {m j : Nat} (h : Pass l L0 L mb m j) (hj : l.length ≤ j) : Pass l L0 L mb (m + 1) 0 := by
  refine ⟨h.1, h.2.imp id fun ⟨a, b, c⟩ => ⟨a, b, fun i k x y ha hx hy hs => ?_⟩⟩
  have hk : k < L.length := (List.getElem?_eq_some_iff.1 hy).1
  have := h.1.1
  exact c i k x y ha hx hy (by omega)
/-- Labels of a pass that changed nothing are the least indices. -/
theorem Pass.done {l : List R4} {L0 L : List Int} {m j : Nat} (h : Pass l L0 L false m j) (hm : l.length ≤ m) : L = (List.range l.length).map fun i => ((mn l i : Nat) : Int) := by
  obtain ⟨⟨h1, h2⟩, h3⟩ := h
  obtain ⟨_, _, hs⟩ := h3.resolve_left (fun q => by cases q.1)
  have key := labels_mn (l := l) (f := fun i => ((L[i]?).getD 0).toNat) (fun i hi => by
    obtain ⟨x, hx⟩ : ∃ x, L[i]? = some x := ⟨_, List.getElem?_eq_getElem (by omega)⟩
    obtain ⟨j, rfl, c, le⟩ := h2 i x hx
    simp only [hx, Option.getD_some, Int.toNat_natCast]
    exact ⟨c, le⟩) (fun i k ha => by
    obtain ⟨x0, y0, g1, g2, _⟩ := id ha
    have hi := (List.getElem?_eq_some_iff.1 g1).1
    have hk := (List.getElem?_eq_some_iff.1 g2).1
    obtain ⟨x, hx⟩ : ∃ x, L[i]? = some x := ⟨_, List.getElem?_eq_getElem (by omega)⟩
    obtain ⟨y, hy⟩ : ∃ y, L[k]? = some y := ⟨_, List.getElem?_eq_getElem (by omega)⟩
    have := hs i k x y ha hx hy (.inl (by omega))
    simp only [hx, hy, Option.getD_some]
    omega)
  apply List.ext_getElem?
  intro i
  by_cases hi : i < l.length
  · obtain ⟨x, hx⟩ : ∃ x, L[i]? = some x := ⟨_, List.getElem?_eq_getElem (by omega)⟩
    obtain ⟨j, rfl, c, le⟩ := h2 i x hx
    have := key i hi
    simp only [hx, Option.getD_some, Int.toNat_natCast] at this
    rw [hx, List.getElem?_map, List.getElem?_range hi]
    simp [this]
  · rw [List.getElem?_eq_none (by omega), List.getElem?_eq_none (by simpa using hi)]
end Go.Proofs.YtdolpeljengpaaaGreat

/- The reference's Touch. -/
namespace Go.Proofs.YtdolpeljengpaaaGreat
open Go.RowKit
set_option linter.unusedVariables false
set_option linter.unusedSimpArgs false

end Go.Proofs.YtdolpeljengpaaaGreat

/- The reference's Parts. -/
namespace Go.Proofs.YtdolpeljengpaaaGreat
open Go.RowKit
set_option linter.unusedVariables false
set_option linter.unusedSimpArgs false

/-- A list of regions of the call's own. -/
structure Regs (w : World) (vo : Value) (R : List (List R4)) (wr : World) : Prop where
  low : Below w.heap.size w wr
  o : ∃ vs, wr.ownsRow w.heap.size 27 1 vo R.length vs ∧ ∀ (i : Nat) (r : List R4), R[i]? = some r → ∃ v, vs[i]? = some v ∧ wr.ownsRow w.heap.size 69 4 v r.length (r.flatMap encR)
theorem Regs.below {w wr w2 : World} {vo : Value} {R : List (List R4)} (h : Regs w vo R wr) (hb : Below wr.heap.size wr w2) : Regs w vo R w2 := by
  obtain ⟨vs, h1, h2⟩ := h.o
  refine ⟨h.low.trans (hb.mono h.low.size), vs, own_below h1 hb, fun i r hr => ?_⟩
  obtain ⟨v, h3, h4⟩ := h2 i r hr
  exact ⟨v, h3, own_below h4 hb⟩
theorem Regs.push {w wr w2 : World} {vo v2 v : Value} {R : List (List R4)} {r : List R4} {vs : List Value} (low : Below w.heap.size w wr) (h1 : wr.ownsRow w.heap.size 27 1 vo R.length vs)
    (h2 : ∀ (i : Nat) (r : List R4), R[i]? = some r → ∃ v, vs[i]? = some v ∧ wr.ownsRow w.heap.size 69 4 v r.length (r.flatMap encR)) (hv : wr.ownsRow w.heap.size 69 4 v r.length (r.flatMap encR))
    (hg : wr.grownBy w2 vo.ownBlock) (h3 : w2.ownsRow w.heap.size 27 1 v2 (R.length + 1) (vs ++ [v])) : Regs w v2 (R ++ [r]) w2 := by
  have hl : vs.length = R.length := by have := h1.1; omega
  refine ⟨low.grown hg low.size (fun q hq => (h1.lt q hq).1), vs ++ [v], by simpa using h3, fun i x hx => ?_⟩
  by_cases hi : i < R.length
  · rw [List.getElem?_append_left hi] at hx
    obtain ⟨u, h4, h5⟩ := h2 i x hx
    exact ⟨u, by rw [List.getElem?_append_left (by omega)]; exact h4, h5.kept hg (own_apart h5 h1 (by decide))⟩
  · rw [List.getElem?_append_right (by omega)] at hx
    have hi0 : i - R.length = 0 := by
      have := (List.getElem?_eq_some_iff.1 hx).1
      simp at this
      omega
    rw [hi0] at hx
    simp at hx
    subst hx
    refine ⟨v, by rw [List.getElem?_append_right (by omega), hl, hi0]; rfl, hv.kept hg (own_apart hv h1 (by decide))⟩
def RegsRet (B : Nat) (x : List (List R4) × Int) (e : Ending) (w' : World) : Prop :=
  ∃ A c vs, e = .returned (.tuple #[.slice A x.1.length c, .int .i64 x.2]) ∧ w'.ownsRow B 27 1 (.slice A x.1.length c) x.1.length vs ∧ ∀ (i : Nat) (r : List R4), x.1[i]? = some r → ∃ v, vs[i]? = some v ∧ w'.ownsRow B 69 4 v r.length (r.flatMap encR)
noncomputable def partsE (l : List R4) : List (List R4) × Int := if checkF l = 0 then (partsF l, 0) else ([], checkF l)
theorem infoRg : (Tryz.prog.info? 27).map (fun i => (i.zero, i.size, i.bytes)) = some (some (.slice none 0 0), 1, 24) := by kernel_rfl
/-- The component's rectangles among the first j. -/
noncomputable def compP (l : List R4) (i j : Nat) : List R4 := ((List.range j).filter fun k => decide (mn l k = i)).filterMap fun k => l[k]?
noncomputable def partsP (l : List R4) (m : Nat) : List (List R4) := ((List.range m).filter fun i => decide (mn l i = i)).map fun i => rjoin hFst (compL l i) []
theorem partsP_in {l : List R4} {m : Nat} (h : mn l m = m) : partsP l (m + 1) = partsP l m ++ [rjoin hFst (compL l m) []] := by
  unfold partsP
  rw [List.range_succ, List.filter_append, List.map_append]
  simp [h]
theorem partsP_out {l : List R4} {m : Nat} (h : mn l m ≠ m) : partsP l (m + 1) = partsP l m := by
  unfold partsP
  rw [List.range_succ, List.filter_append, List.map_append]
  simp [h]
theorem partsP_all (l : List R4) : partsP l l.length = partsF l := rfl
theorem partsP_len (l : List R4) (m : Nat) : (partsP l m).length ≤ m := by
  unfold partsP
  rw [List.length_map]
  exact Nat.le_trans (List.length_filter_le _ _) (by simp)
theorem rects_at {W wr : World} {l : List R4} {b o m : Nat} (hk : ∀ (j : Nat) (x : R4), l[j]? = some x → ∀ (i : Nat) (u : Value), (encR x)[i]? = some u → W.cell? ⟨b, o + j * 4 + i, none⟩ = some u) (hb : ∀ q, wr.cell? ⟨b, q, none⟩ = W.cell? ⟨b, q, none⟩) {p0 p1 p2 p3 : Int} (hp : l[m]? = some ⟨p0, p1, p2, p3⟩) :
    wr.cell? ⟨b, o + m * 4, none⟩ = some (.int .i64 p0) ∧ wr.cell? ⟨b, o + m * 4 + 1, none⟩ = some (.int .i64 p1) ∧ wr.cell? ⟨b, o + m * 4 + 2, none⟩ = some (.int .i64 p2) ∧ wr.cell? ⟨b, o + m * 4 + 3, none⟩ = some (.int .i64 p3) :=
  ⟨(hb _).trans (hk m _ hp 0 _ rfl), (hb _).trans (hk m _ hp 1 _ rfl), (hb _).trans (hk m _ hp 2 _ rfl), (hb _).trans (hk m _ hp 3 _ rfl)⟩
def lab0 (m : Nat) : List Int := (List.range m).map fun i : Nat => (i : Int)
def labR (l : List R4) (w : World) (vf : Value) (L : List Int) (wr : World) : Prop := wr.ownsRow w.heap.size 3 1 vf l.length (L.map iv) ∧ Below w.heap.size w wr

end Go.Proofs.YtdolpeljengpaaaGreat

/- Plain law: components are disjoint, do not touch, cannot be divided, and are the region together. -/
namespace Go.Proofs.YtdolpeljengpaaaGreat
set_option linter.unusedVariables false
set_option linter.unusedSimpArgs false

/-- Two points differ by 1 in one coordinate alone. -/
def nb (x y u v : Int) : Prop := (u = x + 1 ∧ v = y) ∨ (u = x - 1 ∧ v = y) ∨ (u = x ∧ v = y + 1) ∨ (u = x ∧ v = y - 1)
/-- A way from point to point within a set. -/
inductive PW (S : Int → Int → Prop) (x y : Int) : Int → Int → Prop where
  | refl : PW S x y x y
  | step {u v u' v' : Int} : PW S x y u v → S u' v' → nb u v u' v' → PW S x y u' v'
theorem PW.trans {S : Int → Int → Prop} {x y u v a b : Int} (h : PW S x y u v) (g : PW S u v a b) : PW S x y a b := by
  induction g with
  | refl => exact h
  | step _ s n ih => exact ih.step s n
theorem apart_at {l : List R4} (h : l.Pairwise apart4) {i j : Nat} {a b : R4} (hi : l[i]? = some a) (hj : l[j]? = some b) (hne : i ≠ j) : apart4 a b := by
  obtain ⟨h1, e1⟩ := List.getElem?_eq_some_iff.1 hi
  obtain ⟨h2, e2⟩ := List.getElem?_eq_some_iff.1 hj
  have P := List.pairwise_iff_getElem.1 h
  rcases Nat.lt_or_gt_of_ne hne with hlt | hlt
  · have := P i j h1 h2 hlt; rwa [e1, e2] at this
  · have := P j i h2 h1 hlt
    rw [e1, e2] at this
    exact fun x y ⟨p, q⟩ => this x y ⟨q, p⟩
/-- The points of the component of i. -/
def CS (l : List R4) (i : Nat) (x y : Int) : Prop := ∃ k s, Conn l i k ∧ l[k]? = some s ∧ rin s x y
/-! ### the parts -/
noncomputable def partJ (l : List R4) (m : Nat) : List R4 := rjoin hFst (compL l m) []
/-- A list of rectangles of a region, made a region. -/
theorem sub_check {l C : List R4} (h : checkF l = 0) (hC : C.Sublist l) : checkF (rjoin hFst C []) = 0 ∧ ∀ x y, pmem (rjoin hFst C []) x y ↔ pmem C x y := by
  have hw : ∀ r ∈ C, wf4 r := fun r hr => check_wf h r (hC.subset hr)
  obtain ⟨h1, h2⟩ := rjoin_ok (h := hFst) rfl hw (b := []) (by simp)
  have h3 : ∀ x y, pmem (rjoin hFst C []) x y ↔ pmem C x y := fun x y => by rw [h2]; simp [hFst]
  refine ⟨can_check h1 (sub_valid (can_wf h1) (fun r hr => (checkF_ok h).2.1 r (hC.subset hr)) fun x y => (h3 x y).1) ?_, h3⟩
  have := sub_count (check_rcan h) (check_wf h) hC
  have := hC.length_le
  have := (checkF_ok h).1
  omega
theorem partJ_pts {l : List R4} (h : checkF l = 0) (m : Nat) (x y : Int) : pmem (partJ l m) x y ↔ ∃ j s, mn l j = m ∧ l[j]? = some s ∧ rin s x y := by
  unfold partJ
  rw [(sub_check h (compL_sub l m)).2]
  unfold pmem
  constructor
  · rintro ⟨r, hr, hx⟩
    obtain ⟨j, h1, h2⟩ := mem_compL.1 hr
    exact ⟨j, r, h1, h2, hx⟩
  · rintro ⟨j, s, h1, h2, hx⟩
    exact ⟨s, mem_compL.2 ⟨j, h1, h2⟩, hx⟩
theorem partJ_check {l : List R4} (h : checkF l = 0) (m : Nat) : checkF (partJ l m) = 0 := (sub_check h (compL_sub l m)).1
/-- The first parts together: those of an index below n. -/
noncomputable def subU (l : List R4) (n : Nat) : List R4 := ((List.range l.length).filter fun j => decide (mn l j < n)).filterMap fun j => l[j]?
noncomputable def partU (l : List R4) (n : Nat) : List R4 := rjoin hFst (subU l n) []
theorem subU_sub (l : List R4) (n : Nat) : (subU l n).Sublist l := by
  have h := filterMap_at l
  have h2 : (subU l n).Sublist ((List.range l.length).filterMap (fun j => l[j]?)) := (List.filter_sublist).filterMap _
  rwa [h] at h2
theorem partU_check {l : List R4} (h : checkF l = 0) (n : Nat) : checkF (partU l n) = 0 := (sub_check h (subU_sub l n)).1
theorem partU_pts {l : List R4} (h : checkF l = 0) (n : Nat) (x y : Int) : pmem (partU l n) x y ↔ ∃ j s, mn l j < n ∧ l[j]? = some s ∧ rin s x y := by
  unfold partU
  rw [(sub_check h (subU_sub l n)).2]
  unfold pmem subU
  constructor
  · rintro ⟨r, hr, hx⟩
    obtain ⟨j, h1, h2⟩ := List.mem_filterMap.1 hr
    obtain ⟨_, h1⟩ := List.mem_filter.1 h1
    exact ⟨j, r, of_decide_eq_true h1, h2, hx⟩
  · rintro ⟨j, s, h1, h2, hx⟩
    exact ⟨s, List.mem_filterMap.2 ⟨j, List.mem_filter.2 ⟨List.mem_range.2 (List.getElem?_eq_some_iff.1 h2).1, decide_eq_true h1⟩, h2⟩, hx⟩
theorem partU_step {l : List R4} (h : checkF l = 0) {n m : Nat} (hn : n ≤ m) (hm : ∀ j, n ≤ j → j < m → mn l j ≠ j) : joinF hOr (partU l n) (partJ l m) = (partU l (m + 1), 0) :=
  join_is rfl (partU_check h n) (partJ_check h m) (partU_check h (m + 1)) fun x y => by
    rw [partU_pts h]
    have e : hOr (decide (pmem (partU l n) x y)) (decide (pmem (partJ l m) x y)) = true ↔ pmem (partU l n) x y ∨ pmem (partJ l m) x y := by simp [hOr]
    rw [e, partU_pts h, partJ_pts h]
    constructor
    · rintro ⟨j, s, h1, h2, h3⟩
      by_cases c : mn l j < n
      · exact .inl ⟨j, s, c, h2, h3⟩
      · by_cases c2 : mn l j = m
        · exact .inr ⟨j, s, c2, h2, h3⟩
        · exact absurd (mn_mn l j) (hm (mn l j) (by omega) (by omega))
    · rintro (⟨j, s, h1, h2, h3⟩ | ⟨j, s, h1, h2, h3⟩)
      · exact ⟨j, s, by omega, h2, h3⟩
      · exact ⟨j, s, by omega, h2, h3⟩
theorem partU_all {l : List R4} (h : checkF l = 0) {n : Nat} (hn : ∀ j, n ≤ j → j < l.length → mn l j ≠ j) : partU l n = l := by
  refine can_eq (partU_check h n) h fun x y => ?_
  rw [partU_pts h]
  unfold pmem
  constructor
  · rintro ⟨j, s, _, h2, h3⟩
    exact ⟨s, List.mem_of_getElem? h2, h3⟩
  · rintro ⟨s, hs, h3⟩
    obtain ⟨j, hj, e⟩ := List.getElem_of_mem hs
    refine ⟨j, s, ?_, by rw [← e]; exact List.getElem?_eq_getElem hj, h3⟩
    apply Classical.byContradiction
    intro c
    exact hn (mn l j) (by omega) (by have := mn_le l j; omega) (mn_mn l j)
theorem partU_zero {l : List R4} (h : checkF l = 0) : partU l 0 = [] := by
  refine can_eq (partU_check h 0) check_nil fun x y => ?_
  rw [partU_pts h]
  constructor
  · rintro ⟨_, _, h1, _⟩; omega
  · intro h1; exact absurd h1 pmem_nil
/-- The indexes of the parts. -/
noncomputable def ids (l : List R4) : List Nat := (List.range l.length).filter fun i => decide (mn l i = i)
theorem ids_parts (l : List R4) : partsF l = (ids l).map (partJ l) := rfl
theorem ids_sorted (l : List R4) : (ids l).Pairwise (· < ·) := List.Pairwise.sublist List.filter_sublist List.pairwise_lt_range
theorem mem_ids {l : List R4} {m : Nat} : m ∈ ids l ↔ m < l.length ∧ mn l m = m := by
  unfold ids
  rw [List.mem_filter, List.mem_range, decide_eq_true_eq]
/-- One more than the index of the part before, where the k-th one begins. -/
noncomputable def low (l : List R4) (k : Nat) : Nat := match (ids l)[k - 1]?, k with | some m, _ + 1 => m + 1 | _, _ => 0
/-- The first i parts are those below n. -/
def Cut (l : List R4) (i n : Nat) : Prop := (∀ a ∈ (ids l).take i, a < n) ∧ ∀ a ∈ (ids l).drop i, n ≤ a
theorem Cut.start (l : List R4) : Cut l 0 0 := ⟨by simp, fun a _ => Nat.zero_le a⟩
theorem Cut.next {l : List R4} {i n m : Nat} (h : Cut l i n) (hm : (ids l)[i]? = some m) : n ≤ m ∧ (∀ j, n ≤ j → j < m → mn l j ≠ j) ∧ Cut l (i + 1) (m + 1) := by
  obtain ⟨hi, e⟩ := List.getElem?_eq_some_iff.1 hm
  have hd : m ∈ (ids l).drop i := by
    rw [List.drop_eq_getElem_cons hi, e]
    exact List.mem_cons_self
  have hs := List.pairwise_iff_getElem.1 (ids_sorted l)
  have hmi : m ∈ ids l := by rw [← e]; exact List.getElem_mem hi
  have hnm := h.2 m hd
  refine ⟨hnm, fun j h1 h2 hj => ?_, fun a ha => ?_, fun a ha => ?_⟩
  · have hjm : j ∈ ids l := mem_ids.2 ⟨by have := (mem_ids.1 hmi).1; omega, hj⟩
    obtain ⟨k, hk, ek⟩ := List.getElem_of_mem hjm
    by_cases hki : k < i
    · have : j ∈ (ids l).take i := by
        rw [List.mem_take_iff_getElem]
        exact ⟨k, by omega, ek⟩
      have := h.1 j this
      omega
    · by_cases hki2 : k = i
      · subst hki2; omega
      · have := hs i k hi hk (by omega)
        omega
  · rw [List.take_succ_eq_append_getElem hi, List.mem_append] at ha
    rcases ha with ha | ha
    · have := h.1 a ha; omega
    · rw [List.mem_singleton, e] at ha; omega
  · obtain ⟨k, hk, ek⟩ := List.getElem_of_mem ha
    rw [List.getElem_drop] at ek
    have := hs i (i + 1 + k) hi (by rw [List.length_drop] at hk; omega) (by omega)
    omega
theorem Cut.done {l : List R4} {n : Nat} (h : Cut l (ids l).length n) : ∀ j, n ≤ j → j < l.length → mn l j ≠ j := fun j h1 h2 hj => by
  have := h.1 j (by rw [List.take_length]; exact mem_ids.2 ⟨h2, hj⟩)
  omega
end Go.Proofs.YtdolpeljengpaaaGreat

/- Plain: being along each other is the same both ways; the boundaries of two regions without a common point. -/
namespace Go.Proofs.YtdolpeljengpaaaGreat
set_option linter.unusedVariables false
set_option linter.unusedSimpArgs false

def halfA (m : Nat) (a b : List R4) : Int := vol (m + 1) (fun X Y => hit a b X Y (X - 1) Y)
/-- A frame around a region, less the region. -/
structure Rim (k : Int) (a oa : List R4) : Prop where
  small : ∀ x y, pmem a x y → -k ≤ x ∧ x < k ∧ -k ≤ y ∧ y < k
  mem : ∀ x y, pmem oa x y ↔ (-k - 2 ≤ x ∧ x < k + 2 ∧ -k - 2 ≤ y ∧ y < k + 2) ∧ ¬ pmem a x y
theorem Rim.fl {k : Int} {a oa : List R4} (h : Rim k a oa) : Rim k (a.map fl4) (oa.map fl4) :=
  ⟨fun x y hp => by
    have := h.small _ _ ((pmem_fl a x y).1 hp)
    omega, fun x y => by
    rw [pmem_fl, h.mem, pmem_fl]
    constructor
    · rintro ⟨h1, h2⟩
      exact ⟨by omega, h2⟩
    · rintro ⟨h1, h2⟩
      exact ⟨by omega, h2⟩⟩
theorem Rim.hit {k : Int} {a oa : List R4} (h : Rim k a oa) (X Y : Int) : hit a oa X Y (X - 1) Y = one a X Y * (1 - one a (X - 1) Y) + one a (X - 1) Y * (1 - one a X Y) := by
  have e : ∀ x y, (-k - 2 ≤ x ∧ x < k + 2 ∧ -k - 2 ≤ y ∧ y < k + 2) → one oa x y = 1 - one a x y := fun x y hx => by
    by_cases hp : pmem a x y
    · rw [show one oa x y = 0 from ind_f fun hh => ((h.mem _ _).1 hh).2 hp, show one a x y = 1 from ind_t hp]; rfl
    · rw [show one oa x y = 1 from ind_t ((h.mem _ _).2 ⟨hx, hp⟩), show one a x y = 0 from ind_f hp]; rfl
  have z : ∀ x y, ¬ pmem a x y → one a x y = 0 := fun x y hx => ind_f hx
  unfold Go.Proofs.YtdolpeljengpaaaGreat.hit hitZ
  by_cases h1 : pmem a X Y
  · have hs := h.small _ _ h1
    rw [e X Y (by omega), e (X - 1) Y (by omega)]
    rcases one_01 a X Y with h1 | h1 <;> rcases one_01 a (X - 1) Y with h3 | h3 <;> rw [h1, h3] <;> rfl
  · by_cases h2 : pmem a (X - 1) Y
    · have hs := h.small _ _ h2
      rw [e X Y (by omega), e (X - 1) Y (by omega)]
      rcases one_01 a X Y with h1 | h1 <;> rcases one_01 a (X - 1) Y with h3 | h3 <;> rw [h1, h3] <;> rfl
    · rw [z _ _ h1, z _ _ h2]
      simp
end Go.Proofs.YtdolpeljengpaaaGreat

/- Plain: the regions of BlockBeside's law: joins of regions, frames around them. -/
namespace Go.Proofs.YtdolpeljengpaaaGreat
set_option linter.unusedVariables false
set_option linter.unusedSimpArgs false

theorem can_oneB {r : R4} (h : wf4 r) : RCan [r] := ⟨[⟨r.x0, r.x1, [(r.y0, r.y1)]⟩], ⟨h.1, by simp, by simp [SCan]; exact h.2⟩, by simp [flat, flat1]⟩
/-- What a join of two regions is. -/
theorem joinTwo {h : Bool → Bool → Bool} (h0 : h false false = false) {a b : List R4} (ha : checkF a = 0) (hb : checkF b = 0) :
    joinF h a b = ([], 4) ∨ ∃ R, joinF h a b = (R, 0) ∧ checkF R = 0 ∧ R.length ≤ 400 ∧ ∀ x y, pmem R x y ↔ h (decide (pmem a x y)) (decide (pmem b x y)) = true := by
  rw [joinF_ok ha hb]
  by_cases hl : 400 < (rjoin h a b).length
  · rw [if_pos hl]; exact .inl rfl
  · rw [if_neg hl]
    exact .inr ⟨_, rfl, join_check h0 ha hb (by omega), by omega, join_pts h0 ha hb⟩
theorem joinZero {h : Bool → Bool → Bool} (h0 : h false false = false) {a b R : List R4} (ha : checkF a = 0) (hb : checkF b = 0) (he : joinF h a b = (R, 0)) : checkF R = 0 ∧ R.length ≤ 400 ∧ ∀ x y, pmem R x y ↔ h (decide (pmem a x y)) (decide (pmem b x y)) = true := by
  rcases joinTwo h0 ha hb with e | ⟨R', e, h1, h2, h3⟩
  · rw [he] at e; injection e with _ e; cases e
  · rw [he] at e; injection e with e _; subst e; exact ⟨h1, h2, h3⟩
theorem orP {a b : List R4} {x y : Int} : hOr (decide (pmem a x y)) (decide (pmem b x y)) = true ↔ pmem a x y ∨ pmem b x y := by simp [hOr]
theorem andP {a b : List R4} {x y : Int} : hAnd (decide (pmem a x y)) (decide (pmem b x y)) = true ↔ pmem a x y ∧ pmem b x y := by simp [hAnd]
theorem subP {a b : List R4} {x y : Int} : hSub (decide (pmem a x y)) (decide (pmem b x y)) = true ↔ pmem a x y ∧ ¬ pmem b x y := by simp [hSub]
theorem pmem_one {r : R4} {x y : Int} : pmem [r] x y ↔ rin r x y := by simp [pmem]
def small35 (l : List R4) : Bool := l.all fun r => decide (-1000 ≤ r.x0) && decide (-1000 ≤ r.y0) && decide (r.x1 ≤ 1000) && decide (r.y1 ≤ 1000)
def frm35 : List R4 := [⟨-1002, -1002, 1002, 1002⟩]
end Go.Proofs.YtdolpeljengpaaaGreat

/- A store at a key that is there, inside a range over the map: the range goes on with the same entries to come. -/
namespace Go.Proofs.YtdolpeljengpaaaGreat
open Go Go.ChangeMaps Go.MapKept Go.WideShapes Go.Maps
open Go.WideElems (Fit rd rg pl rd_key rd_val rg_of rd_mk)
set_option linter.unusedVariables false
set_option linter.unusedSimpArgs false

theorem left_borns {l l' : List MapEntry} (seen : Array Nat) (h : l'.map MapEntry.born = l.map MapEntry.born) : (l'.filter fun e => !seen.contains e.born).length = (l.filter fun e => !seen.contains e.born).length := by
  have e : ∀ a : List MapEntry, (a.filter fun e => !seen.contains e.born).length = (a.map MapEntry.born).countP fun b => !seen.contains b := fun a => by
    rw [← List.countP_eq_length_filter, List.countP_map]
    rfl
  rw [e, e, h]
theorem ranges_store {H : Type} {P : Program} {k : TypeId} {R : Value → Option (DataW H × List MemPlace)} {w : World} {b r n : Nat} {D : DataW H} {left : Lit → Bool} {cnt : Nat} {t e : TypeId} (h : w.ranges P k R b r n D left cnt) (K : Keyed P k) (ht : P.underlying t = some (.map k e)) (hn : n < maxLen) {key val : Value} {kl : Lit} {yv : DataW H × List MemPlace}
    (hkey : keyOf P k key = some kl) (hthere : ∃ y, ∀ zd, D.atKey kl zd = y) (hv : R val = some yv) :
    ∃ w', (Instr.mapUpdate t (.map (some b)) key val).run P w = .ok () w' ∧ w'.ranges P k R b r n (D.put kl yv.1) left cnt ∧ w.grownBy w' (some b) ∧ w'.heap.size = w.heap.size := by
  have hne := h.ne
  obtain ⟨es, clock, since, seen, c0, hb, F, hs, rfl, hr, hold, rfl, hl1, hl2, hsc, hsk⟩ := h
  obtain ⟨es', clock', hrun, F', hput, _⟩ := Maps.fit_store (R' := R) K ht hb F (Nat.lt_of_le_of_lt hs hn) (fun _ _ _ _ hz => hz) hkey hv
  rcases K.find w hkey es.toList F.keys with ⟨h1, h2⟩ | ⟨j, e0, h1, h2, h3⟩
  · exfalso
    obtain ⟨y, hy⟩ := hthere
    have hno := (atKey_sorted (es.toList.map (rg P k R)) (Maps.fit_rising K F) kl (K.key hkey)).1 fun p hp hpk => by
      obtain ⟨x, hx, rfl⟩ := List.mem_map.1 hp
      obtain ⟨z, hz⟩ := F.reads x hx
      rw [rg_of hz] at hpk
      exact h2 x hx (K.inj (rd_key hz) (hpk ▸ hkey))
    have e1 := hy (.map [])
    have e2 := hy .nil
    rw [hno] at e1 e2
    rw [← e2] at e1
    cases e1
  · have hj : es[j]? = some e0 := by simpa using h2
    have hrun2 : (Instr.mapUpdate t (.map (some b)) key val).run P w = .ok () (setBlock w b (.map (es.modify j (fun e' => { e' with key := key, val := val })) clock)) := by
      simp [Instr.mapUpdate, run_underlying ht, MapKept.run_getObj_map hb, K.check w false hkey, h1, hj, h3, K.stays w hkey, MapKept.run_setObj_map _ hb, Result.andThen, setBlock]
    have hw : setBlock w b (.map es' clock') = setBlock w b (.map (es.modify j (fun e' => { e' with key := key, val := val })) clock) := by
      rw [hrun] at hrun2
      simpa using hrun2
    have hm1 := heap_setBlock_same hb (.map es' clock')
    rw [hw, heap_setBlock_same hb] at hm1
    obtain ⟨rfl, rfl⟩ : es' = es.modify j (fun e' => { e' with key := key, val := val }) ∧ clock' = clock := by simpa using hm1.symm
    have hlist : (es.modify j (fun e' => { e' with key := key, val := val })).toList = es.toList.set j { e0 with key := key, val := val } := by
      rw [Array.toList_modify]
      refine List.ext_getElem? fun i => ?_
      rw [List.getElem?_modify, List.getElem?_set]
      by_cases e1 : j = i
      · subst e1
        have hlt := (List.getElem?_eq_some_iff.1 h2).1
        have hjs : j < es.size := by simpa using hlt
        rw [h2]
        simp [hjs]
      · simp [e1]
    have hjl : j < es.toList.length := (List.getElem?_eq_some_iff.1 h2).1
    have hborn : ((es.modify j (fun e' => { e' with key := key, val := val })).toList).map MapEntry.born = es.toList.map MapEntry.born := by
      rw [hlist]
      refine List.ext_getElem? fun i => ?_
      rw [List.getElem?_map, List.getElem?_map, List.getElem?_set]
      by_cases e1 : j = i
      · subst e1
        rw [h2]
        have hjs : j < es.size := by simpa using hjl
        simp [hjs]
      · simp [e1]
    have hrg0 : (rg P k R e0).1 = kl := by
      obtain ⟨z, hz⟩ := F.reads e0 (List.mem_of_getElem? h2)
      rw [rg_of hz]
      have := rd_key hz
      rw [h3, hkey] at this
      exact (Option.some.inj this).symm
    have hrg1 : (rg P k R { e0 with key := key, val := val }).1 = kl := by rw [rg_of (rd_mk hkey hv)]
    have who : ∀ x ∈ (es.modify j (fun e' => { e' with key := key, val := val })).toList, ∃ y ∈ es.toList, y.born = x.born ∧ (rg P k R y).1 = (rg P k R x).1 := by
      intro x hx
      rw [hlist] at hx
      obtain ⟨i, hi⟩ := List.getElem?_of_mem hx
      rw [List.getElem?_set] at hi
      by_cases e1 : j = i
      · rw [if_pos e1, if_pos hjl] at hi
        obtain rfl := Option.some.inj hi
        exact ⟨e0, List.mem_of_getElem? h2, rfl, by rw [hrg0, hrg1]⟩
      · rw [if_neg e1] at hi
        exact ⟨x, List.mem_of_getElem? hi, rfl, rfl⟩
    have who2 : ∀ y ∈ es.toList, ∃ x ∈ (es.modify j (fun e' => { e' with key := key, val := val })).toList, (rg P k R x).1 = (rg P k R y).1 := by
      intro y hy
      rw [hlist]
      obtain ⟨i, hi⟩ := List.getElem?_of_mem hy
      by_cases e1 : j = i
      · subst e1
        rw [h2] at hi
        obtain rfl := Option.some.inj hi
        exact ⟨_, List.mem_of_getElem? (i := j) (by rw [List.getElem?_set, if_pos rfl, if_pos hjl]), by rw [hrg0, hrg1]⟩
      · exact ⟨y, List.mem_of_getElem? (i := i) (by rw [List.getElem?_set, if_neg e1]; exact hi), rfl⟩
    refine ⟨_, hrun, ⟨_, _, since, seen, c0, heap_setBlock_same hb _, F', by simpa using hs, by rw [DataW.put_eq, hput], (heap_setBlock_other hb _ hne).trans hr, fun x hx => ?_, ?_, fun x hx => ?_, fun kl' hkl => ?_, hsc, hsk⟩, ⟨rfl, rfl, rfl, by simp [setBlock], fun i _ hi => heap_setBlock_other hb _ (fun e => hi (by rw [e]))⟩, by simp [setBlock]⟩
    · obtain ⟨y, hy, e1, _⟩ := who x hx
      rw [← e1]
      exact hold y hy
    · have e1 : ∀ a : Array MapEntry, (leftOf a seen).size = (a.toList.filter fun e => !seen.contains e.born).length := fun a => by
        unfold leftOf
        rw [← Array.toList_filter, Array.length_toList]
      rw [e1, e1]
      exact left_borns seen hborn
    · obtain ⟨y, hy, e1, e2⟩ := who x hx
      rw [← e2, hl1 y hy, e1]
    · obtain ⟨y, hy, e1⟩ := hl2 kl' hkl
      obtain ⟨x, hx, e2⟩ := who2 y hy
      exact ⟨x, hx, e2.trans e1⟩
end Go.Proofs.YtdolpeljengpaaaGreat

/- A map from ints to slices of spans that the call itself has made: what lies in it, look-up, store, and the range over it. -/
namespace Go.Proofs.YtdolpeljengpaaaGreat
open Go.RowKit Go.Maps Go.WideElems
open Go.ChangeMaps (setBlock heap_setBlock_same heap_setBlock_other)
set_option linter.unusedVariables false
set_option linter.unusedSimpArgs false

theorem lawIS : Keyed Tryz.prog 3 := int_keyed Tryz.underlying3
def okK (k : Int) : Prop := -9223372036854775808 ≤ k ∧ k ≤ 9223372036854775807
theorem keyI {k : Int} (h : okK k) : keyOf Tryz.prog 3 (.int .i64 k) = some (.int .i64 k) := keyOf_int_mk Tryz.underlying3 (WalkArith.wf_i64 (by unfold okK at h; omega))
/-- A slice's words, whatever lies behind it. -/
def slE : Value → DataW Unit
  | .slice none n c => .agg [.lit (.int .i64 n), .lit (.int .i64 c)]
  | .slice (some ⟨g, o, none⟩) n c => .agg [.lit (.int .i64 g), .lit (.int .i64 o), .lit (.int .i64 n), .lit (.int .i64 c)]
  | _ => .nil
def slD : Value → Option (DataW Unit × List MemPlace)
  | .slice none n c => some (slE (.slice none n c), [])
  | .slice (some ⟨g, o, none⟩) n c => some (slE (.slice (some ⟨g, o, none⟩) n c), [])
  | _ => none
theorem slD_inj {u v : Value} {d : DataW Unit} {p q : List MemPlace} (h1 : slD u = some (d, p)) (h2 : slD v = some (d, q)) : u = v := by
  unfold slD at h1 h2
  split at h1 <;> split at h2 <;> simp only [Option.some.injEq, Prod.mk.injEq, reduceCtorEq] at h1 h2 <;> obtain ⟨e1, _⟩ := h1 <;> obtain ⟨e2, _⟩ := h2 <;> rw [← e1] at e2 <;> simp only [slE, DataW.agg.injEq, List.cons.injEq, DataW.lit.injEq, Lit.int.injEq, true_and, and_true, reduceCtorEq, and_false, Int.natCast_inj] at e2
  · obtain ⟨rfl, rfl⟩ := e2; rfl
  · obtain ⟨rfl, rfl, rfl, rfl⟩ := e2; rfl
theorem slD_own {w : World} {B : Nat} {e : TypeId} {s : Nat} {v : Value} {n : Nat} {xs : List Value} (h : w.ownsRow B e s v n xs) : slD v = some (slE v, []) := by
  rcases h.2 with ⟨rfl, _⟩ | ⟨g, cap, cur, rfl, _⟩ <;> rfl
theorem slD_inv {v : Value} {y : DataW Unit × List MemPlace} (h : slD v = some y) : y = (slE v, []) := by
  unfold slD at h
  split at h <;> simp only [Option.some.injEq, reduceCtorEq] at h <;> exact h.symm
abbrev ownsMS (b n : Nat) (D : DataW Unit) (w : World) : Prop := w.ownsMap Tryz.prog 3 slD b n D
theorem zeroM (w : World) : (zeroValue 182).run Tryz.prog w = .ok (.slice none 0 0) w := by kernel_rfl
def gvI (K : List Int) (vals : Int → Value) (k : Int) : Value := if k ∈ K then vals k else .slice none 0 0
def addI (K : List Int) (k : Int) : List Int := if k ∈ K then K else K ++ [k]
theorem mem_addI {K : List Int} {k k' : Int} : k' ∈ addI K k ↔ k' = k ∨ k' ∈ K := by
  unfold addI
  split
  · rename_i hm
    constructor
    · exact .inr
    · rintro (rfl | h1)
      · exact hm
      · exact h1
  · rw [List.mem_append, List.mem_singleton]
    exact Or.comm
/-- What a map's datum says of keys and values. -/
structure MD (K : List Int) (vals : Int → Value) (D : DataW Unit) : Prop where
  size : Maps.size D = K.length
  at' : ∀ k ∈ K, ∀ z, D.atKey (.int .i64 k) z = slE (vals k)
  has : ∀ l, Maps.has D l = true ↔ ∃ k ∈ K, l = .int .i64 k
theorem MD.has_iff {K : List Int} {vals : Int → Value} {D : DataW Unit} (h : MD K vals D) {k : Int} : Maps.has D (.int .i64 k) = true ↔ k ∈ K := by
  rw [h.has]
  constructor
  · rintro ⟨k', hk', e⟩
    injection e with _ e
    rw [e]; exact hk'
  · intro hm; exact ⟨k, hm, rfl⟩
theorem MD.put {K : List Int} {vals : Int → Value} {D : DataW Unit} (h : MD K vals D) (hm : IsMap D) (ht : Tidy D) {k : Int} (hk : okK k) (v : Value) : MD (addI K k) (fun k' => if k' = k then v else vals k') (D.put (.int .i64 k) (slE v)) := by
  refine ⟨?_, fun k' hk' z => ?_, fun l => ?_⟩
  · rw [size_put ht]
    unfold addI
    by_cases hm : k ∈ K
    · rw [if_pos (h.has_iff.2 hm), if_pos hm, h.size]
    · rw [if_neg (fun e => hm (h.has_iff.1 e)), if_neg hm, h.size]; simp
  · by_cases e : k' = k
    · subst e
      simp only [if_true]
      rw [atKey_put_same hm (lawIS.key (keyI hk))]
    · simp only [if_neg e]
      rw [atKey_put_other (fun e2 => e (by injection e2))]
      rcases mem_addI.1 hk' with h1 | h1
      · exact absurd h1 e
      · exact h.at' k' h1 z
  · by_cases e : l = .int .i64 k
    · subst e
      rw [has_put_same hm (lawIS.key (keyI hk))]
      exact ⟨fun _ => ⟨k, mem_addI.2 (.inl rfl), rfl⟩, fun _ => rfl⟩
    · rw [has_put_other e, h.has]
      constructor
      · rintro ⟨k', h1, h2⟩; exact ⟨k', mem_addI.2 (.inr h1), h2⟩
      · rintro ⟨k', h1, h2⟩
        rcases mem_addI.1 h1 with h3 | h3
        · subst h3; exact absurd h2 e
        · exact ⟨k', h3, h2⟩
/-- The rows behind a map's values. -/
structure MV (B : Nat) (K : List Int) (p : Int → List Sp) (vals : Int → Value) (w : World) : Prop where
  vs : ∀ k ∈ K, w.ownsRow B 188 2 (vals k) (p k).length ((p k).flatMap encS)
  apart : ∀ a ∈ K, ∀ b ∈ K, a ≠ b → (vals a).ownBlock = none ∨ (vals a).ownBlock ≠ (vals b).ownBlock
  rng : ∀ k ∈ K, okK k
  nd : K.Nodup
/-- Block bM maps each key of K to a slice that owns the spans p. -/
structure Ms (B bM : Nat) (K : List Int) (p : Int → List Sp) (vals : Int → Value) (w : World) : Prop where
  map : ∃ D, ownsMS bM K.length D w ∧ MD K vals D
  mv : MV B K p vals w
/-- The same, while a range over the map is under way. -/
structure Mr (B bM r : Nat) (K : List Int) (p : Int → List Sp) (vals : Int → Value) (left : Lit → Bool) (cnt : Nat) (w : World) : Prop where
  map : ∃ D, w.ranges Tryz.prog 3 slD bM r K.length D left cnt ∧ MD K vals D
  mv : MV B K p vals w
theorem Mr.ms {B bM r : Nat} {K : List Int} {p : Int → List Sp} {vals : Int → Value} {left : Lit → Bool} {cnt : Nat} {w : World} (h : Mr B bM r K p vals left cnt w) : Ms B bM K p vals w := by
  obtain ⟨D, d1, d2⟩ := h.map
  exact ⟨⟨D, d1.owns, d2⟩, h.mv⟩
theorem Ms.made (w : World) (B : Nat) (p : Int → List Sp) (vals : Int → Value) : Ms B w.heap.size [] p vals (w.alloc (.map #[] 0)) :=
  ⟨⟨.map [], World.ownsMap_made w _ _ _, rfl, fun k h => (List.not_mem_nil h).elim, fun l => by rw [has_eq]; simp⟩, fun k h => (List.not_mem_nil h).elim, fun a h => (List.not_mem_nil h).elim, fun k h => (List.not_mem_nil h).elim, by simp⟩
theorem MV.grown {B : Nat} {K : List Int} {p : Int → List Sp} {vals : Int → Value} {w w' : World} (h : MV B K p vals w) {row : Option Nat} (hg : w.grownBy w' row) (h2 : ∀ k ∈ K, (vals k).ownBlock = none ∨ (vals k).ownBlock ≠ row) : MV B K p vals w' :=
  ⟨fun k hk => (h.vs k hk).kept hg (h2 k hk), h.apart, h.rng, h.nd⟩
theorem Ms.grown {B bM : Nat} {K : List Int} {p : Int → List Sp} {vals : Int → Value} {w w' : World} (h : Ms B bM K p vals w) {row : Option Nat} (hg : w.grownBy w' row) (h1 : some bM ≠ row) (h2 : ∀ k ∈ K, (vals k).ownBlock = none ∨ (vals k).ownBlock ≠ row) : Ms B bM K p vals w' := by
  obtain ⟨D, d1, d2⟩ := h.map
  exact ⟨⟨D, d1.kept hg h1, d2⟩, h.mv.grown hg h2⟩
theorem Mr.grown {B bM r : Nat} {K : List Int} {p : Int → List Sp} {vals : Int → Value} {left : Lit → Bool} {cnt : Nat} {w w' : World} (h : Mr B bM r K p vals left cnt w) {row : Option Nat} (hg : w.grownBy w' row) (h1 : some bM ≠ row) (h3 : some r ≠ row) (h2 : ∀ k ∈ K, (vals k).ownBlock = none ∨ (vals k).ownBlock ≠ row) : Mr B bM r K p vals left cnt w' := by
  obtain ⟨D, d1, d2⟩ := h.map
  exact ⟨⟨D, d1.kept hg h1 h3, d2⟩, h.mv.grown hg h2⟩
theorem own_none_or {v : Value} : v.ownBlock = none ∨ v.ownBlock ≠ none := by
  by_cases h : v.ownBlock = none
  · exact .inl h
  · exact .inr h
theorem below_grow {w w' : World} (hb : Below w.heap.size w w') : w.grownBy w' none := ⟨hb.os, hb.tape, hb.output, hb.size, fun k hk _ => hb.block k hk⟩
theorem Ms.below {B bM : Nat} {K : List Int} {p : Int → List Sp} {vals : Int → Value} {w w' : World} (h : Ms B bM K p vals w) (hb : Below w.heap.size w w') : Ms B bM K p vals w' := h.grown (below_grow hb) (by simp) fun k hk => own_none_or
theorem Mr.below {B bM r : Nat} {K : List Int} {p : Int → List Sp} {vals : Int → Value} {left : Lit → Bool} {cnt : Nat} {w w' : World} (h : Mr B bM r K p vals left cnt w) (hb : Below w.heap.size w w') : Mr B bM r K p vals left cnt w' := h.grown (below_grow hb) (by simp) (by simp) fun k hk => own_none_or
theorem Ms.bM_lt {B bM : Nat} {K : List Int} {p : Int → List Sp} {vals : Int → Value} {w : World} (h : Ms B bM K p vals w) : bM < w.heap.size := by
  obtain ⟨D, d1, _⟩ := h.map
  exact d1.lt
/-- The map's block holds no cells: no row is it. -/
theorem Ms.not_map {B bM : Nat} {K : List Int} {p : Int → List Sp} {vals : Int → Value} {w : World} (h : Ms B bM K p vals w) {b n : Nat} {e : TypeId} {s : Nat} {v : Value} {xs : List Value} (ho : w.ownsRow b e s v n xs) : some bM ≠ v.ownBlock := by
  obtain ⟨D, ⟨es, clock, hb, _⟩, _⟩ := h.map
  rcases ho.2 with ⟨rfl, _⟩ | ⟨g, cap, cur, rfl, _, hg, _⟩
  · simp [Value.ownBlock]
  · intro e1
    have : g = bM := by simpa [Value.ownBlock] using e1.symm
    subst this
    rw [hg] at hb
    cases hb
/-- What a look-up asks: the map alone. -/
def MsL (bM : Nat) (K : List Int) (vals : Int → Value) (w : World) : Prop := ∃ D, ownsMS bM K.length D w ∧ MD K vals D
theorem MsL.look {bM : Nat} {K : List Int} {vals : Int → Value} {w : World} (h : MsL bM K vals w) (hs : ∀ k ∈ K, slD (vals k) = some (slE (vals k), [])) {k : Int} (hk : okK k) : (Instr.lookup 161 (.map (some bM)) (.int .i64 k) false).run Tryz.prog w = .ok (gvI K vals k) w := by
  obtain ⟨D, d1, d2⟩ := h
  obtain ⟨v, ps, hrun, hR⟩ := d1.lookup lawIS Tryz.underlying161 (zeroM w) (show slD (.slice none 0 0) = some (slE (.slice none 0 0), []) from rfl) (keyI hk)
  suffices e : v = gvI K vals k by rw [← e]; exact hrun
  by_cases hm : k ∈ K
  · rw [d2.at' k hm] at hR
    unfold gvI
    rw [if_pos hm]
    exact slD_inj hR (hs k hm)
  · have hno : Maps.has D (.int .i64 k) = false := by
      rw [← Bool.not_eq_true, d2.has_iff]
      exact hm
    rw [atKey_of_not_has hno] at hR
    unfold gvI
    rw [if_neg hm]
    exact slD_inj hR (q := []) rfl
theorem MV.sl {B : Nat} {K : List Int} {p : Int → List Sp} {vals : Int → Value} {w : World} (h : MV B K p vals w) : ∀ k ∈ K, slD (vals k) = some (slE (vals k), []) := fun k hk => slD_own (h.vs k hk)
theorem Ms.look {B bM : Nat} {K : List Int} {p : Int → List Sp} {vals : Int → Value} {w : World} (h : Ms B bM K p vals w) {k : Int} (hk : okK k) : (Instr.lookup 161 (.map (some bM)) (.int .i64 k) false).run Tryz.prog w = .ok (gvI K vals k) w := MsL.look h.map h.mv.sl hk
theorem MsL.grown {bM : Nat} {K : List Int} {vals : Int → Value} {w w' : World} (h : MsL bM K vals w) {row : Option Nat} (hg : w.grownBy w' row) (h1 : some bM ≠ row) : MsL bM K vals w' := by
  obtain ⟨D, d1, d2⟩ := h
  exact ⟨D, d1.kept hg h1, d2⟩
/-- A value is laid anew: the rows behind it are those that were, and the new one. -/
theorem MV.store {B : Nat} {K : List Int} {p : Int → List Sp} {vals : Int → Value} {w w2 w3 : World} (h : MV B K p vals w) {k : Int} (hk : okK k) {row bM : Option Nat} (hg : w.grownBy w2 row) (hg3 : w2.grownBy w3 bM) (hnb : ∀ k' ∈ K, (vals k').ownBlock = none ∨ (vals k').ownBlock ≠ bM)
    (hrow : ∀ k' ∈ K, k' ≠ k → (vals k').ownBlock = none ∨ (vals k').ownBlock ≠ row) {q : List Sp} {v : Value} (hv : w2.ownsRow B 188 2 v q.length (q.flatMap encS)) (hvb : v.ownBlock = none ∨ v.ownBlock ≠ bM)
    (hloc : v.ownBlock = none ∨ v.ownBlock = (gvI K vals k).ownBlock ∨ ∀ g, v.ownBlock = some g → w.heap.size ≤ g) : MV B (addI K k) (fun k' => if k' = k then q else p k') (fun k' => if k' = k then v else vals k') w3 := by
  have hvo : v.ownBlock = none ∨ ∀ k' ∈ K, k' ≠ k → (vals k').ownBlock = none ∨ (vals k').ownBlock ≠ v.ownBlock := by
    rcases hloc with hl | hl | hl
    · exact .inl hl
    · by_cases hm : k ∈ K
      · right
        intro k' hk' hne
        rw [hl]
        unfold gvI
        rw [if_pos hm]
        exact h.apart k' hk' k hm hne
      · left
        rw [hl]
        unfold gvI
        rw [if_neg hm]
        rfl
    · right
      intro k' hk' hne
      rcases hb : (vals k').ownBlock with _ | g'
      · exact .inl rfl
      · right
        intro e
        have h1 := (h.vs k' hk').lt g' hb
        have h2 := hl g' e.symm
        omega
  refine ⟨fun k' hk' => ?_, fun a ha b hb hne => ?_, fun k' hk' => ?_, ?_⟩
  · by_cases e : k' = k
    · subst e
      simp only [if_true]
      exact hv.kept hg3 hvb
    · rcases mem_addI.1 hk' with h1 | h1
      · exact absurd h1 e
      · simp only [if_neg e]
        exact ((h.vs k' h1).kept hg (hrow k' h1 e)).kept hg3 (hnb k' h1)
  · by_cases ea : a = k
    · subst ea
      rw [if_pos rfl, if_neg (Ne.symm hne)]
      rcases mem_addI.1 hb with h1 | h1
      · exact absurd h1.symm hne
      · rcases hvo with h2 | h2
        · exact .inl h2
        · rcases own_none_or (v := v) with h4 | h4
          · exact .inl h4
          · rcases h2 b h1 (Ne.symm hne) with h3 | h3
            · exact .inr (fun e => h4 (e.trans h3))
            · exact .inr (fun e => h3 e.symm)
    · rw [if_neg ea]
      rcases mem_addI.1 ha with h1 | h1
      · exact absurd h1 ea
      · by_cases eb : b = k
        · subst eb
          rw [if_pos rfl]
          rcases hvo with h2 | h2
          · rcases own_none_or (v := vals a) with h4 | h4
            · exact .inl h4
            · exact .inr (fun e => h4 (e.trans h2))
          · exact h2 a h1 hne
        · rw [if_neg eb]
          rcases mem_addI.1 hb with h2 | h2
          · exact absurd h2 eb
          · exact h.apart a h1 b h2 hne
  · rcases mem_addI.1 hk' with rfl | h1
    · exact hk
    · exact h.rng k' h1
  · unfold addI
    split
    · exact h.nd
    · rename_i hm
      rw [List.nodup_append]
      refine ⟨h.nd, by simp, fun a ha b hb e => ?_⟩
      rw [List.mem_singleton] at hb
      subst hb; subst e
      exact hm ha
theorem Ms.notmap {B bM : Nat} {K : List Int} {p : Int → List Sp} {vals : Int → Value} {w : World} (h : Ms B bM K p vals w) : ∀ k ∈ K, (vals k).ownBlock = none ∨ (vals k).ownBlock ≠ some bM := fun k hk => .inr fun e => h.not_map (h.mv.vs k hk) e.symm
theorem own_not_map {w : World} {bM n : Nat} {D : DataW Unit} (hm : ownsMS bM n D w) {b m : Nat} {e : TypeId} {s : Nat} {v : Value} {xs : List Value} (ho : w.ownsRow b e s v m xs) : v.ownBlock = none ∨ v.ownBlock ≠ some bM := by
  obtain ⟨es, clock, hb, _⟩ := hm
  rcases ho.2 with ⟨rfl, _⟩ | ⟨g, cap, cur, rfl, _, hg, _⟩
  · exact .inl rfl
  · right
    intro e1
    have : g = bM := by simpa [Value.ownBlock] using e1
    subst this
    rw [hg] at hb
    cases hb
/-- 'm[k] = v', v a row that has grown out of what lay at k, or a new one. -/
theorem Ms.store {B bM : Nat} {K : List Int} {p : Int → List Sp} {vals : Int → Value} {w w2 : World} (h : Ms B bM K p vals w) {k : Int} (hk : okK k) (hn : K.length < maxLen) {row : Option Nat} (hg : w.grownBy w2 row) (hrb : some bM ≠ row)
    (hrow : ∀ k' ∈ K, k' ≠ k → (vals k').ownBlock = none ∨ (vals k').ownBlock ≠ row) {q : List Sp} {v : Value} (hv : w2.ownsRow B 188 2 v q.length (q.flatMap encS))
    (hloc : v.ownBlock = none ∨ v.ownBlock = (gvI K vals k).ownBlock ∨ ∀ g, v.ownBlock = some g → w.heap.size ≤ g) :
    ∃ w3, (Instr.mapUpdate 161 (.map (some bM)) (.int .i64 k) v).run Tryz.prog w2 = .ok () w3 ∧ w2.grownBy w3 (some bM) ∧ Ms B bM (addI K k) (fun k' => if k' = k then q else p k') (fun k' => if k' = k then v else vals k') w3 := by
  obtain ⟨D, d1, d2⟩ := h.map
  have d3 := d1.kept hg hrb
  obtain ⟨w3, hrun, o3, g3⟩ := d3.update lawIS Tryz.underlying161 hn (keyI hk) (slD_own hv)
  refine ⟨w3, hrun, g3, ⟨D.put (.int .i64 k) (slE v), ?_, d2.put d1.isMap (d1.tidy lawIS) hk v⟩, h.mv.store hk hg g3 h.notmap hrow hv (own_not_map d3 hv) hloc⟩
  have hsz := (d2.put d1.isMap (d1.tidy lawIS) hk v).size
  obtain ⟨es, clock, hb, F, hs, hD⟩ := o3
  refine ⟨es, clock, hb, F, ?_, hD⟩
  rw [← hsz, hD, Maps.size_eq, length_sorted]
  simp
/-- 'm[k] = v' at a key that is there, while a range over m is under way. -/
theorem Mr.store {B bM r : Nat} {K : List Int} {p : Int → List Sp} {vals : Int → Value} {left : Lit → Bool} {cnt : Nat} {w w2 : World} (h : Mr B bM r K p vals left cnt w) {k : Int} (hm : k ∈ K) (hn : K.length < maxLen) (hb : Below w.heap.size w w2) {q : List Sp} {v : Value} (hv : w2.ownsRow w.heap.size 188 2 v q.length (q.flatMap encS)) (hB : B ≤ w.heap.size) :
    ∃ w3, (Instr.mapUpdate 161 (.map (some bM)) (.int .i64 k) v).run Tryz.prog w2 = .ok () w3 ∧ w2.grownBy w3 (some bM) ∧ w3.heap.size = w2.heap.size ∧ Mr B bM r K (fun k' => if k' = k then q else p k') (fun k' => if k' = k then v else vals k') left cnt w3 := by
  have hk := h.mv.rng k hm
  have hg := below_grow hb
  obtain ⟨D, d1, d2⟩ := h.map
  have d3 := d1.kept hg (by simp) (by simp)
  obtain ⟨w3, hrun, o3, g3, s3⟩ := ranges_store d3 lawIS Tryz.underlying161 hn (keyI hk) ⟨_, d2.at' k hm⟩ (slD_own hv)
  have e : addI K k = K := by unfold addI; rw [if_pos hm]
  have hp := d2.put d1.owns.isMap (d1.owns.tidy lawIS) hk v
  have hmv := h.mv.store (v := v) hk hg g3 h.ms.notmap (fun k' hk' _ => own_none_or) (own_base hv hB) (own_not_map d3.owns hv) (.inr (.inr fun g hgv => (hv.lt g hgv).1))
  rw [e] at hp hmv
  exact ⟨w3, hrun, g3, s3, ⟨_, o3, hp⟩, hmv⟩
theorem key_left {K : List Int} {vals : Int → Value} {D : DataW Unit} {w : World} {bM r n cnt : Nat} {left : Lit → Bool} (h : w.ranges Tryz.prog 3 slD bM r n D left cnt) (hd : MD K vals D) {x : Int} {kl : Lit} {y : DataW Unit × List MemPlace} (hk : keyOf Tryz.prog 3 (.int .i64 x) = some kl) (hat : ∀ zd, D.atKey kl zd = y.1) : kl = .int .i64 x ∧ x ∈ K := by
  obtain ⟨x', e1, rfl, hw⟩ := Maps.keyOf_int_inv Tryz.underlying3 hk
  injection e1 with _ e1
  subst e1
  refine ⟨rfl, ?_⟩
  rw [← hd.has_iff]
  cases hh : Maps.has D (.int .i64 x)
  · have e1 := hat (.map [])
    have e2 := hat .nil
    rw [atKey_of_not_has hh] at e1 e2
    rw [← e2] at e1
    cases e1
  · rfl
/-- The step of a range over such a map, at the operation. -/
theorem wpList_next_ms {w : World} {ops : Array Oper} {rest : List Oper} {o : Oper} {a : Act} {Q : Exit → Act → World → Prop} (hg : o.guard = none) (it : Operand) (hop : o.op = Op.next it false) {B bM r : Nat} {K : List Int} {p : Int → List Sp} {vals : Int → Value} {left : Lit → Bool} {cnt : Nat}
    (hit : a.eval it = .pointer (some ⟨r, 0, none⟩)) (h : Mr B bM r K p vals left cnt w)
    (hDone : cnt = 0 → (∀ kl, left kl = false) → wpList Tryz.prog ops Q rest (a.put o.dst (.tuple #[.bool false])) w)
    (hMore : ∀ (x : Int) (w' : World) (cnt' : Nat), x ∈ K → left (.int .i64 x) = true → Mr B bM r K p vals (fun z => left z && !z.sameKey (.int .i64 x)) cnt' w' → cnt' < cnt → w.grownBy w' (some r) → w'.heap.size = w.heap.size → (Instr.entry (.pointer (some ⟨r, 0, none⟩))).run Tryz.prog w' = .ok (.tuple #[.int .i64 x, vals x]) w' →
      wpList Tryz.prog ops Q rest (a.put o.dst (.tuple #[.bool true, .int .i64 x, vals x])) w') : wpList Tryz.prog ops Q (o :: rest) a w := by
  obtain ⟨D, d1, d2⟩ := h.map
  refine wpList_next_ranges w hg it hop 3 lawIS slD (Value.int .i64) id (fun key kl hkey => by obtain ⟨x, rfl, _⟩ := Maps.keyOf_int_inv Tryz.underlying3 hkey; exact ⟨x, rfl⟩) (fun v y hv => ⟨v, rfl⟩) bM r K.length D left cnt hit d1 hDone ?_
  intro x c kl y w' cnt' hkey hlk hR hat hrg hlt hgr hsz hen
  obtain ⟨rfl, hx⟩ := key_left d1 d2 hkey hat
  have hy := slD_inv hR
  have hc : c = vals x := by
    refine slD_inj (q := []) (hR.trans (by rw [hy])) (p := []) ?_
    rw [h.mv.sl x hx, ← d2.at' x hx .nil, hat, hy]
  subst hc
  refine hMore x w' cnt' hx hlk ⟨⟨D, hrg, d2⟩, h.mv.grown hgr fun k hk => ?_⟩ hlt hgr hsz hen
  rcases hb : (vals k).ownBlock with _ | g
  · exact .inl rfl
  · right
    intro e
    have e2 : g = r := by simpa using e
    subst e2
    obtain ⟨es, clock, since, seen, c0, _, _, _, _, hr, _⟩ := d1
    rcases (h.mv.vs k hk).2 with ⟨e3, _⟩ | ⟨g', cap, cur, e3, _, hh, _⟩
    · rw [e3] at hb; simp [Value.ownBlock] at hb
    · rw [e3] at hb
      have : g' = g := by simpa [Value.ownBlock] using hb
      subst this
      rw [hh] at hr
      cases hr
/-- 'range m' over such a map, at the operation. -/
theorem wpList_range_ms {w : World} {ops : Array Oper} {rest : List Oper} {o : Oper} {a : Act} {Q : Exit → Act → World → Prop} (hg : o.guard = none) (m : Operand) (hop : o.op = Op.range 161 m) {B bM : Nat} {K : List Int} {p : Int → List Sp} {vals : Int → Value}
    (hm : a.eval m = .map (some bM)) (h : Ms B bM K p vals w)
    (hK : ∀ w' left, Mr B bM w.heap.size K p vals left K.length w' → (∀ x ∈ K, left (.int .i64 x) = true) → w.grownBy w' none → w'.heap.size = w.heap.size + 1 → wpList Tryz.prog ops Q rest (a.put o.dst (.pointer (some ⟨w.heap.size, 0, none⟩))) w') : wpList Tryz.prog ops Q (o :: rest) a w := by
  obtain ⟨D, d1, d2⟩ := h.map
  refine wpList_range_own w hg m _ hop 3 _ lawIS Tryz.underlying161 slD bM K.length D hm d1 fun w' hr hgr hs => ?_
  refine hK w' _ ⟨⟨D, by rw [← d2.size]; rw [d2.size]; exact (d2.size ▸ hr), d2⟩, h.mv.grown hgr fun k hk => own_none_or⟩ (fun x hx => d2.has_iff.2 hx) hgr hs
end Go.Proofs.YtdolpeljengpaaaGreat

/- Plain: networks of segments along the axes: unit lines, nodes, edges; the edges to the left and down are those to the right and up. No Go in sight. -/
namespace Go.Proofs.YtdolpeljengpaaaGreat
set_option linter.unusedVariables false
set_option linter.unusedSimpArgs false

abbrev Pt := Int × Int
structure Sg where
  ax : Int
  ay : Int
  cx : Int
  cy : Int
deriving DecidableEq
def finS (x : Int) : Prop := -1000000 ≤ x ∧ x ≤ 1000000
instance (x : Int) : Decidable (finS x) := by unfold finS; infer_instance
/-- A segment: along an axis, not empty, in range. -/
def okSg (s : Sg) : Prop := (finS s.ax ∧ finS s.ay ∧ finS s.cx ∧ finS s.cy) ∧ ((s.ax = s.cx) ↔ ¬ (s.ay = s.cy))
instance (s : Sg) : Decidable (okSg s) := by unfold okSg; infer_instance
def rowSp (l : List Sg) (y : Int) : List Sp := (l.filter fun s => decide (s.ay = s.cy) && decide (s.ay = y)).map fun s => (min s.ax s.cx, max s.ax s.cx)
def colSp (l : List Sg) (x : Int) : List Sp := (l.filter fun s => !decide (s.ay = s.cy) && decide (s.ax = x)).map fun s => (min s.ay s.cy, max s.ay s.cy)
/-- The unit line to the right of (x, y); the one upwards. -/
def htB (l : List Sg) (x y : Int) : Bool := decide (smem (rowSp l y) x)
def vtB (l : List Sg) (x y : Int) : Bool := decide (smem (colSp l x) y)
def nodeG (h v : Int → Int → Bool) (p : Pt) : Bool := !((h p.1 p.2 == h (p.1 - 1) p.2) && (v p.1 p.2 == v p.1 (p.2 - 1)) && !(h p.1 p.2 && v p.1 p.2))
def ptLt (a b : Pt) : Prop := a.1 < b.1 ∨ a.1 = b.1 ∧ a.2 < b.2
instance (a b : Pt) : Decidable (ptLt a b) := by unfold ptLt; infer_instance
def xsOf (l : List Sg) : List Int := l.flatMap fun s => [s.ax, s.cx]
def ysOf (l : List Sg) : List Int := l.flatMap fun s => [s.ay, s.cy]
def nodesF (l : List Sg) : List Pt := ((isortI (xsOf l)).flatMap fun x => (isortI (ysOf l)).map fun y => (x, y)).filter (nodeG (htB l) (vtB l))
theorem row_mem {l : List Sg} {x y : Int} : htB l x y = true ↔ ∃ s ∈ l, s.ay = s.cy ∧ s.ay = y ∧ min s.ax s.cx ≤ x ∧ x < max s.ax s.cx := by
  unfold htB
  rw [decide_eq_true_eq]
  unfold smem rowSp
  constructor
  · rintro ⟨p, hp, h1, h2⟩
    obtain ⟨s, hs, rfl⟩ := List.mem_map.1 hp
    rw [List.mem_filter] at hs
    simp only [Bool.and_eq_true, decide_eq_true_eq] at hs
    exact ⟨s, hs.1, hs.2.1, hs.2.2, h1, h2⟩
  · rintro ⟨s, hs, h1, h2, h3, h4⟩
    exact ⟨_, List.mem_map.2 ⟨s, List.mem_filter.2 ⟨hs, by simp [h1, h2]; omega⟩, rfl⟩, h3, h4⟩
theorem col_mem {l : List Sg} {x y : Int} : vtB l x y = true ↔ ∃ s ∈ l, ¬ s.ay = s.cy ∧ s.ax = x ∧ min s.ay s.cy ≤ y ∧ y < max s.ay s.cy := by
  unfold vtB
  rw [decide_eq_true_eq]
  unfold smem colSp
  constructor
  · rintro ⟨p, hp, h1, h2⟩
    obtain ⟨s, hs, rfl⟩ := List.mem_map.1 hp
    rw [List.mem_filter] at hs
    simp only [Bool.and_eq_true, Bool.not_eq_true', decide_eq_false_iff_not, decide_eq_true_eq] at hs
    exact ⟨s, hs.1, hs.2.1, hs.2.2, h1, h2⟩
  · rintro ⟨s, hs, h1, h2, h3, h4⟩
    exact ⟨_, List.mem_map.2 ⟨s, List.mem_filter.2 ⟨hs, by simp [h1, h2]⟩, rfl⟩, h3, h4⟩
theorem ptLt_trans {a b c : Pt} (h1 : ptLt a b) (h2 : ptLt b c) : ptLt a c := by unfold ptLt at *; omega
theorem ptLt_irrefl (a : Pt) : ¬ ptLt a a := by unfold ptLt; omega
theorem ptLt_tri (a b : Pt) : ptLt a b ∨ a = b ∨ ptLt b a := by
  obtain ⟨a1, a2⟩ := a
  obtain ⟨b1, b2⟩ := b
  unfold ptLt
  simp only [Prod.mk.injEq]
  omega
/-- Sorted lists with the same entries are one. -/
theorem sorted_ext {α : Type} {R : α → α → Prop} (hi : ∀ a, ¬ R a a) (ht : ∀ a b c, R a b → R b c → R a c) : ∀ {l m : List α}, l.Pairwise R → m.Pairwise R → (∀ x, x ∈ l ↔ x ∈ m) → l = m
  | [], [], _, _, _ => rfl
  | [], b :: m, _, _, h => absurd ((h b).2 (by simp)) (by simp)
  | a :: l, [], _, _, h => absurd ((h a).1 (by simp)) (by simp)
  | a :: l, b :: m, h1, h2, h => by
    obtain ⟨p1, p2⟩ := List.pairwise_cons.1 h1
    obtain ⟨q1, q2⟩ := List.pairwise_cons.1 h2
    have hab : a = b := by
      rcases List.mem_cons.1 ((h a).1 (by simp)) with e | e
      · exact e
      · rcases List.mem_cons.1 ((h b).2 (by simp)) with e2 | e2
        · exact e2.symm
        · exact absurd (ht _ _ _ (q1 a e) (p1 b e2)) (hi b)
    subst hab
    rw [sorted_ext hi ht p2 q2 fun x => ?_]
    have hx := h x
    simp only [List.mem_cons] at hx
    constructor
    · intro hm
      rcases hx.1 (.inr hm) with e | e
      · subst e; exact absurd (p1 x hm) (hi x)
      · exact e
    · intro hm
      rcases hx.2 (.inr hm) with e | e
      · subst e; exact absurd (q1 x hm) (hi x)
      · exact e
theorem node_in {l : List Sg} (hv : ∀ s ∈ l, okSg s) {x y : Int} (h : nodeG (htB l) (vtB l) (x, y) = true) : x ∈ xsOf l ∧ y ∈ ysOf l ∧ ((∃ s ∈ l, (s.ax = x ∧ s.ay = y) ∨ (s.cx = x ∧ s.cy = y)) ∨ ∃ s ∈ l, ∃ t ∈ l, s.ax = x ∧ t.ay = y) := by
  have mx : ∀ s ∈ l, s.ax ∈ xsOf l ∧ s.cx ∈ xsOf l := fun s hs => ⟨List.mem_flatMap.2 ⟨s, hs, by simp⟩, List.mem_flatMap.2 ⟨s, hs, by simp⟩⟩
  have my : ∀ s ∈ l, s.ay ∈ ysOf l ∧ s.cy ∈ ysOf l := fun s hs => ⟨List.mem_flatMap.2 ⟨s, hs, by simp⟩, List.mem_flatMap.2 ⟨s, hs, by simp⟩⟩
  -- the ends of a row's line
  have rowE : ∀ s ∈ l, s.ay = s.cy → s.ay = y → (s.ax = x ∨ s.cx = x) → x ∈ xsOf l ∧ y ∈ ysOf l ∧ ((∃ s ∈ l, (s.ax = x ∧ s.ay = y) ∨ (s.cx = x ∧ s.cy = y)) ∨ ∃ s ∈ l, ∃ t ∈ l, s.ax = x ∧ t.ay = y) := fun s hs e1 e2 e3 => by
    rcases e3 with e3 | e3
    · exact ⟨e3 ▸ (mx s hs).1, e2 ▸ (my s hs).1, .inl ⟨s, hs, .inl ⟨e3, e2⟩⟩⟩
    · exact ⟨e3 ▸ (mx s hs).2, e2 ▸ (my s hs).1, .inl ⟨s, hs, .inr ⟨e3, e1 ▸ e2⟩⟩⟩
  have colE : ∀ s ∈ l, ¬ s.ay = s.cy → s.ax = x → (s.ay = y ∨ s.cy = y) → x ∈ xsOf l ∧ y ∈ ysOf l ∧ ((∃ s ∈ l, (s.ax = x ∧ s.ay = y) ∨ (s.cx = x ∧ s.cy = y)) ∨ ∃ s ∈ l, ∃ t ∈ l, s.ax = x ∧ t.ay = y) := fun s hs e1 e2 e3 => by
    have e4 : s.ax = s.cx := (hv s hs).2.2 e1
    rcases e3 with e3 | e3
    · exact ⟨e2 ▸ (mx s hs).1, e3 ▸ (my s hs).1, .inl ⟨s, hs, .inl ⟨e2, e3⟩⟩⟩
    · exact ⟨e2 ▸ (mx s hs).1, e3 ▸ (my s hs).2, .inl ⟨s, hs, .inr ⟨e4 ▸ e2, e3⟩⟩⟩
  unfold nodeG at h
  simp only at h
  cases a0 : htB l x y <;> cases a2 : htB l (x - 1) y <;> cases a1 : vtB l x y <;> cases a3 : vtB l x (y - 1) <;> rw [a0, a1, a2, a3] at h <;> (first | (exact absurd h (by decide)) | skip)
  all_goals first
    | (obtain ⟨s, hs, b1, b2, b3, b4⟩ := row_mem.1 a0
       have hno : ¬ (min s.ax s.cx ≤ x - 1 ∧ x - 1 < max s.ax s.cx) := fun hh => by
         rw [row_mem.2 ⟨s, hs, b1, b2, hh.1, hh.2⟩] at a2; exact Bool.noConfusion a2
       exact rowE s hs b1 b2 (by omega))
    | (obtain ⟨s, hs, b1, b2, b3, b4⟩ := row_mem.1 a2
       have hno : ¬ (min s.ax s.cx ≤ x ∧ x < max s.ax s.cx) := fun hh => by
         rw [row_mem.2 ⟨s, hs, b1, b2, hh.1, hh.2⟩] at a0; exact Bool.noConfusion a0
       exact rowE s hs b1 b2 (by omega))
    | (obtain ⟨s, hs, b1, b2, b3, b4⟩ := col_mem.1 a1
       have hno : ¬ (min s.ay s.cy ≤ y - 1 ∧ y - 1 < max s.ay s.cy) := fun hh => by
         rw [col_mem.2 ⟨s, hs, b1, b2, hh.1, hh.2⟩] at a3; exact Bool.noConfusion a3
       exact colE s hs b1 b2 (by omega))
    | (obtain ⟨s, hs, b1, b2, b3, b4⟩ := col_mem.1 a3
       have hno : ¬ (min s.ay s.cy ≤ y ∧ y < max s.ay s.cy) := fun hh => by
         rw [col_mem.2 ⟨s, hs, b1, b2, hh.1, hh.2⟩] at a1; exact Bool.noConfusion a1
       exact colE s hs b1 b2 (by omega))
    | (obtain ⟨s, hs, b1, b2, b3, b4⟩ := row_mem.1 a0
       obtain ⟨t, ht, c1, c2, c3, c4⟩ := col_mem.1 a1
       exact ⟨c2 ▸ (mx t ht).1, b2 ▸ (my s hs).1, .inr ⟨t, ht, s, hs, c2, b2⟩⟩)
theorem nodesF_ok {l : List Sg} (hv : ∀ s ∈ l, okSg s) : (nodesF l).Pairwise ptLt ∧ ∀ p, p ∈ nodesF l ↔ nodeG (htB l) (vtB l) p = true := by
  constructor
  · unfold nodesF
    refine List.Pairwise.filter _ ?_
    rw [List.pairwise_flatMap]
    refine ⟨fun x _ => ?_, ?_⟩
    · rw [List.pairwise_map]
      exact (isortI_sorted _).imp fun h => .inr ⟨rfl, h⟩
    · refine (isortI_sorted _).imp fun {a b} h p hp q hq => ?_
      obtain ⟨_, _, rfl⟩ := List.mem_map.1 hp
      obtain ⟨_, _, rfl⟩ := List.mem_map.1 hq
      exact .inl h
  · intro p
    unfold nodesF
    rw [List.mem_filter]
    refine ⟨fun h => h.2, fun h => ⟨?_, h⟩⟩
    obtain ⟨x, y⟩ := p
    obtain ⟨h1, h2, _⟩ := node_in hv h
    exact List.mem_flatMap.2 ⟨x, (mem_isortI _ _).2 h1, List.mem_map.2 ⟨y, (mem_isortI _ _).2 h2, rfl⟩⟩
theorem nodes_ext {l m : List Sg} (hl : ∀ s ∈ l, okSg s) (hm : ∀ s ∈ m, okSg s) (h1 : ∀ x y, htB l x y = htB m x y) (h2 : ∀ x y, vtB l x y = vtB m x y) : nodesF l = nodesF m := by
  obtain ⟨p1, p2⟩ := nodesF_ok hl
  obtain ⟨q1, q2⟩ := nodesF_ok hm
  refine sorted_ext ptLt_irrefl (fun _ _ _ => ptLt_trans) p1 q1 fun p => ?_
  rw [p2, q2, show htB l = htB m from funext fun x => funext fun y => h1 x y, show vtB l = vtB m from funext fun x => funext fun y => h2 x y]
/-- Far away there are no lines. -/
theorem row_far {l : List Sg} (hv : ∀ s ∈ l, okSg s) {x y : Int} (h : x < -1000000 ∨ 1000000 ≤ x) : htB l x y = false := by
  cases e : htB l x y
  · rfl
  · obtain ⟨s, hs, _, _, h3, h4⟩ := row_mem.1 e
    obtain ⟨⟨⟨_, _⟩, ⟨_, _⟩, ⟨_, _⟩, _, _⟩, _⟩ := hv s hs
    omega
theorem col_far {l : List Sg} (hv : ∀ s ∈ l, okSg s) {x y : Int} (h : y < -1000000 ∨ 1000000 ≤ y) : vtB l x y = false := by
  cases e : vtB l x y
  · rfl
  · obtain ⟨s, hs, _, _, h3, h4⟩ := col_mem.1 e
    obtain ⟨⟨⟨_, _⟩, ⟨_, _⟩, ⟨_, _⟩, _, _⟩, _⟩ := hv s hs
    omega
/-- What is no node goes straight on. -/
theorem node_no {h v : Int → Int → Bool} {x y : Int} (hn : nodeG h v (x, y) = false) : h x y = h (x - 1) y ∧ v x y = v x (y - 1) := by
  unfold nodeG at hn
  simp only [Bool.not_eq_false', Bool.and_eq_true, beq_iff_eq] at hn
  exact hn.1
theorem row_on {h v : Int → Int → Bool} {y x0 : Int} : ∀ (n : Nat), (∀ x, x0 < x → x ≤ x0 + n → nodeG h v (x, y) = false) → h (x0 + n) y = h x0 y
  | 0, _ => by rw [show x0 + ((0 : Nat) : Int) = x0 by omega]
  | n + 1, hn => by
    have ih := row_on n fun x a b => hn x a (by omega)
    have := (node_no (hn (x0 + ((n + 1 : Nat) : Int)) (by omega) (by omega))).1
    rw [show x0 + ((n + 1 : Nat) : Int) - 1 = x0 + n by omega] at this
    rw [this, ih]
theorem col_on {h v : Int → Int → Bool} {x y0 : Int} : ∀ (n : Nat), (∀ y, y0 < y → y ≤ y0 + n → nodeG h v (x, y) = false) → v x (y0 + n) = v x y0
  | 0, _ => by rw [show y0 + ((0 : Nat) : Int) = y0 by omega]
  | n + 1, hn => by
    have ih := col_on n fun x a b => hn x a (by omega)
    have := (node_no (hn (y0 + ((n + 1 : Nat) : Int)) (by omega) (by omega))).2
    rw [show y0 + ((n + 1 : Nat) : Int) - 1 = y0 + n by omega] at this
    rw [this, ih]
theorem row_to {h v : Int → Int → Bool} {y x0 x1 : Int} (hle : x0 ≤ x1) (hn : ∀ x, x0 < x → x ≤ x1 → nodeG h v (x, y) = false) : h x1 y = h x0 y := by
  have := row_on (h := h) (v := v) (y := y) (x0 := x0) (x1 - x0).toNat fun x a b => hn x a (by omega)
  rwa [show x0 + ((x1 - x0).toNat : Int) = x1 by omega] at this
theorem col_to {h v : Int → Int → Bool} {x y0 y1 : Int} (hle : y0 ≤ y1) (hn : ∀ y, y0 < y → y ≤ y1 → nodeG h v (x, y) = false) : v x y1 = v x y0 := by
  have := col_on (h := h) (v := v) (x := x) (y0 := y0) (y1 - y0).toNat fun x a b => hn x a (by omega)
  rwa [show y0 + ((y1 - y0).toNat : Int) = y1 by omega] at this
end Go.Proofs.YtdolpeljengpaaaGreat
