/- Outlines: the reference's Loops. -/
import Derived.Test.YtdfpbhlnlkjjlaaGreatXtoK
import Derived.Test.YtdfpbhlnlkjjlaaGreatOujEK
import Derived.Test.YtdfpbhlnlkjjlaaGreatOutKK
import Derived.Test.YtdfpbhlnlkjjlaaGreatLookHK
import Derived.Test.YtdfpbhlnlkjjlaaGreatCopyNK
import Derived.Deep.QuietTactic
import Derived.BigQuiet
import Derived.StillTactics
import Derived.Deep.CutBlock
namespace Go.Proofs.YtdfpbhlnlkjjlaaGreat
open Go.RowKit
set_option linter.unusedVariables false
set_option linter.unusedSimpArgs false
theorem snw_of {ZC : Array Value} (hs : ZC.size = 78401) (hz : ∀ k, 1 ≤ k → k < 78401 → ZC[k]? = some (.bool false)) (w : World) (v : Value) (t : TypeId) : SnW (w.alloc (.cells (ZC.setIfInBounds 0 v) t)) w.heap.size v (snU fun _ => false) := by
 have key : ∀ j u, (ZC.setIfInBounds 0 v)[j]? = some u → (w.alloc (.cells (ZC.setIfInBounds 0 v) t)).cell? ⟨w.heap.size, j, none⟩ = some u := fun j u hu => by
  have := World.news_of_block (heap_alloc_new w (.cells (ZC.setIfInBounds 0 v) t)) j u (by rw [Array.getElem?_toList]; exact hu)
  rwa [addr_add] at this
 refine ⟨by simp, key 0 v ?_, fun d i j a b c => key _ _ ?_, fun d i j a b c => by simp [go_sem]⟩
 ·rw [Array.getElem?_setIfInBounds_self, if_pos (by rw [hs]; omega)]
 ·rw [Array.getElem?_setIfInBounds_ne (by unfold seenAt; omega)]
  exact hz _ (by unfold seenAt; omega) (by unfold seenAt; omega)
theorem snw_new (w : World) (v : Value) (t : TypeId) : SnW (w.alloc (.cells (Tryz.zeroCells128.setIfInBounds 0 v) t)) w.heap.size v (snU fun _ => false) := snw_of Tryz.zeroCells128_size zc_trace w v t
theorem infoLpT : (Tryz.prog.info? 36).map (fun i => (i.zero, i.size, i.bytes)) = some (some (.slice none 0 0), 1, 24) := by kernel_rfl
theorem addU_same {U : Un → Bool} {v : Un} (h : U v = true) : addU U v = U := by
 funext z
 unfold addU
 by_cases e : z = v
 ·rw [e, h]; rfl
 ·rw [decide_eq_false e, Bool.or_false]
theorem bgn_hull {l : List R4} {h : R4} (hh : IsHull l h) {z : Un} (hz : bgn (setR l) z) : (h.x0 ≤ z.1.1 ∧ z.1.1 ≤ h.x1) ∧ h.y0 ≤ z.1.2 ∧ z.1.2 ≤ h.y1 := by
 have h1 : pmem l (lc z).1 (lc z).2 := of_decide_eq_true hz.1
 obtain ⟨r, hr, a1, a2, a3, a4⟩ := h1
 have h2 := hh.b r hr
 obtain ⟨⟨zx, zy⟩, d⟩ := z
 cases d <;> simp only [lc] at a1 a2 a3 a4 ⊢ <;> omega
theorem own_copiedO {w w' : World} {base : Nat} {e t : TypeId} {g n cap off size : Nat} {xs cs cur : List Value} (h : w.ownsRow base e size (.slice (some ⟨g, 0, none⟩) n cap) n xs) (hg : w.heap[g]? = some (.cells cur.toArray t (0, 0))) (hg' : w'.heap[g]? = some (.cells (splice cur off cs).toArray t (0, 0))) (hfit : off + cs.length ≤ n * size) :
  w'.ownsRow base e size (.slice (some ⟨g, 0, none⟩) n cap) n (splice xs off cs) := by
 rcases h.2 with ⟨e0, _⟩ | ⟨g', cap', cur', e0, hb, hh, hn, hm, hs, ht⟩
 ·cases e0
 ·injection e0 with e1 _ e3
  injection e1 with e1
  injection e1 with e1
  subst e1; subst e3
  rw [hg] at hh
  injection hh with hh
  injection hh with h1 h2
  subst h1; subst h2
  have hl : cur.length = cap * size := by simpa using hs
  have hx := h.1
  have hcap : n * size ≤ cap * size := Nat.mul_le_mul_right _ hn
  refine ⟨by rw [length_splice _ _ _ (by omega)]; exact hx, .inr ⟨g, cap, _, rfl, hb, hg', hn, hm, by rw [List.size_toArray, length_splice _ _ _ (by omega)]; omega, ?_⟩⟩
  rw [splice_take _ _ _ _ hfit]
  rw [← ht]
theorem ins_cells {α : Type} {vs : List α} {a : Nat} (z v : α) (ha : a ≤ vs.length) : (splice (vs ++ [z]) (a + 1) (vs.drop a)).set a v = vs.take a ++ v :: vs.drop a := by
 have e1 : (vs ++ [z]).drop (a + 1 + (vs.drop a).length) = [] := List.drop_eq_nil_of_le (by simp; omega)
 obtain ⟨x, hx⟩ : ∃ x, (vs ++ [z])[a]? = some x := ⟨_, List.getElem?_eq_getElem (by simp; omega)⟩
 have e2 : (vs ++ [z]).take (a + 1) = vs.take a ++ [x] := by
  rw [List.take_add_one, hx, List.take_append_of_le_length ha]
  rfl
 unfold splice
 rw [e1, e2, List.append_nil, List.append_assoc, List.set_append_right _ _ (by rw [List.length_take]; omega)]
 have e3 : a - (vs.take a).length = 0 := by rw [List.length_take]; omega
 rw [e3]
 rfl
theorem cyc_le {S : Cs} (hM : bdC S 60) {u : Un} {n : Nat} (hc : Cyc S u n) : n ≤ 1000000 := by
 have h1 : (pthU S u n).Nodup := by
  unfold pthU
  rw [List.Nodup, List.pairwise_iff_getElem]
  intro i j hi hj hij
  simp only [List.getElem_map, List.getElem_range]
  rw [List.length_map, List.length_range] at hj
  exact hc.apart i j hij hj
 have h2 := nodup_len h1 (m := allU 60) fun x hx => by
  obtain ⟨k, _, rfl⟩ := mem_pthU.1 hx
  exact in_allU hM (itU_bgn hc.beg k)
 have h3 : (pthU S u n).length = n := by unfold pthU; rw [List.length_map, List.length_range]
 have h4 : (allU 60).length ≤ 1000000 := by decide +kernel
 omega
theorem Wrote.mem {S : Cs} {vs : List (Un × Nat)} {L : List (List Pt)} (hw : Wrote S vs L) : ∀ b ∈ L, ∃ q ∈ vs, isTurned (cnr S q.1 q.2) b := by
 induction hw with
 | nil => intro b hb; cases hb
 | cons h1 _ ih =>
  intro b hb
  rcases List.mem_cons.1 hb with rfl | hb
  ·exact ⟨_, List.mem_cons_self, h1⟩
  ·obtain ⟨q, hq, h⟩ := ih b hb
   exact ⟨q, List.mem_cons_of_mem _ hq, h⟩
theorem LsP.small {S : Cs} {U : Un → Bool} {K : List (List Pt)} {X Y : Int} {W : Nat} (h : LsP S U K X Y W) (hM : bdC S 60) : ∀ b ∈ K, b.length ≤ 1000000 := by
 intro b hb
 obtain ⟨vs, L, h1, _, _, h4, h5, _⟩ := h.ex
 obtain ⟨q, hq, i, hi, rfl⟩ := h4.mem b (h5.mem_iff.1 hb)
 have h2 := cyc_le hM (h1 q hq)
 have h3 := cnr_len S q.1 q.2
 rw [List.length_append, List.length_drop, List.length_take]
 omega
set_option maxRecDepth 100000 in
set_option maxHeartbeats 16000000 in
open Classical in
theorem rLoops13_any {w : World} {v : Value} {l : List R4} (hr : RdK encR 4 w w.heap.size v l) (hk : checkF l = 0) (hb0 : ∀ r ∈ l, -30 ≤ r.x0 ∧ -30 ≤ r.y0 ∧ r.x1 ≤ 30 ∧ r.y1 ≤ 30) :
  Calls Tryz.prog 44 #[v] w fun e w' => ∃ A c K, e = .returned (.slice A K.length c) ∧ Outl (setR l) K ∧ RdPs w' w'.heap.size (.slice A K.length c) K ∧ Below w.heap.size w w' := by
 obtain ⟨i1, gi, gz0, gz1, gz2⟩ := info_parts infoLpT
 have hl4 := (checkF_ok hk).1
 have HR := hide hr
 have HL : Hid (l.length ≤ 100000000) := hide (by omega)
 have HBD : Hid (bdC (setR l) 60) := hide (setR_bd fun t ht => by have := hb0 t ht; omega)
 obtain ⟨A0, c0, rfl, _⟩ := hr
 rename_i hrr
 clear hrr
 by_cases hne : l = []
 ·have HH : Hid (hullF l = (⟨0, 0, 0, 0⟩, 6)) := hide (by unfold hullF; rw [if_pos hk, if_pos hne])
  have HO : Hid (Outl (setR l) []) := hide (by rw [hne]; exact none_outl)
  have GH := hide (fun (W : World) (hr : RdK encR 4 W W.heap.size (.slice A0 l.length c0) l) => (rHull_any hr HL.out).mono (R' := fun e w' => e = .returned (.tuple #[.agg #[.int .i64 0, .int .i64 0, .int .i64 0, .int .i64 0], .int .i64 6]) ∧ Below W.heap.size W w') (by
   rintro e w' ⟨rfl, hb⟩
   rw [HH.out]
   exact ⟨rfl, hb⟩))
  clear hne hb0 hk hl4
  go_enter Tryz.func44, Tryz.ntmps44
  go_upto_region 2 with fail
  refine wp_name fun w1 hw1 => ?_
  have hb1 : Below w.heap.size w w1 := by rw [hw1]; exact (Below.refl _ _).alloc (Nat.le_refl _) _
  have HB1 := hide hb1
  have HR1 := hide ((HR.out.below hb1).mono hb1.size)
  clear hw1 hb1
  go_wp2_with (fail)
  refine (GH.out _ HR1.out).mono ?_
  rintro e w2 ⟨rfl, hb2⟩
  have HB2 := hide (HB1.out.trans (hb2.mono HB1.out.size))
  clear hb2
  have hs2 := HB2.out.size
  go_upto_region 5 with fail
  refine wp_name fun w3 hw3 => ?_
  have hb3 : Below w2.heap.size w2 w3 := by
   rw [hw3]
   repeat (first | with_reducible exact Below.refl _ _ | with_reducible refine Below.setCell ?_ (by first | (simp; done) | (simp; omega)) _ | with_reducible refine Below.alloc ?_ (by first | omega | (simp; omega) | simp) _)
  have h0 : w3.cell? ⟨w2.heap.size, 2, none⟩ = some (.int .i64 0) := by rw [hw3]; simp [go_sem]
  have hlt : w2.heap.size < w3.heap.size := by rw [hw3]; simp
  have HB3 := hide (HB2.out.trans (hb3.mono HB2.out.size))
  have HB4 := hide HB3.out.drew
  clear hw3 hb3 HB2
  go_loopw [4, 7] (fun ov xv wr => ov = .slice none 0 0 ∧ xv = .int .i64 0 ∧ Hid (Below w.heap.size w wr) ∧ Hid (wr.cell? ⟨w2.heap.size, 2, none⟩ = some (.int .i64 0))) (fun _ _ _ => 0)
  case atStart => exact ⟨rfl, rfl, HB3, hide h0⟩
  case round =>
   clear h0
   obtain ⟨rfl, rfl, HB, H0⟩ := hrel
   have h0 := H0.out
   go_wp2
   go_ret
   exact ⟨none, 0, [], rfl, HO.out, ⟨none, 0, rfl, fun h => absurd rfl h⟩, HB.out⟩
 ·have HH : Hid (hullF l = (hullL l, 0)) := hide (by unfold hullF; rw [if_pos hk, if_neg hne])
  have HIS := hide (hullL_ok hne)
  obtain ⟨h, hhd⟩ : ∃ h, hullL l = h := ⟨_, rfl⟩
  rw [hhd] at HH HIS
  have hhb : (-30 ≤ h.x0 ∧ h.x1 ≤ 30) ∧ -30 ≤ h.y0 ∧ h.y1 ≤ 30 := by
   obtain ⟨⟨r0, q0, e0⟩, ⟨r1, q1, e1⟩, ⟨r2, q2, e2⟩, ⟨r3, q3, e3⟩, _⟩ := HIS.out
   have := hb0 r0 q0
   have := hb0 r1 q1
   have := hb0 r2 q2
   have := hb0 r3 q3
   omega
  have HHU := hide (fun z (hz : bgn (setR l) z) => bgn_hull HIS.out hz)
  obtain ⟨x0, y0, x1, y1⟩ := h
  simp only at hhb HHU
  have GH := hide (fun (W : World) (hr : RdK encR 4 W W.heap.size (.slice A0 l.length c0) l) => (rHull_any hr HL.out).mono (R' := fun e w' => e = .returned (.tuple #[.agg #[.int .i64 x0, .int .i64 y0, .int .i64 x1, .int .i64 y1], .int .i64 0]) ∧ Below W.heap.size W w') (by
   rintro e w' ⟨rfl, hb⟩
   rw [HH.out]
   exact ⟨rfl, hb⟩))
  clear hne hb0 hk hl4 hhd HIS HH
  obtain ⟨S, hSS⟩ : ∃ S, setR l = S := ⟨_, rfl⟩
  have HSS := hide hSS
  rw [hSS] at HBD HHU ⊢
  clear hSS
  go_enter Tryz.func44, Tryz.ntmps44
  go_upto_region 2 with fail
  refine wp_name fun w1 hw1 => ?_
  have hb1 : Below w.heap.size w w1 := by rw [hw1]; exact (Below.refl _ _).alloc (Nat.le_refl _) _
  have HS1 : Hid (SnW w1 w.heap.size (.slice A0 l.length c0) (snU fun _ => false)) := hide (by rw [hw1]; exact snw_new w _ _)
  have HB1 := hide hb1
  have HR1 := hide ((HR.out.below hb1).mono hb1.size)
  clear hw1 hb1
  go_wp2_with (fail)
  refine (GH.out _ HR1.out).mono ?_
  rintro e w2 ⟨rfl, hb2⟩
  have HB2 := hide (HB1.out.trans (hb2.mono HB1.out.size))
  have HS2 := hide (HS1.out.below hb2)
  clear hb2 GH HR1 HB1 HS1
  have hs2 := HS2.out.lt
  go_upto_region 5 with fail
  refine wp_name fun w3 hw3 => ?_
  have hb3 : Below w2.heap.size w2 w3 := by
   rw [hw3]
   repeat (first | with_reducible exact Below.refl _ _ | with_reducible refine Below.setCell ?_ (by first | (simp; done) | (simp; omega)) _ | with_reducible refine Below.alloc ?_ (by first | omega | (simp; omega) | simp) _)
  have HI0 : Hid (LsI w w3 w.heap.size w2.heap.size w3.heap.size (.slice A0 l.length c0) (fun _ => false) ⟨x0, y0, x1, y1⟩ (.slice none 0 0) [] []) := hide (by
   have hlt : w2.heap.size < w3.heap.size := by rw [hw3]; simp
   exact ⟨HB2.out.trans (hb3.mono HB2.out.size), ⟨⟨Nat.le_refl _, by omega⟩, ⟨Nat.le_of_lt hs2, hlt⟩, by omega, Nat.le_refl _⟩, HS2.out.below hb3, ⟨hlt, by rw [hw3]; simp [go_sem], by rw [hw3]; simp [go_sem], by rw [hw3]; simp [go_sem], by rw [hw3]; simp [go_sem]⟩, World.ownsRow_nil _ _ _ _, fun i x hx => by simp at hx⟩)
  clear hb3 HB2 HS2 hw3
  obtain ⟨gh, hgh⟩ : ∃ z, w2.heap.size = z := ⟨_, rfl⟩
  obtain ⟨B, hB⟩ : ∃ z, w3.heap.size = z := ⟨_, rfl⟩
  rw [hgh, hB] at HI0
  rw [hgh]
  clear hgh hB hs2
  go_loopw [4, 7] (fun ov xv wr => ∃ (X : Int) (U : Un → Bool) (K : List (List Pt)) (vs : List Value) (Ao : Option Addr) (no co : Nat), (x0 ≤ X ∧ X ≤ max x0 (x1 + 1)) ∧ xv = .int .i64 X ∧ ov = .slice Ao no co ∧ Hid (no = K.length ∧ (no : Int) ≤ 500 * (X - x0)) ∧ Hid (LsP S U K X y0 0) ∧ Hid (LsI w wr w.heap.size gh B (.slice A0 l.length c0) U ⟨x0, y0, x1, y1⟩ (.slice Ao no co) K vs)) (fun _ xv _ => (x1 + 1 - intOf xv).toNat)
  case atStart => exact ⟨x0, fun _ => false, [], [], none, 0, 0, ⟨Int.le_refl _, by omega⟩, rfl, rfl, hide ⟨rfl, by omega⟩, hide (LsP.start fun z hz => ⟨(HHU.out z hz).1.1, (HHU.out z hz).2.1⟩), HI0⟩
  case round =>
   clear HI0
   obtain ⟨X, U, K, vs, Ao, no, co, ⟨hX0, hX1⟩, rfl, rfl, HNO, HP, HI⟩ := hrel
   obtain ⟨hbl, b0, b1, b2, b3⟩ := HI.out.bx
   simp only at b0 b1 b2 b3
   by_cases hXx : X ≤ x1
   ·have wX : IntKind.i64.wrap (X + 1) = X + 1 := IntWalk.i64_in _ (by omega)
    go_wp2
    clear b0 b1 b2 b3 hbl
    go_loopw [4, 8] (fun ov yv wr => ∃ (Y : Int) (U : Un → Bool) (K : List (List Pt)) (vs : List Value) (Ao : Option Addr) (no co : Nat), (y0 ≤ Y ∧ Y ≤ max y0 (y1 + 1)) ∧ yv = .int .i64 Y ∧ ov = .slice Ao no co ∧ Hid (no = K.length ∧ (no : Int) ≤ 500 * (X - x0) + 4 * (Y - y0)) ∧ Hid (LsP S U K X Y 0) ∧ Hid (LsI w wr w.heap.size gh B (.slice A0 l.length c0) U ⟨x0, y0, x1, y1⟩ (.slice Ao no co) K vs)) (fun _ yv _ => (y1 + 1 - intOf yv).toNat)
    case atStart => exact ⟨y0, U, K, vs, Ao, no, co, ⟨Int.le_refl _, by omega⟩, rfl, rfl, hide ⟨HNO.out.1, by have := HNO.out.2; omega⟩, HP, HI⟩
    case round =>
     clear HI HP HNO
     obtain ⟨Y, U, K, vs, Ao, no, co, ⟨hY0, hY1⟩, rfl, rfl, HNO, HP, HI⟩ := hrel
     obtain ⟨hbl, b0, b1, b2, b3⟩ := HI.out.bx
     simp only at b0 b1 b2 b3
     by_cases hYy : Y ≤ y1
     ·have wY : IntKind.i64.wrap (Y + 1) = Y + 1 := IntWalk.i64_in _ (by omega)
      go_wp2
      clear b0 b1 b2 b3 hbl
      go_loopw [4, 9] (fun ov dv wr => ∃ (W : Nat) (U : Un → Bool) (K : List (List Pt)) (vs : List Value) (Ao : Option Addr) (no co : Nat), W ≤ 4 ∧ dv = .int .i64 (W : Int) ∧ ov = .slice Ao no co ∧ Hid (no = K.length ∧ (no : Int) ≤ 500 * (X - x0) + 4 * (Y - y0) + W) ∧ Hid (LsP S U K X Y W) ∧ Hid (LsI w wr w.heap.size gh B (.slice A0 l.length c0) U ⟨x0, y0, x1, y1⟩ (.slice Ao no co) K vs)) (fun _ dv _ => 4 - (intOf dv).toNat)
      case atStart => exact ⟨0, U, K, vs, Ao, no, co, by omega, rfl, rfl, hide ⟨HNO.out.1, by have := HNO.out.2; omega⟩, HP, HI⟩
      case round =>
       clear HI HP HNO
       obtain ⟨W, U, K, vs, Ao, no, co, hW, rfl, rfl, HNO, HP, HI⟩ := hrel
       by_cases hW4 : W < 4
       ·have hW4z : (W : Int) < 4 := by omega
        obtain ⟨d, hd⟩ : ∃ d, wyOf W = d := ⟨_, rfl⟩
        have HD : Hid (wyN d = (W : Int)) := hide (by rw [← hd, wyK_N, wyK_of hW4])
        have HU : Hid (((X, Y), wyOf W) = ((X, Y), d)) := hide (by rw [hd])
        have hXb : X ≤ 30 := by omega
        have hYb : Y ≤ 30 := by omega
        have hnb : no ≤ 100000 := by have := HNO.out.2; omega
        have wW : IntKind.i64.wrap ((W : Int) + 1) = (W : Int) + 1 := IntWalk.i64_in _ (by omega)
        have HBG := hide (fun (w' : World) (hr : RdK encR 4 w' w'.heap.size (.slice A0 l.length c0) l) => by
         have h := rBegins13_any hr HL.out (X, Y) d ⟨⟨by show _ ≤ X; omega, by show X ≤ _; omega⟩, by show _ ≤ Y; omega, by show Y ≤ _; omega⟩
         rw [HSS.out, HD.out] at h
         exact h)
        clear hd
        go_upto_region 14 with fail
        refine wp_name fun w4 hw4 => ?_
        have hb4 : Below wr.heap.size wr w4 := by
         rw [hw4]
         repeat (first | with_reducible exact Below.refl _ _ | with_reducible refine Below.setCell ?_ (by first | (simp; done) | (simp; omega)) _ | with_reducible refine Below.alloc ?_ (by first | omega | (simp; omega) | simp) _)
        have HPB : Hid (wr.heap.size < w4.heap.size ∧ w4.cell? ⟨wr.heap.size, 0, none⟩ = some (.int .i64 X) ∧ w4.cell? ⟨wr.heap.size, 1, none⟩ = some (.int .i64 Y)) := hide ⟨by rw [hw4]; simp, by rw [hw4]; simp [go_sem], by rw [hw4]; simp [go_sem]⟩
        have HI4 := hide (HI.out.below hb4)
        obtain ⟨gp, hgp⟩ : ∃ z, wr.heap.size = z := ⟨_, rfl⟩
        have hgpg : w.heap.size ≠ gp := by have := HI.out.sn.lt; omega
        rw [hgp] at HPB ⊢
        clear hw4 hb4 HI hgp
        obtain ⟨hpl, p0, p1⟩ := HPB.out
        have HRD : Hid (∀ V : World, Below w.heap.size w V → RdK encR 4 V V.heap.size (.slice A0 l.length c0) l) := hide (fun V hV => (HR.out.below hV).mono hV.size)
        go_wp2_with (fail)
        refine (HBG.out _ (HRD.out _ HI4.out.low)).mono ?_
        rintro e w5 ⟨rfl, hb5⟩
        have HI5 := hide (HI4.out.below hb5)
        replace HPB := hide (And.intro (Nat.lt_of_lt_of_le HPB.out.1 hb5.size) (And.intro ((hb5.cell (p := ⟨gp, 0, none⟩) HPB.out.1).trans HPB.out.2.1) ((hb5.cell (p := ⟨gp, 1, none⟩) HPB.out.1).trans HPB.out.2.2)))
        clear hb5 HI4 hpl p0 p1 HBG
        cases hbg : bgnB S ((X, Y), d) with
        | false =>
         have HP2 : Hid (LsP S U K X Y (W + 1)) := hide (HP.out.skip hW4 (by rw [HU.out]; intro h; rw [(bgnB_iff S _).2 h] at hbg; cases hbg))
         clear hbg
         go_wp2
         go_roundw
         case rel => exact ⟨W + 1, U, K, vs, Ao, no, co, by omega, by go_num, rfl, hide ⟨HNO.out.1, by have := HNO.out.2; omega⟩, HP2, HI5⟩
         case measure => simp [intOf]; omega
        | true =>
         obtain ⟨hpl, p0, p1⟩ := HPB.out
         have HMK := hide (rMarkU_any HI5.out.sn ((X, Y), d) ⟨⟨by show _ ≤ X; omega, by show X < _; omega⟩, by show _ ≤ Y; omega, by show Y < _; omega⟩)
         rw [HD.out] at HMK
         have HBT : Hid (bgn S ((X, Y), d)) := hide ((bgnB_iff S _).1 hbg)
         clear hbg
         go_wp2_with (fail)
         refine HMK.out.mono ?_
         rintro e w6 ⟨rfl, hs6, hg6⟩
         have HI6 := hide (HI5.out.mark hs6 hg6)
         replace HPB := hide (And.intro (Nat.lt_of_lt_of_le HPB.out.1 hg6.size) (And.intro (World.grownBy.cell hg6 (a := ⟨gp, 0, none⟩) HPB.out.2.1 (fun e => by injection e with e; exact hgpg e.symm)) (World.grownBy.cell hg6 (a := ⟨gp, 1, none⟩) HPB.out.2.2 (fun e => by injection e with e; exact hgpg e.symm))))
         clear hs6 hg6 HI5 hpl p0 p1 HMK
         cases hsu : U ((X, Y), d) with
         | true =>
          have HP2 : Hid (LsP S U K X Y (W + 1)) := hide (HP.out.skip hW4 (by rw [HU.out]; exact fun _ => hsu))
          rw [addU_same hsu] at HI6
          clear hsu
          go_wp2
          go_roundw
          case rel => exact ⟨W + 1, U, K, vs, Ao, no, co, by omega, by go_num, rfl, hide ⟨HNO.out.1, by have := HNO.out.2; omega⟩, HP2, HI6⟩
          case measure => simp [intOf]; omega
         | false =>
          obtain ⟨n, hc⟩ := cyc_ex HBD.out HBT.out
          have hn6 : n ≤ 1000000 := cyc_le HBD.out hc
          have HC := hide hc
          have HUF := hide hsu
          have HCL : Hid ((cnr S ((X, Y), d) n).length ≤ 1000000) := hide (Nat.le_trans (cnr_len S _ n) hn6)
          have HC0 : Hid (0 < (cnr S ((X, Y), d) n).length) := hide (by obtain ⟨_, _, _, _, h, _⟩ := turned_lp hc; exact h)
          have HLC := hide (by
           have h := rLoopT_any (l := l) (u := ((X, Y), d)) (n := n) HI6.out.sn (HR.out.below HI6.out.low) HL.out (by rw [HSS.out]; exact HBD.out) (by rw [HSS.out]; exact hc) hn6 (by unfold addU; simp) (by rw [HSS.out]; exact HP.out.rest hc hsu)
           rw [HSS.out, HD.out] at h
           exact h)
          obtain ⟨hpl, p0, p1⟩ := HPB.out
          clear hc hn6 hsu
          go_wp2_with (fail)
          refine HLC.out.mono ?_
          rintro e w7 ⟨vl, rfl, ol, hs7, hg7⟩
          have HI7 := hide (HI6.out.mark hs7 hg7)
          have OL := hide ol
          clear hs7 hg7 HI6 hpl p0 p1 HLC ol HPB
          go_wp2_with (fail)
          refine (rTurned13_any OL.out HC0.out HCL.out).mono ?_
          rintro e w8 ⟨vt, i, rfl, hfm, ot, hb8⟩
          have HI8 := hide (HI7.out.below hb8)
          obtain ⟨t, ht⟩ : ∃ t, (cnr S ((X, Y), d) n).drop i ++ (cnr S ((X, Y), d) n).take i = t := ⟨_, rfl⟩
          have HTT : Hid (isTurned (cnr S ((X, Y), d) n) t) := hide ⟨i, hfm, ht.symm⟩
          rw [ht] at ot
          have htl := own_len (k := 2) ot (fun _ => rfl) (by omega)
          have HTL : Hid (t.length ≤ 1000000) := hide (by rw [← htl]; exact HCL.out)
          have hot : w8.ownsRow B 53 2 vt t.length (t.flatMap encS) := own_base (own_n ot htl) HI7.out.lt.2.2.2
          obtain ⟨At, ct, hvt⟩ := own_form hot
          subst hvt
          have OT := hide hot
          clear hot
          clear hb8 HI7 OL ot hfm ht htl HCL HC0
          obtain ⟨U7, hU7⟩ : ∃ V, (fun z => addU U ((X, Y), d) z || decide (inCy S ((X, Y), d) n z)) = V := ⟨_, rfl⟩
          rw [hU7] at HI8
          have HNEW : Hid (∀ a, a ≤ K.length → (∀ b, 0 < a → K[a - 1]? = some b → ¬ ltL t b) → (∀ j b, a ≤ j → K[j]? = some b → ltL t b) → LsP S U7 (K.take a ++ t :: K.drop a) X Y (W + 1)) := hide (fun a ha h1 h2 => by
           rw [← hU7]
           have h := HP.out.new hW4 (n := n) (t := t) (a := a) (by rw [HU.out]; exact HC.out) (by rw [HU.out]; exact HUF.out) (by rw [HU.out]; exact HTT.out) ha h1 h2
           rw [HU.out] at h
           exact h)
          clear hU7
          go_wp2
          go_loopw [12] (fun av wr => ∃ a : Nat, a ≤ no ∧ av = .int .i64 (a : Int) ∧ Hid (∀ j b, a ≤ j → K[j]? = some b → ltL t b) ∧ Hid (LsI w wr w.heap.size gh B (.slice A0 l.length c0) U7 ⟨x0, y0, x1, y1⟩ (.slice Ao no co) K vs) ∧ Hid (wr.ownsRow B 53 2 (.slice At t.length ct) t.length (t.flatMap encS))) (fun av _ => (intOf av).toNat)
          case atStart => exact ⟨no, Nat.le_refl _, rfl, hide (fun j b hj hb => by have := (List.getElem?_eq_some_iff.1 hb).1; have := HNO.out.1; omega), HI8, OT⟩
          case round =>
           clear HI8 OT
           obtain ⟨a, ha, rfl, HA, HI, OT⟩ := hrel
           go_upto_region 17 with fail
           go_cut [77] from 67 to 77 (fun bv wx => ∃ bb : Bool, bv = .bool bb ∧ (bb = true → 0 < a ∧ ∀ b, K[a - 1]? = some b → ltL t b) ∧ (bb = false → ∀ b, 0 < a → K[a - 1]? = some b → ¬ ltL t b) ∧ LsI w wx w.heap.size gh B (.slice A0 l.length c0) U7 ⟨x0, y0, x1, y1⟩ (.slice Ao no co) K vs ∧ wx.ownsRow B 53 2 (.slice At t.length ct) t.length (t.flatMap encS))
           case first =>
            by_cases h0 : 0 < a
            ·have h0z : (0 : Int) < (a : Int) := by omega
             obtain ⟨b, hb⟩ : ∃ b, K[a - 1]? = some b := ⟨_, List.getElem?_eq_getElem (by have := HNO.out.1; omega)⟩
             have hrp := HI.out.rdps
             obtain ⟨bo, oo, u, hAo, hbo, e0, hu⟩ := hrp.get hb
             have HBF := hide (fun (V : World) (hV : Below wr.heap.size wr V) => rBefore13_any (w := V) ((own_rd (own_below OT.out hV) (fun _ => rfl))) ((hu.below hV).mono hV.size) (by have := HTL.out; omega) (by have := HP.out.small HBD.out b (List.mem_of_getElem? hb); omega))
             have w9 : IntKind.i64.wrap ((a : Int) - 1) = ((a - 1 : Nat) : Int) := by rw [IntWalk.i64_in _ (by omega)]; omega
             have a9 : (((a - 1 : Nat) : Int)) < (no : Int) := by omega
             have a0 : (0 : Int) ≤ ((a - 1 : Nat) : Int) := by omega
             have HB9 := hide hb
             subst hAo
             clear hrp hu hb
             go_wp2_with (go_at_call 22; refine (HBF.out _ (by first | exact Below.refl _ _ | exact (Below.refl _ _).drew)).mono ?_; rintro e w9' ⟨rfl, hb9⟩; have HI9 := hide (HI.out.below hb9); have OT9 := hide (own_below OT.out hb9); clear hb9)
             go_meet
             case rel => exact ⟨befB t b, rfl, (fun h => ⟨h0, fun b' hb' => by rw [HB9.out] at hb'; injection hb' with hb'; rw [← hb']; exact (befB_iff t b).1 h⟩), (fun h b' _ hb' hlt => by rw [HB9.out] at hb'; injection hb' with hb'; rw [← hb'] at hlt; rw [(befB_iff t b).2 hlt] at h; cases h), HI9.out, OT9.out⟩
            ·have h0z : ¬ (0 : Int) < (a : Int) := by omega
             go_wp2
             go_meet
             case rel => exact ⟨false, rfl, (fun h => by cases h), (fun _ b h => absurd h h0), HI.out, OT.out⟩
           case rest =>
            clear HI OT
            obtain ⟨bb, e1, hbt, hbf, hi2, ot2⟩ := hcut
            subst e1
            have HI := hide hi2
            have OT := hide ot2
            have HBT2 := hide hbt
            have HBF := hide hbf
            clear hi2 ot2 hbt hbf
            cases bb
            ·have hak : a ≤ K.length := by have := HNO.out.1; omega
             have HLP := hide (HNEW.out a hak (HBF.out rfl) HA.out)
             have HVL : Hid (vs.length = K.length) := hide (by have := HI.out.out.1; omega)
             have hone : ∀ u ∈ vs, u.oneCell' = true := fun u hu => by
              obtain ⟨i, hi, rfl⟩ := List.mem_iff_getElem.1 hu
              obtain ⟨u, h1, h2⟩ := HI.out.el i (K[i]'(by have := HVL.out; omega)) (List.getElem?_eq_getElem _)
              rw [List.getElem?_eq_getElem hi] at h1
              injection h1 with h1
              rw [h1]
              obtain ⟨_, _, rfl⟩ := own_form h2
              rfl
             have HONE := hide hone
             have hbn : Below wc.heap.size wc (wc.alloc (.cells #[.slice none 0 0] 36)) := (Below.refl _ _).alloc (Nat.le_refl _) _
             have HI3 := hide (HI.out.below hbn)
             have OT3 := hide (own_below OT.out hbn)
             have HOA := hide (own_n HI3.out.out HNO.out.1.symm)
             have HSZ := hide HI3.out.lt.2.2.2
             clear hbn HI OT hone HNEW HBT2 HBF HA
             go_wp2_with (at_builtin; go_loud (refine wpList_append_lies _ rfl (.tmp 80) (.tmp 81) 25 rfl B 36 i1 (.slice none 0 0) 1 24 Tryz.underlying25 gi gz0 gz1 gz2 rfl (by decide) (.slice Ao no co) no vs rfl HOA.out ⟨wc.heap.size, 0, none⟩ 1 1 [.slice none 0 0] rfl rfl (news_new wc [.slice none 0 0] 36 _ rfl) (fun u hu => by rw [List.mem_singleton.1 hu]; rfl) (by omega) (by unfold maxLen; omega) (by omega) HSZ.out _ rfl ?_))
             intro g9 cap9 w9 hown9 hgrow9 hor9' hl9
             have hor9 : (Value.slice Ao no co).ownBlock = some g9 ∨ g9 = (wc.alloc (.cells #[.slice none 0 0] 36)).heap.size := by
              rcases hor9' with h | h
              ·exact .inl h
              ·exact .inr (by rw [h]; simp)
             clear hor9'
             obtain ⟨W3, hW3⟩ : ∃ y, wc.alloc (.cells #[.slice none 0 0] 36) = y := ⟨_, rfl⟩
             rw [hW3] at HI3 OT3 hgrow9 hor9
             have HX2 := hide hown9
             obtain ⟨_, cap9', cur9, e9, hbg9, hh9, hn9, hm9, hs9, ht9⟩ : ∃ (g' cap' : Nat) (cur : Array Value), Value.slice (some ⟨g9, 0, none⟩) (no + 1) cap9 = .slice (some ⟨g', 0, none⟩) (no + 1) cap' ∧ B ≤ g' ∧ w9.heap[g']? = some (.cells cur 36 (0, 0)) ∧ no + 1 ≤ cap' ∧ cap' ≤ maxLen ∧ cur.size = cap' * 1 ∧ cur.toList.take ((no + 1) * 1) = vs ++ [.slice none 0 0] := by
              rcases hown9.2 with ⟨e0, _⟩ | q
              ·cases e0
              ·exact q
             injection e9 with e1 _ e3
             injection e1 with e1
             injection e1 with e1
             subst e1; subst e3
             have HH9 := hide hh9
             have HS9 := hide hs9
             have HOR9 := hide hor9
             have HGR9 := hide hgrow9
             unfold maxLen at hm9
             clear hown9 hgrow9 hor9 hh9 hs9 ht9 HOA HSZ hW3
             have r1 : IntKind.i64.wrap ((a : Int) + 1) = (a : Int) + 1 := IntWalk.i64_in _ (by omega)
             have r2 : (0 : Int) ≤ (a : Int) + 1 := by omega
             have r3 : (a : Int) + 1 ≤ (no : Int) + 1 := by omega
             have r4 : ((a : Int) + 1).toNat = a + 1 := by omega
             have r5 : (0 : Int) ≤ (a : Int) := by omega
             have r6 : (a : Int) ≤ (no : Int) + 1 := by omega
             have r7 : ((a : Int)).toNat = a := by omega
             go_upto_region 20 with fail
             refine wp_region_reads0 7 (by kernel_rfl) (by kernel_rfl) ?_
             simp only [List.take_succ_cons, List.take_zero, List.drop_succ_cons, List.drop_zero]
             iterate 7
              refine ⟨?_, Or.inl ⟨by rfl, ?_⟩, ?_⟩
              rotate_left 1
              ·intro w' _
               go_simp
               first | done | with_reducible rfl
              simp only [Act.put, List.setIfInBounds_toArray, List.set_cons_zero, List.set_cons_succ]
             clear r1 r2 r3 r4 r5 r6 r7
             simp only [wpReads]
             intro K9 hK
             have hcur : w9.drew.heap[g9]? = some (.cells cur9.toList.toArray 36 (0, 0)) := by show w9.heap[g9]? = _; simpa using HH9.out
             have hcl : cur9.toList.length = cap9 := by have := HS9.out; rw [Array.length_toList]; omega
             have hfl : (vs.drop a).length = (no - a) * 1 := by rw [List.length_drop, HVL.out]; have := HNO.out.1; omega
             refine step_copy_n rfl (.tmp 86) (.tmp 89) 25 25 rfl 36 Tryz.underlying25 1 (by kernel_rfl) _ _ _ _ _ _ rfl rfl g9 (a + 1) cur9.toList 36 hcur (vs.drop a) (no - a) (by show _ = min _ _; omega) hfl ?_ (by omega) (fun u hu => HONE.out u (List.mem_of_mem_drop hu)) 0 w9.drew (Below.refl _ _) (Nat.zero_le _) ?_
             ·intro hpos
              refine ⟨by first | rfl | rw [if_neg (by omega)], ⟨g9, a, none⟩, by first | rfl | rw [if_neg (by omega)], fun i u hi => ?_⟩
              have hi2 : (vs ++ [.slice none 0 0])[a + i]? = some u := by
               rw [List.getElem?_drop] at hi
               rw [List.getElem?_append_left (List.getElem?_eq_some_iff.1 hi).1]
               exact hi
              have := (HX2.out.cells (g := g9) rfl) _ _ hi2
              rw [addr_add] at this
              have e2 : (⟨g9, a, none⟩ : Addr).add i = ⟨g9, a + i, none⟩ := by unfold Addr.add; split <;> simp_all
              rw [e2]
              exact this
             ·intro w10 hsp hb10 hgr10
              have hx3 := own_copiedO HX2.out (by simpa using HH9.out) hsp.out (by omega)
              have hgr := grownO_trans (grownO_below (w := w9) (Below.refl _ _).drew (some g9)) hgr10 (fun _ _ h => h)
              have hblk : ∀ k, k < W3.heap.size → some k ≠ (Value.slice Ao no co).ownBlock → some k ≠ some g9 := fun k hk hne e => by
               rcases HOR9.out with h | h
               ·exact hne (e.trans h.symm)
               ·injection e with e; omega
              have hg3 := grownO_trans HGR9.out hgr hblk
              have hst := hx3.stored a (.slice At t.length ct)
              rw [ins_cells _ _ (by rw [HVL.out]; exact hak)] at hst
              have hg4 := grownO_trans hg3 hst.2 hblk
              have hkl : (K.take a ++ t :: K.drop a).length = no + 1 := by rw [List.length_append, List.length_cons, List.length_take, List.length_drop]; have := HNO.out.1; omega
              have HI5 := hide (HI3.out.row (K' := K.take a ++ t :: K.drop a) hg4 (own_n hst.1 hkl.symm) (els_ins HVL.out hak HI3.out.el OT3.out))
              have c0 : ∃ u, w10.cell? ⟨g9, a, none⟩ = some u := by
               have hl3 := hx3.1
               have := (hx3.cells (g := g9) rfl) a _ (List.getElem?_eq_getElem (by rw [hl3]; omega))
               rw [addr_add] at this
               exact ⟨_, this⟩
              obtain ⟨u9, c0⟩ := c0
              have f0 : w10.frozen? ⟨g9, a, none⟩ = false := hx3.frozenAt _
              have az : (a : Int) < (no : Int) + 1 := by omega
              have a0 : (0 : Int) ≤ (a : Int) := by omega
              have HKL := hide hkl
              refine hK _ _ (fun _ => trivial) ?_
              clear hK K9 hsp hb10 hgr10 hx3 hgr hg3 hst hg4 hcur hblk hkl HI3 OT3
              refine NoPanic.normal ?_
              go_wp2
              go_roundw
              case rel => exact ⟨W + 1, U7, K.take a ++ t :: K.drop a, vs.take a ++ .slice At t.length ct :: vs.drop a, some ⟨g9, 0, none⟩, no + 1, cap9, by omega, by go_num, rfl, hide ⟨HKL.out.symm, by have := HNO.out.2; omega⟩, HLP, HI5⟩
              case measure => simp [intOf]; omega
            ·have h0 := (HBT2.out rfl).1
             have w9 : IntKind.i64.wrap ((a : Int) - 1) = ((a - 1 : Nat) : Int) := by rw [IntWalk.i64_in _ (by omega)]; omega
             have HA2 : Hid (∀ j b, a - 1 ≤ j → K[j]? = some b → ltL t b) := hide (fun j b hj hb => by
              by_cases e : j = a - 1
              ·subst e; exact (HBT2.out rfl).2 b hb
              ·exact HA.out j b (by omega) hb)
             go_wp2
             go_roundw
             case rel => exact ⟨a - 1, by omega, rfl, HA2, HI, OT⟩
             case measure => simp [intOf]; omega
       ·have hW4z : ¬ (W : Int) < 4 := by omega
        have HP4 : Hid (LsP S U K X (Y + 1) 0) := hide (by have h := HP.out; rw [show W = 4 by omega] at h; exact h.up)
        go_wp2
        go_roundw
        case rel => exact ⟨Y + 1, U, K, vs, Ao, no, co, ⟨by omega, by omega⟩, rfl, rfl, hide ⟨HNO.out.1, by have := HNO.out.2; omega⟩, HP4, HI⟩
        case measure => simp [intOf]; omega
     ·have HP2 : Hid (LsP S U K (X + 1) y0 0) := hide (HP.out.on (Y1 := y1) (by omega) fun z hz => ⟨(HHU.out z hz).2.1, (HHU.out z hz).2.2⟩)
      go_wp2
      go_roundw
      case rel => exact ⟨X + 1, U, K, vs, Ao, no, co, ⟨by omega, by omega⟩, rfl, rfl, hide ⟨HNO.out.1, by have := HNO.out.2; omega⟩, HP2, HI⟩
      case measure => simp [intOf]; omega
   ·have HOU : Hid (Outl S K) := hide (HP.out.outl (X1 := x1) (by omega) fun z hz => (HHU.out z hz).1.2)
    go_wp2
    go_ret
    have h9 := HI.out.rdps
    have hn := HNO.out.1
    subst hn
    exact ⟨Ao, co, K, rfl, HOU.out, h9, HI.out.low⟩
end Go.Proofs.YtdfpbhlnlkjjlaaGreat
