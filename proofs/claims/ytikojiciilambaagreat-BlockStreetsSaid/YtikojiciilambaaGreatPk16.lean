/- Texts laid together: BlkR, GraI, GraJ, LawMakes, LawParts, LawBStreets, Row, Open, OpenS, Regs, OpenN. Lemmas for the statements of this seat; no condition. -/
import Derived.Test.YtikojiciilambaaGreatPk15
import Derived.Test.YtikojiciilambaaGreatPk14
import Derived.Test.YtikojiciilambaaGreatPk7
import Derived.Test.YtikojiciilambaaGreatPk6
import Derived.Deep.OwnRows
import Derived.Test.YtikojiciilambaaGreatPk8
import Derived.Test.YtikojiciilambaaGreatPk1
import Derived.ProofKit
import Derived.Lib.SmallJoins
import Derived.Deep.Slices
import Derived.Deep.Fields
import Derived.ChangeSame
import Derived.Test.YtikojiciilambaaGreatPk2
import Derived.Test.YtikojiciilambaaGreatPk4
import Derived.Deep.Strs

/- block.Parts, block.Loops: the walks. -/
namespace Go.Proofs.YtikojiciilambaaGreat
open Go.RowKit Go.Maps
set_option linter.unusedVariables false
set_option linter.unusedSimpArgs false
def PM (b n : Nat) (f : Nat → Option Nat) (w : World) : Prop := ∃ D : DataW Unit, w.ownsMap Tryz.prog 3 (plainElem Tryz.prog 3) b n D ∧ ∀ k : Nat, Maps.has D (.int .i64 (k : Int)) = (f k).isSome ∧ D.atKey (.int .i64 (k : Int)) (.lit (.int .i64 0)) = .lit (.int .i64 (((f k).getD 0 : Nat) : Int))
theorem PM.made (w : World) : PM w.heap.size 0 (fun _ => none) (w.alloc (.map #[] 0)) := ⟨.map [], World.ownsMap_made w _ _ _, fun k => ⟨rfl, rfl⟩⟩
theorem PM.grown {b n : Nat} {f : Nat → Option Nat} {w w' : World} (h : PM b n f w) {row : Option Nat} (hg : w.grownBy w' row) (h1 : some b ≠ row) : PM b n f w' := by
 obtain ⟨D, d1, d2⟩ := h
 exact ⟨D, d1.kept hg h1, d2⟩
theorem PM.below {b n : Nat} {f : Nat → Option Nat} {w w' : World} (h : PM b n f w) (hb : Below w.heap.size w w') : PM b n f w' := h.grown (below_grow hb) (by simp)
theorem PM.lt {b n : Nat} {f : Nat → Option Nat} {w : World} (h : PM b n f w) : b < w.heap.size := by
 obtain ⟨D, d1, _⟩ := h
 exact d1.lt
theorem PM.look {b n : Nat} {f : Nat → Option Nat} {w : World} (h : PM b n f w) {k : Nat} (hk : k ≤ 1000000) : (Instr.lookup 116 (.map (some b)) (.int .i64 (k : Int)) true).run Tryz.prog w = .ok (.tuple #[.int .i64 (((f k).getD 0 : Nat) : Int), .bool (f k).isSome]) w := by
 obtain ⟨D, d1, d2⟩ := h
 obtain ⟨v, ps, hrun, hat⟩ := d1.look_ok lawIS Tryz.underlying116 (zeroI w) (plainElem_int Tryz.underlying3 (by decide)) (keyI (k := (k : Int)) (by unfold okK; omega))
 obtain ⟨c, rfl, hc, hwc⟩ := plainElem_int_inv Tryz.underlying3 hat
 simp only [Prod.mk.injEq] at hc
 obtain ⟨q1, q2⟩ := d2 k
 rw [q2] at hc
 rw [litInj hc.1, ← q1]
 exact hrun
theorem PM.store {b n : Nat} {f : Nat → Option Nat} {w : World} (h : PM b n f w) {k v : Nat} (hk : k ≤ 1000000) (hv : v ≤ 1000000) (hn : n < maxLen) :
  ∃ w', (Instr.mapUpdate 116 (.map (some b)) (.int .i64 (k : Int)) (.int .i64 (v : Int))).run Tryz.prog w = .ok () w' ∧ w.grownBy w' (some b) ∧ PM b (n + 1) (fset f k v) w' := by
 obtain ⟨D, d1, d2⟩ := h
 have hkk := keyI (k := (k : Int)) (by unfold okK; omega)
 obtain ⟨w', hrun, o3, g3⟩ := d1.update lawIS Tryz.underlying116 hn hkk (plainElem_int Tryz.underlying3 (WalkArith.wf_i64 (by omega)) (a := (v : Int)))
 refine ⟨w', hrun, g3, _, o3, fun k' => ?_⟩
 unfold fset
 by_cases e : k' = k
 ·subst e
  simp only [if_true]
  rw [atKey_put_same d1.isMap (lawIS.key hkk), has_put_same d1.isMap (lawIS.key hkk)]
  exact ⟨rfl, rfl⟩
 ·simp only [if_neg e]
  have hne : (Lit.int .i64 (k' : Int)) ≠ .int .i64 (k : Int) := fun e2 => by
   injection e2 with _ e2
   omega
  rw [atKey_put_other hne, has_put_other hne]
  exact d2 k'
set_option maxHeartbeats 4000000 in
theorem first35_any {w : World} {gT bT m n : Nat} {f : Nat → Option Nat} {L : List Nat} {r : Nat → Nat} (c0 : w.cell? ⟨gT, 0, none⟩ = some (.map (some bT))) (h : PM bT m f w) (hf : FOK n f L r) (hn : n ≤ 400) {i : Nat} (hi : i < n) :
  Calls Tryz.prog 74 #[.int .i64 (i : Int), .pointer (some ⟨gT, 0, none⟩)] w fun e w' => e = .returned (.int .i64 (lb L i : Int)) ∧ w = w' := by
 have HP := hide h
 have HF := hide hf
 clear h hf
 go_enter Tryz.func74, Tryz.ntmps74
 go_wp2
 go_loopw [0] (fun v wr => ∃ j : Nat, j < n ∧ v = .int .i64 (j : Int) ∧ Hid (lb L j = lb L i) ∧ wr = w) (fun v _ => r (intOf v).toNat)
 case atStart => exact ⟨i, hi, rfl, hide rfl, rfl⟩
 case round =>
  obtain ⟨j, hj, rfl, HL, rfl⟩ := hrel
  have lk := HP.out.look (k := j) (by omega)
  have HRK := hide (HF.out.rk j)
  have HRT := hide (HF.out.root j hj)
  cases hfj : f j with
  | none =>
   rw [hfj] at lk
   have hr := HRT.out hfj
   have HE : Hid ((lb L i : Int) = (j : Int)) := hide (by rw [← HL.out, hr])
   simp only [Option.getD_none, Option.isSome_none] at lk
   clear hfj hr
   go_wp2
   go_ret
   exact ⟨by rw [HE.out]; rfl, rfl⟩
  | some k =>
   rw [hfj] at lk
   obtain ⟨h1, h2, h3⟩ := HRK.out k hj hfj
   simp only [Option.getD_some, Option.isSome_some] at lk
   have HX := hide (And.intro h1 (And.intro h2 h3))
   clear hfj h1 h2 h3
   go_wp2
   go_roundw
   case rel => exact ⟨k, HX.out.1, rfl, hide (HX.out.2.2.trans HL.out), by first | rfl | trivial⟩
   case measure => simpa [intOf] using HX.out.2.1
def prtF (N : List Pt) (E : List Ei) : Int × Int := if chkN N E = 0 then ((partsN (segsI N E) : Nat), 0) else (0, chkN N E)
structure Pst (w wr : World) (H m : Nat) (f : Nat → Option Nat) (ev : Value) : Prop where
 low : Below w.heap.size w wr
 c1 : wr.cell? ⟨w.heap.size, 1, none⟩ = some ev
 ct : wr.cell? ⟨H + 1, 0, none⟩ = some (.map (some H))
 pm : PM H m f wr
 lt : w.heap.size < H
 sz : H + 2 ≤ wr.heap.size
theorem Pst.below {w wr w' : World} {H m : Nat} {f : Nat → Option Nat} {ev : Value} (h : Pst w wr H m f ev) (hb : Below wr.heap.size wr w') : Pst w w' H m f ev := by
 have h1 := h.lt
 have h2 := h.sz
 exact ⟨h.low.trans (hb.mono h.low.size), (hb.cell (p := ⟨_, 1, none⟩) (by simp only; omega)).trans h.c1, (hb.cell (p := ⟨H + 1, 0, none⟩) (by simp only; omega)).trans h.ct, h.pm.below hb, h.lt, Nat.le_trans h2 hb.size⟩
theorem Pst.put {w wr : World} {H m : Nat} {f : Nat → Option Nat} {ev : Value} (h : Pst w wr H m f ev) {a b : Nat} (ha : a ≤ 1000000) (hb : b ≤ 1000000) (hm : m ≤ 1000000) :
  ∃ w', (Instr.mapUpdate 116 (.map (some H)) (.int .i64 (b : Int)) (.int .i64 (a : Int))).run Tryz.prog wr = .ok () w' ∧ Pst w w' H (m + 1) (fset f b a) ev := by
 obtain ⟨w', hrun, hg, hp⟩ := h.pm.store (k := b) (v := a) hb ha (by unfold maxLen; omega)
 have h1 := h.lt
 have h2 := h.sz
 have hs := hg.size
 refine ⟨w', hrun, h.low.grown hg h.low.size (fun q hq => by injection hq with hq; omega), (cell_grow hg (by omega) (fun e => by injection e with e; omega)).trans h.c1, (cell_grow hg (by omega) (fun e => by injection e with e; omega)).trans h.ct, hp, h.lt, by omega⟩
theorem Pst.start {w w1 : World} {ev : Value} (hb : Below w.heap.size w w1) (hlt : w.heap.size < w1.heap.size) (hc : w1.cell? ⟨w.heap.size, 1, none⟩ = some ev) {w2 : World} {t : TypeId} (hw : w2 = ((w1.alloc (.map #[] 0)).alloc (.cells #[.map (some w1.heap.size)] t))) : Pst w w2 w1.heap.size 0 (fun _ => none) ev := by
 have hb1 : Below w1.heap.size w1 w2 := by
  rw [hw]
  exact ((Below.refl _ _).alloc (Nat.le_refl _) _).alloc (by simp) _
 have e1 : (w1.alloc (.map #[] 0)).heap.size = w1.heap.size + 1 := by simp
 have hb2 : Below (w1.alloc (.map #[] 0)).heap.size (w1.alloc (.map #[] 0)) w2 := by
  rw [hw]
  exact (Below.refl _ _).alloc (Nat.le_refl _) _
 refine ⟨hb.trans (hb1.mono hb.size), (hb1.cell (p := ⟨w.heap.size, 1, none⟩) hlt).trans hc, ?_, (PM.made w1).below hb2, hlt, by rw [hw]; simp⟩
 rw [hw]
 simp [go_sem]
set_option maxRecDepth 100000 in
set_option maxHeartbeats 8000000 in
theorem parts35_any {w : World} {nv ev : Value} {N : List Pt} {E : List Ei} (hn : RdK encS 2 w w.heap.size nv N) (he : RdK encS 2 w w.heap.size ev E) :
  Calls Tryz.prog 38 #[.agg #[nv, ev]] w fun e w' => e = .returned (.tuple #[.int .i64 (prtF N E).1, .int .i64 (prtF N E).2]) ∧ Below w.heap.size w w' := by
 have HN := hide hn
 have HE := hide he
 obtain ⟨An, cn, rfl, _⟩ := hn
 obtain ⟨Ae, ce, rfl, hE⟩ := he
 have HER := hide hE
 clear hE
 have hmm := @run_makeMap Tryz.prog
 have hb0 : Below w.heap.size w (w.alloc (.cells #[.slice An N.length cn, .slice Ae E.length ce] 63)) := (Below.refl _ _).alloc (Nat.le_refl _) _
 have HB0 := hide hb0
 have x0 : (w.alloc (.cells #[.slice An N.length cn, .slice Ae E.length ce] 63)).cell? ⟨w.heap.size, 0, none⟩ = some (.slice An N.length cn) := by simp [go_sem]
 have x1 : (w.alloc (.cells #[.slice An N.length cn, .slice Ae E.length ce] 63)).cell? ⟨w.heap.size, 1, none⟩ = some (.slice Ae E.length ce) := by simp [go_sem]
 have HX := hide (And.intro x0 x1)
 have s0 : w.heap.size < (w.alloc (.cells #[.slice An N.length cn, .slice Ae E.length ce] 63)).heap.size := by simp
 have HS0 := hide s0
 clear hb0 x0 x1 s0
 go_enter Tryz.func38, Tryz.ntmps38
 go_wp2_with (fail)
 refine (Check_any ((HN.out.below HB0.out).mono HB0.out.size) ((HE.out.below HB0.out).mono HB0.out.size)).mono ?_
 rintro e w1 ⟨rfl, hb1⟩
 rw [chkC_eq]
 have HB1 := hide (HB0.out.trans (hb1.mono HB0.out.size))
 have k0 := (hb1.cell (p := ⟨w.heap.size, 0, none⟩) HS0.out).trans HX.out.1
 have k1 := (hb1.cell (p := ⟨w.heap.size, 1, none⟩) HS0.out).trans HX.out.2
 have hs1 : w.heap.size < w1.heap.size := Nat.lt_of_lt_of_le HS0.out hb1.size
 clear hb1
 have HPF : Hid (prtF N E = if chkN N E = 0 then (((partsN (segsI N E) : Nat) : Int), 0) else (0, chkN N E)) := hide rfl
 obtain ⟨r, hr⟩ : ∃ r, chkN N E = r := ⟨_, rfl⟩
 rw [hr] at HPF ⊢
 by_cases h0 : r = 0
 ·subst h0
  obtain ⟨g1, g2, g3, g4, g5⟩ := chkN_ok hr
  rw [if_pos rfl] at HPF
  have hEE := (net_ok (segs_ok g3)).edges_lt
  obtain ⟨ED, hED⟩ : ∃ ED, edgesF (segsI N E) = ED := ⟨_, rfl⟩
  have HPV : Hid (prtF N E = ((((compF N.length ED).2 : Nat) : Int), 0)) := hide (by
   rw [HPF.out]
   show ((((compF (nodesF (segsI N E)).length (edgesF (segsI N E))).2 : Nat) : Int), (0 : Int)) = _
   rw [g4, hED])
  have hlt : ∀ e ∈ ED, e.1 < N.length ∧ e.2 < N.length := fun e he => by
   have := hEE e (by rw [← hED] at he; exact he)
   rwa [g4] at this
  have HLT := hide hlt
  have HEQ : Hid (E = edI ED) := hide (by rw [← hED]; exact g5.symm)
  have HNL := hide (And.intro g1 g2)
  clear hr HPF g1 g2 g3 g4 g5 hEE hED hlt HN HE
  go_upto_region 6 with fail
  refine wp_name fun w2 hw2 => ?_
  have HS2 := hide (Pst.start HB1.out hs1 k1 hw2)
  have k0' : w2.cell? ⟨w.heap.size, 0, none⟩ = some (.slice An N.length cn) := ((show Below w1.heap.size w1 w2 by rw [hw2]; exact ((Below.refl _ _).alloc (Nat.le_refl _) _).alloc (by simp) _).cell (p := ⟨w.heap.size, 0, none⟩) hs1).trans k0
  have k1' := HS2.out.c1
  clear hw2 k0 k1 HB0 HB1 HX HS0 hmm
  go_wp2_with (fail)
  clear k0' k1'
  go_loopw [7, 24] (fun c i wr => ∃ m : Nat, m ≤ E.length ∧ i = .int .i64 (m : Int) ∧ c = .int .i64 ((compI N.length ED m).2 : Int) ∧ Hid (∃ f r, FOK N.length f (compI N.length ED m).1 r ∧ ∃ q, q ≤ m ∧ Pst w wr w1.heap.size q f (.slice Ae E.length ce))) (fun _ i _ => E.length - (intOf i).toNat)
  case atStart => exact ⟨0, Nat.zero_le _, rfl, by rw [compI_zero], hide ⟨_, _, by rw [compI_zero]; exact FOK.start _, 0, Nat.le_refl _, HS2.out⟩⟩
  case round =>
   clear HS2
   obtain ⟨m, hm, rfl, rfl, HH⟩ := hrel
   by_cases hlt : m < E.length
   ·have mz : (m : Int) < (E.length : Int) := by omega
    obtain ⟨f, r, hf, q, hq, hst⟩ := HH.out
    have hlen : ED.length = E.length := by rw [HEQ.out]; unfold edI; simp
    obtain ⟨⟨a, b⟩, hab⟩ : ∃ e, ED[m]? = some e := ⟨_, List.getElem?_eq_getElem (by omega)⟩
    have hsE : E[m]? = some ((a : Int), (b : Int)) := by rw [HEQ.out]; unfold edI; rw [List.getElem?_map, hab]; rfl
    obtain ⟨ha, hb⟩ := HLT.out _ (List.mem_of_getElem? hab)
    simp only at ha hb
    obtain ⟨bE, o, rfl, hbl, k⟩ := HER.out (by intro e; rw [e] at hlt; simp at hlt)
    have hsz := hst.sz
    have hwl := hst.lt
    have d0 : wr.cell? ⟨bE, o + m * 2, none⟩ = some (.int .i64 (a : Int)) := (hst.low.cell (p := ⟨bE, _, none⟩) hbl).trans (k m _ hsE 0 _ rfl)
    have d1 : wr.cell? ⟨bE, o + m * 2 + 1, none⟩ = some (.int .i64 (b : Int)) := (hst.low.cell (p := ⟨bE, _, none⟩) hbl).trans (k m _ hsE 1 _ rfl)
    have hco := compI_ok HLT.out m
    have HF := hide hf
    have HCO := hide hco
    have HST := hide hst
    have la := hco.lt _ ha
    have lbb := hco.lt _ hb
    have HSC : Hid (compI N.length ED (m + 1) = compS (compI N.length ED m) (a, b)) := hide (compI_succ hab)
    have HPO : Hid (0 < (compI N.length ED m).2 ∧ (compI N.length ED m).2 ≤ N.length) := hide ⟨parts_pos (fun e he => HLT.out e (List.mem_of_mem_take he)) (by omega), (parts_bd _ _).2⟩
    have HAB := hide (And.intro ha hb)
    obtain ⟨hn400, hel⟩ := HNL.out
    have c1 := hst.c1
    have hbw : bE < wr.heap.size := by omega
    have hww : w.heap.size < wr.heap.size := by omega
    clear hab hsE k hf hco hst HH hlen
    go_upto_region 10 with fail
    refine wp_hab fun hab => ?_
    refine wp_region_above (by kernel_rfl) (by kernel_rfl) ?_
    have HF1 := hide (fun (y : Above wr) => above_same (x := y) (first35_any ((y.keeps.cell (p := ⟨w1.heap.size + 1, 0, none⟩) (by simp only; omega)).trans HST.out.ct) (HST.out.pm.below y.keeps) HF.out hn400 HAB.out.1))
    have HF2 := hide (fun (y : Above wr) => above_same (x := y) (first35_any ((y.keeps.cell (p := ⟨w1.heap.size + 1, 0, none⟩) (by simp only; omega)).trans HST.out.ct) (HST.out.pm.below y.keeps) HF.out hn400 HAB.out.2))
    generalize compI N.length ED m = C at *
    obtain ⟨L, cc⟩ := C
    simp only at HF HCO HPO HF1 HF2 la lbb ⊢
    repeat (go_big_quiet_step ((go_at_call 74; first | with_reducible exact HF1.out _ | with_reducible exact HF2.out _)))
    refine wpQuiet_nil ?_
    refine above_ends fun w5 hb5 => ?_
    have HS5 := hide (HST.out.below hb5)
    clear hab HF1 HF2 hb5 d0 d1 c1 hbw hww HST
    have HL := hide (And.intro la lbb)
    by_cases he : lb L a = lb L b
    ·have HSN : Hid (compI N.length ED (m + 1) = (L, cc)) := hide (by
      rw [HSC.out]
      unfold compS
      rw [if_pos he])
     rw [he]
     clear he la lbb HSC
     go_wp2
     go_roundw
     case rel => exact ⟨m + 1, by omega, by go_num, by rw [HSN.out], hide ⟨_, _, by rw [HSN.out]; exact HF.out, q, by omega, HS5.out⟩⟩
     case measure => simp [intOf]; omega
    ·have hz : ((lb L a : Int) != (lb L b : Int)) = true := by simpa using fun h : (lb L a : Int) = (lb L b : Int) => he (by omega)
     obtain ⟨w6, hrun, hs6⟩ := HS5.out.put (a := lb L a) (b := lb L b) (by omega) (by omega) (by have := HNL.out.2; omega)
     have HS6 := hide hs6
     have HSN : Hid (compI N.length ED (m + 1) = (joinLb L (lb L a) (lb L b), cc - 1)) := hide (by
      rw [HSC.out]
      unfold compS
      rw [if_neg he])
     have HF6 := hide (HF.out.step HCO.out HAB.out.1 HAB.out.2 he)
     obtain ⟨hcc, hcd⟩ := HPO.out
     have ct := HS5.out.ct
     clear he la lbb HSC hs6 HL
     generalize lb L a = la at *
     generalize lb L b = lbb at *
     have hc1 : (((cc - 1 : Nat)) : Int) = (cc : Int) - 1 := by omega
     have HC1 := hide hc1
     clear hc1
     go_wp2
     go_roundw
     case rel => exact ⟨m + 1, by omega, by go_num, by rw [HSN.out]; exact int_eq HC1.out.symm, hide ⟨_, _, by rw [HSN.out]; exact HF6.out, q + 1, by omega, HS6.out⟩⟩
     case measure => simp [intOf]; omega
   ·obtain rfl : m = E.length := by omega
    have mz : ¬ (E.length : Int) < (E.length : Int) := by omega
    obtain ⟨f, r, hf, q, hq, hst⟩ := HH.out
    have HBE := hide hst.low
    have hlen : ED.length = E.length := by rw [HEQ.out]; unfold edI; simp
    have HV : Hid (prtF N E = (((compI N.length ED E.length).2 : Int), 0)) := hide (by rw [HPV.out, ← hlen, compI_all])
    clear HH hf hst hlen HPV
    generalize (compI N.length ED E.length).2 = cc at *
    go_wp2
    go_ret2
    exact ⟨by rw [HV.out]; rfl, HBE.out⟩
 ·have hz : (r != 0) = true := by simpa using h0
  rw [if_neg h0] at HPF
  clear h0 hr
  go_wp2
  go_ret2
  exact ⟨by rw [HPF.out]; rfl, HB1.out⟩
def lopF (N : List Pt) (E : List Ei) : Int × Int := if (prtF N E).2 = 0 then ((E.length : Int) - N.length + (prtF N E).1, 0) else (0, (prtF N E).2)
theorem prtF_bd {N : List Pt} {E : List Ei} (h : (prtF N E).2 = 0) : N.length ≤ 400 ∧ E.length ≤ 800 ∧ 0 ≤ (prtF N E).1 ∧ (prtF N E).1 ≤ N.length := by
 unfold prtF at h ⊢
 by_cases h0 : chkN N E = 0
 ·rw [if_pos h0]
  obtain ⟨g1, g2, g3, g4, g5⟩ := chkN_ok h0
  have hb := (parts_bd (nodesF (segsI N E)).length (edgesF (segsI N E))).2
  have hb2 : partsN (segsI N E) ≤ N.length := by
   show (compF (nodesF (segsI N E)).length (edgesF (segsI N E))).2 ≤ N.length
   rw [g4] at hb ⊢
   exact hb
  refine ⟨g1, g2, ?_, ?_⟩
  ·simp only; omega
  ·simp only; omega
 ·rw [if_neg h0] at h
  exact absurd h h0
set_option maxHeartbeats 4000000 in
theorem loops_any {w : World} {nv ev : Value} {N : List Pt} {E : List Ei} (hn : RdK encS 2 w w.heap.size nv N) (he : RdK encS 2 w w.heap.size ev E) :
  Calls Tryz.prog 40 #[.agg #[nv, ev]] w fun e w' => e = .returned (.tuple #[.int .i64 (lopF N E).1, .int .i64 (lopF N E).2]) ∧ Below w.heap.size w w' := by
 have HN := hide hn
 have HE := hide he
 obtain ⟨An, cn, rfl, _⟩ := hn
 obtain ⟨Ae, ce, rfl, _⟩ := he
 have hb0 : Below w.heap.size w (w.alloc (.cells #[.slice An N.length cn, .slice Ae E.length ce] 63)) := (Below.refl _ _).alloc (Nat.le_refl _) _
 have HB0 := hide hb0
 have x0 : (w.alloc (.cells #[.slice An N.length cn, .slice Ae E.length ce] 63)).cell? ⟨w.heap.size, 0, none⟩ = some (.slice An N.length cn) := by simp [go_sem]
 have x1 : (w.alloc (.cells #[.slice An N.length cn, .slice Ae E.length ce] 63)).cell? ⟨w.heap.size, 1, none⟩ = some (.slice Ae E.length ce) := by simp [go_sem]
 have HX := hide (And.intro x0 x1)
 have s0 : w.heap.size < (w.alloc (.cells #[.slice An N.length cn, .slice Ae E.length ce] 63)).heap.size := by simp
 have HS0 := hide s0
 clear hb0 x0 x1 s0
 go_enter Tryz.func40, Tryz.ntmps40
 go_wp2_with (fail)
 refine (parts35_any ((HN.out.below HB0.out).mono HB0.out.size) ((HE.out.below HB0.out).mono HB0.out.size)).mono ?_
 rintro e w1 ⟨rfl, hb1⟩
 have HB1 := hide (HB0.out.trans (hb1.mono HB0.out.size))
 have k0 := (hb1.cell (p := ⟨w.heap.size, 0, none⟩) HS0.out).trans HX.out.1
 have k1 := (hb1.cell (p := ⟨w.heap.size, 1, none⟩) HS0.out).trans HX.out.2
 have hs1 : w.heap.size < w1.heap.size := Nat.lt_of_lt_of_le HS0.out hb1.size
 clear hb1
 have HLF : Hid (lopF N E = if (prtF N E).2 = 0 then ((E.length : Int) - N.length + (prtF N E).1, 0) else (0, (prtF N E).2)) := hide rfl
 have hbd := prtF_bd (N := N) (E := E)
 generalize prtF N E = p at *
 obtain ⟨p1, p2⟩ := p
 simp only at hbd HLF ⊢
 by_cases h0 : p2 = 0
 ·subst h0
  obtain ⟨b1, b2, b3, b4⟩ := hbd rfl
  have HV : Hid (lopF N E = ((E.length : Int) - N.length + p1, 0)) := hide (by rw [HLF.out, if_pos rfl])
  clear hbd HLF
  go_wp2
  go_ret2
  exact ⟨by rw [HV.out]; rfl, HB1.out⟩
 ·have hz : (p2 != 0) = true := by simpa using h0
  have HV : Hid (lopF N E = (0, p2)) := hide (by rw [HLF.out, if_neg h0])
  clear hbd HLF h0
  go_wp2
  go_ret2
  exact ⟨by rw [HV.out]; rfl, HB1.out⟩
end Go.Proofs.YtikojiciilambaaGreat

/- The reference of blocks: Wide, Streets, Blocks. -/
namespace Go.Proofs.YtikojiciilambaaGreat
open Go.RowKit Go.Maps
set_option linter.unusedVariables false
set_option linter.unusedSimpArgs false
def encT (r : R4) : Value := .agg #[.int .i64 r.x0, .int .i64 r.y0, .int .i64 r.x1, .int .i64 r.y1]
set_option maxRecDepth 100000 in
set_option maxHeartbeats 8000000 in
theorem rWide35_any (s : Sg) (hs : okSg s) {d : Int} (h1 : 1 ≤ d) (h2 : d ≤ 1000) (w : World) :
  Calls Tryz.prog 67 #[.agg #[.int .i64 s.ax, .int .i64 s.ay, .int .i64 s.cx, .int .i64 s.cy], .int .i64 d] w fun e w' => e = .returned (encT (thickS d s)) ∧ Below w.heap.size w w' := by
 obtain ⟨⟨⟨a1, a2⟩, ⟨a3, a4⟩, ⟨a5, a6⟩, a7, a8⟩, _⟩ := hs
 have t0 : IntKind.i64.wrap (min s.ax s.cx - d) = min s.ax s.cx - d := by simp [IntKind.wrap, IntKind.bits, IntKind.signed]; omega
 have t1 : IntKind.i64.wrap (min s.ay s.cy - d) = min s.ay s.cy - d := by simp [IntKind.wrap, IntKind.bits, IntKind.signed]; omega
 have t2 : IntKind.i64.wrap (max s.ax s.cx + d) = max s.ax s.cx + d := by simp [IntKind.wrap, IntKind.bits, IntKind.signed]; omega
 have t3 : IntKind.i64.wrap (max s.ay s.cy + d) = max s.ay s.cy + d := by simp [IntKind.wrap, IntKind.bits, IntKind.signed]; omega
 have HT : Hid (encT (thickS d s) = .agg #[.int .i64 (min s.ax s.cx - d), .int .i64 (min s.ay s.cy - d), .int .i64 (max s.ax s.cx + d), .int .i64 (max s.ay s.cy + d)]) := hide rfl
 rw [HT.out]
 have hb : Below w.heap.size w (((w.alloc (.cells #[.int .i64 s.ax, .int .i64 s.ay, .int .i64 s.cx, .int .i64 s.cy] 106)))) := (Below.refl _ _).alloc (Nat.le_refl _) _
 have HB := hide hb
 clear hb a1 a2 a3 a4 a5 a6 a7 a8
 go_enter Tryz.func67, Tryz.ntmps67
 go_wp2
 refine bodyPost_ret (v := .agg #[.int .i64 (min s.ax s.cx - d), .int .i64 (min s.ay s.cy - d), .int .i64 (max s.ax s.cx + d), .int .i64 (max s.ay s.cy + d)]) (by simp [results, Tryz.results67, go_sem]) rfl ⟨rfl, ?_⟩
 repeat (first | with_reducible exact Below.refl _ _ | with_reducible refine Below.setCell ?_ (by first | (simp; done) | (simp; omega)) _ | with_reducible refine Below.alloc ?_ (by first | omega | (simp; omega) | (simp; done)) _)
set_option maxRecDepth 100000 in
set_option maxHeartbeats 8000000 in
theorem rStreets35_any {w : World} {nv ev : Value} {N : List Pt} {E : List Ei} {d : Int} (hn : RdK encS 2 w w.heap.size nv N) (he : RdK encS 2 w w.heap.size ev E) :
  Calls Tryz.prog 35 #[.agg #[nv, ev], .int .i64 d] w fun e w' => RegRet w.heap.size (strF N E d) e w' ∧ Below w.heap.size w w' := by
 have HN := hide hn
 have HE := hide he
 obtain ⟨An, cn, rfl, _⟩ := hn
 obtain ⟨Ae, ce, rfl, _⟩ := he
 obtain ⟨i2, fi, fz0, fz1, fz2⟩ := info_parts infoRc
 have hb0 : Below w.heap.size w (w.alloc (.cells #[.slice An N.length cn, .slice Ae E.length ce] 63)) := (Below.refl _ _).alloc (Nat.le_refl _) _
 have HB0 := hide hb0
 clear hb0
 go_enter Tryz.func35, Tryz.ntmps35
 go_wp2_with (fail)
 refine (rSegments34_any ((HN.out.below HB0.out).mono HB0.out.size) ((HE.out.below HB0.out).mono HB0.out.size)).mono ?_
 rintro e w1 ⟨⟨ov, rfl, hq1, hq2⟩, hb1⟩
 have HB1 := hide (HB0.out.trans (hb1.mono HB0.out.size))
 by_cases h0 : chkN N E = 0
 ·have ho := hq1 h0
  rw [h0]
  have HO := hide (own_rd ho (fun _ => rfl))
  have hsl : (segsI N E).length = E.length := by unfold segsI; simp
  have HSL := hide hsl
  have HOK : Hid (∀ s ∈ segsI N E, okSg s) := hide (fun s hs => by
   obtain ⟨e, he, rfl⟩ := List.mem_map.1 hs
   exact ((chkN_ok h0).2.2.1 e he).2)
  have hl8 : (segsI N E).length ≤ 800 := by rw [hsl]; exact (chkN_ok h0).2.1
  have HF0 : Hid (strF N E d = if d < 1 ∨ 1000 < d then ([], 2) else if 400 < (segsI N E).length then ([], 4) else if ¬ ∀ s ∈ segsI N E, fitR (thickS d s) then ([], 16) else makeF ((segsI N E).map (thickS d))) := hide (by unfold strF; rw [if_neg (fun h => h h0), hsl])
  clear hq1 hq2 h0 ho hb1 hsl HSL
  generalize segsI N E = l at *
  obtain ⟨A, c, rfl, hc⟩ := HO.out
  have HRC := hide hc
  clear hc HO
  by_cases h1 : d < 1
  ·have HF : Hid (strF N E d = ([], 2)) := hide (by rw [HF0.out, if_pos (.inl h1)])
   have z1 : decide (d < 1) = true := decide_eq_true h1
   clear h1
   go_wp2
   go_ret2
   exact ⟨⟨none, 0, by rw [HF.out]; rfl, by rw [HF.out]; exact World.ownsRow_nil _ _ _ _⟩, HB1.out⟩
  ·have z1 : decide (d < 1) = false := decide_eq_false h1
   by_cases h2 : 1000 < d
   ·have HF : Hid (strF N E d = ([], 2)) := hide (by rw [HF0.out, if_pos (.inr h2)])
    have z2 : decide (1000 < d) = true := decide_eq_true h2
    clear h1 h2
    go_wp2
    go_ret2
    exact ⟨⟨none, 0, by rw [HF.out]; rfl, by rw [HF.out]; exact World.ownsRow_nil _ _ _ _⟩, HB1.out⟩
   ·have z2 : decide (1000 < d) = false := decide_eq_false h2
    by_cases h3 : 400 < l.length
    ·have HF : Hid (strF N E d = ([], 4)) := hide (by rw [HF0.out, if_neg (by omega), if_pos h3])
     have z3 : (400 : Int) < (l.length : Int) := by omega
     clear h1 h2 h3
     go_wp2
     go_ret2
     exact ⟨⟨none, 0, by rw [HF.out]; rfl, by rw [HF.out]; exact World.ownsRow_nil _ _ _ _⟩, HB1.out⟩
    ·have z3 : ¬ (400 : Int) < (l.length : Int) := by omega
     have HF1 : Hid (strF N E d = if ¬ ∀ s ∈ l, fitR (thickS d s) then ([], 16) else makeF (l.map (thickS d))) := hide (by rw [HF0.out, if_neg (by omega), if_neg h3])
     have hd1 : 1 ≤ d := by omega
     have hd2 : d ≤ 1000 := by omega
     clear h1 h2 h3 HF0
     go_wp2
     clear z1 z2 z3
     go_loopw [8, 9] (fun o i wr => ∃ (m : Nat) (Ao : Option Addr) (co : Nat), m ≤ l.length ∧ i = .int .i64 (m : Int) ∧ o = .slice Ao m co ∧ Hid (Below w1.heap.size w1 wr) ∧ Hid (wr.ownsRow w1.heap.size 49 4 (.slice Ao m co) m (((l.map (thickS d)).take m).flatMap encR)) ∧ Hid (∀ s ∈ l.take m, fitR (thickS d s))) (fun _ i _ => l.length - (intOf i).toNat)
     case atStart => exact ⟨0, none, 0, Nat.zero_le _, rfl, rfl, hide (Below.refl _ _), hide (World.ownsRow_nil _ _ _ _), hide (by simp)⟩
     case round =>
      obtain ⟨m, Ao, co, hm, rfl, rfl, HB, HO, HV⟩ := hrel
      by_cases hlt : m < l.length
      ·obtain ⟨s, hs⟩ : ∃ p, l[m]? = some p := ⟨_, List.getElem?_eq_getElem hlt⟩
       obtain ⟨b, o, rfl, hbl, k⟩ := HRC.out (by intro e; rw [e] at hlt; simp at hlt)
       have hb := HB.out
       have d0 : wr.cell? ⟨b, o + m * 4, none⟩ = some (.int .i64 s.ax) := (hb.cell (p := ⟨b, _, none⟩) hbl).trans (k m _ hs 0 _ rfl)
       have d1 : wr.cell? ⟨b, o + m * 4 + 1, none⟩ = some (.int .i64 s.ay) := (hb.cell (p := ⟨b, _, none⟩) hbl).trans (k m _ hs 1 _ rfl)
       have d2 : wr.cell? ⟨b, o + m * 4 + 2, none⟩ = some (.int .i64 s.cx) := (hb.cell (p := ⟨b, _, none⟩) hbl).trans (k m _ hs 2 _ rfl)
       have d3 : wr.cell? ⟨b, o + m * 4 + 3, none⟩ = some (.int .i64 s.cy) := (hb.cell (p := ⟨b, _, none⟩) hbl).trans (k m _ hs 3 _ rfl)
       obtain ⟨⟨⟨a1, a2⟩, ⟨a3, a4⟩, ⟨a5, a6⟩, a7, a8⟩, _⟩ := HOK.out s (List.mem_of_getElem? hs)
       have mz : (m : Int) < (l.length : Int) := by omega
       have HS := hide hs
       have hs' := hs
       clear k hs hb
       have HOS := hide (HOK.out s (List.mem_of_getElem? hs'))
       have HLE : Hid (min s.ax s.cx - d ≤ max s.ax s.cx + d ∧ min s.ay s.cy - d ≤ max s.ay s.cy + d) := hide (by omega)
       clear a1 a2 a3 a4 a5 a6 a7 a8 hs'
       go_upto_region 12 with fail
       go_wp2_with (fail)
       refine (rWide35_any s HOS.out hd1 hd2 _).mono ?_
       rintro e w4 ⟨rfl, hb4⟩
       have HTH : Hid (thickS d s = ⟨min s.ax s.cx - d, min s.ay s.cy - d, max s.ax s.cx + d, max s.ay s.cy + d⟩) := hide rfl
       have HTE : Hid (encT (thickS d s) = .agg #[.int .i64 (min s.ax s.cx - d), .int .i64 (min s.ay s.cy - d), .int .i64 (max s.ax s.cx + d), .int .i64 (max s.ay s.cy + d)]) := hide rfl
       rw [HTE.out]
       have HB4 := hide (HB.out.trans (hb4.mono HB.out.size))
       have HO4 := hide (own_below HO.out hb4)
       clear hb4 d0 d1 d2 d3 HB HO HTE
       generalize min s.ax s.cx - d = X0 at *
       generalize min s.ay s.cy - d = Y0 at *
       generalize max s.ax s.cx + d = X1 at *
       generalize max s.ay s.cy + d = Y1 at *
       go_upto_region 13 with fail
       refine wp_name fun w5 hw5 => ?_
       obtain ⟨g5, hg5⟩ : ∃ g, w4.heap.size = g := ⟨_, rfl⟩
       have hb5 : Below w4.heap.size w4 w5 := by rw [hw5]; exact (Below.refl _ _).alloc (Nat.le_refl _) _
       have HRX : Hid (∀ W, Below w5.heap.size w5 W → g5 < W.heap.size ∧ W.cell? ⟨g5, 0, none⟩ = some (.int .i64 X0) ∧ W.cell? ⟨g5, 1, none⟩ = some (.int .i64 Y0) ∧ W.cell? ⟨g5, 2, none⟩ = some (.int .i64 X1) ∧ W.cell? ⟨g5, 3, none⟩ = some (.int .i64 Y1)) := hide (fun W hb => by
        have hlt : g5 < w5.heap.size := by rw [hw5, ← hg5]; simp
        refine ⟨Nat.lt_of_lt_of_le hlt hb.size, (hb.cell (p := ⟨g5, 0, none⟩) hlt).trans ?_, (hb.cell (p := ⟨g5, 1, none⟩) hlt).trans ?_, (hb.cell (p := ⟨g5, 2, none⟩) hlt).trans ?_, (hb.cell (p := ⟨g5, 3, none⟩) hlt).trans ?_⟩ <;> rw [hw5, ← hg5] <;> simp [go_sem])
       have HB5 := hide (HB4.out.trans (hb5.mono HB4.out.size))
       have HO5 := hide (own_below HO4.out hb5)
       rw [hg5]
       clear hw5 hb5 hg5 HB4 HO4
       have HBr : Hid (strF N E d = ([], 16) ∨ fitR (thickS d s)) := hide (by
        by_cases h : fitR (thickS d s)
        ·exact .inr h
        ·left
         rw [HF1.out, if_pos]
         intro h2
         exact h (h2 s (List.mem_of_getElem? HS.out)))
       have HFX : Hid (fitR (thickS d s) ↔ ((decide (finS X0) && decide (finS Y0)) = true ∧ (decide (finS X1) && decide (finS Y1)) = true)) := hide (by
        have := HLE.out
        rw [HTH.out]
        simp only [Bool.and_eq_true, decide_eq_true_eq]
        unfold fitR finS
        simp only
        omega)
       obtain ⟨hg, p0, p1, p2, p3⟩ := HRX.out w5 (Below.refl _ _)
       go_wp2_with (fail)
       refine (rIn33_any X0 Y0 _).mono ?_
       rintro e w6 ⟨rfl, hb6⟩
       have HB6 := hide (HB5.out.trans (hb6.mono HB5.out.size))
       have HO6 := hide (own_below HO5.out hb6)
       have HRX6 := hide (fun W (hb : Below w6.heap.size w6 W) => HRX.out W (hb6.trans (hb.mono hb6.size)))
       clear hb6 hg p0 p1 p2 p3 HB5 HO5 HRX
       cases f1 : (decide (finS X0) && decide (finS Y0)) with
       | false =>
        have HF : Hid (strF N E d = ([], 16)) := hide (HBr.out.resolve_right fun h => by have := (HFX.out.1 h).1; rw [f1] at this; cases this)
        clear f1
        go_wp2
        go_ret2
        exact ⟨⟨none, 0, by rw [HF.out]; rfl, by rw [HF.out]; exact World.ownsRow_nil _ _ _ _⟩, HB1.out.trans (HB6.out.mono HB1.out.size)⟩
       | true =>
        have HF1T := hide f1
        clear f1
        obtain ⟨hg, p0, p1, p2, p3⟩ := HRX6.out w6 (Below.refl _ _)
        go_wp2_with (fail)
        refine (rIn33_any X1 Y1 _).mono ?_
        rintro e w7 ⟨rfl, hb7⟩
        have HB7 := hide (HB6.out.trans (hb7.mono HB6.out.size))
        have HO7 := hide (own_below HO6.out hb7)
        have HRX7 := hide (HRX6.out w7 hb7)
        clear hb7 hg p0 p1 p2 p3 HB6 HO6 HRX6
        cases f2 : (decide (finS X1) && decide (finS Y1)) with
        | false =>
         have HF : Hid (strF N E d = ([], 16)) := hide (HBr.out.resolve_right fun h => by have := (HFX.out.1 h).2; rw [f2] at this; cases this)
         clear f2
         go_wp2
         go_ret2
         exact ⟨⟨none, 0, by rw [HF.out]; rfl, by rw [HF.out]; exact World.ownsRow_nil _ _ _ _⟩, HB1.out.trans (HB7.out.mono HB1.out.size)⟩
        | true =>
         have HFI : Hid (fitR (thickS d s)) := hide (HFX.out.2 ⟨HF1T.out, f2⟩)
         obtain ⟨hg, p0, p1, p2, p3⟩ := HRX7.out
         clear f2 HF1T HFX HBr
         have hw5 : w1.heap.size ≤ w7.heap.size := HB7.out.size
         have hml : m < 800 := by omega
         go_wp2_with (at_builtin; go_loud (refine wpList_append_lies _ rfl (.tmp 56) (.tmp 58) 22 rfl w1.heap.size 49 i2 (.agg #[.int .i64 0, .int .i64 0, .int .i64 0, .int .i64 0]) 4 32 Tryz.underlying22 fi fz0 fz1 fz2 rfl (by decide) _ m _ rfl (World.ownsRow.alloc HO7.out _) ⟨w7.heap.size, 0, none⟩ 1 1 [.int .i64 X0, .int .i64 Y0, .int .i64 X1, .int .i64 Y1] rfl rfl (news_new w7 _ _ _ (by simp)) (ints_one rfl) (by omega) (by unfold maxLen; omega) (by omega) (by simp; omega) _ rfl ?_))
         intro g9 cap9 w9 hown9 hgrow9 hor9 hlt9
         have hal : Below w7.heap.size w7 (w7.alloc (.cells #[.int .i64 X0, .int .i64 Y0, .int .i64 X1, .int .i64 Y1] 49)) := (Below.refl _ _).alloc (Nat.le_refl _) _
         have HB9 : Hid (Below w1.heap.size w1 w9) := hide ((HB7.out.trans (hal.mono hw5)).grown hgrow9 (by simp; omega) (fun q hq => (HO7.out.lt q hq).1))
         have hx9 : ((l.map (thickS d)).take m).flatMap encR ++ [.int .i64 X0, .int .i64 Y0, .int .i64 X1, .int .i64 Y1] = ((l.map (thickS d)).take (m + 1)).flatMap encR := by
          rw [List.take_add_one, List.getElem?_map, HS.out, Option.map_some, Option.toList_some, List.flatMap_append, HTH.out]
          simp only [List.flatMap_cons, List.flatMap_nil, List.append_nil, encR]
         rw [hx9] at hown9
         have HO9 := hide hown9
         have HV9 : Hid (∀ s ∈ l.take (m + 1), fitR (thickS d s)) := hide (by
          intro q hq
          rw [List.take_add_one, HS.out, Option.toList_some, List.mem_append, List.mem_singleton] at hq
          rcases hq with hq | rfl
          ·exact HV.out q hq
          ·exact HFI.out)
         clear hown9 hgrow9 hor9 hlt9 hal hx9 p0 p1 p2 p3 hg HB7 HO7
         go_wp2
         go_roundw
         case rel => exact ⟨m + 1, _, cap9, by omega, by go_num, rfl, HB9, HO9, HV9⟩
         case measure => simp [intOf]; omega
      ·have mz : ¬ (m : Int) < (l.length : Int) := by omega
       obtain rfl : m = l.length := by omega
       have ht : l.take l.length = l := List.take_length
       have ht2 : (l.map (thickS d)).take l.length = l.map (thickS d) := List.take_of_length_le (by simp)
       rw [ht2] at HO
       rw [ht] at HV
       have HF : Hid (strF N E d = makeF (l.map (thickS d))) := hide (by rw [HF1.out, if_neg (fun h => h HV.out)])
       clear ht ht2
       go_wp2_with (fail)
       have ho := HO.out
       have e1 : (l.map (thickS d)).length = l.length := by simp
       rw [← e1] at ho ⊢
       refine (rMake_any (own_rd ho (fun _ => rfl)) (by rw [e1]; omega)).mono ?_
       rintro e w9 ⟨⟨A9, c9, rfl, o9⟩, hb9⟩
       have HB9 := hide (HB1.out.trans ((HB.out.trans (hb9.mono HB.out.size)).mono HB1.out.size))
       have HO9 := hide (own_base o9 (Nat.le_trans HB1.out.size HB.out.size))
       clear ho o9 hb9
       rw [← HF.out] at *
       go_wp2
       go_ret2
       exact ⟨⟨A9, c9, rfl, HO9.out⟩, HB9.out⟩
 ·have hov := hq2 h0
  subst hov
  have HF : Hid (strF N E d = ([], chkN N E)) := hide (by unfold strF; rw [if_pos h0])
  have hz : (chkN N E != 0) = true := by simpa using h0
  clear hq1 hq2 h0 hb1
  go_wp2
  go_ret2
  exact ⟨⟨none, 0, by rw [HF.out]; rfl, by rw [HF.out]; exact World.ownsRow_nil _ _ _ _⟩, HB1.out⟩
set_option maxRecDepth 100000 in
set_option maxHeartbeats 8000000 in
theorem rBlocks35_any {w : World} {nv ev va : Value} {N : List Pt} {E : List Ei} {d : Int} {land : List R4} (hn : RdK encS 2 w w.heap.size nv N) (he : RdK encS 2 w w.heap.size ev E) (ha : RdK encR 4 w w.heap.size va land) (na : land.length ≤ 100000000) :
  Calls Tryz.prog 37 #[.agg #[nv, ev], .int .i64 d, va] w fun e w' => RegsRet w.heap.size (blkF N E d land) e w' ∧ Below w.heap.size w w' := by
 have HN := hide hn
 have HE := hide he
 have HA := hide ha
 have HNA := hide na
 obtain ⟨An, cn, rfl, _⟩ := hn
 obtain ⟨Ae, ce, rfl, _⟩ := he
 obtain ⟨Aa, ca, rfl, _⟩ := ha
 have hb0 : Below w.heap.size w (w.alloc (.cells #[.slice An N.length cn, .slice Ae E.length ce] 63)) := (Below.refl _ _).alloc (Nat.le_refl _) _
 have HB0 := hide hb0
 clear hb0 na
 go_enter Tryz.func37, Tryz.ntmps37
 go_wp2_with (fail)
 refine (rStreets35_any ((HN.out.below HB0.out).mono HB0.out.size) ((HE.out.below HB0.out).mono HB0.out.size)).mono ?_
 rintro e w1 ⟨⟨A1, c1, rfl, o1⟩, hb1⟩
 have HB1 := hide (HB0.out.trans (hb1.mono HB0.out.size))
 have HR1 := hide (own_rd o1 (fun _ => rfl))
 have HS := hide (strF_len N E d)
 have HF0 : Hid (blkF N E d land = if (strF N E d).2 ≠ 0 then ([], (strF N E d).2) else if (joinF hSub land (strF N E d).1).2 ≠ 0 then ([], (joinF hSub land (strF N E d).1).2) else partsE (joinF hSub land (strF N E d).1).1) := hide rfl
 clear o1 hb1
 generalize strF N E d = F at *
 by_cases h0 : F.2 = 0
 ·have HF1 : Hid (blkF N E d land = if (joinF hSub land F.1).2 ≠ 0 then ([], (joinF hSub land F.1).2) else partsE (joinF hSub land F.1).1) := hide (by rw [HF0.out, if_neg (fun h => h h0)])
  rw [h0]
  clear HF0 h0
  go_wp2_with (fail)
  refine (rCheck_any ((HA.out.below HB1.out).mono HB1.out.size) HNA.out).mono ?_
  rintro e wk ⟨rfl, hbk⟩
  have HBk := hide (HB1.out.trans (hbk.mono HB1.out.size))
  have HRk := hide ((HR1.out.below hbk).mono hbk.size)
  clear hbk HR1 HB1
  by_cases hck : checkF land = 0
  rotate_left 1
  ·have hz : (checkF land != 0) = true := by simpa using hck
   have HF2 : Hid (blkF N E d land = ([], checkF land)) := hide (by
    have e1 : joinF hSub land F.1 = ([], checkF land) := by
     unfold joinF bothF
     rw [if_neg (by rw [if_neg hck]; exact hck), if_neg hck]
    rw [HF1.out, e1, if_pos hck])
   clear HF1 hck
   go_wp2_with (fail)
   refine (rCheck_any ((HA.out.below HBk.out).mono HBk.out.size) HNA.out).mono ?_
   rintro e w2 ⟨rfl, hb2⟩
   have HB2 := hide (HBk.out.trans (hb2.mono HBk.out.size))
   clear hb2
   go_wp2
   go_ret2
   exact ⟨by rw [HF2.out]; exact regs_nil _ _ _, HB2.out⟩
  rw [hck]
  clear hck
  have HB1 := HBk
  go_wp2_with (fail)
  refine (rJoin_any 3 (.inr (.inr rfl)) ((HA.out.below HB1.out).mono HB1.out.size) HRk.out HNA.out (Nat.le_trans HS.out (by omega))).mono ?_
  rw [show hk 3 = hSub from rfl]
  rintro e w2 ⟨⟨A2, c2, rfl, o2⟩, hb2⟩
  have HB2 := hide (HB1.out.trans (hb2.mono HB1.out.size))
  have HR2 := hide (own_rd o2 (fun _ => rfl))
  have HJ := hide (joinF_len hSub land F.1)
  clear o2 hb2
  generalize joinF hSub land F.1 = J at *
  by_cases h1 : J.2 = 0
  ·have HF2 : Hid (blkF N E d land = partsE J.1) := hide (by rw [HF1.out, if_neg (fun h => h h1)])
   rw [h1]
   clear HF1 h1
   go_wp2_with (fail)
   refine (rParts_any HR2.out (Nat.le_trans HJ.out (by omega))).mono ?_
   rintro e w3 ⟨⟨A3, c3, vs, rfl, o3, k3⟩, hb3⟩
   have HB3 := hide (HB2.out.trans (hb3.mono HB2.out.size))
   have HO3 : Hid (RegsRet w.heap.size (blkF N E d land) (.returned (.tuple #[.slice A3 (partsE J.1).1.length c3, .int .i64 (partsE J.1).2])) w3) := hide (by
    rw [HF2.out]
    refine ⟨A3, c3, vs, rfl, own_base o3 HB2.out.size, fun i r h => ?_⟩
    obtain ⟨v, h1, h2⟩ := k3 i r h
    exact ⟨v, h1, own_base h2 HB2.out.size⟩)
   clear o3 k3 hb3
   generalize partsE J.1 = P at *
   go_wp2
   go_ret2
   exact ⟨HO3.out, HB3.out⟩
  ·have hz : (J.2 != 0) = true := by simpa using h1
   have HF2 : Hid (blkF N E d land = ([], J.2)) := hide (by rw [HF1.out, if_pos h1])
   clear HF1 h1
   go_wp2
   go_ret2
   exact ⟨by rw [HF2.out]; exact regs_nil _ _ _, HB2.out⟩
 ·have hz : (F.2 != 0) = true := by simpa using h0
  have HF1 : Hid (blkF N E d land = ([], F.2)) := hide (by rw [HF0.out, if_pos h0])
  clear HF0 h0
  go_wp2
  go_ret2
  exact ⟨by rw [HF1.out]; exact regs_nil _ _ _, HB1.out⟩
def RdRg (w : World) (B : Nat) (v : Value) (L : List (List R4)) : Prop := ∃ A c, v = .slice A L.length c ∧ (L ≠ [] → ∃ b off, A = some ⟨b, off, none⟩ ∧ b < B ∧ ∀ (j : Nat) (r : List R4), L[j]? = some r → ∃ u, w.cell? ⟨b, off + j, none⟩ = some u ∧ RdK encR 4 w B u r)
theorem RdRg.below {w w' : World} {B : Nat} {v : Value} {L : List (List R4)} (h : RdRg w B v L) (hb : Below B w w') : RdRg w' B v L := by
 obtain ⟨A, c, hv, h⟩ := h
 refine ⟨A, c, hv, fun hl => ?_⟩
 obtain ⟨b, off, hA, hb2, hc⟩ := h hl
 refine ⟨b, off, hA, hb2, fun j r hr => ?_⟩
 obtain ⟨u, h1, h2⟩ := hc j r hr
 exact ⟨u, (hb.cell (p := ⟨b, _, none⟩) hb2).trans h1, h2.below hb⟩
theorem RegsRet.rg {B : Nat} {x : List (List R4) × Int} {e : Ending} {w : World} (h : RegsRet B x e w) : ∃ v, e = .returned (.tuple #[v, .int .i64 x.2]) ∧ RdRg w w.heap.size v x.1 := by
 obtain ⟨A, c, vs, rfl, ho, hr⟩ := h
 refine ⟨_, rfl, A, c, rfl, fun hl => ?_⟩
 have hp : 0 < x.1.length := List.length_pos_iff.2 hl
 obtain ⟨g, cap, hv, hB, hg⟩ := ho.form (by omega)
 injection hv with e1 _ e3
 subst e1; subst e3
 refine ⟨g, 0, rfl, (ho.lt g rfl).2, fun j r hj => ?_⟩
 obtain ⟨v, h3, h4⟩ := hr j r hj
 refine ⟨v, ?_, own_rd h4 (fun _ => rfl)⟩
 have := (ho.cells (g := g) rfl) j _ h3
 rw [addr_add] at this
 rwa [Nat.zero_add]
theorem RdRg.mono {w : World} {B B' : Nat} {v : Value} {L : List (List R4)} (h : RdRg w B v L) (hB : B ≤ B') : RdRg w B' v L := by
 obtain ⟨A, c, hv, h⟩ := h
 refine ⟨A, c, hv, fun hl => ?_⟩
 obtain ⟨b, off, hA, hb2, hc⟩ := h hl
 refine ⟨b, off, hA, Nat.lt_of_lt_of_le hb2 hB, fun j r hr => ?_⟩
 obtain ⟨u, h1, h2⟩ := hc j r hr
 exact ⟨u, h1, h2.mono hB⟩
theorem RdRg.get {w : World} {A : Option Addr} {n c : Nat} {L : List (List R4)} (h : RdRg w w.heap.size (.slice A n c) L) {j : Nat} {r : List R4} (hr : L[j]? = some r) : ∃ b off u, A = some ⟨b, off, none⟩ ∧ b < w.heap.size ∧ w.cell? ⟨b, off + j, none⟩ = some u ∧ RdK encR 4 w w.heap.size u r := by
 obtain ⟨A1, c1, hv, h⟩ := h
 injection hv with e1 _ _
 subst e1
 obtain ⟨b, off, rfl, hb, k⟩ := h (by intro e; rw [e] at hr; simp at hr)
 obtain ⟨u, h1, h2⟩ := k j r hr
 exact ⟨b, off, u, rfl, hb, h1, h2⟩
set_option maxRecDepth 100000 in
set_option maxHeartbeats 8000000 in
theorem rSameRegs_any {w : World} {v1 v2 : Value} {L M : List (List R4)} (h1 : RdRg w w.heap.size v1 L) (h2 : RdRg w w.heap.size v2 M) (l1 : L.length ≤ 100000000) (l2 : ∀ r ∈ L, r.length ≤ 100000000) :
  Calls Tryz.prog 42 #[v1, v2] w fun e w' => e = .returned (.bool (decide (L = M))) ∧ Below w.heap.size w w' := by
 have K1 := hide h1
 have K2 := hide h2
 have HL2 := hide l2
 obtain ⟨A1, c1, rfl, _⟩ := h1
 obtain ⟨A2, c2, rfl, _⟩ := h2
 clear l2
 go_enter Tryz.func42, Tryz.ntmps42
 by_cases q1 : L.length = M.length
 ·have z1 : ((L.length : Int) != (M.length : Int)) = false := by simp; omega
  have HQ1 := hide q1
  clear q1
  go_wp2
  clear z1
  go_loopw [5] (fun i wr => ∃ m : Nat, m ≤ L.length ∧ i = .int .i64 (m : Int) ∧ Hid (L.take m = M.take m) ∧ Hid (Below w.heap.size w wr)) (fun i _ => L.length - (intOf i).toNat)
  case atStart => exact ⟨0, Nat.zero_le _, rfl, hide (by simp), hide (Below.refl _ _)⟩
  case round =>
   obtain ⟨m, hm, rfl, HT, HB⟩ := hrel
   have hll := HQ1.out
   by_cases hlt : m < L.length
   ·have mz : (m : Int) < (L.length : Int) := by omega
    have mz2 : (m : Int) < (M.length : Int) := by omega
    have m0 : (0 : Int) ≤ (m : Int) := by omega
    obtain ⟨r, hr⟩ : ∃ p, L[m]? = some p := ⟨_, List.getElem?_eq_getElem hlt⟩
    obtain ⟨t, ht⟩ : ∃ p, M[m]? = some p := ⟨_, List.getElem?_eq_getElem (by omega)⟩
    obtain ⟨b, o, u, rfl, hb, e0', hu⟩ := K1.out.get hr
    obtain ⟨b2, o2, u2, rfl, hb2, f0', hu2⟩ := K2.out.get ht
    have e0 := (HB.out.cell (p := ⟨b, _, none⟩) hb).trans e0'
    have f0 := (HB.out.cell (p := ⟨b2, _, none⟩) hb2).trans f0'
    have hbr : b < wr.heap.size := Nat.lt_of_lt_of_le hb HB.out.size
    have hbr2 : b2 < wr.heap.size := Nat.lt_of_lt_of_le hb2 HB.out.size
    have HSR := hide (fun (W : World) (hB : Below w.heap.size w W) => rSameRects_any (w := W) (hu.below hB) (hu2.below hB) (HL2.out r (List.mem_of_getElem? hr)) hB.size hB.size)
    have HRR := hide hr
    have HTT := hide ht
    clear hr ht hll hlt e0' f0' hu hu2
    cases hd : decide (r = t) with
    | true =>
     rw [hd] at HSR
     have HT2 := hide (take_eq_succ HT.out HRR.out (by rw [HTT.out, of_decide_eq_true hd]))
     clear hd
     have HSA : Hid (∀ y : Above wr, _) := hide (fun y : Above wr => above_of (x := y) (HSR.out y.get (HB.out.trans (y.keeps.mono HB.out.size))))
     go_upto_region 6 with fail
     refine wp_hab fun hab => ?_
     refine wp_region_above (by kernel_rfl) (by kernel_rfl) ?_
     repeat (go_big_quiet_step ((go_at_call 21; with_reducible exact HSA.out _)))
     refine wpQuiet_nil ?_
     refine above_ends fun w3 hb3 => ?_
     have HBZ := hide (HB.out.trans (hb3.mono HB.out.size))
     clear hab e0 f0 hbr hbr2 hb3 HSR HSA
     go_wp2
     go_roundw
     case rel => exact ⟨m + 1, by omega, by go_num, HT2, HBZ⟩
     case measure => simp [intOf]; omega
    | false =>
     rw [hd] at HSR
     have HN : Hid (¬ L = M) := hide (fun e => by
      have h := HRR.out
      rw [e, HTT.out] at h
      injection h with h
      exact of_decide_eq_false hd h.symm)
     clear hd
     have HSA : Hid (∀ y : Above wr, _) := hide (fun y : Above wr => above_of (x := y) (HSR.out y.get (HB.out.trans (y.keeps.mono HB.out.size))))
     go_upto_region 6 with fail
     refine wp_hab fun hab => ?_
     refine wp_region_above (by kernel_rfl) (by kernel_rfl) ?_
     repeat (go_big_quiet_step ((go_at_call 21; with_reducible exact HSA.out _)))
     refine wpQuiet_nil ?_
     refine above_ends fun w3 hb3 => ?_
     have HBZ := hide (HB.out.trans (hb3.mono HB.out.size))
     clear hab e0 f0 hbr hbr2 hb3 HSR HSA
     go_wp2
     go_ret
     exact ⟨ret_eq (bool_eq (by rw [decide_eq_false HN.out])), HBZ.out⟩
   ·have mz : ¬ (m : Int) < (L.length : Int) := by omega
    obtain rfl : m = L.length := by omega
    have HEQ : Hid (L = M) := hide (by
     have h := HT.out
     rwa [List.take_length, hll, List.take_length] at h)
    clear hll HT
    go_wp2
    go_ret
    exact ⟨ret_eq (bool_eq (by rw [decide_eq_true HEQ.out])), HB.out⟩
 ·have z1 : ((L.length : Int) != (M.length : Int)) = true := by simp; omega
  have HN : Hid (¬ L = M) := hide (fun e => q1 (by rw [e]))
  clear q1
  go_wp2
  go_ret
  exact ⟨ret_eq (bool_eq (by rw [decide_eq_false HN.out])), Below.refl _ _⟩
end Go.Proofs.YtikojiciilambaaGreat

/- The reference of blocks: Parts, Loops. -/
namespace Go.Proofs.YtikojiciilambaaGreat
open Go.RowKit Go.Maps
set_option linter.unusedVariables false
set_option linter.unusedSimpArgs false
def fl (F : List Bool) (i : Nat) : Bool := F.getD i false
def uns (F : List Bool) : Nat := F.countP fun x => !x
theorem fl_at {F : List Bool} {i : Nat} (h : i < F.length) : F[i]? = some (fl F i) := by unfold fl; rw [List.getD_eq_getElem?_getD, List.getElem?_eq_getElem h]; rfl
theorem fl_set {F : List Bool} {i : Nat} (h : i < F.length) (j : Nat) : fl (F.set i true) j = if i = j then true else fl F j := by
 unfold fl
 rw [List.getD_eq_getElem?_getD, List.getD_eq_getElem?_getD, List.getElem?_set]
 by_cases e : i = j
 ·subst e; simp [h]
 ·simp [e]
theorem uns_set : ∀ (F : List Bool) (i : Nat), uns (F.set i true) ≤ uns F ∧ (F[i]? = some false → uns (F.set i true) < uns F)
 | [], i => ⟨Nat.le_refl _, fun h => by simp at h⟩
 | x :: F, 0 => by
  unfold uns
  simp only [List.set_cons_zero, List.countP_cons, List.getElem?_cons_zero]
  cases x <;> simp
 | x :: F, i + 1 => by
  obtain ⟨h1, h2⟩ := uns_set F i
  unfold uns at *
  simp only [List.set_cons_succ, List.countP_cons, List.getElem?_cons_succ]
  exact ⟨by omega, fun h => by have := h2 h; omega⟩
theorem uns_range (F : List Bool) : uns F = (List.range F.length).countP fun j => !fl F j := by
 have e : F = (List.range F.length).map (fl F) := by
  refine List.ext_getElem (by simp) fun i h1 h2 => ?_
  rw [List.getElem_map, List.getElem_range]
  have := fl_at h1
  rw [List.getElem?_eq_getElem h1] at this
  injection this
 have h2 : uns F = uns ((List.range F.length).map (fl F)) := congrArg uns e
 rw [h2]
 unfold uns
 rw [List.countP_map]
 rfl
def SeenTo (L : List Nat) (n : Nat) (F : List Bool) (i : Nat) : Prop := F.length = n ∧ ∀ v, v < n → (fl F v = true ↔ ∃ j, j < i ∧ lb L j = lb L v)
def SeenIn (L : List Nat) (n : Nat) (F : List Bool) (i : Nat) : Prop := F.length = n ∧ fl F i = true ∧ (∀ v, v < n → (∃ j, j < i ∧ lb L j = lb L v) → fl F v = true) ∧ ∀ v, v < n → fl F v = true → ∃ j, j < i + 1 ∧ lb L j = lb L v
section
variable {L : List Nat} {n i : Nat} {F : List Bool}
theorem SeenTo.skip (h : SeenTo L n F i) (hi : i < n) (hf : fl F i = true) : SeenTo L n F (i + 1) ∧ firstB L i = false := by
 obtain ⟨j0, hj0, e0⟩ := (h.2 i hi).1 hf
 refine ⟨⟨h.1, fun v hv => (h.2 v hv).trans ⟨fun ⟨j, hj, e⟩ => ⟨j, by omega, e⟩, fun ⟨j, hj, e⟩ => ?_⟩⟩, ?_⟩
 ·rcases Nat.lt_or_ge j i with h1 | h1
  ·exact ⟨j, h1, e⟩
  ·obtain rfl : j = i := by omega
   exact ⟨j0, hj0, e0.trans e⟩
 ·rw [Bool.eq_false_iff]
  intro h1
  exact first_iff.1 h1 j0 hj0 e0
theorem SeenTo.enter (h : SeenTo L n F i) (hi : i < n) (hf : fl F i = false) : SeenIn L n (F.set i true) i ∧ firstB L i = true := by
 have hl : i < F.length := by rw [h.1]; exact hi
 have hno : ∀ j, j < i → lb L j ≠ lb L i := fun j hj e => by
  have := (h.2 i hi).2 ⟨j, hj, e⟩
  rw [hf] at this; cases this
 refine ⟨⟨by rw [List.length_set]; exact h.1, by rw [fl_set hl, if_pos rfl], fun v hv hj => ?_, fun v hv hs => ?_⟩, first_iff.2 hno⟩
 ·rw [fl_set hl]
  split
  ·rfl
  ·exact (h.2 v hv).2 hj
 ·rw [fl_set hl] at hs
  by_cases e : i = v
  ·subst e; exact ⟨i, by omega, rfl⟩
  ·rw [if_neg e] at hs
   obtain ⟨j, hj, e2⟩ := (h.2 v hv).1 hs
   exact ⟨j, by omega, e2⟩
theorem SeenIn.both (h : SeenIn L n F i) {a b : Nat} (ha : a < n) (hb : b < n) (hl : lb L a = lb L b) (hs : fl F a = true ∨ fl F b = true) : SeenIn L n ((F.set a true).set b true) i := by
 obtain ⟨h1, h2, h3, h4⟩ := h
 have la : a < F.length := by rw [h1]; exact ha
 have lb' : b < (F.set a true).length := by rw [List.length_set, h1]; exact hb
 have key : ∃ j, j < i + 1 ∧ lb L j = lb L a := by
  rcases hs with hs | hs
  ·exact h4 a ha hs
  ·obtain ⟨j, hj, e⟩ := h4 b hb hs
   exact ⟨j, hj, e.trans hl.symm⟩
 have ev : ∀ v, fl ((F.set a true).set b true) v = if b = v then true else if a = v then true else fl F v := fun v => by rw [fl_set lb', fl_set la]
 refine ⟨by rw [List.length_set, List.length_set]; exact h1, ?_, fun v hv hj => ?_, fun v hv hsv => ?_⟩
 ·rw [ev, h2]; simp
 ·rw [ev, h3 v hv hj]; simp
 ·rw [ev] at hsv
  by_cases e1 : b = v
  ·subst e1
   obtain ⟨j, hj, e⟩ := key
   exact ⟨j, hj, e.trans hl⟩
  ·rw [if_neg e1] at hsv
   by_cases e2 : a = v
   ·subst e2; exact key
   ·rw [if_neg e2] at hsv
    exact h4 v hv hsv
theorem SeenIn.done {ED : List Ed} (hE : ∀ e ∈ ED, e.1 < n ∧ e.2 < n) (hi : i < n) (h : SeenIn (compF n ED).1 n F i) (hc : ∀ e ∈ ED, fl F e.1 = fl F e.2) : SeenTo (compF n ED).1 n F (i + 1) := by
 obtain ⟨h1, h2, h3, h4⟩ := h
 refine ⟨h1, fun v hv => ⟨h4 v hv, fun ⟨j, hj, e⟩ => ?_⟩⟩
 rcases Nat.lt_or_ge j i with h5 | h5
 ·exact h3 v hv ⟨j, h5, e⟩
 ·obtain rfl : j = i := by omega
  exact (comp_min hE (fun v => fl F v = true) (fun e he => by rw [hc e he]) hi hv e).1 h2
end
def cntF (L : List Nat) (i : Nat) : Nat := (List.range i).countP (firstB L)
theorem cnt_true {L : List Nat} {i : Nat} (h : firstB L i = true) : cntF L (i + 1) = cntF L i + 1 := by unfold cntF; rw [List.range_succ, List.countP_append]; simp [h]
theorem cnt_false {L : List Nat} {i : Nat} (h : firstB L i = false) : cntF L (i + 1) = cntF L i := by unfold cntF; rw [List.range_succ, List.countP_append]; simp [h]
theorem cnt_le (L : List Nat) (i : Nat) : cntF L i ≤ i := by have := List.countP_le_length (p := firstB L) (l := List.range i); unfold cntF; simpa using this
structure Sn (w1 wr : World) (F : List Bool) : Prop where
 low : Below w1.heap.size w1 wr
 row : wr.ownsRow w1.heap.size 4 1 (.slice (some ⟨w1.heap.size, 0, none⟩) F.length F.length) F.length (F.map Value.bool)
theorem Sn.below {w1 wr w2 : World} {F : List Bool} (h : Sn w1 wr F) (hb : Below wr.heap.size wr w2) : Sn w1 w2 F := ⟨h.low.trans (hb.mono h.low.size), own_below h.row hb⟩
theorem Sn.cell {w1 wr : World} {F : List Bool} (h : Sn w1 wr F) {i : Nat} (hi : i < F.length) : wr.cell? ⟨w1.heap.size, i, none⟩ = some (.bool (fl F i)) := by
 have := (h.row.cells (g := w1.heap.size) rfl) i (.bool (fl F i)) (by rw [List.getElem?_map, fl_at hi]; rfl)
 rw [addr_add] at this
 simpa using this
theorem Sn.frz {w1 wr : World} {F : List Bool} (h : Sn w1 wr F) (i : Nat) : wr.frozen? ⟨w1.heap.size, i, none⟩ = false := h.row.frozenAt _
theorem Sn.lt {w1 wr : World} {F : List Bool} (h : Sn w1 wr F) : w1.heap.size < wr.heap.size := (h.row.lt _ rfl).2
theorem Sn.set {w1 wr : World} {F : List Bool} (h : Sn w1 wr F) (i : Nat) : Sn w1 (wr.setCell ⟨w1.heap.size, i, none⟩ (.bool true)) (F.set i true) := by
 have hs := (h.row.stored i (.bool true)).1
 refine ⟨h.low.setCell (Nat.le_refl _) _, ?_⟩
 rw [List.length_set]
 have e : (F.set i true).map Value.bool = (F.map Value.bool).set i (.bool true) := by rw [List.map_set]
 rw [e]
 exact hs
noncomputable def unsW (g n : Nat) (wr : World) : Nat := (List.range n).countP fun j => @decide (¬ wr.cell? ⟨g, j, none⟩ = some (.bool true)) (Classical.propDecidable _)
theorem Sn.uns {w1 wr : World} {F : List Bool} (h : Sn w1 wr F) : unsW w1.heap.size F.length wr = uns F := by
 rw [uns_range]
 unfold unsW
 refine List.countP_congr fun j hj => ?_
 have hc := h.cell (List.mem_range.1 hj)
 rw [hc]
 cases fl F j <;> simp
def bvN : Value → Nat
 | .bool true => 1
 | _ => 0
theorem mem_take {α : Type} {p : α → Prop} {l : List α} {k : Nat} {x : α} (h : l[k]? = some x) (h1 : ∀ e ∈ l.take k, p e) (h2 : p x) : ∀ e ∈ l.take (k + 1), p e := by
 intro e he
 rw [List.take_add_one, h, Option.toList_some, List.mem_append, List.mem_singleton] at he
 rcases he with he | rfl
 ·exact h1 e he
 ·exact h2
theorem infoBool : (Tryz.prog.info? 4).map (fun i => (i.zero, i.size, i.bytes)) = some (some (.bool false), 1, 1) := by kernel_rfl
set_option maxRecDepth 100000 in
set_option maxHeartbeats 8000000 in
theorem rParts35_any {w : World} {nv ev : Value} {N : List Pt} {E : List Ei} (hn : RdK encS 2 w w.heap.size nv N) (he : RdK encS 2 w w.heap.size ev E) :
  Calls Tryz.prog 39 #[.agg #[nv, ev]] w fun e w' => e = .returned (.tuple #[.int .i64 (prtF N E).1, .int .i64 (prtF N E).2]) ∧ Below w.heap.size w w' := by
 have HN := hide hn
 have HE := hide he
 obtain ⟨An, cn, rfl, _⟩ := hn
 obtain ⟨Ae, ce, rfl, hE⟩ := he
 have HER := hide hE
 clear hE
 have hb0 : Below w.heap.size w (w.alloc (.cells #[.slice An N.length cn, .slice Ae E.length ce] 63)) := (Below.refl _ _).alloc (Nat.le_refl _) _
 have HB0 := hide hb0
 have x0 : (w.alloc (.cells #[.slice An N.length cn, .slice Ae E.length ce] 63)).cell? ⟨w.heap.size, 0, none⟩ = some (.slice An N.length cn) := by simp [go_sem]
 have x1 : (w.alloc (.cells #[.slice An N.length cn, .slice Ae E.length ce] 63)).cell? ⟨w.heap.size, 1, none⟩ = some (.slice Ae E.length ce) := by simp [go_sem]
 have HX := hide (And.intro x0 x1)
 have s0 : w.heap.size < (w.alloc (.cells #[.slice An N.length cn, .slice Ae E.length ce] 63)).heap.size := by simp
 have HS0 := hide s0
 clear hb0 x0 x1 s0
 go_enter Tryz.func39, Tryz.ntmps39
 go_wp2_with (fail)
 refine (rCheck34_any ((HN.out.below HB0.out).mono HB0.out.size) ((HE.out.below HB0.out).mono HB0.out.size)).mono ?_
 rintro e w1 ⟨rfl, hb1⟩
 have HB1 := hide (HB0.out.trans (hb1.mono HB0.out.size))
 have k0 := (hb1.cell (p := ⟨w.heap.size, 0, none⟩) HS0.out).trans HX.out.1
 have k1 := (hb1.cell (p := ⟨w.heap.size, 1, none⟩) HS0.out).trans HX.out.2
 have hs1 : w.heap.size < w1.heap.size := Nat.lt_of_lt_of_le HS0.out hb1.size
 clear hb1
 have HPF : Hid (prtF N E = if chkN N E = 0 then (((partsN (segsI N E) : Nat) : Int), 0) else (0, chkN N E)) := hide rfl
 obtain ⟨r, hr⟩ : ∃ r, chkN N E = r := ⟨_, rfl⟩
 rw [hr] at HPF ⊢
 by_cases h0 : r = 0
 ·subst h0
  obtain ⟨g1, g2, g3, g4, g5⟩ := chkN_ok hr
  rw [if_pos rfl] at HPF
  have hEE := (net_ok (segs_ok g3)).edges_lt
  obtain ⟨ED, hED⟩ : ∃ ED, edgesF (segsI N E) = ED := ⟨_, rfl⟩
  have HPV : Hid (prtF N E = ((((compF N.length ED).2 : Nat) : Int), 0)) := hide (by
   rw [HPF.out]
   show ((((compF (nodesF (segsI N E)).length (edgesF (segsI N E))).2 : Nat) : Int), (0 : Int)) = _
   rw [g4, hED])
  have hlt : ∀ e ∈ ED, e.1 < N.length ∧ e.2 < N.length := fun e he => by
   have := hEE e (by rw [← hED] at he; exact he)
   rwa [g4] at this
  have HLT := hide hlt
  have HEQ : Hid (E = edI ED) := hide (by rw [← hED]; exact g5.symm)
  have HNL := hide (And.intro g1 g2)
  clear hr HPF g1 g2 g3 g4 g5 hEE hED hlt
  have HBW : Hid (∀ W, Below w1.heap.size w1 W → (W.cell? ⟨w.heap.size, 0, none⟩ = some (.slice An N.length cn) ∧ W.cell? ⟨w.heap.size, 1, none⟩ = some (.slice Ae E.length ce)) ∧ w.heap.size < W.heap.size) := hide (fun W hb => ⟨⟨(hb.cell (p := ⟨_, 0, none⟩) hs1).trans k0, (hb.cell (p := ⟨_, 1, none⟩) hs1).trans k1⟩, Nat.lt_of_lt_of_le hs1 hb.size⟩)
  obtain ⟨hnl, hel⟩ := HNL.out
  have hel2 : E.length = ED.length := by rw [HEQ.out]; unfold edI; simp
  have HL2 := hide hel2
  have HE3 : Hid (∀ (k : Nat) (e : Ed), ED[k]? = some e → E[k]? = some ((e.1 : Int), (e.2 : Int))) := hide (fun k e h => by rw [HEQ.out]; unfold edI; rw [List.getElem?_map, h]; rfl)
  have HB1' := HB1
  have HSAME := hide (comp_same HLT.out)
  have HCNT : Hid (cntF (compF N.length ED).1 N.length = (compF N.length ED).2) := hide (first_count (comp_ok HLT.out))
  have HDONE := hide (fun F i hi => @SeenIn.done N.length i F ED HLT.out hi)
  obtain ⟨LB, hLB⟩ : ∃ LB, (compF N.length ED).1 = LB := ⟨_, rfl⟩
  rw [hLB] at HSAME HCNT HDONE
  have hmk := fun W : World => Go.run_make_row' (P := Tryz.prog) 122 4 (.bool false) 1 Tryz.underlying122 infoBool rfl .i64 .i64 N.length (by omega) (by omega) W
  clear hel2 HEQ HN HE HB0 HX HS0
  go_upto_region 4 with fail
  refine wp_name fun w2 hw2 => ?_
  have HS2 : Hid (Sn w1 w2 (List.replicate N.length false)) := hide (by
   have e : (madeCells #[Value.bool false] N.length).toList = (List.replicate N.length false).map Value.bool := by
    refine List.ext_getElem? fun i => ?_
    simp only [madeCells, List.map_replicate, List.getElem?_replicate]
    by_cases h : i < N.length <;> simp [h, Nat.mod_one]
   refine ⟨by rw [hw2]; exact (Below.refl _ _).alloc (Nat.le_refl _) _, ?_⟩
   rw [hw2, List.length_replicate]
   refine ⟨by simp, .inr ⟨w1.heap.size, N.length, _, rfl, Nat.le_refl _, World.alloc_heap_new _ _, Nat.le_refl _, by unfold maxLen; omega, by rw [size_madeCells]; omega, ?_⟩⟩
   rw [e, List.take_of_length_le (by simp)])
  clear hw2 k0 k1 hs1 hmk
  obtain ⟨⟨k0, k1⟩, hs1⟩ := HBW.out _ HS2.out.low
  go_wp2
  clear k0 k1 hs1
  go_loopw [5, 6] (fun c i wr => ∃ (m : Nat) (F : List Bool), m ≤ N.length ∧ i = .int .i64 (m : Int) ∧ c = .int .i64 ((cntF LB m : Nat) : Int) ∧ Hid (SeenTo LB N.length F m) ∧ Hid (Sn w1 wr F)) (fun _ i _ => N.length - (intOf i).toNat)
  case atStart => exact ⟨0, _, Nat.zero_le _, rfl, rfl, hide ⟨by simp, fun v hv => by simp [fl, List.getD_eq_getElem?_getD, List.getElem?_replicate, hv]⟩, HS2⟩
  case round =>
   clear HS2
   obtain ⟨m, F, hm, rfl, rfl, HT, HS⟩ := hrel
   obtain ⟨⟨k0, k1⟩, hs1⟩ := HBW.out _ HS.out.low
   have hcm := cnt_le LB m
   by_cases hlt : m < N.length
   ·have mz : (m : Int) < (N.length : Int) := by omega
    have m0 : (0 : Int) ≤ (m : Int) := by omega
    have HFL := hide HT.out.1
    have c0 := HS.out.cell (i := m) (by rw [HFL.out]; exact hlt)
    have hgl := HS.out.lt
    cases hf : fl F m with
    | true =>
     rw [hf] at c0
     obtain ⟨t1, t2⟩ := HT.out.skip hlt hf
     have HT2 := hide t1
     have HC := hide (cnt_false t2)
     clear t1 t2 hf
     go_wp2
     go_roundw
     case rel => exact ⟨m + 1, F, by omega, by go_num, by rw [HC.out], HT2, HS⟩
     case measure => simp [intOf]; omega
    | false =>
     rw [hf] at c0
     obtain ⟨t1, t2⟩ := HT.out.enter hlt hf
     have HI := hide t1
     have HC := hide (cnt_true t2)
     have f0 := HS.out.frz m
     clear t1 t2 hf HT
     go_upto_region 11 with fail
     refine wp_name fun wa hwa => ?_
     have HSa : Hid (Sn w1 wa (F.set m true)) := hide (by rw [hwa]; exact HS.out.set m)
     clear hwa c0 f0 HS HFL k0 k1 hs1 hgl
     generalize F.set m true = F at *
     go_wp2
     go_loopw [7] (fun mv wr => ∃ (G : List Bool) (more : Bool), mv = .bool more ∧ Hid (SeenIn LB N.length G m) ∧ Hid (more = false → ∀ e ∈ ED, fl G e.1 = fl G e.2) ∧ Hid (Sn w1 wr G)) (fun mv wr => 2 * unsW w1.heap.size N.length wr + bvN mv)
     case atStart => exact ⟨F, true, rfl, HI, hide (fun h => by cases h), HSa⟩
     case round =>
      clear HI HSa
      obtain ⟨G, more, rfl, HI, HCL, HS⟩ := hrel
      cases more with
      | false =>
       have HT2 := hide (HDONE.out G m hlt HI.out (HCL.out rfl))
       go_wp2
       go_roundw
       case rel => exact ⟨m + 1, G, by omega, by go_num, by rw [HC.out]; go_num, HT2, HS⟩
       case measure => simp [intOf]; omega
      | true =>
       clear HCL
       have HU : Hid (unsW w1.heap.size N.length wr = uns G) := hide (by have := HS.out.uns; rwa [HI.out.1] at this)
       go_wp2
       go_loopw [7, 8] (fun mv kv wx => ∃ (k : Nat) (H : List Bool) (more : Bool), k ≤ E.length ∧ kv = .int .i64 (k : Int) ∧ mv = .bool more ∧ Hid (SeenIn LB N.length H m) ∧ Hid (more = false → uns H = uns G ∧ ∀ e ∈ ED.take k, fl H e.1 = fl H e.2) ∧ Hid (more = true → uns H < uns G) ∧ Hid (Sn w1 wx H)) (fun _ kv _ => E.length - (intOf kv).toNat)
       case atStart => exact ⟨0, G, false, Nat.zero_le _, rfl, rfl, HI, hide (fun _ => ⟨rfl, by simp⟩), hide (fun h => by cases h), HS⟩
       case round =>
        clear HI HS
        obtain ⟨k, H, more, hk, rfl, rfl, HI, HCL, HMO, HS⟩ := hrel
        obtain ⟨⟨k0, k1⟩, hs1⟩ := HBW.out _ HS.out.low
        have hgl := HS.out.lt
        have hl2 := HL2.out
        by_cases hkl : k < E.length
        ·have kz : (k : Int) < (E.length : Int) := by omega
         have kz0 : (0 : Int) ≤ (k : Int) := by omega
         obtain ⟨⟨a, b⟩, he⟩ : ∃ e, ED[k]? = some e := ⟨_, List.getElem?_eq_getElem (by omega)⟩
         obtain ⟨b5, o5, rfl, hb5, kk⟩ := HER.out (by intro e; rw [e] at hkl; simp at hkl)
         obtain ⟨ha, hb⟩ := HLT.out _ (List.mem_of_getElem? he)
         have hwl := HB1'.out.trans (HS.out.low.mono HB1'.out.size)
         have e0 : wr.cell? ⟨b5, o5 + k * 2, none⟩ = some (.int .i64 (a : Int)) := (hwl.cell (p := ⟨b5, _, none⟩) hb5).trans (kk k _ (HE3.out k _ he) 0 _ rfl)
         have e1 : wr.cell? ⟨b5, o5 + k * 2 + 1, none⟩ = some (.int .i64 (b : Int)) := (hwl.cell (p := ⟨b5, _, none⟩) hb5).trans (kk k _ (HE3.out k _ he) 1 _ rfl)
         have hbr : b5 < wr.heap.size := Nat.lt_of_lt_of_le hb5 hwl.size
         have HSL := hide (HSAME.out _ (List.mem_of_getElem? he))
         have HEE := hide he
         have HAB := hide (And.intro ha hb)
         simp only at ha hb
         clear kk he hwl hl2
         go_upto_region 17 with fail
         go_quiet (fail)
         refine name_exit fun wb hwb => ?_
         have HSb := hide (HS.out.below (show Below wr.heap.size wr wb by rw [hwb]; exact below_drewN (Below.refl _ _) _))
         clear hwb e0 e1 hbr hgl k0 k1 hs1 HS
         have ca := HSb.out.cell (i := a) (by rw [HI.out.1]; exact ha)
         have cb := HSb.out.cell (i := b) (by rw [HI.out.1]; exact hb)
         have hgl := HSb.out.lt
         have hla := HI.out.1
         have az : (a : Int) < (H.length : Int) := by omega
         have bz : (b : Int) < (H.length : Int) := by omega
         have az0 : (0 : Int) ≤ (a : Int) := by omega
         have bz0' : (0 : Int) ≤ (b : Int) := by omega
         have az1 : (a : Int) < (N.length : Int) := by omega
         have bz1' : (b : Int) < (N.length : Int) := by omega
         clear hla
         cases hfa : fl H a with
         | true =>
          cases hfb : fl H b with
          | true =>
           have HX : Hid (fl H a = fl H b) := hide (by rw [hfa, hfb])
           rw [hfa] at ca
           rw [hfb] at cb
           clear hfa hfb
           go_upto_region 18 with fail
           go_quiet (fail)
           refine name_exit fun wc hwc => ?_
           have HSc := hide (HSb.out.below (show Below wb.heap.size wb wc by rw [hwc]; exact below_drewN (Below.refl _ _) _))
           clear hwc ca cb hgl HSb
           go_wp2
           go_roundw
           case rel => exact ⟨k + 1, H, more, by omega, by go_num, rfl, HI, hide (fun h => ⟨(HCL.out h).1, mem_take HEE.out (HCL.out h).2 HX.out⟩), HMO, HSc⟩
           case measure => simp [intOf]; omega
          | false =>
           have HN : Hid (SeenIn LB N.length ((H.set a true).set b true) m) := hide (HI.out.both HAB.out.1 HAB.out.2 HSL.out (by rw [hfa, hfb]; simp))
           have HLT2 : Hid (uns ((H.set a true).set b true) < uns G) := hide (by
            have hle : uns H ≤ uns G := by
             cases more with
             | true => exact Nat.le_of_lt (HMO.out rfl)
             | false => exact Nat.le_of_eq (HCL.out rfl).1
            have hlt2 : uns ((H.set a true).set b true) < uns H := by
             refine Nat.lt_of_lt_of_le ((uns_set (H.set a true) b).2 ?_) (uns_set H a).1
             rw [fl_at (by rw [List.length_set, HI.out.1]; exact HAB.out.2), fl_set (by rw [HI.out.1]; exact HAB.out.1), if_neg (fun e => by subst e; rw [hfa] at hfb; cases hfb), hfb]
            omega)
           rw [hfa] at ca
           rw [hfb] at cb
           clear hfa hfb
           go_upto_region 18 with fail
           go_quiet (fail)
           refine name_exit fun wc hwc => ?_
           have hbc : Below wb.heap.size wb wc := by rw [hwc]; exact below_drewN (Below.refl _ _) _
           have HSc := hide (HSb.out.below hbc)
           have da := (hbc.cell (p := ⟨w1.heap.size, a, none⟩) hgl).trans ca
           have db := (hbc.cell (p := ⟨w1.heap.size, b, none⟩) hgl).trans cb
           have fa := HSc.out.frz a
           have fb := HSc.out.frz b
           have hgl2 := HSc.out.lt
           have db2 := (HSc.out.set a).cell (i := b) (by rw [List.length_set, HI.out.1]; exact HAB.out.2)
           have fb2 := (HSc.out.set a).frz b
           clear hwc hbc ca cb hgl HSb db
           go_upto_region 20 with fail
           refine wp_name fun wd hwd => ?_
           have HSd : Hid (Sn w1 wd ((H.set a true).set b true)) := hide (by rw [hwd]; exact (HSc.out.set a).set b)
           clear hwd da fa fb hgl2 HSc db2 fb2
           generalize (H.set a true).set b true = H2 at *
           go_wp2
           go_roundw
           case rel => exact ⟨k + 1, H2, true, by omega, by go_num, rfl, HN, hide (fun h => by cases h), hide (fun _ => HLT2.out), HSd⟩
           case measure => simp [intOf]; omega
         | false =>
          cases hfb : fl H b with
          | true =>
           have HN : Hid (SeenIn LB N.length ((H.set a true).set b true) m) := hide (HI.out.both HAB.out.1 HAB.out.2 HSL.out (by rw [hfa, hfb]; simp))
           have HLT2 : Hid (uns ((H.set a true).set b true) < uns G) := hide (by
            have hle : uns H ≤ uns G := by
             cases more with
             | true => exact Nat.le_of_lt (HMO.out rfl)
             | false => exact Nat.le_of_eq (HCL.out rfl).1
            have hlt2 : uns ((H.set a true).set b true) < uns H := by
             exact Nat.lt_of_le_of_lt (uns_set (H.set a true) b).1 ((uns_set H a).2 (by rw [fl_at (by rw [HI.out.1]; exact HAB.out.1), hfa]))
            omega)
           rw [hfa] at ca
           rw [hfb] at cb
           clear hfa hfb
           go_upto_region 18 with fail
           go_quiet (fail)
           refine name_exit fun wc hwc => ?_
           have hbc : Below wb.heap.size wb wc := by rw [hwc]; exact below_drewN (Below.refl _ _) _
           have HSc := hide (HSb.out.below hbc)
           have da := (hbc.cell (p := ⟨w1.heap.size, a, none⟩) hgl).trans ca
           have db := (hbc.cell (p := ⟨w1.heap.size, b, none⟩) hgl).trans cb
           have fa := HSc.out.frz a
           have fb := HSc.out.frz b
           have hgl2 := HSc.out.lt
           have db2 := (HSc.out.set a).cell (i := b) (by rw [List.length_set, HI.out.1]; exact HAB.out.2)
           have fb2 := (HSc.out.set a).frz b
           clear hwc hbc ca cb hgl HSb db
           go_upto_region 20 with fail
           refine wp_name fun wd hwd => ?_
           have HSd : Hid (Sn w1 wd ((H.set a true).set b true)) := hide (by rw [hwd]; exact (HSc.out.set a).set b)
           clear hwd da fa fb hgl2 HSc db2 fb2
           generalize (H.set a true).set b true = H2 at *
           go_wp2
           go_roundw
           case rel => exact ⟨k + 1, H2, true, by omega, by go_num, rfl, HN, hide (fun h => by cases h), hide (fun _ => HLT2.out), HSd⟩
           case measure => simp [intOf]; omega
          | false =>
           have HX : Hid (fl H a = fl H b) := hide (by rw [hfa, hfb])
           rw [hfa] at ca
           rw [hfb] at cb
           clear hfa hfb
           go_upto_region 18 with fail
           go_quiet (fail)
           refine name_exit fun wc hwc => ?_
           have HSc := hide (HSb.out.below (show Below wb.heap.size wb wc by rw [hwc]; exact below_drewN (Below.refl _ _) _))
           clear hwc ca cb hgl HSb
           go_wp2
           go_roundw
           case rel => exact ⟨k + 1, H, more, by omega, by go_num, rfl, HI, hide (fun h => ⟨(HCL.out h).1, mem_take HEE.out (HCL.out h).2 HX.out⟩), HMO, HSc⟩
           case measure => simp [intOf]; omega
        ·have kz : ¬ (k : Int) < (E.length : Int) := by omega
         obtain rfl : k = E.length := by omega
         have HU2 : Hid (unsW w1.heap.size N.length wr = uns H) := hide (by have := HS.out.uns; rwa [HI.out.1] at this)
         have HCL2 : Hid (more = false → ∀ e ∈ ED, fl H e.1 = fl H e.2) := hide (fun h => by
          have := (HCL.out h).2
          rwa [List.take_of_length_le (by omega)] at this)
         go_wp2
         go_roundw
         case rel => exact ⟨H, more, rfl, HI, HCL2, HS⟩
         case measure =>
          rw [HU.out, HU2.out]
          cases more with
          | true => have := HMO.out rfl; simp only [bvN]; omega
          | false => have := (HCL.out rfl).1; simp only [bvN]; omega
   ·have mz : ¬ (m : Int) < (N.length : Int) := by omega
    obtain rfl : m = N.length := by omega
    have HF : Hid (prtF N E = (((cntF LB N.length : Nat) : Int), 0)) := hide (by rw [HPV.out, HCNT.out])
    have HBE := hide (HB1'.out.trans (HS.out.low.mono HB1'.out.size))
    clear HPV HCNT
    go_wp2
    go_ret2
    exact ⟨by rw [HF.out]; rfl, HBE.out⟩
 ·have hz : (r != 0) = true := by simpa using h0
  have HV : Hid (prtF N E = (0, r)) := hide (by rw [HPF.out, if_neg h0])
  have HRR := hide hr
  clear h0 HPF hr
  go_wp2_with (fail)
  refine (rCheck34_any ((HN.out.below HB1.out).mono HB1.out.size) ((HE.out.below HB1.out).mono HB1.out.size)).mono ?_
  rintro e w2 ⟨rfl, hb2⟩
  have HB2 := hide (HB1.out.trans (hb2.mono HB1.out.size))
  clear hb2 k0 k1
  rw [HRR.out]
  go_wp2
  go_ret2
  exact ⟨by rw [HV.out]; rfl, HB2.out⟩
set_option maxHeartbeats 4000000 in
theorem rLoops35_any {w : World} {nv ev : Value} {N : List Pt} {E : List Ei} (hn : RdK encS 2 w w.heap.size nv N) (he : RdK encS 2 w w.heap.size ev E) :
  Calls Tryz.prog 41 #[.agg #[nv, ev]] w fun e w' => e = .returned (.tuple #[.int .i64 (lopF N E).1, .int .i64 (lopF N E).2]) ∧ Below w.heap.size w w' := by
 have HN := hide hn
 have HE := hide he
 obtain ⟨An, cn, rfl, _⟩ := hn
 obtain ⟨Ae, ce, rfl, _⟩ := he
 have hb0 : Below w.heap.size w (w.alloc (.cells #[.slice An N.length cn, .slice Ae E.length ce] 63)) := (Below.refl _ _).alloc (Nat.le_refl _) _
 have HB0 := hide hb0
 have x0 : (w.alloc (.cells #[.slice An N.length cn, .slice Ae E.length ce] 63)).cell? ⟨w.heap.size, 0, none⟩ = some (.slice An N.length cn) := by simp [go_sem]
 have x1 : (w.alloc (.cells #[.slice An N.length cn, .slice Ae E.length ce] 63)).cell? ⟨w.heap.size, 1, none⟩ = some (.slice Ae E.length ce) := by simp [go_sem]
 have HX := hide (And.intro x0 x1)
 have s0 : w.heap.size < (w.alloc (.cells #[.slice An N.length cn, .slice Ae E.length ce] 63)).heap.size := by simp
 have HS0 := hide s0
 clear hb0 x0 x1 s0
 go_enter Tryz.func41, Tryz.ntmps41
 go_wp2_with (fail)
 refine (rParts35_any ((HN.out.below HB0.out).mono HB0.out.size) ((HE.out.below HB0.out).mono HB0.out.size)).mono ?_
 rintro e w1 ⟨rfl, hb1⟩
 have HB1 := hide (HB0.out.trans (hb1.mono HB0.out.size))
 have k0 := (hb1.cell (p := ⟨w.heap.size, 0, none⟩) HS0.out).trans HX.out.1
 have k1 := (hb1.cell (p := ⟨w.heap.size, 1, none⟩) HS0.out).trans HX.out.2
 have hs1 : w.heap.size < w1.heap.size := Nat.lt_of_lt_of_le HS0.out hb1.size
 clear hb1
 have HLF : Hid (lopF N E = if (prtF N E).2 = 0 then ((E.length : Int) - N.length + (prtF N E).1, 0) else (0, (prtF N E).2)) := hide rfl
 have hbd := prtF_bd (N := N) (E := E)
 generalize prtF N E = p at *
 obtain ⟨p1, p2⟩ := p
 simp only at hbd HLF ⊢
 by_cases h0 : p2 = 0
 ·subst h0
  obtain ⟨b1, b2, b3, b4⟩ := hbd rfl
  have HV : Hid (lopF N E = ((E.length : Int) - N.length + p1, 0)) := hide (by rw [HLF.out, if_pos rfl])
  clear hbd HLF
  go_wp2
  go_ret2
  exact ⟨by rw [HV.out]; rfl, HB1.out⟩
 ·have hz : (p2 != 0) = true := by simpa using h0
  have HV : Hid (lopF N E = (0, p2)) := hide (by rw [HLF.out, if_neg h0])
  clear hbd HLF h0
  go_wp2
  go_ret2
  exact ⟨by rw [HV.out]; rfl, HB1.out⟩
end Go.Proofs.YtikojiciilambaaGreat

/- RegionMakes' walk: Check, Make, Has, Area and Same against the reference. -/
namespace Go.Proofs.YtikojiciilambaaGreat
open Go.RowKit
set_option linter.unusedVariables false
set_option linter.unusedSimpArgs false
end Go.Proofs.YtikojiciilambaaGreat

/- RegionParts' walk: Touch and Parts against the reference. -/
namespace Go.Proofs.YtikojiciilambaaGreat
open Go.RowKit
set_option linter.unusedVariables false
set_option linter.unusedSimpArgs false
theorem partsE_len (l : List R4) : (partsE l).1.length ≤ 400 ∧ ∀ r ∈ (partsE l).1, r.length ≤ 400 := by
 unfold partsE
 by_cases h : checkF l = 0
 ·rw [if_pos h]
  obtain ⟨k1, k2, _⟩ := checkF_ok h
  refine ⟨Nat.le_trans (partsP_len l l.length) k1, fun r hr => ?_⟩
  obtain ⟨i, _, rfl⟩ := List.mem_map.1 hr
  exact Nat.le_trans (sub_count (check_rcan h) (fun r hr => by have := k2 r hr; exact ⟨this.1, this.2.1⟩) (compL_sub l i)) (Nat.le_trans (compL_sub l i).length_le k1)
 ·rw [if_neg h]
  simp
def RgsAt (R : List (List R4)) (v : Value) (W : World) : Prop := ∃ B vs, W.ownsRow B 34 1 v R.length vs ∧ ∀ (i : Nat) (r : List R4), R[i]? = some r → ∃ v, vs[i]? = some v ∧ W.ownsRow B 49 4 v r.length (r.flatMap encR)
theorem RgsAt.below {R : List (List R4)} {v : Value} {W W' : World} (h : RgsAt R v W) (hb : Below W.heap.size W W') : RgsAt R v W' := by
 obtain ⟨B, vs, h1, h2⟩ := h
 exact ⟨B, vs, own_below h1 hb, fun i r hr => by obtain ⟨v, h3, h4⟩ := h2 i r hr; exact ⟨v, h3, own_below h4 hb⟩⟩
theorem RgsAt.get {R : List (List R4)} {A : Option Addr} {n c : Nat} {W : World} (h : RgsAt R (.slice A n c) W) {i : Nat} {r : List R4} (hr : R[i]? = some r) : ∃ g, A = some ⟨g, 0, none⟩ ∧ g < W.heap.size ∧ ∃ A2 c2, W.cell? ⟨g, i, none⟩ = some (.slice A2 r.length c2) ∧ RdK encR 4 W W.heap.size (.slice A2 r.length c2) r := by
 obtain ⟨B, vs, h1, h2⟩ := h
 have hi := (List.getElem?_eq_some_iff.1 hr).1
 obtain ⟨g, cap, hv, hB, hg⟩ := h1.form (by omega)
 injection hv with e1 _ e3
 subst e1; subst e3
 obtain ⟨v, h3, h4⟩ := h2 i r hr
 obtain ⟨A2, c2, rfl⟩ := own_form h4
 refine ⟨g, rfl, (h1.lt g rfl).2, A2, c2, ?_, own_rd h4 (fun _ => rfl)⟩
 have := (h1.cells (g := g) rfl) i _ h3
 rwa [addr_add] at this
end Go.Proofs.YtikojiciilambaaGreat

/- The walk of BlockStreets. -/
namespace Go.Proofs.YtikojiciilambaaGreat
open Go.RowKit
set_option linter.unusedVariables false
set_option linter.unusedSimpArgs false
theorem great35s_any {w : World} {v : Value} {l : List R4} (hr : RdK encR 4 w w.heap.size v l) (hl : l.length ≤ maxLen) :
  Calls Tryz.prog 33 #[v] w fun e w' => (e = .returned (.bool true) ∨ (e = .returned (.bool false) ∧ l.length ≤ 420)) ∧ Below w.heap.size w w' := by
 unfold maxLen at hl
 obtain ⟨A, c, rfl, _⟩ := hr
 by_cases h1 : (16 : Int) < (l.length : Int)
 ·by_cases h2 : (l.length : Int) ≤ 400
  ·go_enter Tryz.func33, Tryz.ntmps33
   go_wp2
   go_ret
   exact ⟨.inl rfl, Below.refl _ _⟩
  ·by_cases h3 : (420 : Int) < (l.length : Int)
   ·go_enter Tryz.func33, Tryz.ntmps33
    go_wp2
    go_ret
    exact ⟨.inl rfl, Below.refl _ _⟩
   ·have h4 : l.length ≤ 420 := by omega
    have z3 : decide ((420 : Int) < (l.length : Int)) = false := decide_eq_false h3
    clear h3
    have H4 := hide h4
    clear h4
    go_enter Tryz.func33, Tryz.ntmps33
    go_wp2
    go_ret
    exact ⟨.inr ⟨rfl, H4.out⟩, Below.refl _ _⟩
 ·have h4 : l.length ≤ 420 := by omega
  have z3 : decide ((420 : Int) < (l.length : Int)) = false := decide_eq_false (by omega)
  have z1 : decide ((16 : Int) < (l.length : Int)) = false := decide_eq_false h1
  clear h1
  have H4 := hide h4
  clear h4
  go_enter Tryz.func33, Tryz.ntmps33
  go_wp2
  go_ret
  exact ⟨.inr ⟨rfl, H4.out⟩, Below.refl _ _⟩
theorem blkF_len (N : List Pt) (E : List Ei) (d : Int) (land : List R4) : (blkF N E d land).1.length ≤ 100000000 ∧ ∀ r ∈ (blkF N E d land).1, r.length ≤ 100000000 := by
 unfold blkF
 split
 ·simp
 ·split
  ·simp
  ·obtain ⟨h1, h2⟩ := partsE_len (joinF hSub land (strF N E d).1).1
   exact ⟨by omega, fun r hr => by have := h2 r hr; omega⟩
theorem RegRet.rd {B : Nat} {x : List R4 × Int} {e : Ending} {w : World} (h : RegRet B x e w) : ∃ A c, e = .returned (.tuple #[.slice A x.1.length c, .int .i64 x.2]) ∧ RdK encR 4 w w.heap.size (.slice A x.1.length c) x.1 := by
 obtain ⟨A, c, rfl, ho⟩ := h
 exact ⟨A, c, rfl, own_rd ho (fun _ => rfl)⟩
set_option maxRecDepth 100000 in
set_option maxHeartbeats 16000000 in
theorem bstreets_walk {w : World} {nv ev va : Value} {N : List Pt} {E : List Ei} {land : List R4} (hn : RdK encS 2 w w.heap.size nv N) (he : RdK encS 2 w w.heap.size ev E) (ha : RdK encR 4 w w.heap.size va land) (na : land.length ≤ maxLen) (d : Int) :
  Calls Tryz.prog 9 #[.agg #[nv, ev], .int .i64 d, va] w fun e w' => e = .returned (.bool true) ∧ Below w.heap.size w w' := by
 have HN := hide (fun (W : World) (h : Below w.heap.size w W) => (hn.below h).mono h.size)
 have HE := hide (fun (W : World) (h : Below w.heap.size w W) => (he.below h).mono h.size)
 have HA := hide (fun (W : World) (h : Below w.heap.size w W) => (ha.below h).mono h.size)
 have HNA := hide na
 obtain ⟨An, cn, rfl, _⟩ := hn
 obtain ⟨Ae, ce, rfl, _⟩ := he
 obtain ⟨Aa, ca, rfl, _⟩ := ha
 clear na
 go_enter Tryz.func9, Tryz.ntmps9
 go_upto_region 1 with fail
 refine wp_name fun w0 hw0 => ?_
 have HB0 : Hid (Below w.heap.size w w0) := hide (by rw [hw0]; exact (Below.refl _ _).alloc (Nat.le_refl _) _)
 have HX : Hid (∀ W, Below w0.heap.size w0 W → w.heap.size < W.heap.size ∧ W.cell? ⟨w.heap.size, 0, none⟩ = some (.slice An N.length cn) ∧ W.cell? ⟨w.heap.size, 1, none⟩ = some (.slice Ae E.length ce)) := hide (fun W hb => by
  have hlt : w.heap.size < w0.heap.size := by rw [hw0]; simp
  refine ⟨Nat.lt_of_lt_of_le hlt hb.size, (hb.cell (p := ⟨_, 0, none⟩) hlt).trans ?_, (hb.cell (p := ⟨_, 1, none⟩) hlt).trans ?_⟩ <;> rw [hw0] <;> simp [go_sem])
 clear hw0
 obtain ⟨hz, x0, x1⟩ := HX.out w0 (Below.refl _ _)
 go_wp2_with (fail)
 refine rGreat34_any.mono ?_
 rintro e w1 ⟨rfl, hb1⟩
 have HK1 := hide hb1
 clear hb1 hz x0 x1
 generalize greatF N.length E.length = gr
 cases gr with
 | true =>
  go_wp2
  go_ret
  exact ⟨rfl, HB0.out.trans (HK1.out.mono HB0.out.size)⟩
 | false =>
  have HB1 := hide (HB0.out.trans (HK1.out.mono HB0.out.size))
  go_wp2_with (fail)
  refine (great35s_any (HA.out _ HB1.out) HNA.out).mono ?_
  rintro e w2 ⟨hq, hb2⟩
  have HK2 := hide (HK1.out.trans (hb2.mono HK1.out.size))
  clear hb2 HK1 HB1
  rcases hq with rfl | ⟨rfl, hl⟩
  ·go_wp2
   go_ret
   exact ⟨rfl, HB0.out.trans (HK2.out.mono HB0.out.size)⟩
  ·have HL := hide (show land.length ≤ 100000000 by omega)
   clear hl HNA
   have HB2 := hide (HB0.out.trans (HK2.out.mono HB0.out.size))
   obtain ⟨hz, x0, x1⟩ := HX.out w2 HK2.out
   go_wp2_with (fail)
   refine (streets_any (d := d) (HN.out _ HB2.out) (HE.out _ HB2.out)).mono ?_
   rintro e w3 ⟨hr, hb3⟩
   obtain ⟨A3, c3, rfl, hrd⟩ := hr.rd
   have HK3 := hide (HK2.out.trans (hb3.mono HK2.out.size))
   have HR3 := hide hrd
   clear hrd hr
   clear hb3 hz x0 x1 HB2 HK2
   have HB3 := hide (HB0.out.trans (HK3.out.mono HB0.out.size))
   obtain ⟨hz, x0, x1⟩ := HX.out w3 HK3.out
   go_wp2_with (fail)
   refine (rStreets35_any (d := d) (HN.out _ HB3.out) (HE.out _ HB3.out)).mono ?_
   rintro e w4 ⟨hr, hb4⟩
   obtain ⟨A4, c4, rfl, hrd⟩ := hr.rd
   have HK4 := hide (HK3.out.trans (hb4.mono HK3.out.size))
   have HR4 := hide hrd
   clear hrd hr
   replace HR3 := hide ((HR3.out.below hb4).mono hb4.size)
   clear hb4 hz x0 x1 HB3 HK3
   have HB4 := hide (HB0.out.trans (HK4.out.mono HB0.out.size))
   obtain ⟨hz, x0, x1⟩ := HX.out w4 HK4.out
   go_wp2_with (fail)
   refine (blocks_any (d := d) (HN.out _ HB4.out) (HE.out _ HB4.out) (HA.out _ HB4.out) HL.out).mono ?_
   rintro e w5 ⟨hr, hb5⟩
   obtain ⟨vr5, rfl, hrd⟩ := hr.rg
   have HK5 := hide (HK4.out.trans (hb5.mono HK4.out.size))
   have HR5 := hide hrd
   clear hrd hr
   replace HR3 := hide ((HR3.out.below hb5).mono hb5.size)
   replace HR4 := hide ((HR4.out.below hb5).mono hb5.size)
   clear hb5 hz x0 x1 HB4 HK4
   have HB5 := hide (HB0.out.trans (HK5.out.mono HB0.out.size))
   obtain ⟨hz, x0, x1⟩ := HX.out w5 HK5.out
   go_wp2_with (fail)
   refine (rBlocks35_any (d := d) (HN.out _ HB5.out) (HE.out _ HB5.out) (HA.out _ HB5.out) HL.out).mono ?_
   rintro e w6 ⟨hr, hb6⟩
   obtain ⟨vr6, rfl, hrd⟩ := hr.rg
   have HK6 := hide (HK5.out.trans (hb6.mono HK5.out.size))
   have HR6 := hide hrd
   clear hrd hr
   replace HR3 := hide ((HR3.out.below hb6).mono hb6.size)
   replace HR4 := hide ((HR4.out.below hb6).mono hb6.size)
   replace HR5 := hide ((HR5.out.below hb6).mono hb6.size)
   clear hb6 hz x0 x1 HB5 HK5
   have HB6 := hide (HB0.out.trans (HK6.out.mono HB0.out.size))
   obtain ⟨hz, x0, x1⟩ := HX.out w6 HK6.out
   go_wp2_with (fail)
   refine (parts35_any (HN.out _ HB6.out) (HE.out _ HB6.out)).mono ?_
   rintro e w7 ⟨rfl, hb7⟩
   have HK7 := hide (HK6.out.trans (hb7.mono HK6.out.size))
   replace HR3 := hide ((HR3.out.below hb7).mono hb7.size)
   replace HR4 := hide ((HR4.out.below hb7).mono hb7.size)
   replace HR5 := hide ((HR5.out.below hb7).mono hb7.size)
   replace HR6 := hide ((HR6.out.below hb7).mono hb7.size)
   clear hb7 hz x0 x1 HB6 HK6
   have HB7 := hide (HB0.out.trans (HK7.out.mono HB0.out.size))
   obtain ⟨hz, x0, x1⟩ := HX.out w7 HK7.out
   go_wp2_with (fail)
   refine (rParts35_any (HN.out _ HB7.out) (HE.out _ HB7.out)).mono ?_
   rintro e w8 ⟨rfl, hb8⟩
   have HK8 := hide (HK7.out.trans (hb8.mono HK7.out.size))
   replace HR3 := hide ((HR3.out.below hb8).mono hb8.size)
   replace HR4 := hide ((HR4.out.below hb8).mono hb8.size)
   replace HR5 := hide ((HR5.out.below hb8).mono hb8.size)
   replace HR6 := hide ((HR6.out.below hb8).mono hb8.size)
   clear hb8 hz x0 x1 HB7 HK7
   have HB8 := hide (HB0.out.trans (HK8.out.mono HB0.out.size))
   obtain ⟨hz, x0, x1⟩ := HX.out w8 HK8.out
   go_wp2_with (fail)
   refine (loops_any (HN.out _ HB8.out) (HE.out _ HB8.out)).mono ?_
   rintro e w9 ⟨rfl, hb9⟩
   have HK9 := hide (HK8.out.trans (hb9.mono HK8.out.size))
   replace HR3 := hide ((HR3.out.below hb9).mono hb9.size)
   replace HR4 := hide ((HR4.out.below hb9).mono hb9.size)
   replace HR5 := hide ((HR5.out.below hb9).mono hb9.size)
   replace HR6 := hide ((HR6.out.below hb9).mono hb9.size)
   clear hb9 hz x0 x1 HB8 HK8
   have HB9 := hide (HB0.out.trans (HK9.out.mono HB0.out.size))
   obtain ⟨hz, x0, x1⟩ := HX.out w9 HK9.out
   go_wp2_with (fail)
   refine (rLoops35_any (HN.out _ HB9.out) (HE.out _ HB9.out)).mono ?_
   rintro e w10 ⟨rfl, hb10⟩
   have HK10 := hide (HK9.out.trans (hb10.mono HK9.out.size))
   replace HR3 := hide ((HR3.out.below hb10).mono hb10.size)
   replace HR4 := hide ((HR4.out.below hb10).mono hb10.size)
   replace HR5 := hide ((HR5.out.below hb10).mono hb10.size)
   replace HR6 := hide ((HR6.out.below hb10).mono hb10.size)
   clear hb10 hz x0 x1 HB9 HK9
   have HF : Hid ((strF N E d).1.length ≤ 400) := hide (strF_len N E d)
   have HBL := hide (blkF_len N E d land)
   clear HN HE HA HX HL
   have HLE9 := hide (Below.refl w10.heap.size w10)
   generalize strF N E d = F at *
   generalize blkF N E d land = G at *
   generalize prtF N E = P at *
   generalize lopF N E = Q at *
   obtain ⟨F1, F2⟩ := F
   obtain ⟨G1, G2⟩ := G
   obtain ⟨P1, P2⟩ := P
   obtain ⟨Q1, Q2⟩ := Q
   simp only at HR3 HR4 HR5 HR6 HBL HF ⊢
   have HS := hide (rSameRects_any (w := w10) HR3.out HR4.out (Nat.le_trans HF.out (by omega)) (Nat.le_refl _) (Nat.le_refl _))
   rw [decide_eq_true (rfl : F1 = F1)] at HS
   go_wp2_with (fail)
   refine HS.out.mono ?_
   rintro e w11 ⟨rfl, hb11⟩
   have HK11 := hide (HK10.out.trans (hb11.mono HK10.out.size))
   have HS2 := hide (rSameRegs_any (w := w11) ((HR5.out.below hb11).mono hb11.size) ((HR6.out.below hb11).mono hb11.size) HBL.out.1 HBL.out.2)
   rw [decide_eq_true (rfl : G1 = G1)] at HS2
   clear hb11 HR3 HR4 HR5 HR6 HS HBL HLE9 HF HK10
   go_wp2_with (fail)
   refine HS2.out.mono ?_
   rintro e w12 ⟨rfl, hb12⟩
   have HK12 := hide (HK11.out.trans (hb12.mono HK11.out.size))
   clear hb12 HS2 HK11
   go_wp2
   go_ret
   exact ⟨rfl, HB0.out.trans (HK12.out.mono HB0.out.size)⟩
end Go.Proofs.YtikojiciilambaaGreat

/- The last step from a walk to a given statement, for every law of the seat: the call returns true, and what lay in memory lies as it lay. -/
namespace Go.Proofs.YtikojiciilambaaGreat
open Go.ChangeShapes Go.WideShapes Go.ChangeAt Go.RowKit Go.Joins Go.Deep
set_option linter.unusedVariables false
set_option linter.unusedSimpArgs false
theorem own : ownKnob Tryz.prog.godebug = none := by kernel_rfl
theorem laidOut : laidOutB Tryz.prog = true := by kernel_rfl
section
variable {H : Type} {enc : TypeId × Value → H}
theorem trodAll_carry {P : Program} (hl : laidOutB P = true) {W W' : World} (hb : Below W.heap.size W W') :
  ∀ (ts : List TypeId) (vs : List Value) (ds : List (DataW H)) (ps : List MemPlace), (ts.all fun t => P.readableRec t && decide (t < P.types.size)) = true →
   DataW.TrodAll enc P W 0 (fun _ => true) true ts vs ds ps → (∀ x ∈ ps, x.block < W.heap.size) → DataW.TrodAll enc P W' 0 (fun b => decide (b < W.heap.size)) true ts vs ds ps
 | [], [], [], ps, _, h, _ => h
 | [], [], _ :: _, _, _, h, _ => h.elim
 | [], _ :: _, _, _, _, h, _ => h.elim
 | _ :: _, [], _, _, _, h, _ => h.elim
 | _ :: _, _ :: _, [], _, _, h, _ => h.elim
 | t :: ts, v :: vs, d :: ds, ps, hr, h, hlt => by
  obtain ⟨p, q, h1, h2, rfl⟩ := h
  simp only [List.all_cons, Bool.and_eq_true, decide_eq_true_eq] at hr
  refine ⟨p, q, Below.trod hl hr.1.1 hr.1.2 h1 hb (fun x hx => hlt x (by simp [hx])), trodAll_carry hl hb ts vs ds q ?_ h2 (fun x hx => hlt x (by simp [hx])), rfl⟩
  simpa using hr.2
theorem law_post {P : Program} {f : Func} {s : ChangeSpec} {W W' : World} {args : Array Value} {ds gs : List (DataW H)} {before : List MemPlace} {tb : TypeId}
  (hl : laidOutB P = true) (hr : (f.params.toList.all fun t => P.readableRec t && decide (t < P.types.size)) = true) (hres : f.resultTypes = #[tb]) (hbool : P.underlying tb = some .bool)
  (hvars : s.vars = []) (hW : DataW.Whole enc P f.params.toList s.vars false W args.toList ds gs before)
  (hsr : (s.fn H (ds ++ gs)).results = [.lit (.bool true)]) (hsa : (s.fn H (ds ++ gs)).args = ds) (hsv : (s.fn H (ds ++ gs)).vars = [])
  (hb : Below W.heap.size W W') : s.post enc P f false true false false W args (.bool true) W' := by
 have hlt : ∀ p ∈ before, p.block < W.heap.size := fun p hp => hW.lt p hp
 have hW0 := hW
 obtain ⟨p, q, hA, hV, rfl, hz, hn⟩ := hW
 refine ⟨ds, gs, p ++ q, [], p, [], hW0, ?_, ?_, ?_, hb.frame _, fun h => by cases h⟩
 ·rw [hsr, hres]
  exact trodAll_mk1 (shut_bool hbool true)
 ·rw [hsa]
  exact trodAll_carry hl hb _ _ _ _ hr hA (fun x hx => hlt x (by simp [hx]))
 ·rw [hsv, hvars]
  rfl
end
end Go.Proofs.YtikojiciilambaaGreat

/- An argument that is a list of structs of ints, read as a list. -/
namespace Go.Proofs.YtikojiciilambaaGreat
open Go.ChangeShapes Go.WideShapes Go.ChangeAt Go.RowKit Go.Joins Go.Deep
set_option linter.unusedVariables false
set_option linter.unusedSimpArgs false
section
variable {H : Type} {enc : TypeId × Value → H} {P : Program} {w : World} {base : Nat} {spare : Nat → Bool} {held : Bool}
theorem trod_int_fields {t : TypeId} {fs : Array Field} {n : Nat} {cs : List Value} {y : DataW H × List MemPlace} (he : P.underlying t = some (.struct fs)) (hone : oneCellFields P fs = true) (hint : ∀ (j : Nat) (f : Field), fs[j]? = some f → P.underlying f.type = some (.int .i64))
  (hl : cs.length = fs.size) (h : DataW.trod enc P w base spare held n t cs = some y) : ∀ j, j < fs.size → ∃ z : Int, cs[j]? = some (.int .i64 z) := by
 obtain ⟨ys, n', _, _, _, hyl, hf⟩ := DataW.trod_struct he h
 intro j hj
 have hjf : fs[j]? = some fs[j] := Array.getElem?_eq_getElem hj
 obtain ⟨ho, hk⟩ := hone_of hone j _ hjf
 have h1 := hf j _ hjf
 rw [ho, hk] at h1
 have hd : (cs.drop j).take 1 = [cs[j]'(by omega)] := by rw [List.drop_eq_getElem_cons (by omega)]; rfl
 rw [hd] at h1
 have hy : ys[j]? = some (ys[j]'(by omega)) := List.getElem?_eq_getElem (by omega)
 rw [hy] at h1
 obtain ⟨z, hz, _⟩ := DataW.trod_int (hint j _ hjf) h1
 have hz' : cs[j]'(by omega) = .int .i64 z := by simpa using hz
 exact ⟨z, by rw [List.getElem?_eq_getElem (by omega), hz']⟩
theorem trod_rows {t e : TypeId} {fs : Array Field} {v : Value} {d : DataW H} {p : List MemPlace} {r : Reach} {b0 : Nat} (ht : P.underlying t = some (.slice e)) (he : P.underlying e = some (.struct fs)) (hone : oneCellFields P fs = true)
  (hint : ∀ (j : Nat) (f : Field), fs[j]? = some f → P.underlying f.type = some (.int .i64)) (hC : P.cellsOf e = fs.size) (hk : 0 < fs.size) (hv : Value.okWide P w r b0 t v) (h : DataW.Trod enc P w base spare held t v d p) :
  ∃ (A : Option Addr) (n c : Nat) (F : Nat → Nat → Int), v = .slice A n c ∧ n ≤ maxLen ∧ (0 < n → ∃ b off, A = some ⟨b, off, none⟩ ∧ b < w.heap.size ∧ ∀ i j, i < n → j < fs.size → w.cell? ⟨b, off + i * fs.size + j, none⟩ = some (.int .i64 (F i j))) := by
 obtain ⟨A, n, c, rfl⟩ := okWide_slice ht hv
 obtain ⟨fuel, hf⟩ := h
 rcases open_slice ht hf with ⟨hcs, _⟩ | ⟨a, len, cap, m, nn, D, Pl, hcs, hb, hl, hm, hmm, hx, hi⟩
 ·simp [Value.cells] at hcs
  obtain ⟨rfl, rfl, rfl⟩ := hcs
  exact ⟨none, 0, 0, fun _ _ => 0, rfl, Nat.zero_le _, fun h => absurd h (Nat.lt_irrefl 0)⟩
 ·simp [Value.cells] at hcs
  obtain ⟨rfl, rfl, rfl⟩ := hcs
  have hlm : n ≤ m := by rw [hmm]; split <;> omega
  have key : ∀ i, i < n → ∀ j, j < fs.size → ∃ z : Int, w.cell? (a.add (i * fs.size + j)) = some (.int .i64 z) := by
   intro i hin j hj
   obtain ⟨cs', hc, ht'⟩ := hi i (by omega)
   rw [hC] at hc
   obtain ⟨_, hcl, hat⟩ := World.cells?_some hc
   obtain ⟨z, hz⟩ := trod_int_fields he hone hint hcl ht' j hj
   have := hat j hj
   rw [← Go.Deep.add_add, this, hz]
   exact ⟨z, rfl⟩
  refine ⟨some a, n, c, fun i j => if h : i < n ∧ j < fs.size then Classical.choose (key i h.1 j h.2) else 0, rfl, by omega, fun hn => ?_⟩
  obtain ⟨z0, h0⟩ := key 0 hn 0 hk
  have hadd0 : a.add (0 * fs.size + 0) = a := by simp [Addr.add]
  rw [hadd0] at h0
  obtain ⟨b, off, sp⟩ := a
  have hsp : sp = none := by
   unfold World.cell? at h0
   cases sp with
   | none => rfl
   | some x => split at h0 <;> simp at h0
  subst hsp
  refine ⟨b, off, rfl, ?_, fun i j hin hj => ?_⟩
  ·unfold World.cell? at h0
   split at h0
   ·rename_i hh
    exact (Array.getElem?_eq_some_iff.1 hh).1
   ·cases h0
  ·have hz := Classical.choose_spec (key i hin j hj)
   have e1 : (⟨b, off, none⟩ : Addr).add (i * fs.size + j) = ⟨b, off + i * fs.size + j, none⟩ := by unfold Addr.add; split <;> simp_all [Nat.add_assoc]
   rw [← e1]
   simp only [dif_pos (And.intro hin hj)]
   exact hz
theorem trod_rects {t e : TypeId} {fs : Array Field} {v : Value} {d : DataW H} {p : List MemPlace} {r : Reach} {b0 : Nat} (ht : P.underlying t = some (.slice e)) (he : P.underlying e = some (.struct fs)) (hone : oneCellFields P fs = true)
  (hint : ∀ (j : Nat) (f : Field), fs[j]? = some f → P.underlying f.type = some (.int .i64)) (hC : P.cellsOf e = 4) (hk : fs.size = 4) (hv : Value.okWide P w r b0 t v) (h : DataW.Trod enc P w base spare held t v d p) :
  ∃ l : List R4, RdK encR 4 w w.heap.size v l ∧ l.length ≤ maxLen := by
 obtain ⟨A, n, c, F, rfl, hn, hF⟩ := trod_rows ht he hone hint (hC.trans hk.symm) (by omega) hv h
 rw [hk] at hF
 refine ⟨(List.range n).map fun i => ⟨F i 0, F i 1, F i 2, F i 3⟩, ⟨A, c, by simp, fun hl => ?_⟩, by simpa using hn⟩
 have hn0 : 0 < n := by
  rcases Nat.eq_zero_or_pos n with h | h
  ·subst h; exact absurd rfl hl
  ·exact h
 obtain ⟨b, off, hA, hb, hc⟩ := hF hn0
 refine ⟨b, off, hA, hb, fun j x hj i u hu => ?_⟩
 have hjn : j < n := by have := (List.getElem?_eq_some_iff.1 hj).1; simpa using this
 rw [List.getElem?_map, List.getElem?_range hjn] at hj
 simp only [Option.map_some, Option.some.injEq] at hj
 subst hj
 have hi : i < 4 := (List.getElem?_eq_some_iff.1 hu).1
 rw [hc j i hjn hi]
 match i, hi with
 | 0, _ => exact hu
 | 1, _ => exact hu
 | 2, _ => exact hu
 | 3, _ => exact hu
end
theorem rect_fields : ∀ (j : Nat) (f : Field), (match Tryz.prog.underlying 49 with | some (.struct fs) => fs | _ => #[])[j]? = some f → Tryz.prog.underlying f.type = some (.int .i64) := by
 rw [Tryz.underlying49]
 intro j f hf
 match j, hf with
 | 0, hf => simp at hf; subst hf; exact Tryz.underlying3
 | 1, hf => simp at hf; subst hf; exact Tryz.underlying3
 | 2, hf => simp at hf; subst hf; exact Tryz.underlying3
 | 3, hf => simp at hf; subst hf; exact Tryz.underlying3
 | j + 4, hf => simp at hf
end Go.Proofs.YtikojiciilambaaGreat

/- An argument that is a list of segments, read as such. -/
namespace Go.Proofs.YtikojiciilambaaGreat
open Go.ChangeShapes Go.WideShapes Go.ChangeAt Go.RowKit Go.Joins Go.Deep
set_option linter.unusedVariables false
set_option linter.unusedSimpArgs false
theorem point_fields : ∀ (j : Nat) (f : Field), (match Tryz.prog.underlying 53 with | some (.struct fs) => fs | _ => #[])[j]? = some f → Tryz.prog.underlying f.type = some (.int .i64) := by
 rw [Tryz.underlying53]
 intro j f hf
 match j, hf with
 | 0, hf => simp at hf; subst hf; exact Tryz.underlying3
 | 1, hf => simp at hf; subst hf; exact Tryz.underlying3
 | j + 2, hf => simp at hf
section
variable {H : Type} {enc : TypeId × Value → H} {w : World} {base : Nat} {spare : Nat → Bool} {held : Bool}
end
end Go.Proofs.YtikojiciilambaaGreat

/- A slice that reads as a list of lists of rectangles; an argument that is one, read as such. -/
namespace Go.Proofs.YtikojiciilambaaGreat
open Go.ChangeShapes Go.WideShapes Go.ChangeAt Go.RowKit Go.Joins Go.Deep
set_option linter.unusedVariables false
set_option linter.unusedSimpArgs false
def RdRR (w : World) (B : Nat) (v : Value) (bs : List (List R4)) : Prop :=
 ∃ A c, v = .slice A bs.length c ∧ (bs ≠ [] → ∃ b off, A = some ⟨b, off, none⟩ ∧ b < B ∧ ∀ j x, bs[j]? = some x → ∃ u, w.cell? ⟨b, off + j, none⟩ = some u ∧ RdK encR 4 w B u x)
theorem RdRR.keep {w w' : World} {B : Nat} {v : Value} {bs : List (List R4)} (h : RdRR w B v bs) (hk : ∀ b o, b < B → w'.cell? ⟨b, o, none⟩ = w.cell? ⟨b, o, none⟩) : RdRR w' B v bs := by
 obtain ⟨A, c, hv, h⟩ := h
 refine ⟨A, c, hv, fun hl => ?_⟩
 obtain ⟨b, off, hA, hb, hc⟩ := h hl
 refine ⟨b, off, hA, hb, fun j x hx => ?_⟩
 obtain ⟨u, h1, h2⟩ := hc j x hx
 exact ⟨u, (hk b _ hb).trans h1, h2.keep hk⟩
theorem RdRR.mono {w : World} {B B' : Nat} {v : Value} {bs : List (List R4)} (h : RdRR w B v bs) (hB : B ≤ B') : RdRR w B' v bs := by
 obtain ⟨A, c, hv, h⟩ := h
 refine ⟨A, c, hv, fun hl => ?_⟩
 obtain ⟨b, off, hA, hb, hc⟩ := h hl
 refine ⟨b, off, hA, by omega, fun j x hx => ?_⟩
 obtain ⟨u, h1, h2⟩ := hc j x hx
 exact ⟨u, h1, h2.mono hB⟩
theorem RdRR.below {w w' : World} {B : Nat} {v : Value} {bs : List (List R4)} (h : RdRR w B v bs) (hb : Below B w w') : RdRR w' B v bs := h.keep fun b o hlt => hb.cell (p := ⟨b, o, none⟩) hlt
section
variable {H : Type} {enc : TypeId × Value → H} {P : Program} {w : World} {base : Nat} {spare : Nat → Bool} {held : Bool}
theorem cell_plain {a : Addr} {u : Value} (h : w.cell? a = some u) : ∃ b off, a = ⟨b, off, none⟩ ∧ b < w.heap.size := by
 obtain ⟨b, off, sp⟩ := a
 have hsp : sp = none := by
  unfold World.cell? at h
  cases sp with
  | none => rfl
  | some x => split at h <;> simp at h
 subst hsp
 refine ⟨b, off, rfl, ?_⟩
 unfold World.cell? at h
 split at h
 ·rename_i hh
  exact (Array.getElem?_eq_some_iff.1 hh).1
 ·cases h
end
end Go.Proofs.YtikojiciilambaaGreat

/- An argument that is a network, read as such. -/
namespace Go.Proofs.YtikojiciilambaaGreat
open Go.ChangeShapes Go.WideShapes Go.ChangeAt Go.RowKit Go.Joins Go.Deep
set_option linter.unusedVariables false
set_option linter.unusedSimpArgs false
theorem edge_fields : ∀ (j : Nat) (f : Field), (match Tryz.prog.underlying 120 with | some (.struct fs) => fs | _ => #[])[j]? = some f → Tryz.prog.underlying f.type = some (.int .i64) := by
 rw [Tryz.underlying120]
 intro j f hf
 match j, hf with
 | 0, hf => simp at hf; subst hf; exact Tryz.underlying3
 | 1, hf => simp at hf; subst hf; exact Tryz.underlying3
 | j + 2, hf => simp at hf
section
variable {H : Type} {enc : TypeId × Value → H} {P : Program} {w : World} {base : Nat} {spare : Nat → Bool} {held : Bool}
theorem trod_pairs1 {t e : TypeId} {fs : Array Field} {v : Value} {fuel : Nat} {x : DataW H × List MemPlace} (ht : P.underlying t = some (.slice e)) (he : P.underlying e = some (.struct fs)) (hone : oneCellFields P fs = true)
  (hint : ∀ (j : Nat) (f : Field), fs[j]? = some f → P.underlying f.type = some (.int .i64)) (hC : P.cellsOf e = 2) (hk : fs.size = 2) (hf : DataW.trod enc P w base spare held fuel t [v] = some x) :
  ∃ l : List (Int × Int), RdK encS 2 w w.heap.size v l ∧ l.length ≤ maxLen := by
 rcases open_slice ht hf with ⟨hcs, _⟩ | ⟨a, n, cap, m, nn, D, Pl, hcs, hb, hl, hm, hmm, hx, hi⟩
 ·simp at hcs
  subst hcs
  exact ⟨[], RdK.nil _ _, Nat.zero_le _⟩
 ·simp at hcs
  subst hcs
  have hlm : n ≤ m := by rw [hmm]; split <;> omega
  have key : ∀ i, i < n → ∀ j, j < 2 → ∃ z : Int, w.cell? (a.add (i * 2 + j)) = some (.int .i64 z) := by
   intro i hin j hj
   obtain ⟨cs', hc, ht'⟩ := hi i (by omega)
   rw [hC] at hc
   obtain ⟨_, hcl, hat⟩ := World.cells?_some hc
   obtain ⟨z, hz⟩ := trod_int_fields he hone hint (by rw [hk]; exact hcl) ht' j (by omega)
   have := hat j hj
   rw [← Go.Deep.add_add, this, hz]
   exact ⟨z, rfl⟩
  refine ⟨(List.range n).map fun i => (if h : i < n then Classical.choose (key i h 0 (by omega)) else 0, if h : i < n then Classical.choose (key i h 1 (by omega)) else 0), ⟨some a, cap, by simp, fun hl0 => ?_⟩, by simp; omega⟩
  have hn : 0 < n := by
   rcases Nat.eq_zero_or_pos n with h | h
   ·subst h; exact absurd rfl hl0
   ·exact h
  obtain ⟨z0, h0⟩ := key 0 hn 0 (by omega)
  have hadd0 : a.add (0 * 2 + 0) = a := by simp [Addr.add]
  rw [hadd0] at h0
  obtain ⟨b, off, rfl, hbs⟩ := cell_plain h0
  refine ⟨b, off, rfl, hbs, fun j x hj i u hu => ?_⟩
  have hjn : j < n := by have := (List.getElem?_eq_some_iff.1 hj).1; simpa using this
  rw [List.getElem?_map, List.getElem?_range hjn] at hj
  simp only [Option.map_some, Option.some.injEq, dif_pos hjn] at hj
  subst hj
  have e1 : ∀ k, (⟨b, off, none⟩ : Addr).add (j * 2 + k) = ⟨b, off + j * 2 + k, none⟩ := fun k => by unfold Addr.add; split <;> simp_all [Nat.add_assoc]
  have hi : i < 2 := (List.getElem?_eq_some_iff.1 hu).1
  rw [← e1]
  match i, hi with
  | 0, _ => rw [Classical.choose_spec (key j hjn 0 (by omega))]; exact hu
  | 1, _ => rw [Classical.choose_spec (key j hjn 1 (by omega))]; exact hu
theorem array2 {α : Type} {a : Array α} (h : a.size = 2) : ∃ x0 x1, a = #[x0, x1] := by
 obtain ⟨l⟩ := a
 match l, h with
 | [x0, x1], _ => exact ⟨x0, x1, rfl⟩
set_option maxRecDepth 100000 in
theorem open_net {v : Value} {d : DataW H} {p : List MemPlace} {r : Reach} {b0 : Nat} (hv : Value.okWide Tryz.prog w r b0 63 v) (h : DataW.Trod enc Tryz.prog w base spare held 63 v d p) :
  ∃ nv ev N E, v = .agg #[nv, ev] ∧ RdK encS 2 w w.heap.size nv N ∧ RdK encS 2 w w.heap.size ev E := by
 obtain ⟨cs, rfl, hsz⟩ := okWide_struct Tryz.underlying63 hv
 have h2 : Tryz.prog.cellsOf 63 = 2 := by kernel_rfl
 have hn : Tryz.prog.cellsOf 36 = 1 := by kernel_rfl
 have he : Tryz.prog.cellsOf 61 = 1 := by kernel_rfl
 obtain ⟨v0, v1, rfl⟩ := array2 (hsz.trans h2)
 obtain ⟨fuel, hf⟩ := h
 obtain ⟨y0, y1, n, _, _, hy0, hy1⟩ := trod_struct2 Tryz.underlying63 hf
 simp only [hn, he, Value.cells] at hy0 hy1
 obtain ⟨N, r1, _⟩ := trod_pairs1 Tryz.underlying36 Tryz.underlying53 (by kernel_rfl) point_fields (by kernel_rfl) rfl hy0
 obtain ⟨E, r2, _⟩ := trod_pairs1 Tryz.underlying61 Tryz.underlying120 (by kernel_rfl) edge_fields (by kernel_rfl) rfl hy1
 exact ⟨v0, v1, N, E, rfl, r1, r2⟩
end
end Go.Proofs.YtikojiciilambaaGreat
