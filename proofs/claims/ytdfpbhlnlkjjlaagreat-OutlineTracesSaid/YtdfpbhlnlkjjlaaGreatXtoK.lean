/- Lemmas that the statement of this seat needs beside the texts laid together; no condition. -/
import Derived.Test.YtdfpbhlnlkjjlaaGreatPk1
import Derived.Test.YtdfpbhlnlkjjlaaGreatPk2
import Derived.Test.YtdfpbhlnlkjjlaaGreatPk3
import Derived.Test.YtdfpbhlnlkjjlaaGreatPk4
import Derived.Test.YtdfpbhlnlkjjlaaGreatPk5
import Derived.Test.YtdfpbhlnlkjjlaaGreatPk6
import Derived.Test.YtdfpbhlnlkjjlaaGreatPk7
import Derived.Test.YtdfpbhlnlkjjlaaGreatPk8
import Derived.Test.YtdfpbhlnlkjjlaaGreatPk9
import Derived.Test.YtdfpbhlnlkjjlaaGreatPk10
import Derived.Test.YtdfpbhlnlkjjlaaGreatPk11
import Derived.Test.YtdfpbhlnlkjjlaaGreatPk12
import Derived.Test.YtdfpbhlnlkjjlaaGreatShelf
import Derived.Test.YtdfpbhlnlkjjlaaGreatShelfB
import Derived.Maps.AppendAt
import Derived.Laws.AppendOwnNone
import Derived.Laws.StructEq
import Derived.Deep.QuietTactic
import Derived.BigQuiet
import Derived.StillTactics
import Derived.ProofKit
import Derived.Lib.SmallJoins
import Derived.Deep.Slices
import Derived.Deep.Fields
import Derived.ChangeSame
import Derived.Maps.RangeWalk
import Derived.Maps.Ext
namespace Go.Proofs.YtdfpbhlnlkjjlaaGreat
open Go.RowKit
set_option linter.unusedVariables false
set_option linter.unusedSimpArgs false
section
variable {P : Program} {α : Type} {enc : α → List Value} {k : Nat}
end
set_option maxHeartbeats 1000000 in
theorem rTwin_any {w : World} {v : Value} {l : List R4} (hr : RdK encR 4 w w.heap.size v l) (hl : l.length ≤ 100000000) :
  Calls Tryz.prog 16 #[v] w fun e w' => ∃ vo, e = .returned vo ∧ w'.ownsRow w.heap.size 49 4 vo l.length (l.flatMap encR) ∧ Below w.heap.size w w' := by
 obtain ⟨i1, gi, gz0, gz1, gz2⟩ := info_parts infoRc
 obtain ⟨A, c, hv, _⟩ := id hr
 subst hv
 have HR := hide hr
 clear hr
 go_enter Tryz.func16, Tryz.ntmps16
 go_wp2_with (at_builtin; go_loud (refine wpList_app_rd (enc := encR) (k := 4) (l := l) rfl (fun _ => rfl) one_encR (.tmp 3) (.tmp 4) 22 rfl w.heap.size 49 i1 (.agg #[.int .i64 0, .int .i64 0, .int .i64 0, .int .i64 0]) 32 Tryz.underlying22 gi gz0 gz1 gz2 rfl (by decide) (.slice (some ⟨w.heap.size, 0, none⟩) 0 0) 0 [] rfl ⟨by simp, .inr ⟨w.heap.size, 0, #[], rfl, Nat.le_refl _, World.alloc_heap_new _ _, Nat.le_refl _, by simp [maxLen], by simp, by simp⟩⟩ w.heap.size (HR.out.below ((Below.refl _ _).alloc (Nat.le_refl _) _)) (by unfold maxLen; omega) (by omega) (by simp) ?_))
 intro v2 w2 hown2 hg2
 have hb2 : Below w.heap.size w w2 := ((Below.refl _ _).alloc (Nat.le_refl _) _).grown hg2 (by simp) (fun q hq => by simp [Value.ownBlock] at hq; omega)
 have HO := hide hown2
 clear hown2 hg2
 go_wp2
 go_ret
 exact ⟨_, rfl, own_n (by simpa using HO.out) (by simp), hb2⟩
end Go.Proofs.YtdfpbhlnlkjjlaaGreat
namespace Go.Proofs.YtdfpbhlnlkjjlaaGreat
open Go.RowKit
set_option linter.unusedVariables false
set_option linter.unusedSimpArgs false
set_option maxRecDepth 100000 in
set_option maxHeartbeats 8000000 in
theorem rSame13_any {w : World} {v1 v2 : Value} {L M : List (List Pt)} (h1 : RdPs w w.heap.size v1 L) (h2 : RdPs w w.heap.size v2 M) (l1 : L.length ≤ 100000000) (l2 : ∀ r ∈ L, r.length ≤ 100000000) :
  Calls Tryz.prog 19 #[v1, v2] w fun e w' => e = .returned (.bool (decide (L = M))) ∧ Below w.heap.size w w' := by
 have K1 := hide h1
 have K2 := hide h2
 have HL2 := hide l2
 obtain ⟨A1, c1, rfl, _⟩ := h1
 obtain ⟨A2, c2, rfl, _⟩ := h2
 clear l2
 go_enter Tryz.func19, Tryz.ntmps19
 by_cases q1 : L.length = M.length
 ·have z1 : ((L.length : Int) != (M.length : Int)) = false := by simp; omega
  have HQ1 := hide q1
  clear q1
  go_wp2
  clear z1
  go_loopw [5] (fun i wr => ∃ m : Nat, m ≤ L.length ∧ i = .int .i64 (m : Int) ∧ Hid (L.take m = M.take m) ∧ Hid (Below w.heap.size w wr)) (fun i _ => L.length - (intOf i).toNat)
  case atStart => exact ⟨0, Nat.zero_le _, rfl, hide (by simp), hide (Below.refl _ _)⟩
  case round =>
   obtain ⟨m, hm, rfl, HT, HB⟩ := hrel
   have hll := HQ1.out
   by_cases hlt : m < L.length
   ·have mz : (m : Int) < (L.length : Int) := by omega
    have mz2 : (m : Int) < (M.length : Int) := by omega
    have m0 : (0 : Int) ≤ (m : Int) := by omega
    obtain ⟨r, hr⟩ : ∃ p, L[m]? = some p := ⟨_, List.getElem?_eq_getElem hlt⟩
    obtain ⟨t, ht⟩ : ∃ p, M[m]? = some p := ⟨_, List.getElem?_eq_getElem (by omega)⟩
    obtain ⟨b, o, u, rfl, hb, e0', hu⟩ := K1.out.get hr
    obtain ⟨b2, o2, u2, rfl, hb2, f0', hu2⟩ := K2.out.get ht
    have e0 := (HB.out.cell (p := ⟨b, _, none⟩) hb).trans e0'
    have f0 := (HB.out.cell (p := ⟨b2, _, none⟩) hb2).trans f0'
    have hbr : b < wr.heap.size := Nat.lt_of_lt_of_le hb HB.out.size
    have hbr2 : b2 < wr.heap.size := Nat.lt_of_lt_of_le hb2 HB.out.size
    have HSR := hide (fun (W : World) (hB : Below w.heap.size w W) => rLoop13_any (w := W) (hu.below hB) (hu2.below hB) (HL2.out r (List.mem_of_getElem? hr)) hB.size hB.size)
    have HRR := hide hr
    have HTT := hide ht
    clear hr ht hll hlt e0' f0' hu hu2
    cases hd : decide (r = t) with
    | true =>
     rw [hd] at HSR
     have HT2 := hide (take_eqO HT.out HRR.out (by rw [HTT.out, of_decide_eq_true hd]))
     clear hd
     have HSA : Hid (∀ y : Above wr, _) := hide (fun y : Above wr => above_of (x := y) (HSR.out y.get (HB.out.trans (y.keeps.mono HB.out.size))))
     go_upto_region 6 with fail
     refine wp_hab fun hab => ?_
     refine wp_region_above (by kernel_rfl) (by kernel_rfl) ?_
     repeat (go_big_quiet_step ((go_at_call 14; with_reducible exact HSA.out _)))
     refine wpQuiet_nil ?_
     refine above_ends fun w3 hb3 => ?_
     have HBZ := hide (HB.out.trans (hb3.mono HB.out.size))
     clear hab e0 f0 hbr hbr2 hb3 HSR HSA
     go_wp2
     go_roundw
     case rel => exact ⟨m + 1, by omega, by go_num, HT2, HBZ⟩
     case measure => simp [intOf]; omega
    | false =>
     rw [hd] at HSR
     have HN : Hid (¬ L = M) := hide (fun e => by
      have h := HRR.out
      rw [e, HTT.out] at h
      injection h with h
      exact of_decide_eq_false hd h.symm)
     clear hd
     have HSA : Hid (∀ y : Above wr, _) := hide (fun y : Above wr => above_of (x := y) (HSR.out y.get (HB.out.trans (y.keeps.mono HB.out.size))))
     go_upto_region 6 with fail
     refine wp_hab fun hab => ?_
     refine wp_region_above (by kernel_rfl) (by kernel_rfl) ?_
     repeat (go_big_quiet_step ((go_at_call 14; with_reducible exact HSA.out _)))
     refine wpQuiet_nil ?_
     refine above_ends fun w3 hb3 => ?_
     have HBZ := hide (HB.out.trans (hb3.mono HB.out.size))
     clear hab e0 f0 hbr hbr2 hb3 HSR HSA
     go_wp2
     go_ret
     exact ⟨ret_eq (bool_eq (by rw [decide_eq_false HN.out])), HBZ.out⟩
   ·have mz : ¬ (m : Int) < (L.length : Int) := by omega
    obtain rfl : m = L.length := by omega
    have HEQ : Hid (L = M) := hide (by
     have h := HT.out
     rwa [List.take_length, hll, List.take_length] at h)
    clear hll HT
    go_wp2
    go_ret
    exact ⟨ret_eq (bool_eq (by rw [decide_eq_true HEQ.out])), HB.out⟩
 ·have z1 : ((L.length : Int) != (M.length : Int)) = true := by simp; omega
  have HN : Hid (¬ L = M) := hide (fun e => q1 (by rw [e]))
  clear q1
  go_wp2
  go_ret
  exact ⟨ret_eq (bool_eq (by rw [decide_eq_false HN.out])), Below.refl _ _⟩
end Go.Proofs.YtdfpbhlnlkjjlaaGreat
namespace Go.Proofs.YtdfpbhlnlkjjlaaGreat
open Go.RowKit
set_option linter.unusedVariables false
set_option linter.unusedSimpArgs false
section
variable {α : Type} {enc : α → List Value} {k : Nat} {w : World} {B b o n c m c' : Nat} {l : List α}
end
set_option maxRecDepth 100000 in
set_option maxHeartbeats 8000000 in
theorem rTurned13_any {w : World} {v : Value} {l : List Pt} {B : Nat} (ho : w.ownsRow B 53 2 v l.length (l.flatMap encS)) (h0 : 0 < l.length) (hl : l.length ≤ 1000000) :
  Calls Tryz.prog 82 #[v] w fun e w' => ∃ vo i, e = .returned vo ∧ FirstMin l i ∧ w'.ownsRow w.heap.size 53 2 vo l.length ((l.drop i ++ l.take i).flatMap encS) ∧ Below w.heap.size w w' := by
 obtain ⟨i1, gi, gz0, gz1, gz2⟩ := info_parts infoPtO
 have HR := hide (own_rd (l := l) ho (fun _ => rfl))
 obtain ⟨A, c, rfl, hc⟩ := HR.out
 obtain ⟨b, o, rfl, hb, hcell⟩ := rd_two HR.out h0
 obtain ⟨hcap, rfl⟩ := own_capO ho
 have HCL := hide hcell
 clear hcell hc ho
 go_enter Tryz.func82, Tryz.ntmps82
 go_wp2
 go_loopw [3, 4] (fun a i wr => ∃ p m : Nat, m ≤ l.length ∧ i = .int .i64 (m : Int) ∧ a = .int .i64 (p : Int) ∧ Hid (FMp l m p) ∧ Hid (Below w.heap.size w wr)) (fun _ i _ => l.length - (intOf i).toNat)
 case atStart => exact ⟨0, 1, h0, rfl, rfl, hide (FMp.one l), hide (Below.refl _ _)⟩
 case round =>
  obtain ⟨p, m, hm, rfl, rfl, HF, HB⟩ := hrel
  by_cases hlt : m < l.length
  ·have mz : (m : Int) < (l.length : Int) := by omega
   have hpl : p < l.length := by have := HF.out.1; omega
   have pz : (p : Int) < (l.length : Int) := by omega
   have d0 := (HB.out.cell (p := ⟨b, _, none⟩) hb).trans (HCL.out m hlt).1
   have d1 := (HB.out.cell (p := ⟨b, _, none⟩) hb).trans (HCL.out m hlt).2
   have e0 := (HB.out.cell (p := ⟨b, _, none⟩) hb).trans (HCL.out p hpl).1
   have e1 := (HB.out.cell (p := ⟨b, _, none⟩) hb).trans (HCL.out p hpl).2
   simp only [Nat.zero_add] at d0 d1 e0 e1
   have hbr : b < wr.heap.size := Nat.lt_of_lt_of_le hb HB.out.size
   have UP : Hid (ptLt (pAt l m) (pAt l p) → FMp l (m + 1) m) := hide HF.out.up
   have ST : Hid (¬ ptLt (pAt l m) (pAt l p) → FMp l (m + 1) p) := hide HF.out.stay
   clear hlt hpl
   generalize pAt l m = P at *
   generalize pAt l p = Q at *
   cases hd : decide (ptLt P Q) with
   | true =>
    have HT := hide (UP.out (of_decide_eq_true hd))
    have HSA : Hid (∀ y : Above wr, _) := hide (fun y : Above wr => above_of (x := y) (rLess13_any P Q y.get))
    rw [hd] at HSA
    clear hd UP ST
    go_upto_region 5 with fail
    refine wp_hab fun hab => ?_
    refine wp_region_above (by kernel_rfl) (by kernel_rfl) ?_
    repeat (go_big_quiet_step ((go_at_call 46; with_reducible exact HSA.out _)))
    refine wpQuiet_nil ?_
    refine above_ends fun w3 hb3 => ?_
    have HBZ := hide (HB.out.trans (hb3.mono HB.out.size))
    clear hab d0 d1 e0 e1 hbr hb3 HSA
    go_wp2
    go_roundw
    case rel => exact ⟨m, m + 1, by omega, by go_num, rfl, HT, HBZ⟩
    case measure => simp [intOf]; omega
   | false =>
    have HT := hide (ST.out (of_decide_eq_false hd))
    have HSA : Hid (∀ y : Above wr, _) := hide (fun y : Above wr => above_of (x := y) (rLess13_any P Q y.get))
    rw [hd] at HSA
    clear hd UP ST
    go_upto_region 5 with fail
    refine wp_hab fun hab => ?_
    refine wp_region_above (by kernel_rfl) (by kernel_rfl) ?_
    repeat (go_big_quiet_step ((go_at_call 46; with_reducible exact HSA.out _)))
    refine wpQuiet_nil ?_
    refine above_ends fun w3 hb3 => ?_
    have HBZ := hide (HB.out.trans (hb3.mono HB.out.size))
    clear hab d0 d1 e0 e1 hbr hb3 HSA
    go_wp2
    go_roundw
    case rel => exact ⟨p, m + 1, by omega, by go_num, rfl, HT, HBZ⟩
    case measure => simp [intOf]; omega
  ·have mz : ¬ (m : Int) < (l.length : Int) := by omega
   obtain rfl : m = l.length := by omega
   have hpl : p < l.length := HF.out.1
   have pz : (p : Int) ≤ (l.length : Int) := by omega
   have pc : (p : Int) ≤ (c : Int) := by omega
   have p0 : (0 : Int) ≤ (p : Int) := by omega
   have nc : (l.length : Int) ≤ (c : Int) := by omega
   have HRD : Hid (RdK encS 2 wr w.heap.size (.slice (some ⟨b, 0, none⟩) l.length c) l) := hide (HR.out.below HB.out)
   have HTK : Hid (RdK encS 2 wr w.heap.size (.slice (some ⟨b, 0, none⟩) p c) (l.take p)) := hide (rd_takeO HRD.out (by omega))
   have HDR : Hid (RdK encS 2 wr w.heap.size (.slice (some ⟨b, p * 2, none⟩) (l.length - p) (c - p)) (l.drop p)) := hide (by
    have h := rd_dropO (c' := c - p) HRD.out (show p ≤ l.length by omega)
    rwa [Nat.zero_add] at h)
   have hne : ¬ c = p := by omega
   have HTN : Hid ((l.take p).length = p) := hide (by rw [List.length_take]; omega)
   have HDN : Hid ((l.drop p).length = l.length - p) := hide List.length_drop
   have HPL := hide hpl
   have HCN := hide hne
   clear hpl hlt mz
   go_upto_region 7 with fail
   refine wp_region_mix [1, 2, 3, 5, 6, 7] [0, 4, 8, 9] (fun w' => True) (by kernel_rfl) (by kernel_rfl) trivial ?_
   simp only [List.map_cons, List.map_nil, opAt, List.getElem?_cons_succ, List.getElem?_cons_zero, Option.getD_some]
   have HBK : Hid (Below w.heap.size w wr.drew) := hide HB.out.drew
   have HTK2 : Hid (RdK encS 2 wr.drew w.heap.size (.slice (some ⟨b, 0, none⟩) p c) (l.take p)) := hide (HTK.out.keep fun _ _ _ => rfl)
   have HDR2 : Hid (RdK encS 2 wr.drew w.heap.size (.slice (some ⟨b, p * 2, none⟩) (l.length - p) (c - p)) (l.drop p)) := hide (HDR.out.keep fun _ _ _ => rfl)
   generalize wr.drew = wk at *
   iterate 6
    refine ⟨?_, Or.inl ⟨by rfl, ?_⟩, ?_⟩
    rotate_left 1
    ·intro w' hSw
     go_simp
     first | done | with_reducible rfl
    simp only [Act.put, List.setIfInBounds_toArray, List.set_cons_zero, List.set_cons_succ]
   simp only [wpReads]
   have HRow0 : Hid ((wk.alloc (.cells #[] 53)).ownsRow w.heap.size 53 2 (.slice (some ⟨wk.heap.size, 0, none⟩) 0 0) 0 []) := hide ⟨by simp, .inr ⟨wk.heap.size, 0, #[], rfl, HBK.out.size, World.alloc_heap_new _ _, Nat.le_refl _, by simp [maxLen], by simp, by simp⟩⟩
   have HBA : Hid (Below w.heap.size w (wk.alloc (.cells #[] 53))) := hide (HBK.out.alloc HBK.out.size _)
   obtain ⟨e, he⟩ : ∃ e, wk.heap.size = e := ⟨_, rfl⟩
   have HEG := hide (show w.heap.size ≤ e by rw [← he]; exact HBK.out.size)
   intro K hK
   simp only [Act.put, List.setIfInBounds_toArray, List.set_cons_zero, List.set_cons_succ] at hK ⊢
   go_simp
   refine hK _ _ (fun _ => trivial) ?_
   clear hK K
   rw [he] at HRow0
   have HDR3 : Hid (RdK encS 2 (wk.alloc (.cells #[] 53)) w.heap.size (.slice (some ⟨b, p * 2, none⟩) (l.length - p) (c - p)) (l.drop p)) := hide (HDR.out.keep fun b o hb => by
    have h1 := HBA.out.cell (p := ⟨b, o, none⟩) hb
    have h2 := HB.out.cell (p := ⟨b, o, none⟩) hb
    rw [h1, h2])
   generalize wk.alloc (.cells #[] 53) = x1 at *
   intro K hK
   simp only [Act.put, List.setIfInBounds_toArray, List.set_cons_zero, List.set_cons_succ] at hK ⊢
   refine wp_app_rd x1 (enc := encS) (k := 2) (l := l.drop p) (fun _ => rfl) one_encSO (.tmp 21) (.tmp 24) 36 rfl w.heap.size 53 i1 (.agg #[.int .i64 0, .int .i64 0]) 16 Tryz.underlying36 gi gz0 gz1 gz2 rfl (by decide) (.slice (some ⟨e, 0, none⟩) 0 0) 0 ([]) rfl HRow0.out w.heap.size HDR3.out (by rw [HDN.out]; unfold maxLen; omega) (by rw [HDN.out]; omega) HBA.out.size ?_
   intro v2 x2 ho2 hg2
   have HB2 : Hid (Below w.heap.size w x2) := hide (HBA.out.grown hg2 HBA.out.size (fun q hq => by simp [Value.ownBlock] at hq; rw [← hq]; exact HEG.out))
   have HO2 := hide ho2
   refine hK _ _ (fun _ => trivial) ?_
   clear hK K ho2 hg2
   intro K hK
   simp only [Act.put, List.setIfInBounds_toArray, List.set_cons_zero, List.set_cons_succ] at hK ⊢
   refine wp_app_rd x2 (enc := encS) (k := 2) (l := l.take p) (fun _ => rfl) one_encSO (.tmp 25) (.tmp 28) 36 rfl w.heap.size 53 i1 (.agg #[.int .i64 0, .int .i64 0]) 16 Tryz.underlying36 gi gz0 gz1 gz2 rfl (by decide) v2 (0 + (l.drop p).length) ([] ++ (l.drop p).flatMap encS) rfl HO2.out w.heap.size (HTK.out.keep fun b o hb => by
    have h1 := HB2.out.cell (p := ⟨b, o, none⟩) hb
    have h2 := HB.out.cell (p := ⟨b, o, none⟩) hb
    rw [h1, h2]) (by rw [HDN.out, HTN.out]; unfold maxLen; omega) (by rw [HDN.out, HTN.out]; omega) HB2.out.size ?_
   intro v3 x3 ho3 hg3
   have HB3 : Hid (Below w.heap.size w x3) := hide (HB2.out.grown hg3 HB2.out.size (fun q hq => (HO2.out.lt q hq).1))
   have HO3 : Hid (x3.ownsRow w.heap.size 53 2 v3 l.length ((l.drop p ++ l.take p).flatMap encS)) := hide (by
    rw [List.flatMap_append]
    refine own_n (by simpa using ho3) ?_
    have := HDN.out
    have := HTN.out
    have := HPL.out
    omega)
   refine hK _ _ (fun _ => trivial) ?_
   clear hK K ho3 hg3
   intro K hK
   simp only [Act.put, List.setIfInBounds_toArray, List.set_cons_zero, List.set_cons_succ] at hK ⊢
   go_simp
   refine hK _ _ (fun h => absurd rfl h) ?_
   clear hK K
   refine NoPanic.normal ?_
   go_wp2
   go_ret
   exact ⟨_, p, rfl, HF.out.min, HO3.out, HB3.out⟩
end Go.Proofs.YtdfpbhlnlkjjlaaGreat
namespace Go.Proofs.YtdfpbhlnlkjjlaaGreat
open Go.RowKit
set_option linter.unusedVariables false
set_option linter.unusedSimpArgs false
def wyN : Wy → Int
 | .e => 0
 | .n => 1
 | .w => 2
 | .s => 3
def bgnB (S : Cs) (u : Un) : Bool := inC S (lc u) && !inC S (rc u)
theorem bgnB_iff (S : Cs) (u : Un) : bgnB S u = true ↔ bgn S u := by unfold bgnB bgn; simp
theorem rIn13_any {w : World} {v : Value} {l : List R4} {B : Nat} (hr : RdK encR 4 w B v l) (hl : l.length ≤ 100000000) (x y : Int) :
  Calls Tryz.prog 116 #[v, .int .i64 x, .int .i64 y] w fun e w' => e = .returned (.bool (decide (pmem l x y))) ∧ w = w' := by
 have H := hide (rHas_any hr hl x y)
 obtain ⟨A, c, rfl, _⟩ := hr
 go_enter Tryz.func116, Tryz.ntmps116
 go_wp2_with (fail)
 with_reducible refine H.out.mono ?_
 rintro e w2 ⟨rfl, rfl⟩
 go_wp2
 go_ret
 exact ⟨rfl, rfl⟩
set_option maxRecDepth 100000 in
set_option maxHeartbeats 8000000 in
theorem rBegins13_any {w : World} {v : Value} {l : List R4} (hr : RdK encR 4 w w.heap.size v l) (hl : l.length ≤ 100000000) (p : Pt) (d : Wy) (hp : (-1000000000 ≤ p.1 ∧ p.1 ≤ 1000000000) ∧ -1000000000 ≤ p.2 ∧ p.2 ≤ 1000000000) :
  Calls Tryz.prog 80 #[v, .agg #[.int .i64 p.1, .int .i64 p.2], .int .i64 (wyN d)] w fun e w' => e = .returned (.bool (bgnB (setR l) (p, d))) ∧ Below w.heap.size w w' := by
 obtain ⟨px, py⟩ := p
 simp only at hp ⊢
 have x1 : IntKind.i64.wrap (px - 1) = px - 1 := wr63 (by omega) (by omega)
 have y1 : IntKind.i64.wrap (py - 1) = py - 1 := wr63 (by omega) (by omega)
 have HIN := hide (fun (W : World) (hb : Below w.heap.size w W) (x y : Int) => rIn13_any (hr.below hb) hl x y)
 obtain ⟨A, c, rfl, _⟩ := hr
 clear hp
 cases d with
 | e =>
  have HS : Hid (bgnB (setR l) ((px, py), Wy.e) = (decide (pmem l (px) (py)) && !decide (pmem l (px) (py - 1)))) := hide rfl
  rw [HS.out]
  clear HS
  simp only [wyN]
  go_enter Tryz.func80, Tryz.ntmps80
  go_upto_region 1 with fail
  refine wp_name fun w1 hw1 => ?_
  have HB1 : Hid (Below w.heap.size w w1) := hide (by rw [hw1]; exact (Below.refl _ _).alloc (Nat.le_refl _) _)
  have q0 : w1.cell? ⟨w.heap.size, 0, none⟩ = some (.int .i64 px) := by rw [hw1]; simp [go_sem]
  have q1 : w1.cell? ⟨w.heap.size, 1, none⟩ = some (.int .i64 py) := by rw [hw1]; simp [go_sem]
  have hz : w.heap.size < w1.heap.size := by rw [hw1]; simp
  clear hw1
  cases h1 : decide (pmem l (px) (py)) with
  | true =>
   go_wp2_with (fail)
   have HI1 := hide (HIN.out w1 HB1.out (px) (py))
   rw [h1] at HI1
   with_reducible refine HI1.out.mono ?_
   rintro e w2 ⟨rfl, rfl⟩
   have HI2 := hide (HIN.out w1 HB1.out (px) (py - 1))
   go_wp2_with (fail)
   with_reducible refine HI2.out.mono ?_
   rintro e w2 ⟨rfl, rfl⟩
   go_wp2
   go_ret
   exact ⟨ret_eq (bool_eq (by simp [of_decide_eq_true h1])), HB1.out⟩
  | false =>
   go_wp2_with (fail)
   have HI1 := hide (HIN.out w1 HB1.out (px) (py))
   rw [h1] at HI1
   with_reducible refine HI1.out.mono ?_
   rintro e w2 ⟨rfl, rfl⟩
   go_wp2
   go_ret
   exact ⟨ret_eq (bool_eq (by simp [of_decide_eq_false h1])), HB1.out⟩
 | n =>
  have HS : Hid (bgnB (setR l) ((px, py), Wy.n) = (decide (pmem l (px - 1) (py)) && !decide (pmem l (px) (py)))) := hide rfl
  rw [HS.out]
  clear HS
  simp only [wyN]
  go_enter Tryz.func80, Tryz.ntmps80
  go_upto_region 1 with fail
  refine wp_name fun w1 hw1 => ?_
  have HB1 : Hid (Below w.heap.size w w1) := hide (by rw [hw1]; exact (Below.refl _ _).alloc (Nat.le_refl _) _)
  have q0 : w1.cell? ⟨w.heap.size, 0, none⟩ = some (.int .i64 px) := by rw [hw1]; simp [go_sem]
  have q1 : w1.cell? ⟨w.heap.size, 1, none⟩ = some (.int .i64 py) := by rw [hw1]; simp [go_sem]
  have hz : w.heap.size < w1.heap.size := by rw [hw1]; simp
  clear hw1
  cases h1 : decide (pmem l (px - 1) (py)) with
  | true =>
   go_wp2_with (fail)
   have HI1 := hide (HIN.out w1 HB1.out (px - 1) (py))
   rw [h1] at HI1
   with_reducible refine HI1.out.mono ?_
   rintro e w2 ⟨rfl, rfl⟩
   have HI2 := hide (HIN.out w1 HB1.out (px) (py))
   go_wp2_with (fail)
   with_reducible refine HI2.out.mono ?_
   rintro e w2 ⟨rfl, rfl⟩
   go_wp2
   go_ret
   exact ⟨ret_eq (bool_eq (by simp [of_decide_eq_true h1])), HB1.out⟩
  | false =>
   go_wp2_with (fail)
   have HI1 := hide (HIN.out w1 HB1.out (px - 1) (py))
   rw [h1] at HI1
   with_reducible refine HI1.out.mono ?_
   rintro e w2 ⟨rfl, rfl⟩
   go_wp2
   go_ret
   exact ⟨ret_eq (bool_eq (by simp [of_decide_eq_false h1])), HB1.out⟩
 | w =>
  have HS : Hid (bgnB (setR l) ((px, py), Wy.w) = (decide (pmem l (px - 1) (py - 1)) && !decide (pmem l (px - 1) (py)))) := hide rfl
  rw [HS.out]
  clear HS
  simp only [wyN]
  go_enter Tryz.func80, Tryz.ntmps80
  go_upto_region 1 with fail
  refine wp_name fun w1 hw1 => ?_
  have HB1 : Hid (Below w.heap.size w w1) := hide (by rw [hw1]; exact (Below.refl _ _).alloc (Nat.le_refl _) _)
  have q0 : w1.cell? ⟨w.heap.size, 0, none⟩ = some (.int .i64 px) := by rw [hw1]; simp [go_sem]
  have q1 : w1.cell? ⟨w.heap.size, 1, none⟩ = some (.int .i64 py) := by rw [hw1]; simp [go_sem]
  have hz : w.heap.size < w1.heap.size := by rw [hw1]; simp
  clear hw1
  cases h1 : decide (pmem l (px - 1) (py - 1)) with
  | true =>
   go_wp2_with (fail)
   have HI1 := hide (HIN.out w1 HB1.out (px - 1) (py - 1))
   rw [h1] at HI1
   with_reducible refine HI1.out.mono ?_
   rintro e w2 ⟨rfl, rfl⟩
   have HI2 := hide (HIN.out w1 HB1.out (px - 1) (py))
   go_wp2_with (fail)
   with_reducible refine HI2.out.mono ?_
   rintro e w2 ⟨rfl, rfl⟩
   go_wp2
   go_ret
   exact ⟨ret_eq (bool_eq (by simp [of_decide_eq_true h1])), HB1.out⟩
  | false =>
   go_wp2_with (fail)
   have HI1 := hide (HIN.out w1 HB1.out (px - 1) (py - 1))
   rw [h1] at HI1
   with_reducible refine HI1.out.mono ?_
   rintro e w2 ⟨rfl, rfl⟩
   go_wp2
   go_ret
   exact ⟨ret_eq (bool_eq (by simp [of_decide_eq_false h1])), HB1.out⟩
 | s =>
  have HS : Hid (bgnB (setR l) ((px, py), Wy.s) = (decide (pmem l (px) (py - 1)) && !decide (pmem l (px - 1) (py - 1)))) := hide rfl
  rw [HS.out]
  clear HS
  simp only [wyN]
  go_enter Tryz.func80, Tryz.ntmps80
  go_upto_region 1 with fail
  refine wp_name fun w1 hw1 => ?_
  have HB1 : Hid (Below w.heap.size w w1) := hide (by rw [hw1]; exact (Below.refl _ _).alloc (Nat.le_refl _) _)
  have q0 : w1.cell? ⟨w.heap.size, 0, none⟩ = some (.int .i64 px) := by rw [hw1]; simp [go_sem]
  have q1 : w1.cell? ⟨w.heap.size, 1, none⟩ = some (.int .i64 py) := by rw [hw1]; simp [go_sem]
  have hz : w.heap.size < w1.heap.size := by rw [hw1]; simp
  clear hw1
  cases h1 : decide (pmem l (px) (py - 1)) with
  | true =>
   go_wp2_with (fail)
   have HI1 := hide (HIN.out w1 HB1.out (px) (py - 1))
   rw [h1] at HI1
   with_reducible refine HI1.out.mono ?_
   rintro e w2 ⟨rfl, rfl⟩
   have HI2 := hide (HIN.out w1 HB1.out (px - 1) (py - 1))
   go_wp2_with (fail)
   with_reducible refine HI2.out.mono ?_
   rintro e w2 ⟨rfl, rfl⟩
   go_wp2
   go_ret
   exact ⟨ret_eq (bool_eq (by simp [of_decide_eq_true h1])), HB1.out⟩
  | false =>
   go_wp2_with (fail)
   have HI1 := hide (HIN.out w1 HB1.out (px) (py - 1))
   rw [h1] at HI1
   with_reducible refine HI1.out.mono ?_
   rintro e w2 ⟨rfl, rfl⟩
   go_wp2
   go_ret
   exact ⟨ret_eq (bool_eq (by simp [of_decide_eq_false h1])), HB1.out⟩
set_option maxRecDepth 100000 in
set_option maxHeartbeats 8000000 in
theorem rStep13_any (w : World) (p : Pt) (d : Wy) (hp : (-1000000000 ≤ p.1 ∧ p.1 ≤ 1000000000) ∧ -1000000000 ≤ p.2 ∧ p.2 ≤ 1000000000) :
  Calls Tryz.prog 117 #[.agg #[.int .i64 p.1, .int .i64 p.2], .int .i64 (wyN d)] w fun e w' => e = .returned (.agg #[.int .i64 (p.1 + d.v.1), .int .i64 (p.2 + d.v.2)]) ∧ Below w.heap.size w w' := by
 obtain ⟨px, py⟩ := p
 simp only at hp ⊢
 have x1 : IntKind.i64.wrap (px - 1) = px - 1 := wr63 (by omega) (by omega)
 have y1 : IntKind.i64.wrap (py - 1) = py - 1 := wr63 (by omega) (by omega)
 have x2 : IntKind.i64.wrap (px + 1) = px + 1 := wr63 (by omega) (by omega)
 have y2 : IntKind.i64.wrap (py + 1) = py + 1 := wr63 (by omega) (by omega)
 clear hp
 cases d with
 | e =>
  simp only [wyN]
  go_enter Tryz.func117, Tryz.ntmps117
  go_wp2
  refine bodyPost_ret (v := .agg #[.int .i64 (px + (Wy.e).v.1), .int .i64 (py + (Wy.e).v.2)]) (by simp [results, Tryz.results117, go_sem, Wy.v]; try rfl) rfl ⟨rfl, ?_⟩
  repeat (first | with_reducible exact Below.refl _ _ | with_reducible refine Below.drew ?_ | with_reducible refine Below.setCell ?_ (by first | (simp; done) | (simp; omega)) _ | with_reducible refine Below.alloc ?_ (by first | omega | (simp; omega) | simp) _)
 | n =>
  simp only [wyN]
  go_enter Tryz.func117, Tryz.ntmps117
  go_wp2
  refine bodyPost_ret (v := .agg #[.int .i64 (px + (Wy.n).v.1), .int .i64 (py + (Wy.n).v.2)]) (by simp [results, Tryz.results117, go_sem, Wy.v]; try rfl) rfl ⟨rfl, ?_⟩
  repeat (first | with_reducible exact Below.refl _ _ | with_reducible refine Below.drew ?_ | with_reducible refine Below.setCell ?_ (by first | (simp; done) | (simp; omega)) _ | with_reducible refine Below.alloc ?_ (by first | omega | (simp; omega) | simp) _)
 | w =>
  simp only [wyN]
  go_enter Tryz.func117, Tryz.ntmps117
  go_wp2
  refine bodyPost_ret (v := .agg #[.int .i64 (px + (Wy.w).v.1), .int .i64 (py + (Wy.w).v.2)]) (by simp [results, Tryz.results117, go_sem, Wy.v]; try rfl) rfl ⟨rfl, ?_⟩
  repeat (first | with_reducible exact Below.refl _ _ | with_reducible refine Below.drew ?_ | with_reducible refine Below.setCell ?_ (by first | (simp; done) | (simp; omega)) _ | with_reducible refine Below.alloc ?_ (by first | omega | (simp; omega) | simp) _)
 | s =>
  simp only [wyN]
  go_enter Tryz.func117, Tryz.ntmps117
  go_wp2
  refine bodyPost_ret (v := .agg #[.int .i64 (px + (Wy.s).v.1), .int .i64 (py + (Wy.s).v.2)]) (by simp [results, Tryz.results117, go_sem, Wy.v]; try rfl) rfl ⟨rfl, ?_⟩
  repeat (first | with_reducible exact Below.refl _ _ | with_reducible refine Below.drew ?_ | with_reducible refine Below.setCell ?_ (by first | (simp; done) | (simp; omega)) _ | with_reducible refine Below.alloc ?_ (by first | omega | (simp; omega) | simp) _)
end Go.Proofs.YtdfpbhlnlkjjlaaGreat
namespace Go.Proofs.YtdfpbhlnlkjjlaaGreat
set_option linter.unusedVariables false
set_option linter.unusedSimpArgs false
def hullL : List R4 → R4
 | [] => ⟨0, 0, 0, 0⟩
 | r :: l => (r :: l).foldl hullS r
theorem hullS_self (r : R4) : hullS r r = r := by simp [hullS]
theorem hull_from : ∀ (l pre : List R4) (h : R4), IsHull pre h → IsHull (pre ++ l) (l.foldl hullS h)
 | [], pre, h, hh => by simpa using hh
 | r :: l, pre, h, hh => by
  have := hull_from l (pre ++ [r]) (hullS h r) hh.step
  simpa using this
theorem hullL_ok {l : List R4} (h : l ≠ []) : IsHull l (hullL l) := by
 cases l with
 | nil => exact absurd rfl h
 | cons r l =>
  show IsHull _ (l.foldl hullS (hullS r r))
  rw [hullS_self]
  exact hull_from l [r] r (IsHull.one r)
def hullF (l : List R4) : R4 × Int := if checkF l = 0 then (if l = [] then (⟨0, 0, 0, 0⟩, 6) else (hullL l, 0)) else (⟨0, 0, 0, 0⟩, checkF l)
/-- The least and the greatest cut. -/
theorem srt_ends {l : List Int} {a b : Int} (ha : a ∈ l) (hb : b ∈ l) (h : ∀ x ∈ l, a ≤ x ∧ x ≤ b) : (srt l)[0]? = some a ∧ (srt l)[(srt l).length - 1]? = some b ∧ 0 < (srt l).length := by
 obtain ⟨h1, h2⟩ := srt_ok l
 have ha' := (h2 a).2 ha
 have hb' := (h2 b).2 hb
 have hm : ∀ x ∈ srt l, a ≤ x ∧ x ≤ b := fun x hx => h x ((h2 x).1 hx)
 generalize srt l = s at *
 have hl : 0 < s.length := List.length_pos_of_mem ha'
 have key : ∀ i (hi : i < s.length), (i = 0 → s[i] = a) ∧ (i = s.length - 1 → s[i] = b) := by
  intro i hi
  have hmi := hm s[i] (List.getElem_mem hi)
  obtain ⟨j, hj, ej⟩ := List.getElem_of_mem ha'
  obtain ⟨k, hk, ek⟩ := List.getElem_of_mem hb'
  constructor
  ·intro h0
   rcases Nat.lt_trichotomy i j with g | g | g
   ·have := List.pairwise_iff_getElem.1 h1 i j hi hj g; omega
   ·subst g; exact ej
   ·omega
  ·intro h0
   rcases Nat.lt_trichotomy i k with g | g | g
   ·omega
   ·subst g; exact ek
   ·have := List.pairwise_iff_getElem.1 h1 k i hk hi g; omega
 exact ⟨by rw [List.getElem?_eq_getElem hl, (key 0 hl).1 rfl], by rw [List.getElem?_eq_getElem (by omega), (key _ (by omega)).2 rfl], hl⟩
theorem hull_cuts {l : List R4} (hne : l ≠ []) (hw : ∀ r ∈ l, wf4 r) : ((srt (cutsL l ++ cutsL []))[0]? = some (hullL l).x0 ∧ (srt (cutsL l ++ cutsL []))[(srt (cutsL l ++ cutsL [])).length - 1]? = some (hullL l).x1 ∧ 0 < (srt (cutsL l ++ cutsL [])).length) ∧
  ((srt (cutsY l ++ cutsY []))[0]? = some (hullL l).y0 ∧ (srt (cutsY l ++ cutsY []))[(srt (cutsY l ++ cutsY [])).length - 1]? = some (hullL l).y1 ∧ 0 < (srt (cutsY l ++ cutsY [])).length) := by
 obtain ⟨⟨p0, q0, e0⟩, ⟨p1, q1, e1⟩, ⟨p2, q2, e2⟩, ⟨p3, q3, e3⟩, hb⟩ := hullL_ok hne
 have hx : cutsL l ++ cutsL [] = cutsL l := by simp [cutsL]
 have hy : cutsY l ++ cutsY [] = cutsY l := by simp [cutsY]
 rw [hx, hy]
 refine ⟨srt_ends (by rw [← e0]; exact (mem_cutsL q0).1) (by rw [← e2]; exact (mem_cutsL q2).2) fun x hx => ?_, srt_ends (by rw [← e1]; exact (mem_cutsY q1).1) (by rw [← e3]; exact (mem_cutsY q3).2) fun x hx => ?_⟩
 ·obtain ⟨r, hr, hx⟩ := List.mem_flatMap.1 hx
  have h1 := hb r hr
  have h2 := hw r hr
  unfold wf4 at h2
  simp only [List.mem_cons, List.not_mem_nil, or_false] at hx
  rcases hx with rfl | rfl <;> omega
 ·obtain ⟨r, hr, hx⟩ := List.mem_flatMap.1 hx
  have h1 := hb r hr
  have h2 := hw r hr
  unfold wf4 at h2
  simp only [List.mem_cons, List.not_mem_nil, or_false] at hx
  rcases hx with rfl | rfl <;> omega
end Go.Proofs.YtdfpbhlnlkjjlaaGreat
namespace Go.Proofs.YtdfpbhlnlkjjlaaGreat
open Go.RowKit
set_option linter.unusedVariables false
set_option linter.unusedSimpArgs false
def sgC (x : Int) : Int := if 0 < x then 1 else if x < 0 then -1 else 0
def crxF (P Q R : Pt) : Int := (Q.1 - P.1) * (R.2 - Q.2) - (Q.2 - P.2) * (R.1 - Q.1)
def rndS (l : List Pt) (m : Nat) : Int := smN (fun i => sgC (crxF (pAt l i) (qAt l i) (rAt l i))) m
theorem mul_bd2 {a b : Int} (ha : -2000000 ≤ a ∧ a ≤ 2000000) (hb : -2000000 ≤ b ∧ b ≤ 2000000) : -4000000000000 ≤ a * b ∧ a * b ≤ 4000000000000 := by
 have h1 : (a * b).natAbs ≤ 2000000 * 2000000 := by
  rw [Int.natAbs_mul]
  exact Nat.mul_le_mul (by omega) (by omega)
 omega
theorem rndS_bd (l : List Pt) : ∀ m : Nat, -(m : Int) ≤ rndS l m ∧ rndS l m ≤ (m : Int)
 | 0 => by simp [rndS, smN]
 | m + 1 => by
  have ih := rndS_bd l m
  have : -1 ≤ sgC (crxF (pAt l m) (qAt l m) (rAt l m)) ∧ sgC (crxF (pAt l m) (qAt l m) (rAt l m)) ≤ 1 := by
   unfold sgC
   repeat' split
   all_goals omega
  show _ ≤ rndS l m + sgC (crxF (pAt l m) (qAt l m) (rAt l m)) ∧ rndS l m + sgC (crxF (pAt l m) (qAt l m) (rAt l m)) ≤ _
  omega
set_option maxRecDepth 100000 in
set_option maxHeartbeats 16000000 in
theorem rRounds13_any {w : World} {v : Value} {l : List Pt} (hr : RdK encS 2 w w.heap.size v l) (hl : l.length ≤ 100000000) (hc : ∀ i, i < l.length → finC l i) :
    Calls Tryz.prog 45 #[v] w fun e w' => e = .returned (.int .i64 (rndS l l.length)) ∧ Below w.heap.size w w' := by
  have HRD := hide hr
  have HC := hide hc
  obtain ⟨A, c, rfl, _⟩ := hr
  clear hc
  go_enter Tryz.func45, Tryz.ntmps45
  go_wp2
  go_loopw [3, 4] (fun s i wr => ∃ m : Nat, m ≤ l.length ∧ i = .int .i64 (m : Int) ∧ s = .int .i64 (rndS l m) ∧ Hid (Below w.heap.size w wr)) (fun _ i _ => l.length - (intOf i).toNat)
  case atStart => exact ⟨0, Nat.zero_le _, rfl, rfl, hide (Below.refl _ _)⟩
  case round =>
    obtain ⟨m, hm, rfl, rfl, HB⟩ := hrel
    by_cases hlt : m < l.length
    · have mz : (m : Int) < (l.length : Int) := by omega
      have m0 : (0 : Int) ≤ (m : Int) := by omega
      obtain ⟨b, o, rfl, hb, hcell⟩ := rd_two HRD.out (show 0 < l.length by omega)
      obtain ⟨j, hj⟩ : ∃ j, (m + 1) % l.length = j := ⟨_, rfl⟩
      have hjl : j < l.length := by rw [← hj]; exact Nat.mod_lt _ (by omega)
      have hmod : ((m : Int) + 1) % (l.length : Int) = (j : Int) := by rw [← hj]; simp
      have HQ : Hid (qAt l m = pAt l j) := hide (by unfold qAt; rw [hj])
      obtain ⟨k, hk⟩ : ∃ j, (m + 2) % l.length = j := ⟨_, rfl⟩
      have hkl : k < l.length := by rw [← hk]; exact Nat.mod_lt _ (by omega)
      have hmod2 : ((m : Int) + 2) % (l.length : Int) = (k : Int) := by rw [← hk]; simp
      have HR : Hid (rAt l m = pAt l k) := hide (by unfold rAt; rw [hk])
      have d0 := (HB.out.cell (p := ⟨b, _, none⟩) hb).trans (hcell m hlt).1
      have d1 := (HB.out.cell (p := ⟨b, _, none⟩) hb).trans (hcell m hlt).2
      have e0 := (HB.out.cell (p := ⟨b, _, none⟩) hb).trans (hcell j hjl).1
      have e1 := (HB.out.cell (p := ⟨b, _, none⟩) hb).trans (hcell j hjl).2
      have f0 := (HB.out.cell (p := ⟨b, _, none⟩) hb).trans (hcell k hkl).1
      have f1 := (HB.out.cell (p := ⟨b, _, none⟩) hb).trans (hcell k hkl).2
      have hbr : b < wr.heap.size := Nat.lt_of_lt_of_le hb HB.out.size
      have HNX : Hid (rndS l (m + 1) = rndS l m + sgC (crxF (pAt l m) (pAt l j) (pAt l k))) := hide (by rw [← HQ.out, ← HR.out]; rfl)
      have HSB : Hid (-100000000 ≤ rndS l m ∧ rndS l m ≤ 100000000) := hide (by have := rndS_bd l m; omega)
      have HF1 := hide (HC.out m hlt)
      have HF2 := hide (HC.out j hjl)
      have HF3 := hide (HC.out k hkl)
      unfold finC at HF1 HF2 HF3
      have w1' : IntKind.i64.wrap ((m : Int) + 1) = (m : Int) + 1 := IntWalk.i64_in _ (by omega)
      have w2' : IntKind.i64.wrap ((m : Int) + 2) = (m : Int) + 2 := IntWalk.i64_in _ (by omega)
      have jz : (j : Int) < (l.length : Int) := by omega
      have j0 : (0 : Int) ≤ (j : Int) := by omega
      have kz : (k : Int) < (l.length : Int) := by omega
      have k0 : (0 : Int) ≤ (k : Int) := by omega
      have l0 : ¬ (l.length : Int) = 0 := by omega
      have lnil : ¬ l = [] := fun e => by rw [e] at hlt; simp at hlt
      have tm1 : ((m : Int) + 1).tmod (l.length : Int) = (j : Int) := by have h9 := tmod_nat (m + 1) l.length; rw [hj] at h9; exact h9
      have tm2 : ((m : Int) + 2).tmod (l.length : Int) = (k : Int) := by have h9 := tmod_nat (m + 2) l.length; rw [hk] at h9; exact h9
      have HCE := hide (And.intro (And.intro d0 d1) (And.intro (And.intro e0 e1) (And.intro (And.intro f0 f1) hbr)))
      clear hj hk hlt d0 d1 e0 e1 f0 f1 hbr HQ HR hcell
      go_upto_region 5 with fail
      generalize pAt l m = P9 at *
      generalize pAt l j = Q9 at *
      generalize pAt l k = R9 at *
      generalize rndS l m = SM at *
      have HBK : Hid (Below wr.heap.size wr wr.drew) := hide (Below.refl _ _).drew
      refine wp_region_ordN [0, 1, 2, 3, 4, 5, 6, 7, 8, 9, 10, 11, 12, 13, 14, 15, 16, 17, 18, 19] 6 (.cons 20 (.cons 21 (.cons 22 (.cons 23 (.cons 24 (.cons 25 .nil .nil) .nil) .nil) .nil) (.cons 22 (.cons 21 (.cons 23 (.cons 24 (.cons 25 .nil .nil) .nil) .nil) .nil) .nil)) (.cons 21 (.cons 20 (.cons 22 (.cons 23 (.cons 24 (.cons 25 .nil .nil) .nil) .nil) .nil) (.cons 22 (.cons 20 (.cons 23 (.cons 24 (.cons 25 .nil .nil) .nil) .nil) .nil) .nil)) (.cons 22 (.cons 20 (.cons 21 (.cons 23 (.cons 24 (.cons 25 .nil .nil) .nil) .nil) .nil) (.cons 21 (.cons 20 (.cons 23 (.cons 24 (.cons 25 .nil .nil) .nil) .nil) .nil) .nil)) .nil))) (fun w' => Below wr.heap.size wr w') (by kernel_rfl) (by kernel_rfl) HBK.out ?_
      simp only [List.map_cons, List.map_nil, opAt, List.getElem?_cons_succ, List.getElem?_cons_zero, Option.getD_some]
      generalize wr.drew = wk at *
      iterate 20
        refine ⟨?_, Or.inl ⟨by rfl, ?_⟩, ?_⟩
        rotate_left 1
        · intro w' hSw
          obtain ⟨⟨d0, d1⟩, ⟨e0, e1⟩, ⟨f0, f1⟩, hbr⟩ := HCE.out
          replace d0 := (hSw.cell (p := ⟨b, _, none⟩) hbr).trans d0
          replace d1 := (hSw.cell (p := ⟨b, _, none⟩) hbr).trans d1
          replace e0 := (hSw.cell (p := ⟨b, _, none⟩) hbr).trans e0
          replace e1 := (hSw.cell (p := ⟨b, _, none⟩) hbr).trans e1
          replace f0 := (hSw.cell (p := ⟨b, _, none⟩) hbr).trans f0
          replace f1 := (hSw.cell (p := ⟨b, _, none⟩) hbr).trans f1
          replace hbr := Nat.lt_of_lt_of_le hbr hSw.size
          clear hSw
          go_simp
          first | done | with_reducible rfl
        simp only [Act.put, List.setIfInBounds_toArray, List.set_cons_zero, List.set_cons_succ]
      simp only [wpReads, wpOrdN, wpOne, opAt, List.getElem?_cons_succ, List.getElem?_cons_zero, Option.getD_some]
      repeat' (first
        | with_reducible exact trivial
        | with_reducible refine ⟨?_, ?_⟩
        | with_reducible refine NoPanic.normal ?_
        | (with_reducible intro K0 hK
           simp only [Act.put, List.setIfInBounds_toArray, List.set_cons_zero, List.set_cons_succ] at hK ⊢
           go_simp
           refine hK _ _ ⟨fun _ => (by repeat (first | with_reducible exact HBK.out | with_reducible refine Below.setCell ?_ (by first | exact HBK.out.size | (simp; done) | (have := HBK.out.size; simp; omega)) _ | with_reducible refine Below.alloc ?_ (by first | exact HBK.out.size | omega | (simp; done) | (have := HBK.out.size; simp; omega)) _)), ?_⟩
           clear hK K0)
        | fail)
      · refine name_exit fun w3 hw3 => ?_
        have HB32 : Hid (Below wr.heap.size wr w3) := hide (by rw [hw3]; exact (by repeat (first | with_reducible exact HBK.out | with_reducible refine Below.setCell ?_ (by first | exact HBK.out.size | (simp; done) | (have := HBK.out.size; simp; omega)) _ | with_reducible refine Below.alloc ?_ (by first | exact HBK.out.size | omega | (simp; done) | (have := HBK.out.size; simp; omega)) _)))
        have HP9 : Hid (Bx2 w3 (wk.heap.size) P9.1 P9.2) := hide ⟨by first | (rw [hw3]; simp; done) | (rw [hw3]; simp; omega), by rw [hw3]; simp [go_sem], by rw [hw3]; simp [go_sem]⟩
        have HQ9 : Hid (Bx2 w3 (wk.heap.size + 1) Q9.1 Q9.2) := hide ⟨by first | (rw [hw3]; simp; done) | (rw [hw3]; simp; omega), by rw [hw3]; simp [go_sem], by rw [hw3]; simp [go_sem]⟩
        have HR9 : Hid (Bx2 w3 (wk.heap.size + 1 + 1) R9.1 R9.2) := hide ⟨by first | (rw [hw3]; simp; done) | (rw [hw3]; simp; omega), by rw [hw3]; simp [go_sem], by rw [hw3]; simp [go_sem]⟩
        have HB3 := hide (HB.out.trans (HB32.out.mono HB.out.size))
        obtain ⟨gr, hgr⟩ : ∃ g, wk.heap.size + 1 + 1 = g := ⟨_, rfl⟩
        simp only [hgr] at HR9 ⊢
        obtain ⟨gq, hgq⟩ : ∃ g, wk.heap.size + 1 = g := ⟨_, rfl⟩
        simp only [hgq] at HQ9 ⊢
        obtain ⟨gp, hgp⟩ : ∃ g, wk.heap.size = g := ⟨_, rfl⟩
        simp only [hgp] at HP9 ⊢
        clear hw3 hgp hgq hgr HB32 HBK HB
        obtain ⟨hp0, hp1, hp2⟩ := HP9.out
        obtain ⟨hq0, hq1, hq2⟩ := HQ9.out
        obtain ⟨hr0, hr1, hr2⟩ := HR9.out
        have hf1 := HF1.out
        have hf2 := HF2.out
        have hf3 := HF3.out
        have m1 := mul_bd2 (show -2000000 ≤ Q9.1 - P9.1 ∧ Q9.1 - P9.1 ≤ 2000000 by omega) (show -2000000 ≤ R9.2 - Q9.2 ∧ R9.2 - Q9.2 ≤ 2000000 by omega)
        have m2 := mul_bd2 (show -2000000 ≤ Q9.2 - P9.2 ∧ Q9.2 - P9.2 ≤ 2000000 by omega) (show -2000000 ≤ R9.1 - Q9.1 ∧ R9.1 - Q9.1 ≤ 2000000 by omega)
        have k1 : IntKind.i64.wrap (Q9.1 - P9.1) = Q9.1 - P9.1 := wr63 (by omega) (by omega)
        have k2 : IntKind.i64.wrap (R9.2 - Q9.2) = R9.2 - Q9.2 := wr63 (by omega) (by omega)
        have k3 : IntKind.i64.wrap (Q9.2 - P9.2) = Q9.2 - P9.2 := wr63 (by omega) (by omega)
        have k4 : IntKind.i64.wrap (R9.1 - Q9.1) = R9.1 - Q9.1 := wr63 (by omega) (by omega)
        have k5 : IntKind.i64.wrap ((Q9.1 - P9.1) * (R9.2 - Q9.2)) = (Q9.1 - P9.1) * (R9.2 - Q9.2) := wr63 (by omega) (by omega)
        have k6 : IntKind.i64.wrap ((Q9.2 - P9.2) * (R9.1 - Q9.1)) = (Q9.2 - P9.2) * (R9.1 - Q9.1) := wr63 (by omega) (by omega)
        have k7 : IntKind.i64.wrap ((Q9.1 - P9.1) * (R9.2 - Q9.2) - (Q9.2 - P9.2) * (R9.1 - Q9.1)) = (Q9.1 - P9.1) * (R9.2 - Q9.2) - (Q9.2 - P9.2) * (R9.1 - Q9.1) := wr63 (by omega) (by omega)
        clear hf1 hf2 hf3 m1 m2
        go_upto_region 7 with fail
        obtain ⟨X, hX⟩ : ∃ X, crxF P9 Q9 R9 = X := ⟨_, rfl⟩
        have hX2 : (Q9.1 - P9.1) * (R9.2 - Q9.2) - (Q9.2 - P9.2) * (R9.1 - Q9.1) = X := hX
        simp only [hX2]
        rw [hX] at HNX
        have hsm := HSB.out
        clear hX hX2 k1 k2 k3 k4 k5 k6 k7 hp0 hp1 hp2 hq0 hq1 hq2 hr0 hr1 hr2 HF1 HF2 HF3 HP9 HQ9 HR9
        have s1 : IntKind.i64.wrap (SM + 1) = SM + 1 := wr63 (by omega) (by omega)
        have s2 : IntKind.i64.wrap (SM - 1) = SM - 1 := wr63 (by omega) (by omega)
        clear hsm
        by_cases c1 : 0 < X
        · have z1 : decide (0 < X) = true := decide_eq_true c1
          have z2 : decide (X < 0) = false := decide_eq_false (by omega)
          have HNE3 : Hid (rndS l (m + 1) = SM + 1) := hide (by rw [HNX.out]; unfold sgC; rw [if_pos c1])
          clear c1
          go_wp2
          go_roundw
          case rel => exact ⟨m + 1, by omega, by go_num, by rw [HNE3.out], HB3⟩
          case measure => simp [intOf]; omega
        · have z1 : decide (0 < X) = false := decide_eq_false c1
          by_cases c2 : X < 0
          · have z2 : decide (X < 0) = true := decide_eq_true c2
            have HNE3 : Hid (rndS l (m + 1) = SM - 1) := hide (by rw [HNX.out]; unfold sgC; rw [if_neg c1, if_pos c2]; omega)
            clear c1 c2
            go_wp2
            go_roundw
            case rel => exact ⟨m + 1, by omega, by go_num, by rw [HNE3.out], HB3⟩
            case measure => simp [intOf]; omega
          · have z2 : decide (X < 0) = false := decide_eq_false c2
            have HNE3 : Hid (rndS l (m + 1) = SM) := hide (by rw [HNX.out]; unfold sgC; rw [if_neg c1, if_neg c2]; omega)
            clear c1 c2
            go_wp2
            go_roundw
            case rel => exact ⟨m + 1, by omega, by go_num, by rw [HNE3.out], HB3⟩
            case measure => simp [intOf]; omega
      · refine name_exit fun w3 hw3 => ?_
        have HB32 : Hid (Below wr.heap.size wr w3) := hide (by rw [hw3]; exact (by repeat (first | with_reducible exact HBK.out | with_reducible refine Below.setCell ?_ (by first | exact HBK.out.size | (simp; done) | (have := HBK.out.size; simp; omega)) _ | with_reducible refine Below.alloc ?_ (by first | exact HBK.out.size | omega | (simp; done) | (have := HBK.out.size; simp; omega)) _)))
        have HP9 : Hid (Bx2 w3 (wk.heap.size) P9.1 P9.2) := hide ⟨by first | (rw [hw3]; simp; done) | (rw [hw3]; simp; omega), by rw [hw3]; simp [go_sem], by rw [hw3]; simp [go_sem]⟩
        have HQ9 : Hid (Bx2 w3 (wk.heap.size + 1 + 1) Q9.1 Q9.2) := hide ⟨by first | (rw [hw3]; simp; done) | (rw [hw3]; simp; omega), by rw [hw3]; simp [go_sem], by rw [hw3]; simp [go_sem]⟩
        have HR9 : Hid (Bx2 w3 (wk.heap.size + 1) R9.1 R9.2) := hide ⟨by first | (rw [hw3]; simp; done) | (rw [hw3]; simp; omega), by rw [hw3]; simp [go_sem], by rw [hw3]; simp [go_sem]⟩
        have HB3 := hide (HB.out.trans (HB32.out.mono HB.out.size))
        obtain ⟨gq, hgq⟩ : ∃ g, wk.heap.size + 1 + 1 = g := ⟨_, rfl⟩
        simp only [hgq] at HQ9 ⊢
        obtain ⟨gr, hgr⟩ : ∃ g, wk.heap.size + 1 = g := ⟨_, rfl⟩
        simp only [hgr] at HR9 ⊢
        obtain ⟨gp, hgp⟩ : ∃ g, wk.heap.size = g := ⟨_, rfl⟩
        simp only [hgp] at HP9 ⊢
        clear hw3 hgp hgq hgr HB32 HBK HB
        obtain ⟨hp0, hp1, hp2⟩ := HP9.out
        obtain ⟨hq0, hq1, hq2⟩ := HQ9.out
        obtain ⟨hr0, hr1, hr2⟩ := HR9.out
        have hf1 := HF1.out
        have hf2 := HF2.out
        have hf3 := HF3.out
        have m1 := mul_bd2 (show -2000000 ≤ Q9.1 - P9.1 ∧ Q9.1 - P9.1 ≤ 2000000 by omega) (show -2000000 ≤ R9.2 - Q9.2 ∧ R9.2 - Q9.2 ≤ 2000000 by omega)
        have m2 := mul_bd2 (show -2000000 ≤ Q9.2 - P9.2 ∧ Q9.2 - P9.2 ≤ 2000000 by omega) (show -2000000 ≤ R9.1 - Q9.1 ∧ R9.1 - Q9.1 ≤ 2000000 by omega)
        have k1 : IntKind.i64.wrap (Q9.1 - P9.1) = Q9.1 - P9.1 := wr63 (by omega) (by omega)
        have k2 : IntKind.i64.wrap (R9.2 - Q9.2) = R9.2 - Q9.2 := wr63 (by omega) (by omega)
        have k3 : IntKind.i64.wrap (Q9.2 - P9.2) = Q9.2 - P9.2 := wr63 (by omega) (by omega)
        have k4 : IntKind.i64.wrap (R9.1 - Q9.1) = R9.1 - Q9.1 := wr63 (by omega) (by omega)
        have k5 : IntKind.i64.wrap ((Q9.1 - P9.1) * (R9.2 - Q9.2)) = (Q9.1 - P9.1) * (R9.2 - Q9.2) := wr63 (by omega) (by omega)
        have k6 : IntKind.i64.wrap ((Q9.2 - P9.2) * (R9.1 - Q9.1)) = (Q9.2 - P9.2) * (R9.1 - Q9.1) := wr63 (by omega) (by omega)
        have k7 : IntKind.i64.wrap ((Q9.1 - P9.1) * (R9.2 - Q9.2) - (Q9.2 - P9.2) * (R9.1 - Q9.1)) = (Q9.1 - P9.1) * (R9.2 - Q9.2) - (Q9.2 - P9.2) * (R9.1 - Q9.1) := wr63 (by omega) (by omega)
        clear hf1 hf2 hf3 m1 m2
        go_upto_region 7 with fail
        obtain ⟨X, hX⟩ : ∃ X, crxF P9 Q9 R9 = X := ⟨_, rfl⟩
        have hX2 : (Q9.1 - P9.1) * (R9.2 - Q9.2) - (Q9.2 - P9.2) * (R9.1 - Q9.1) = X := hX
        simp only [hX2]
        rw [hX] at HNX
        have hsm := HSB.out
        clear hX hX2 k1 k2 k3 k4 k5 k6 k7 hp0 hp1 hp2 hq0 hq1 hq2 hr0 hr1 hr2 HF1 HF2 HF3 HP9 HQ9 HR9
        have s1 : IntKind.i64.wrap (SM + 1) = SM + 1 := wr63 (by omega) (by omega)
        have s2 : IntKind.i64.wrap (SM - 1) = SM - 1 := wr63 (by omega) (by omega)
        clear hsm
        by_cases c1 : 0 < X
        · have z1 : decide (0 < X) = true := decide_eq_true c1
          have z2 : decide (X < 0) = false := decide_eq_false (by omega)
          have HNE3 : Hid (rndS l (m + 1) = SM + 1) := hide (by rw [HNX.out]; unfold sgC; rw [if_pos c1])
          clear c1
          go_wp2
          go_roundw
          case rel => exact ⟨m + 1, by omega, by go_num, by rw [HNE3.out], HB3⟩
          case measure => simp [intOf]; omega
        · have z1 : decide (0 < X) = false := decide_eq_false c1
          by_cases c2 : X < 0
          · have z2 : decide (X < 0) = true := decide_eq_true c2
            have HNE3 : Hid (rndS l (m + 1) = SM - 1) := hide (by rw [HNX.out]; unfold sgC; rw [if_neg c1, if_pos c2]; omega)
            clear c1 c2
            go_wp2
            go_roundw
            case rel => exact ⟨m + 1, by omega, by go_num, by rw [HNE3.out], HB3⟩
            case measure => simp [intOf]; omega
          · have z2 : decide (X < 0) = false := decide_eq_false c2
            have HNE3 : Hid (rndS l (m + 1) = SM) := hide (by rw [HNX.out]; unfold sgC; rw [if_neg c1, if_neg c2]; omega)
            clear c1 c2
            go_wp2
            go_roundw
            case rel => exact ⟨m + 1, by omega, by go_num, by rw [HNE3.out], HB3⟩
            case measure => simp [intOf]; omega
      · refine name_exit fun w3 hw3 => ?_
        have HB32 : Hid (Below wr.heap.size wr w3) := hide (by rw [hw3]; exact (by repeat (first | with_reducible exact HBK.out | with_reducible refine Below.setCell ?_ (by first | exact HBK.out.size | (simp; done) | (have := HBK.out.size; simp; omega)) _ | with_reducible refine Below.alloc ?_ (by first | exact HBK.out.size | omega | (simp; done) | (have := HBK.out.size; simp; omega)) _)))
        have HP9 : Hid (Bx2 w3 (wk.heap.size + 1) P9.1 P9.2) := hide ⟨by first | (rw [hw3]; simp; done) | (rw [hw3]; simp; omega), by rw [hw3]; simp [go_sem], by rw [hw3]; simp [go_sem]⟩
        have HQ9 : Hid (Bx2 w3 (wk.heap.size) Q9.1 Q9.2) := hide ⟨by first | (rw [hw3]; simp; done) | (rw [hw3]; simp; omega), by rw [hw3]; simp [go_sem], by rw [hw3]; simp [go_sem]⟩
        have HR9 : Hid (Bx2 w3 (wk.heap.size + 1 + 1) R9.1 R9.2) := hide ⟨by first | (rw [hw3]; simp; done) | (rw [hw3]; simp; omega), by rw [hw3]; simp [go_sem], by rw [hw3]; simp [go_sem]⟩
        have HB3 := hide (HB.out.trans (HB32.out.mono HB.out.size))
        obtain ⟨gr, hgr⟩ : ∃ g, wk.heap.size + 1 + 1 = g := ⟨_, rfl⟩
        simp only [hgr] at HR9 ⊢
        obtain ⟨gp, hgp⟩ : ∃ g, wk.heap.size + 1 = g := ⟨_, rfl⟩
        simp only [hgp] at HP9 ⊢
        obtain ⟨gq, hgq⟩ : ∃ g, wk.heap.size = g := ⟨_, rfl⟩
        simp only [hgq] at HQ9 ⊢
        clear hw3 hgp hgq hgr HB32 HBK HB
        obtain ⟨hp0, hp1, hp2⟩ := HP9.out
        obtain ⟨hq0, hq1, hq2⟩ := HQ9.out
        obtain ⟨hr0, hr1, hr2⟩ := HR9.out
        have hf1 := HF1.out
        have hf2 := HF2.out
        have hf3 := HF3.out
        have m1 := mul_bd2 (show -2000000 ≤ Q9.1 - P9.1 ∧ Q9.1 - P9.1 ≤ 2000000 by omega) (show -2000000 ≤ R9.2 - Q9.2 ∧ R9.2 - Q9.2 ≤ 2000000 by omega)
        have m2 := mul_bd2 (show -2000000 ≤ Q9.2 - P9.2 ∧ Q9.2 - P9.2 ≤ 2000000 by omega) (show -2000000 ≤ R9.1 - Q9.1 ∧ R9.1 - Q9.1 ≤ 2000000 by omega)
        have k1 : IntKind.i64.wrap (Q9.1 - P9.1) = Q9.1 - P9.1 := wr63 (by omega) (by omega)
        have k2 : IntKind.i64.wrap (R9.2 - Q9.2) = R9.2 - Q9.2 := wr63 (by omega) (by omega)
        have k3 : IntKind.i64.wrap (Q9.2 - P9.2) = Q9.2 - P9.2 := wr63 (by omega) (by omega)
        have k4 : IntKind.i64.wrap (R9.1 - Q9.1) = R9.1 - Q9.1 := wr63 (by omega) (by omega)
        have k5 : IntKind.i64.wrap ((Q9.1 - P9.1) * (R9.2 - Q9.2)) = (Q9.1 - P9.1) * (R9.2 - Q9.2) := wr63 (by omega) (by omega)
        have k6 : IntKind.i64.wrap ((Q9.2 - P9.2) * (R9.1 - Q9.1)) = (Q9.2 - P9.2) * (R9.1 - Q9.1) := wr63 (by omega) (by omega)
        have k7 : IntKind.i64.wrap ((Q9.1 - P9.1) * (R9.2 - Q9.2) - (Q9.2 - P9.2) * (R9.1 - Q9.1)) = (Q9.1 - P9.1) * (R9.2 - Q9.2) - (Q9.2 - P9.2) * (R9.1 - Q9.1) := wr63 (by omega) (by omega)
        clear hf1 hf2 hf3 m1 m2
        go_upto_region 7 with fail
        obtain ⟨X, hX⟩ : ∃ X, crxF P9 Q9 R9 = X := ⟨_, rfl⟩
        have hX2 : (Q9.1 - P9.1) * (R9.2 - Q9.2) - (Q9.2 - P9.2) * (R9.1 - Q9.1) = X := hX
        simp only [hX2]
        rw [hX] at HNX
        have hsm := HSB.out
        clear hX hX2 k1 k2 k3 k4 k5 k6 k7 hp0 hp1 hp2 hq0 hq1 hq2 hr0 hr1 hr2 HF1 HF2 HF3 HP9 HQ9 HR9
        have s1 : IntKind.i64.wrap (SM + 1) = SM + 1 := wr63 (by omega) (by omega)
        have s2 : IntKind.i64.wrap (SM - 1) = SM - 1 := wr63 (by omega) (by omega)
        clear hsm
        by_cases c1 : 0 < X
        · have z1 : decide (0 < X) = true := decide_eq_true c1
          have z2 : decide (X < 0) = false := decide_eq_false (by omega)
          have HNE3 : Hid (rndS l (m + 1) = SM + 1) := hide (by rw [HNX.out]; unfold sgC; rw [if_pos c1])
          clear c1
          go_wp2
          go_roundw
          case rel => exact ⟨m + 1, by omega, by go_num, by rw [HNE3.out], HB3⟩
          case measure => simp [intOf]; omega
        · have z1 : decide (0 < X) = false := decide_eq_false c1
          by_cases c2 : X < 0
          · have z2 : decide (X < 0) = true := decide_eq_true c2
            have HNE3 : Hid (rndS l (m + 1) = SM - 1) := hide (by rw [HNX.out]; unfold sgC; rw [if_neg c1, if_pos c2]; omega)
            clear c1 c2
            go_wp2
            go_roundw
            case rel => exact ⟨m + 1, by omega, by go_num, by rw [HNE3.out], HB3⟩
            case measure => simp [intOf]; omega
          · have z2 : decide (X < 0) = false := decide_eq_false c2
            have HNE3 : Hid (rndS l (m + 1) = SM) := hide (by rw [HNX.out]; unfold sgC; rw [if_neg c1, if_neg c2]; omega)
            clear c1 c2
            go_wp2
            go_roundw
            case rel => exact ⟨m + 1, by omega, by go_num, by rw [HNE3.out], HB3⟩
            case measure => simp [intOf]; omega
      · refine name_exit fun w3 hw3 => ?_
        have HB32 : Hid (Below wr.heap.size wr w3) := hide (by rw [hw3]; exact (by repeat (first | with_reducible exact HBK.out | with_reducible refine Below.setCell ?_ (by first | exact HBK.out.size | (simp; done) | (have := HBK.out.size; simp; omega)) _ | with_reducible refine Below.alloc ?_ (by first | exact HBK.out.size | omega | (simp; done) | (have := HBK.out.size; simp; omega)) _)))
        have HP9 : Hid (Bx2 w3 (wk.heap.size + 1 + 1) P9.1 P9.2) := hide ⟨by first | (rw [hw3]; simp; done) | (rw [hw3]; simp; omega), by rw [hw3]; simp [go_sem], by rw [hw3]; simp [go_sem]⟩
        have HQ9 : Hid (Bx2 w3 (wk.heap.size) Q9.1 Q9.2) := hide ⟨by first | (rw [hw3]; simp; done) | (rw [hw3]; simp; omega), by rw [hw3]; simp [go_sem], by rw [hw3]; simp [go_sem]⟩
        have HR9 : Hid (Bx2 w3 (wk.heap.size + 1) R9.1 R9.2) := hide ⟨by first | (rw [hw3]; simp; done) | (rw [hw3]; simp; omega), by rw [hw3]; simp [go_sem], by rw [hw3]; simp [go_sem]⟩
        have HB3 := hide (HB.out.trans (HB32.out.mono HB.out.size))
        obtain ⟨gp, hgp⟩ : ∃ g, wk.heap.size + 1 + 1 = g := ⟨_, rfl⟩
        simp only [hgp] at HP9 ⊢
        obtain ⟨gr, hgr⟩ : ∃ g, wk.heap.size + 1 = g := ⟨_, rfl⟩
        simp only [hgr] at HR9 ⊢
        obtain ⟨gq, hgq⟩ : ∃ g, wk.heap.size = g := ⟨_, rfl⟩
        simp only [hgq] at HQ9 ⊢
        clear hw3 hgp hgq hgr HB32 HBK HB
        obtain ⟨hp0, hp1, hp2⟩ := HP9.out
        obtain ⟨hq0, hq1, hq2⟩ := HQ9.out
        obtain ⟨hr0, hr1, hr2⟩ := HR9.out
        have hf1 := HF1.out
        have hf2 := HF2.out
        have hf3 := HF3.out
        have m1 := mul_bd2 (show -2000000 ≤ Q9.1 - P9.1 ∧ Q9.1 - P9.1 ≤ 2000000 by omega) (show -2000000 ≤ R9.2 - Q9.2 ∧ R9.2 - Q9.2 ≤ 2000000 by omega)
        have m2 := mul_bd2 (show -2000000 ≤ Q9.2 - P9.2 ∧ Q9.2 - P9.2 ≤ 2000000 by omega) (show -2000000 ≤ R9.1 - Q9.1 ∧ R9.1 - Q9.1 ≤ 2000000 by omega)
        have k1 : IntKind.i64.wrap (Q9.1 - P9.1) = Q9.1 - P9.1 := wr63 (by omega) (by omega)
        have k2 : IntKind.i64.wrap (R9.2 - Q9.2) = R9.2 - Q9.2 := wr63 (by omega) (by omega)
        have k3 : IntKind.i64.wrap (Q9.2 - P9.2) = Q9.2 - P9.2 := wr63 (by omega) (by omega)
        have k4 : IntKind.i64.wrap (R9.1 - Q9.1) = R9.1 - Q9.1 := wr63 (by omega) (by omega)
        have k5 : IntKind.i64.wrap ((Q9.1 - P9.1) * (R9.2 - Q9.2)) = (Q9.1 - P9.1) * (R9.2 - Q9.2) := wr63 (by omega) (by omega)
        have k6 : IntKind.i64.wrap ((Q9.2 - P9.2) * (R9.1 - Q9.1)) = (Q9.2 - P9.2) * (R9.1 - Q9.1) := wr63 (by omega) (by omega)
        have k7 : IntKind.i64.wrap ((Q9.1 - P9.1) * (R9.2 - Q9.2) - (Q9.2 - P9.2) * (R9.1 - Q9.1)) = (Q9.1 - P9.1) * (R9.2 - Q9.2) - (Q9.2 - P9.2) * (R9.1 - Q9.1) := wr63 (by omega) (by omega)
        clear hf1 hf2 hf3 m1 m2
        go_upto_region 7 with fail
        obtain ⟨X, hX⟩ : ∃ X, crxF P9 Q9 R9 = X := ⟨_, rfl⟩
        have hX2 : (Q9.1 - P9.1) * (R9.2 - Q9.2) - (Q9.2 - P9.2) * (R9.1 - Q9.1) = X := hX
        simp only [hX2]
        rw [hX] at HNX
        have hsm := HSB.out
        clear hX hX2 k1 k2 k3 k4 k5 k6 k7 hp0 hp1 hp2 hq0 hq1 hq2 hr0 hr1 hr2 HF1 HF2 HF3 HP9 HQ9 HR9
        have s1 : IntKind.i64.wrap (SM + 1) = SM + 1 := wr63 (by omega) (by omega)
        have s2 : IntKind.i64.wrap (SM - 1) = SM - 1 := wr63 (by omega) (by omega)
        clear hsm
        by_cases c1 : 0 < X
        · have z1 : decide (0 < X) = true := decide_eq_true c1
          have z2 : decide (X < 0) = false := decide_eq_false (by omega)
          have HNE3 : Hid (rndS l (m + 1) = SM + 1) := hide (by rw [HNX.out]; unfold sgC; rw [if_pos c1])
          clear c1
          go_wp2
          go_roundw
          case rel => exact ⟨m + 1, by omega, by go_num, by rw [HNE3.out], HB3⟩
          case measure => simp [intOf]; omega
        · have z1 : decide (0 < X) = false := decide_eq_false c1
          by_cases c2 : X < 0
          · have z2 : decide (X < 0) = true := decide_eq_true c2
            have HNE3 : Hid (rndS l (m + 1) = SM - 1) := hide (by rw [HNX.out]; unfold sgC; rw [if_neg c1, if_pos c2]; omega)
            clear c1 c2
            go_wp2
            go_roundw
            case rel => exact ⟨m + 1, by omega, by go_num, by rw [HNE3.out], HB3⟩
            case measure => simp [intOf]; omega
          · have z2 : decide (X < 0) = false := decide_eq_false c2
            have HNE3 : Hid (rndS l (m + 1) = SM) := hide (by rw [HNX.out]; unfold sgC; rw [if_neg c1, if_neg c2]; omega)
            clear c1 c2
            go_wp2
            go_roundw
            case rel => exact ⟨m + 1, by omega, by go_num, by rw [HNE3.out], HB3⟩
            case measure => simp [intOf]; omega
      · refine name_exit fun w3 hw3 => ?_
        have HB32 : Hid (Below wr.heap.size wr w3) := hide (by rw [hw3]; exact (by repeat (first | with_reducible exact HBK.out | with_reducible refine Below.setCell ?_ (by first | exact HBK.out.size | (simp; done) | (have := HBK.out.size; simp; omega)) _ | with_reducible refine Below.alloc ?_ (by first | exact HBK.out.size | omega | (simp; done) | (have := HBK.out.size; simp; omega)) _)))
        have HP9 : Hid (Bx2 w3 (wk.heap.size + 1) P9.1 P9.2) := hide ⟨by first | (rw [hw3]; simp; done) | (rw [hw3]; simp; omega), by rw [hw3]; simp [go_sem], by rw [hw3]; simp [go_sem]⟩
        have HQ9 : Hid (Bx2 w3 (wk.heap.size + 1 + 1) Q9.1 Q9.2) := hide ⟨by first | (rw [hw3]; simp; done) | (rw [hw3]; simp; omega), by rw [hw3]; simp [go_sem], by rw [hw3]; simp [go_sem]⟩
        have HR9 : Hid (Bx2 w3 (wk.heap.size) R9.1 R9.2) := hide ⟨by first | (rw [hw3]; simp; done) | (rw [hw3]; simp; omega), by rw [hw3]; simp [go_sem], by rw [hw3]; simp [go_sem]⟩
        have HB3 := hide (HB.out.trans (HB32.out.mono HB.out.size))
        obtain ⟨gq, hgq⟩ : ∃ g, wk.heap.size + 1 + 1 = g := ⟨_, rfl⟩
        simp only [hgq] at HQ9 ⊢
        obtain ⟨gp, hgp⟩ : ∃ g, wk.heap.size + 1 = g := ⟨_, rfl⟩
        simp only [hgp] at HP9 ⊢
        obtain ⟨gr, hgr⟩ : ∃ g, wk.heap.size = g := ⟨_, rfl⟩
        simp only [hgr] at HR9 ⊢
        clear hw3 hgp hgq hgr HB32 HBK HB
        obtain ⟨hp0, hp1, hp2⟩ := HP9.out
        obtain ⟨hq0, hq1, hq2⟩ := HQ9.out
        obtain ⟨hr0, hr1, hr2⟩ := HR9.out
        have hf1 := HF1.out
        have hf2 := HF2.out
        have hf3 := HF3.out
        have m1 := mul_bd2 (show -2000000 ≤ Q9.1 - P9.1 ∧ Q9.1 - P9.1 ≤ 2000000 by omega) (show -2000000 ≤ R9.2 - Q9.2 ∧ R9.2 - Q9.2 ≤ 2000000 by omega)
        have m2 := mul_bd2 (show -2000000 ≤ Q9.2 - P9.2 ∧ Q9.2 - P9.2 ≤ 2000000 by omega) (show -2000000 ≤ R9.1 - Q9.1 ∧ R9.1 - Q9.1 ≤ 2000000 by omega)
        have k1 : IntKind.i64.wrap (Q9.1 - P9.1) = Q9.1 - P9.1 := wr63 (by omega) (by omega)
        have k2 : IntKind.i64.wrap (R9.2 - Q9.2) = R9.2 - Q9.2 := wr63 (by omega) (by omega)
        have k3 : IntKind.i64.wrap (Q9.2 - P9.2) = Q9.2 - P9.2 := wr63 (by omega) (by omega)
        have k4 : IntKind.i64.wrap (R9.1 - Q9.1) = R9.1 - Q9.1 := wr63 (by omega) (by omega)
        have k5 : IntKind.i64.wrap ((Q9.1 - P9.1) * (R9.2 - Q9.2)) = (Q9.1 - P9.1) * (R9.2 - Q9.2) := wr63 (by omega) (by omega)
        have k6 : IntKind.i64.wrap ((Q9.2 - P9.2) * (R9.1 - Q9.1)) = (Q9.2 - P9.2) * (R9.1 - Q9.1) := wr63 (by omega) (by omega)
        have k7 : IntKind.i64.wrap ((Q9.1 - P9.1) * (R9.2 - Q9.2) - (Q9.2 - P9.2) * (R9.1 - Q9.1)) = (Q9.1 - P9.1) * (R9.2 - Q9.2) - (Q9.2 - P9.2) * (R9.1 - Q9.1) := wr63 (by omega) (by omega)
        clear hf1 hf2 hf3 m1 m2
        go_upto_region 7 with fail
        obtain ⟨X, hX⟩ : ∃ X, crxF P9 Q9 R9 = X := ⟨_, rfl⟩
        have hX2 : (Q9.1 - P9.1) * (R9.2 - Q9.2) - (Q9.2 - P9.2) * (R9.1 - Q9.1) = X := hX
        simp only [hX2]
        rw [hX] at HNX
        have hsm := HSB.out
        clear hX hX2 k1 k2 k3 k4 k5 k6 k7 hp0 hp1 hp2 hq0 hq1 hq2 hr0 hr1 hr2 HF1 HF2 HF3 HP9 HQ9 HR9
        have s1 : IntKind.i64.wrap (SM + 1) = SM + 1 := wr63 (by omega) (by omega)
        have s2 : IntKind.i64.wrap (SM - 1) = SM - 1 := wr63 (by omega) (by omega)
        clear hsm
        by_cases c1 : 0 < X
        · have z1 : decide (0 < X) = true := decide_eq_true c1
          have z2 : decide (X < 0) = false := decide_eq_false (by omega)
          have HNE3 : Hid (rndS l (m + 1) = SM + 1) := hide (by rw [HNX.out]; unfold sgC; rw [if_pos c1])
          clear c1
          go_wp2
          go_roundw
          case rel => exact ⟨m + 1, by omega, by go_num, by rw [HNE3.out], HB3⟩
          case measure => simp [intOf]; omega
        · have z1 : decide (0 < X) = false := decide_eq_false c1
          by_cases c2 : X < 0
          · have z2 : decide (X < 0) = true := decide_eq_true c2
            have HNE3 : Hid (rndS l (m + 1) = SM - 1) := hide (by rw [HNX.out]; unfold sgC; rw [if_neg c1, if_pos c2]; omega)
            clear c1 c2
            go_wp2
            go_roundw
            case rel => exact ⟨m + 1, by omega, by go_num, by rw [HNE3.out], HB3⟩
            case measure => simp [intOf]; omega
          · have z2 : decide (X < 0) = false := decide_eq_false c2
            have HNE3 : Hid (rndS l (m + 1) = SM) := hide (by rw [HNX.out]; unfold sgC; rw [if_neg c1, if_neg c2]; omega)
            clear c1 c2
            go_wp2
            go_roundw
            case rel => exact ⟨m + 1, by omega, by go_num, by rw [HNE3.out], HB3⟩
            case measure => simp [intOf]; omega
      · refine name_exit fun w3 hw3 => ?_
        have HB32 : Hid (Below wr.heap.size wr w3) := hide (by rw [hw3]; exact (by repeat (first | with_reducible exact HBK.out | with_reducible refine Below.setCell ?_ (by first | exact HBK.out.size | (simp; done) | (have := HBK.out.size; simp; omega)) _ | with_reducible refine Below.alloc ?_ (by first | exact HBK.out.size | omega | (simp; done) | (have := HBK.out.size; simp; omega)) _)))
        have HP9 : Hid (Bx2 w3 (wk.heap.size + 1 + 1) P9.1 P9.2) := hide ⟨by first | (rw [hw3]; simp; done) | (rw [hw3]; simp; omega), by rw [hw3]; simp [go_sem], by rw [hw3]; simp [go_sem]⟩
        have HQ9 : Hid (Bx2 w3 (wk.heap.size + 1) Q9.1 Q9.2) := hide ⟨by first | (rw [hw3]; simp; done) | (rw [hw3]; simp; omega), by rw [hw3]; simp [go_sem], by rw [hw3]; simp [go_sem]⟩
        have HR9 : Hid (Bx2 w3 (wk.heap.size) R9.1 R9.2) := hide ⟨by first | (rw [hw3]; simp; done) | (rw [hw3]; simp; omega), by rw [hw3]; simp [go_sem], by rw [hw3]; simp [go_sem]⟩
        have HB3 := hide (HB.out.trans (HB32.out.mono HB.out.size))
        obtain ⟨gp, hgp⟩ : ∃ g, wk.heap.size + 1 + 1 = g := ⟨_, rfl⟩
        simp only [hgp] at HP9 ⊢
        obtain ⟨gq, hgq⟩ : ∃ g, wk.heap.size + 1 = g := ⟨_, rfl⟩
        simp only [hgq] at HQ9 ⊢
        obtain ⟨gr, hgr⟩ : ∃ g, wk.heap.size = g := ⟨_, rfl⟩
        simp only [hgr] at HR9 ⊢
        clear hw3 hgp hgq hgr HB32 HBK HB
        obtain ⟨hp0, hp1, hp2⟩ := HP9.out
        obtain ⟨hq0, hq1, hq2⟩ := HQ9.out
        obtain ⟨hr0, hr1, hr2⟩ := HR9.out
        have hf1 := HF1.out
        have hf2 := HF2.out
        have hf3 := HF3.out
        have m1 := mul_bd2 (show -2000000 ≤ Q9.1 - P9.1 ∧ Q9.1 - P9.1 ≤ 2000000 by omega) (show -2000000 ≤ R9.2 - Q9.2 ∧ R9.2 - Q9.2 ≤ 2000000 by omega)
        have m2 := mul_bd2 (show -2000000 ≤ Q9.2 - P9.2 ∧ Q9.2 - P9.2 ≤ 2000000 by omega) (show -2000000 ≤ R9.1 - Q9.1 ∧ R9.1 - Q9.1 ≤ 2000000 by omega)
        have k1 : IntKind.i64.wrap (Q9.1 - P9.1) = Q9.1 - P9.1 := wr63 (by omega) (by omega)
        have k2 : IntKind.i64.wrap (R9.2 - Q9.2) = R9.2 - Q9.2 := wr63 (by omega) (by omega)
        have k3 : IntKind.i64.wrap (Q9.2 - P9.2) = Q9.2 - P9.2 := wr63 (by omega) (by omega)
        have k4 : IntKind.i64.wrap (R9.1 - Q9.1) = R9.1 - Q9.1 := wr63 (by omega) (by omega)
        have k5 : IntKind.i64.wrap ((Q9.1 - P9.1) * (R9.2 - Q9.2)) = (Q9.1 - P9.1) * (R9.2 - Q9.2) := wr63 (by omega) (by omega)
        have k6 : IntKind.i64.wrap ((Q9.2 - P9.2) * (R9.1 - Q9.1)) = (Q9.2 - P9.2) * (R9.1 - Q9.1) := wr63 (by omega) (by omega)
        have k7 : IntKind.i64.wrap ((Q9.1 - P9.1) * (R9.2 - Q9.2) - (Q9.2 - P9.2) * (R9.1 - Q9.1)) = (Q9.1 - P9.1) * (R9.2 - Q9.2) - (Q9.2 - P9.2) * (R9.1 - Q9.1) := wr63 (by omega) (by omega)
        clear hf1 hf2 hf3 m1 m2
        go_upto_region 7 with fail
        obtain ⟨X, hX⟩ : ∃ X, crxF P9 Q9 R9 = X := ⟨_, rfl⟩
        have hX2 : (Q9.1 - P9.1) * (R9.2 - Q9.2) - (Q9.2 - P9.2) * (R9.1 - Q9.1) = X := hX
        simp only [hX2]
        rw [hX] at HNX
        have hsm := HSB.out
        clear hX hX2 k1 k2 k3 k4 k5 k6 k7 hp0 hp1 hp2 hq0 hq1 hq2 hr0 hr1 hr2 HF1 HF2 HF3 HP9 HQ9 HR9
        have s1 : IntKind.i64.wrap (SM + 1) = SM + 1 := wr63 (by omega) (by omega)
        have s2 : IntKind.i64.wrap (SM - 1) = SM - 1 := wr63 (by omega) (by omega)
        clear hsm
        by_cases c1 : 0 < X
        · have z1 : decide (0 < X) = true := decide_eq_true c1
          have z2 : decide (X < 0) = false := decide_eq_false (by omega)
          have HNE3 : Hid (rndS l (m + 1) = SM + 1) := hide (by rw [HNX.out]; unfold sgC; rw [if_pos c1])
          clear c1
          go_wp2
          go_roundw
          case rel => exact ⟨m + 1, by omega, by go_num, by rw [HNE3.out], HB3⟩
          case measure => simp [intOf]; omega
        · have z1 : decide (0 < X) = false := decide_eq_false c1
          by_cases c2 : X < 0
          · have z2 : decide (X < 0) = true := decide_eq_true c2
            have HNE3 : Hid (rndS l (m + 1) = SM - 1) := hide (by rw [HNX.out]; unfold sgC; rw [if_neg c1, if_pos c2]; omega)
            clear c1 c2
            go_wp2
            go_roundw
            case rel => exact ⟨m + 1, by omega, by go_num, by rw [HNE3.out], HB3⟩
            case measure => simp [intOf]; omega
          · have z2 : decide (X < 0) = false := decide_eq_false c2
            have HNE3 : Hid (rndS l (m + 1) = SM) := hide (by rw [HNX.out]; unfold sgC; rw [if_neg c1, if_neg c2]; omega)
            clear c1 c2
            go_wp2
            go_roundw
            case rel => exact ⟨m + 1, by omega, by go_num, by rw [HNE3.out], HB3⟩
            case measure => simp [intOf]; omega
    · have mz : ¬ (m : Int) < (l.length : Int) := by omega
      obtain rfl : m = l.length := by omega
      go_wp2
      go_ret
      exact ⟨rfl, HB.out⟩
end Go.Proofs.YtdfpbhlnlkjjlaaGreat
namespace Go.Proofs.YtdfpbhlnlkjjlaaGreat
set_option linter.unusedVariables false
set_option linter.unusedSimpArgs false
section
variable {S : Cs} {u : Un} {n : Nat}
theorem sgC_side {a b : Wy} {s t : Nat} (hs : 0 < s) (ht : 0 < t) (p : Pt) : sgC (crxF p (addW p s a) (addW (addW p s a) t b)) = crs a.v b.v := by
 have h1 : (0 : Int) < (s : Int) := by omega
 have h2 : (0 : Int) < (t : Int) := by omega
 have h3 : (0 : Int) < (s : Int) * (t : Int) := Int.mul_pos h1 h2
 have e : crxF p (addW p s a) (addW (addW p s a) t b) = ((s : Int) * t) * crs a.v b.v := by
  unfold crxF addW crs
  have k1 : ∀ x y : Int, x + y - x = y := fun x y => by omega
  cases a <;> cases b <;> simp [Wy.v, k1, Int.neg_mul, Int.mul_neg, Int.mul_comm]
 rw [e]
 generalize (s : Int) * (t : Int) = M at *
 unfold sgC crs
 cases a <;> cases b <;> simp [Wy.v] <;> omega
theorem LpU.rndS (h : LpU S u n) : Go.Proofs.YtdfpbhlnlkjjlaaGreat.rndS (lpC S u n) (lpC S u n).length = Go.Proofs.YtdfpbhlnlkjjlaaGreat.turnS (lpC S u n) (lpC S u n).length := by
 unfold Go.Proofs.YtdfpbhlnlkjjlaaGreat.rndS Go.Proofs.YtdfpbhlnlkjjlaaGreat.turnS
 rw [lp_len]
 refine smN_congr' _ fun i hi => ?_
 obtain ⟨t, ht, e⟩ := h.rAt hi
 obtain ⟨s, hs, _, e2, _⟩ := h.side hi
 rw [h.trnP hi, e, h.pAt hi, h.qAt hi, e2, sgC_side hs ht]
end
end Go.Proofs.YtdfpbhlnlkjjlaaGreat
namespace Go.Proofs.YtdfpbhlnlkjjlaaGreat
open Go.RowKit Go.Maps
set_option linter.unusedVariables false
set_option linter.unusedSimpArgs false
attribute [local go_sem] Oper.semAt_some
set_option maxRecDepth 100000 in
set_option maxHeartbeats 16000000 in
theorem of_err {w : World} {v : Value} {l : List R4} (hr : RdK encR 4 w w.heap.size v l) (hl : l.length ≤ 100000000) (hk : checkF l ≠ 0) :
  Calls Tryz.prog 11 #[v] w fun e w' => e = .returned (.tuple #[.slice none 0 0, .int .i64 (checkF l)]) ∧ Below w.heap.size w w' := by
 have HC := hide (check_any hr hl)
 obtain ⟨A, c, rfl, _⟩ := hr
 have hz : (checkF l != 0) = true := by simpa using hk
 go_enter Tryz.func11, Tryz.ntmps11
 go_wp2_with (fail)
 refine HC.out.mono ?_
 rintro e w1 ⟨rfl, hb1⟩
 have HB := hide hb1
 clear hb1
 go_wp2
 go_ret2
 exact ⟨rfl, HB.out⟩
end Go.Proofs.YtdfpbhlnlkjjlaaGreat
namespace Go.Proofs.YtdfpbhlnlkjjlaaGreat
open Go.RowKit
set_option linter.unusedVariables false
set_option linter.unusedSimpArgs false
attribute [local go_sem] Oper.semAt_some
set_option maxRecDepth 100000 in
set_option maxHeartbeats 16000000 in
theorem euler_err {w : World} {v : Value} {l : List R4} (hr : RdK encR 4 w w.heap.size v l) (hl : l.length ≤ 100000000) (hk : checkF l ≠ 0) :
  Calls Tryz.prog 12 #[v] w fun e w' => e = .returned (.tuple #[.int .i64 0, .int .i64 0, .int .i64 (checkF l)]) ∧ Below w.heap.size w w' := by
 have HC := hide (of_err hr hl hk)
 obtain ⟨A, c, rfl, _⟩ := hr
 have hz : (checkF l != 0) = true := by simpa using hk
 go_enter Tryz.func12, Tryz.ntmps12
 go_wp2_with (fail)
 refine HC.out.mono ?_
 rintro e w1 ⟨rfl, hb1⟩
 have HB := hide hb1
 clear hb1
 go_wp2
 go_ret3
 exact ⟨rfl, HB.out⟩
end Go.Proofs.YtdfpbhlnlkjjlaaGreat
namespace Go.Proofs.YtdfpbhlnlkjjlaaGreat
set_option linter.unusedVariables false
set_option linter.unusedSimpArgs false
instance decBgn (S : Cs) (u : Un) : Decidable (bgn S u) := inferInstanceAs (Decidable (_ ∧ _))
def ltB : List Pt → List Pt → Bool
 | [], [] => false
 | [], _ :: _ => true
 | _ :: _, [] => false
 | a :: s, b :: t => if a = b then ltB s t else decide (ptLt a b)
theorem ltB_lt : ∀ {a b : List Pt}, ltB a b = true → ltL a b
 | [], [], h => by simp [ltB] at h
 | [], _ :: _, _ => trivial
 | _ :: _, [], h => by simp [ltB] at h
 | a :: s, b :: t, h => by
  unfold ltB at h
  unfold ltL
  by_cases e : a = b
  ·rw [if_pos e] at h ⊢
   exact ltB_lt h
  ·rw [if_neg e] at h ⊢
   exact of_decide_eq_true h
/-- The units of a trip. -/
def pthU (S : Cs) (u : Un) (n : Nat) : List Un := (List.range n).map (itU S u)
theorem mem_pthU {S : Cs} {u : Un} {n : Nat} {z : Un} : z ∈ pthU S u n ↔ inCy S u n z := by
 unfold pthU inCy
 rw [List.mem_map]
 constructor
 ·rintro ⟨k, hk, e⟩; exact ⟨k, List.mem_range.1 hk, e⟩
 ·rintro ⟨k, hk, e⟩; exact ⟨k, List.mem_range.2 hk, e⟩
def chkTrip (S : Cs) (q : Un × Nat) : Bool := decide (bgn S q.1) && decide (0 < q.2) && decide (itU S q.1 q.2 = q.1) && decide (pthU S q.1 q.2).Nodup && decide (trp S q.1 ≠ 0)
 && (List.range q.2).all fun k => decide (k = 0) || decide (trp S (itU S q.1 k) = 0) || decide (ptLt q.1.1 (itU S q.1 k).1)
theorem chkTrip_ok {S : Cs} {q : Un × Nat} (h : chkTrip S q = true) : LpU S q.1 q.2 := by
 simp only [chkTrip, Bool.and_eq_true, decide_eq_true_eq, List.all_eq_true, List.mem_range, Bool.or_eq_true] at h
 obtain ⟨⟨⟨⟨⟨h1, h2⟩, h3⟩, h4⟩, h5⟩, h6⟩ := h
 refine ⟨⟨h1, h2, h3, fun i j hij hj e => ?_⟩, h5, fun k hk hn ht => ?_⟩
 ·have hp := List.pairwise_iff_getElem.1 h4 i j (by unfold pthU; rw [List.length_map, List.length_range]; omega) (by unfold pthU; rw [List.length_map, List.length_range]; omega) hij
  simp only [pthU, List.getElem_map, List.getElem_range] at hp
  exact hp e
 ·rcases h6 k hn with (e | e) | e
  ·omega
  ·exact absurd e ht
  ·exact e
def chkOutl (S : Cs) (M : Nat) (us : List (Un × Nat)) (L : List (List Pt)) : Bool :=
 us.all (chkTrip S) && decide (us.flatMap fun q => pthU S q.1 q.2).Nodup
 && ((allU M).all fun z => !decide (bgn S z) || decide (z ∈ us.flatMap fun q => pthU S q.1 q.2))
 && decide (L = us.map (lpP S)) && decide (L.Pairwise fun a b => ltB a b = true)
theorem chkOutl_ok {S : Cs} {M : Nat} {us : List (Un × Nat)} {L : List (List Pt)} (hM : bdC S M) (h : chkOutl S M us L = true) : Outl S L := by
 simp only [chkOutl, Bool.and_eq_true, decide_eq_true_eq, List.all_eq_true, Bool.or_eq_true, Bool.not_eq_true', decide_eq_false_iff_not] at h
 obtain ⟨⟨⟨⟨h1, h2⟩, h3⟩, h4⟩, h5⟩ := h
 refine ⟨⟨us, ⟨fun q hq => chkTrip_ok (h1 q hq), ?_, fun z hz => ?_⟩, by rw [h4]⟩, h5.imp ltB_lt⟩
 ·have hp := (List.pairwise_flatMap.1 h2).2
  refine hp.imp fun {a b} hab z ⟨ha, hb⟩ => hab z (mem_pthU.2 ha) z (mem_pthU.2 hb) rfl
 ·rcases h3 z (in_allU hM hz) with h | h
  ·exact absurd hz h
  ·obtain ⟨q, hq, hz⟩ := List.mem_flatMap.1 h
   exact ⟨q, hq, mem_pthU.1 hz⟩
theorem none_outl : Outl (setR []) [] := chkOutl_ok (M := 1) (us := []) (setR_bd (by decide)) (by decide +kernel)
end Go.Proofs.YtdfpbhlnlkjjlaaGreat
namespace Go.Proofs.YtdfpbhlnlkjjlaaGreat
set_option linter.unusedVariables false
set_option linter.unusedSimpArgs false
/-- Each label names a rectangle of the component, not behind its own. -/
def Lb (l : List R4) (L : List Int) : Prop := L.length = l.length ∧ ∀ (i : Nat) x, L[i]? = some x → ∃ j : Nat, x = (j : Int) ∧ Conn l i j ∧ j ≤ i
def sumN (L : List Int) : Nat := (L.map Int.toNat).sum
/-- No label is below a neighbour's, as far as the pairs have been seen: rows before m, and row m before j. -/
def Seen (l : List R4) (L : List Int) (m j : Nat) : Prop := ∀ i k x y, adj l i k → L[i]? = some x → L[k]? = some y → (i < m ∨ (i = m ∧ k < j)) → x ≤ y
/-- Inside one pass over all pairs: something went down, or nothing yet. -/
def Pass (l : List R4) (L0 L : List Int) (mb : Bool) (m j : Nat) : Prop := Lb l L ∧ ((mb = true ∧ sumN L < sumN L0) ∨ (mb = false ∧ L = L0 ∧ Seen l L m j))
theorem Lb.start (l : List R4) : Lb l ((List.range l.length).map fun i : Nat => (i : Int)) := by
 refine ⟨by simp, fun i x h => ?_⟩
 rw [List.getElem?_map] at h
 obtain ⟨j, hj, rfl⟩ := Option.map_eq_some_iff.1 h
 obtain ⟨h1, h2⟩ := List.getElem?_eq_some_iff.1 hj
 simp at h2
 subst h2
 exact ⟨i, rfl, .refl, Nat.le_refl _⟩
theorem Pass.stay {l : List R4} {L0 L : List Int} {mb : Bool} {m j : Nat} (h : Pass l L0 L mb m j) (hn : ∀ x y, adj l m j → L[m]? = some x → L[j]? = some y → x ≤ y) : Pass l L0 L mb m (j + 1) := by
 refine ⟨h.1, h.2.imp id fun ⟨a, b, c⟩ => ⟨a, b, fun i k x y ha hx hy hs => ?_⟩⟩
 by_cases e : i = m ∧ k = j
 ·obtain ⟨rfl, rfl⟩ := e
  exact hn x y ha hx hy
 ·exact c i k x y ha hx hy (by omega)
theorem Pass.row {l : List R4} {L0 L : List Int} {mb : Bool} {m j : Nat} (h : Pass l L0 L mb m j) (hj : l.length ≤ j) : Pass l L0 L mb (m + 1) 0 := by
 refine ⟨h.1, h.2.imp id fun ⟨a, b, c⟩ => ⟨a, b, fun i k x y ha hx hy hs => ?_⟩⟩
 have hk : k < L.length := (List.getElem?_eq_some_iff.1 hy).1
 have := h.1.1
 exact c i k x y ha hx hy (by omega)
/-- Labels of a pass that changed nothing are the least indices. -/
theorem Pass.done {l : List R4} {L0 L : List Int} {m j : Nat} (h : Pass l L0 L false m j) (hm : l.length ≤ m) : L = (List.range l.length).map fun i => ((mn l i : Nat) : Int) := by
 obtain ⟨⟨h1, h2⟩, h3⟩ := h
 obtain ⟨_, _, hs⟩ := h3.resolve_left (fun q => by cases q.1)
 have key := labels_mn (l := l) (f := fun i => ((L[i]?).getD 0).toNat) (fun i hi => by
  obtain ⟨x, hx⟩ : ∃ x, L[i]? = some x := ⟨_, List.getElem?_eq_getElem (by omega)⟩
  obtain ⟨j, rfl, c, le⟩ := h2 i x hx
  simp only [hx, Option.getD_some, Int.toNat_natCast]
  exact ⟨c, le⟩) (fun i k ha => by
  obtain ⟨x0, y0, g1, g2, _⟩ := id ha
  have hi := (List.getElem?_eq_some_iff.1 g1).1
  have hk := (List.getElem?_eq_some_iff.1 g2).1
  obtain ⟨x, hx⟩ : ∃ x, L[i]? = some x := ⟨_, List.getElem?_eq_getElem (by omega)⟩
  obtain ⟨y, hy⟩ : ∃ y, L[k]? = some y := ⟨_, List.getElem?_eq_getElem (by omega)⟩
  have := hs i k x y ha hx hy (.inl (by omega))
  simp only [hx, hy, Option.getD_some]
  omega)
 apply List.ext_getElem?
 intro i
 by_cases hi : i < l.length
 ·obtain ⟨x, hx⟩ : ∃ x, L[i]? = some x := ⟨_, List.getElem?_eq_getElem (by omega)⟩
  obtain ⟨j, rfl, c, le⟩ := h2 i x hx
  have := key i hi
  simp only [hx, Option.getD_some, Int.toNat_natCast] at this
  rw [hx, List.getElem?_map, List.getElem?_range hi]
  simp [this]
 ·rw [List.getElem?_eq_none (by omega), List.getElem?_eq_none (by simpa using hi)]
end Go.Proofs.YtdfpbhlnlkjjlaaGreat
namespace Go.Proofs.YtdfpbhlnlkjjlaaGreat
open Go.RowKit
set_option linter.unusedVariables false
set_option linter.unusedSimpArgs false
/-- A list of regions of the call's own. -/
structure Regs (w : World) (vo : Value) (R : List (List R4)) (wr : World) : Prop where
 low : Below w.heap.size w wr
 o : ∃ vs, wr.ownsRow w.heap.size 34 1 vo R.length vs ∧ ∀ (i : Nat) (r : List R4), R[i]? = some r → ∃ v, vs[i]? = some v ∧ wr.ownsRow w.heap.size 49 4 v r.length (r.flatMap encR)
theorem Regs.below {w wr w2 : World} {vo : Value} {R : List (List R4)} (h : Regs w vo R wr) (hb : Below wr.heap.size wr w2) : Regs w vo R w2 := by
 obtain ⟨vs, h1, h2⟩ := h.o
 refine ⟨h.low.trans (hb.mono h.low.size), vs, own_below h1 hb, fun i r hr => ?_⟩
 obtain ⟨v, h3, h4⟩ := h2 i r hr
 exact ⟨v, h3, own_below h4 hb⟩
theorem Regs.push {w wr w2 : World} {vo v2 v : Value} {R : List (List R4)} {r : List R4} {vs : List Value} (low : Below w.heap.size w wr) (h1 : wr.ownsRow w.heap.size 34 1 vo R.length vs)
  (h2 : ∀ (i : Nat) (r : List R4), R[i]? = some r → ∃ v, vs[i]? = some v ∧ wr.ownsRow w.heap.size 49 4 v r.length (r.flatMap encR)) (hv : wr.ownsRow w.heap.size 49 4 v r.length (r.flatMap encR))
  (hg : wr.grownBy w2 vo.ownBlock) (h3 : w2.ownsRow w.heap.size 34 1 v2 (R.length + 1) (vs ++ [v])) : Regs w v2 (R ++ [r]) w2 := by
 have hl : vs.length = R.length := by have := h1.1; omega
 refine ⟨low.grown hg low.size (fun q hq => (h1.lt q hq).1), vs ++ [v], by simpa using h3, fun i x hx => ?_⟩
 by_cases hi : i < R.length
 ·rw [List.getElem?_append_left hi] at hx
  obtain ⟨u, h4, h5⟩ := h2 i x hx
  exact ⟨u, by rw [List.getElem?_append_left (by omega)]; exact h4, h5.kept hg (own_apart h5 h1 (by decide))⟩
 ·rw [List.getElem?_append_right (by omega)] at hx
  have hi0 : i - R.length = 0 := by
   have := (List.getElem?_eq_some_iff.1 hx).1
   simp at this
   omega
  rw [hi0] at hx
  simp at hx
  subst hx
  refine ⟨v, by rw [List.getElem?_append_right (by omega), hl, hi0]; rfl, hv.kept hg (own_apart hv h1 (by decide))⟩
end Go.Proofs.YtdfpbhlnlkjjlaaGreat
namespace Go.Proofs.YtdfpbhlnlkjjlaaGreat
set_option linter.unusedVariables false
set_option linter.unusedSimpArgs false
/-- Two points differ by 1 in one coordinate alone. -/
def nb (x y u v : Int) : Prop := (u = x + 1 ∧ v = y) ∨ (u = x - 1 ∧ v = y) ∨ (u = x ∧ v = y + 1) ∨ (u = x ∧ v = y - 1)
/-- A way from point to point within a set. -/
inductive PW (S : Int → Int → Prop) (x y : Int) : Int → Int → Prop where
 | refl : PW S x y x y
 | step {u v u' v' : Int} : PW S x y u v → S u' v' → nb u v u' v' → PW S x y u' v'
theorem PW.trans {S : Int → Int → Prop} {x y u v a b : Int} (h : PW S x y u v) (g : PW S u v a b) : PW S x y a b := by
 induction g with
 | refl => exact h
 | step _ s n ih => exact ih.step s n
/-- The indexes of the parts. -/
noncomputable def ids (l : List R4) : List Nat := (List.range l.length).filter fun i => decide (mn l i = i)
theorem ids_sorted (l : List R4) : (ids l).Pairwise (· < ·) := List.Pairwise.sublist List.filter_sublist List.pairwise_lt_range
theorem mem_ids {l : List R4} {m : Nat} : m ∈ ids l ↔ m < l.length ∧ mn l m = m := by
 unfold ids
 rw [List.mem_filter, List.mem_range, decide_eq_true_eq]
/-- One more than the index of the part before, where the k-th one begins. -/
noncomputable def low (l : List R4) (k : Nat) : Nat := match (ids l)[k - 1]?, k with | some m, _ + 1 => m + 1 | _, _ => 0
/-- The first i parts are those below n. -/
def Cut (l : List R4) (i n : Nat) : Prop := (∀ a ∈ (ids l).take i, a < n) ∧ ∀ a ∈ (ids l).drop i, n ≤ a
theorem Cut.start (l : List R4) : Cut l 0 0 := ⟨by simp, fun a _ => Nat.zero_le a⟩
theorem Cut.next {l : List R4} {i n m : Nat} (h : Cut l i n) (hm : (ids l)[i]? = some m) : n ≤ m ∧ (∀ j, n ≤ j → j < m → mn l j ≠ j) ∧ Cut l (i + 1) (m + 1) := by
 obtain ⟨hi, e⟩ := List.getElem?_eq_some_iff.1 hm
 have hd : m ∈ (ids l).drop i := by
  rw [List.drop_eq_getElem_cons hi, e]
  exact List.mem_cons_self
 have hs := List.pairwise_iff_getElem.1 (ids_sorted l)
 have hmi : m ∈ ids l := by rw [← e]; exact List.getElem_mem hi
 have hnm := h.2 m hd
 refine ⟨hnm, fun j h1 h2 hj => ?_, fun a ha => ?_, fun a ha => ?_⟩
 ·have hjm : j ∈ ids l := mem_ids.2 ⟨by have := (mem_ids.1 hmi).1; omega, hj⟩
  obtain ⟨k, hk, ek⟩ := List.getElem_of_mem hjm
  by_cases hki : k < i
  ·have : j ∈ (ids l).take i := by
    rw [List.mem_take_iff_getElem]
    exact ⟨k, by omega, ek⟩
   have := h.1 j this
   omega
  ·by_cases hki2 : k = i
   ·subst hki2; omega
   ·have := hs i k hi hk (by omega)
    omega
 ·rw [List.take_succ_eq_append_getElem hi, List.mem_append] at ha
  rcases ha with ha | ha
  ·have := h.1 a ha; omega
  ·rw [List.mem_singleton, e] at ha; omega
 ·obtain ⟨k, hk, ek⟩ := List.getElem_of_mem ha
  rw [List.getElem_drop] at ek
  have := hs i (i + 1 + k) hi (by rw [List.length_drop] at hk; omega) (by omega)
  omega
theorem Cut.done {l : List R4} {n : Nat} (h : Cut l (ids l).length n) : ∀ j, n ≤ j → j < l.length → mn l j ≠ j := fun j h1 h2 hj => by
 have := h.1 j (by rw [List.take_length]; exact mem_ids.2 ⟨h2, hj⟩)
 omega
end Go.Proofs.YtdfpbhlnlkjjlaaGreat
namespace Go.Proofs.YtdfpbhlnlkjjlaaGreat
set_option linter.unusedVariables false
set_option linter.unusedSimpArgs false
/-- C is a part of S that nothing else of S touches. -/
structure PartOf (C S : Cs) : Prop where
 sub : ∀ x y, C x y = true → S x y = true
 near : ∀ x y u v, C x y = true → S u v = true → nb x y u v → C u v = true
section
variable {C S : Cs} (h : PartOf C S)
include h
theorem PartOf.cell {a b : Pt} (ha : inC C a = true) (hn : nb a.1 a.2 b.1 b.2) : inC C b = inC S b := by
 unfold inC at *
 cases hb : S b.1 b.2
 ·cases hc : C b.1 b.2
  ·rfl
  ·rw [h.sub _ _ hc] at hb; cases hb
 ·exact h.near _ _ _ _ ha hb hn
theorem PartOf.sub' {a : Pt} (ha : inC C a = true) : inC S a = true := h.sub _ _ ha
theorem PartOf.bgn {u : Un} : bgn C u ↔ bgn S u ∧ inC C (lc u) = true := by
 unfold Go.Proofs.YtdfpbhlnlkjjlaaGreat.bgn
 have hn : nb (lc u).1 (lc u).2 (rc u).1 (rc u).2 := by
  obtain ⟨⟨x, y⟩, d⟩ := u
  cases d <;> simp [lc, rc, nb] <;> omega
 constructor
 ·rintro ⟨h1, h2⟩
  exact ⟨⟨h.sub' h1, by rw [← h.cell h1 hn]; exact h2⟩, h1⟩
 ·rintro ⟨⟨h1, h2⟩, h3⟩
  exact ⟨h3, by rw [h.cell h3 hn]; exact h2⟩
theorem PartOf.ahead {u : Un} (hu : Go.Proofs.YtdfpbhlnlkjjlaaGreat.bgn C u) : inC C (lc (hdU u, u.2)) = inC S (lc (hdU u, u.2)) ∧ (inC C (lc (hdU u, u.2)) = true → inC C (rc (hdU u, u.2)) = inC S (rc (hdU u, u.2))) := by
 refine ⟨h.cell hu.1 ?_, fun h1 => h.cell h1 ?_⟩ <;> obtain ⟨⟨x, y⟩, d⟩ := u <;> cases d <;> simp [lc, rc, hdU, Wy.v, nb] <;> omega
theorem PartOf.behind {u : Un} (hu : Go.Proofs.YtdfpbhlnlkjjlaaGreat.bgn C u) : inC C (lc (bkU u)) = inC S (lc (bkU u)) ∧ (inC C (lc (bkU u)) = true → inC C (rc (bkU u)) = inC S (rc (bkU u))) := by
 refine ⟨h.cell hu.1 ?_, fun h1 => h.cell h1 ?_⟩ <;> obtain ⟨⟨x, y⟩, d⟩ := u <;> cases d <;> simp [lc, rc, bkU, Wy.v, nb] <;> omega
theorem PartOf.nx {u : Un} (hu : Go.Proofs.YtdfpbhlnlkjjlaaGreat.bgn C u) : nx C u = nx S u := by
 obtain ⟨h1, h2⟩ := h.ahead hu
 unfold Go.Proofs.YtdfpbhlnlkjjlaaGreat.nx nxW
 rw [← h1]
 cases h3 : inC C (lc (hdU u, u.2))
 ·rfl
 ·rw [h2 h3]
theorem PartOf.trp {u : Un} (hu : Go.Proofs.YtdfpbhlnlkjjlaaGreat.bgn C u) : trp C u = trp S u := by
 obtain ⟨h1, h2⟩ := h.behind hu
 unfold Go.Proofs.YtdfpbhlnlkjjlaaGreat.trp
 rw [← h1]
 cases h3 : inC C (lc (bkU u))
 ·rfl
 ·rw [h2 h3]
theorem PartOf.it {u : Un} (hu : Go.Proofs.YtdfpbhlnlkjjlaaGreat.bgn C u) : ∀ k, itU C u k = itU S u k
 | 0 => rfl
 | k + 1 => by
  show Go.Proofs.YtdfpbhlnlkjjlaaGreat.nx C (itU C u k) = Go.Proofs.YtdfpbhlnlkjjlaaGreat.nx S (itU S u k)
  rw [← PartOf.it hu k, h.nx (itU_bgn hu k)]
theorem PartOf.lpC {u : Un} (hu : Go.Proofs.YtdfpbhlnlkjjlaaGreat.bgn C u) (n : Nat) : lpC C u n = lpC S u n := by
 have e : idxC C u n = idxC S u n := by
  unfold idxC
  refine List.filter_congr fun k _ => ?_
  rw [← h.it hu k, h.trp (itU_bgn hu k)]
 unfold Go.Proofs.YtdfpbhlnlkjjlaaGreat.lpC
 rw [e]
 exact List.map_congr_left fun k _ => by rw [h.it hu k]
theorem PartOf.lpU {u : Un} {n : Nat} : LpU C u n ↔ LpU S u n ∧ inC C (lc u) = true := by
 constructor
 ·intro hl
  have hu := hl.cyc.beg
  have hi := h.it hu
  have hb := h.bgn.1 hu
  refine ⟨⟨⟨hb.1, hl.cyc.pos, by rw [← hi]; exact hl.cyc.back, fun i j a b => by rw [← hi, ← hi]; exact hl.cyc.apart i j a b⟩, by rw [← h.trp hu]; exact hl.cor, fun k a b c => ?_⟩, hb.2⟩
  rw [← hi k] at c ⊢
  exact hl.low k a b (by rw [h.trp (itU_bgn hu k)]; exact c)
 ·rintro ⟨hl, hc⟩
  have hu := h.bgn.2 ⟨hl.cyc.beg, hc⟩
  have hi := h.it hu
  refine ⟨⟨hu, hl.cyc.pos, by rw [hi]; exact hl.cyc.back, fun i j a b => by rw [hi, hi]; exact hl.cyc.apart i j a b⟩, by rw [h.trp hu]; exact hl.cor, fun k a b c => ?_⟩
  rw [h.trp (itU_bgn hu k)] at c
  rw [hi k] at c ⊢
  exact hl.low k a b c
/-- The loops of a part are loops of the whole. -/
theorem PartOf.mem {L K : List (List Pt)} (hL : Outl S L) (hK : Outl C K) (l : List Pt) : l ∈ K ↔ ∃ u n, LpU S u n ∧ inC C (lc u) = true ∧ l = Go.Proofs.YtdfpbhlnlkjjlaaGreat.lpC S u n := by
 rw [hK.mem]
 constructor
 ·rintro ⟨u, n, hu, rfl⟩
  have := h.lpU.1 hu
  exact ⟨u, n, this.1, this.2, h.lpC hu.cyc.beg n⟩
 ·rintro ⟨u, n, hu, hc, rfl⟩
  have := h.lpU.2 ⟨hu, hc⟩
  exact ⟨u, n, this, (h.lpC this.cyc.beg n).symm⟩
end
section
variable {l : List R4} (h : checkF l = 0)
include h
end
end Go.Proofs.YtdfpbhlnlkjjlaaGreat
namespace Go.Proofs.YtdfpbhlnlkjjlaaGreat
set_option linter.unusedVariables false
set_option linter.unusedSimpArgs false
section
variable {l : List R4} {L : List (List Pt)}
theorem chk_bd (hk : checkF l = 0) : bdC (setR l) 1000000 := setR_bd fun t ht => by have := (checkF_ok hk).2.1 t ht; unfold valid4 fineP at this; omega
theorem out_chk (hk : checkF l = 0) (hO : Outl (setR l) L) : ∀ p ∈ L, chkO p = 0 := hO.chk (check_rcan hk) (by have := (checkF_ok hk).1; omega) (fun t ht => by have := (checkF_ok hk).2.1 t ht; unfold valid4 fineP at this; omega)
theorem out_cnt (hk : checkF l = 0) (hO : Outl (setR l) L) : L.length ≤ l.length ∧ (L.map List.length).sum ≤ 4 * l.length := ⟨(hO.count (check_rcan hk)).2, (hO.count (check_rcan hk)).1⟩
end
end Go.Proofs.YtdfpbhlnlkjjlaaGreat
namespace Go.Proofs.YtdfpbhlnlkjjlaaGreat
open Go.ChangeShapes Go.WideShapes Go.ChangeAt Go.RowKit Go.Joins Go.Deep
set_option linter.unusedVariables false
set_option linter.unusedSimpArgs false
theorem own : ownKnob Tryz.prog.godebug = none := by kernel_rfl
theorem laidOut : laidOutB Tryz.prog = true := by kernel_rfl

section
variable {H : Type} {enc : TypeId × Value → H}
theorem trodAll_carry {P : Program} (hl : laidOutB P = true) {W W' : World} (hb : Below W.heap.size W W') :
  ∀ (ts : List TypeId) (vs : List Value) (ds : List (DataW H)) (ps : List MemPlace), (ts.all fun t => P.readableRec t && decide (t < P.types.size)) = true →
   DataW.TrodAll enc P W 0 (fun _ => true) true ts vs ds ps → (∀ x ∈ ps, x.block < W.heap.size) → DataW.TrodAll enc P W' 0 (fun b => decide (b < W.heap.size)) true ts vs ds ps
 | [], [], [], ps, _, h, _ => h
 | [], [], _ :: _, _, _, h, _ => h.elim
 | [], _ :: _, _, _, _, h, _ => h.elim
 | _ :: _, [], _, _, _, h, _ => h.elim
 | _ :: _, _ :: _, [], _, _, h, _ => h.elim
 | t :: ts, v :: vs, d :: ds, ps, hr, h, hlt => by
  obtain ⟨p, q, h1, h2, rfl⟩ := h
  simp only [List.all_cons, Bool.and_eq_true, decide_eq_true_eq] at hr
  refine ⟨p, q, Below.trod hl hr.1.1 hr.1.2 h1 hb (fun x hx => hlt x (by simp [hx])), trodAll_carry hl hb ts vs ds q ?_ h2 (fun x hx => hlt x (by simp [hx])), rfl⟩
  simpa using hr.2

theorem law_post {P : Program} {f : Func} {s : ChangeSpec} {W W' : World} {args : Array Value} {ds gs : List (DataW H)} {before : List MemPlace} {tb : TypeId}
  (hl : laidOutB P = true) (hr : (f.params.toList.all fun t => P.readableRec t && decide (t < P.types.size)) = true) (hres : f.resultTypes = #[tb]) (hbool : P.underlying tb = some .bool)
  (hvars : s.vars = []) (hW : DataW.Whole enc P f.params.toList s.vars false W args.toList ds gs before)
  (hsr : (s.fn H (ds ++ gs)).results = [.lit (.bool true)]) (hsa : (s.fn H (ds ++ gs)).args = ds) (hsv : (s.fn H (ds ++ gs)).vars = [])
  (hb : Below W.heap.size W W') : s.post enc P f false true false false W args (.bool true) W' := by
 have hlt : ∀ p ∈ before, p.block < W.heap.size := fun p hp => hW.lt p hp
 have hW0 := hW
 obtain ⟨p, q, hA, hV, rfl, hz, hn⟩ := hW
 refine ⟨ds, gs, p ++ q, [], p, [], hW0, ?_, ?_, ?_, hb.frame _, fun h => by cases h⟩
 ·rw [hsr, hres]
  exact trodAll_mk1 (shut_bool hbool true)
 ·rw [hsa]
  exact trodAll_carry hl hb _ _ _ _ hr hA (fun x hx => hlt x (by simp [hx]))
 ·rw [hsv, hvars]
  rfl
end
end Go.Proofs.YtdfpbhlnlkjjlaaGreat
namespace Go.Proofs.YtdfpbhlnlkjjlaaGreat
open Go.ChangeShapes Go.WideShapes Go.ChangeAt Go.RowKit Go.Joins Go.Deep
set_option linter.unusedVariables false
set_option linter.unusedSimpArgs false
section
variable {H : Type} {enc : TypeId × Value → H} {P : Program} {w : World} {base : Nat} {spare : Nat → Bool} {held : Bool}
/-- The fields of a struct of ints: each one cell, an int. -/
theorem trod_int_fields {t : TypeId} {fs : Array Field} {n : Nat} {cs : List Value} {y : DataW H × List MemPlace} (he : P.underlying t = some (.struct fs)) (hone : oneCellFields P fs = true) (hint : ∀ (j : Nat) (f : Field), fs[j]? = some f → P.underlying f.type = some (.int .i64))
  (hl : cs.length = fs.size) (h : DataW.trod enc P w base spare held n t cs = some y) : ∀ j, j < fs.size → ∃ z : Int, cs[j]? = some (.int .i64 z) := by
 obtain ⟨ys, n', _, _, _, hyl, hf⟩ := DataW.trod_struct he h
 intro j hj
 have hjf : fs[j]? = some fs[j] := Array.getElem?_eq_getElem hj
 obtain ⟨ho, hk⟩ := hone_of hone j _ hjf
 have h1 := hf j _ hjf
 rw [ho, hk] at h1
 have hd : (cs.drop j).take 1 = [cs[j]'(by omega)] := by rw [List.drop_eq_getElem_cons (by omega)]; rfl
 rw [hd] at h1
 have hy : ys[j]? = some (ys[j]'(by omega)) := List.getElem?_eq_getElem (by omega)
 rw [hy] at h1
 obtain ⟨z, hz, _⟩ := DataW.trod_int (hint j _ hjf) h1
 have hz' : cs[j]'(by omega) = .int .i64 z := by simpa using hz
 exact ⟨z, by rw [List.getElem?_eq_getElem (by omega), hz']⟩
/-- A slice of structs of k ints: its cells. -/
theorem trod_rows {t e : TypeId} {fs : Array Field} {v : Value} {d : DataW H} {p : List MemPlace} {r : Reach} {b0 : Nat} (ht : P.underlying t = some (.slice e)) (he : P.underlying e = some (.struct fs)) (hone : oneCellFields P fs = true)
  (hint : ∀ (j : Nat) (f : Field), fs[j]? = some f → P.underlying f.type = some (.int .i64)) (hC : P.cellsOf e = fs.size) (hk : 0 < fs.size) (hv : Value.okWide P w r b0 t v) (h : DataW.Trod enc P w base spare held t v d p) :
  ∃ (A : Option Addr) (n c : Nat) (F : Nat → Nat → Int), v = .slice A n c ∧ n ≤ maxLen ∧ (0 < n → ∃ b off, A = some ⟨b, off, none⟩ ∧ b < w.heap.size ∧ ∀ i j, i < n → j < fs.size → w.cell? ⟨b, off + i * fs.size + j, none⟩ = some (.int .i64 (F i j))) := by
 obtain ⟨A, n, c, rfl⟩ := okWide_slice ht hv
 obtain ⟨fuel, hf⟩ := h
 rcases open_slice ht hf with ⟨hcs, _⟩ | ⟨a, len, cap, m, nn, D, Pl, hcs, hb, hl, hm, hmm, hx, hi⟩
 ·simp [Value.cells] at hcs
  obtain ⟨rfl, rfl, rfl⟩ := hcs
  exact ⟨none, 0, 0, fun _ _ => 0, rfl, Nat.zero_le _, fun h => absurd h (Nat.lt_irrefl 0)⟩
 ·simp [Value.cells] at hcs
  obtain ⟨rfl, rfl, rfl⟩ := hcs
  have hlm : n ≤ m := by rw [hmm]; split <;> omega
  have key : ∀ i, i < n → ∀ j, j < fs.size → ∃ z : Int, w.cell? (a.add (i * fs.size + j)) = some (.int .i64 z) := by
   intro i hin j hj
   obtain ⟨cs', hc, ht'⟩ := hi i (by omega)
   rw [hC] at hc
   obtain ⟨_, hcl, hat⟩ := World.cells?_some hc
   obtain ⟨z, hz⟩ := trod_int_fields he hone hint hcl ht' j hj
   have := hat j hj
   rw [← Go.Deep.add_add, this, hz]
   exact ⟨z, rfl⟩
  refine ⟨some a, n, c, fun i j => if h : i < n ∧ j < fs.size then Classical.choose (key i h.1 j h.2) else 0, rfl, by omega, fun hn => ?_⟩
  obtain ⟨z0, h0⟩ := key 0 hn 0 hk
  have hadd0 : a.add (0 * fs.size + 0) = a := by simp [Addr.add]
  rw [hadd0] at h0
  obtain ⟨b, off, sp⟩ := a
  have hsp : sp = none := by
   unfold World.cell? at h0
   cases sp with
   | none => rfl
   | some x => split at h0 <;> simp at h0
  subst hsp
  refine ⟨b, off, rfl, ?_, fun i j hin hj => ?_⟩
  ·unfold World.cell? at h0
   split at h0
   ·rename_i hh
    exact (Array.getElem?_eq_some_iff.1 hh).1
   ·cases h0
  ·have hz := Classical.choose_spec (key i hin j hj)
   have e1 : (⟨b, off, none⟩ : Addr).add (i * fs.size + j) = ⟨b, off + i * fs.size + j, none⟩ := by unfold Addr.add; split <;> simp_all [Nat.add_assoc]
   rw [← e1]
   simp only [dif_pos (And.intro hin hj)]
   exact hz
/-- .. rectangles. -/
theorem trod_rects {t e : TypeId} {fs : Array Field} {v : Value} {d : DataW H} {p : List MemPlace} {r : Reach} {b0 : Nat} (ht : P.underlying t = some (.slice e)) (he : P.underlying e = some (.struct fs)) (hone : oneCellFields P fs = true)
  (hint : ∀ (j : Nat) (f : Field), fs[j]? = some f → P.underlying f.type = some (.int .i64)) (hC : P.cellsOf e = 4) (hk : fs.size = 4) (hv : Value.okWide P w r b0 t v) (h : DataW.Trod enc P w base spare held t v d p) :
  ∃ l : List R4, RdK encR 4 w w.heap.size v l ∧ l.length ≤ maxLen := by
 obtain ⟨A, n, c, F, rfl, hn, hF⟩ := trod_rows ht he hone hint (hC.trans hk.symm) (by omega) hv h
 rw [hk] at hF
 refine ⟨(List.range n).map fun i => ⟨F i 0, F i 1, F i 2, F i 3⟩, ⟨A, c, by simp, fun hl => ?_⟩, by simpa using hn⟩
 have hn0 : 0 < n := by
  rcases Nat.eq_zero_or_pos n with h | h
  ·subst h; exact absurd rfl hl
  ·exact h
 obtain ⟨b, off, hA, hb, hc⟩ := hF hn0
 refine ⟨b, off, hA, hb, fun j x hj i u hu => ?_⟩
 have hjn : j < n := by have := (List.getElem?_eq_some_iff.1 hj).1; simpa using this
 rw [List.getElem?_map, List.getElem?_range hjn] at hj
 simp only [Option.map_some, Option.some.injEq] at hj
 subst hj
 have hi : i < 4 := (List.getElem?_eq_some_iff.1 hu).1
 rw [hc j i hjn hi]
 match i, hi with
 | 0, _ => exact hu
 | 1, _ => exact hu
 | 2, _ => exact hu
 | 3, _ => exact hu
end
theorem rect_fields : ∀ (j : Nat) (f : Field), (match Tryz.prog.underlying 49 with | some (.struct fs) => fs | _ => #[])[j]? = some f → Tryz.prog.underlying f.type = some (.int .i64) := by
 rw [Tryz.underlying49]
 intro j f hf
 match j, hf with
 | 0, hf => simp at hf; subst hf; exact Tryz.underlying3
 | 1, hf => simp at hf; subst hf; exact Tryz.underlying3
 | 2, hf => simp at hf; subst hf; exact Tryz.underlying3
 | 3, hf => simp at hf; subst hf; exact Tryz.underlying3
 | j + 4, hf => simp at hf
end Go.Proofs.YtdfpbhlnlkjjlaaGreat
namespace Go.Proofs.YtdfpbhlnlkjjlaaGreat
open Go.ChangeShapes Go.WideShapes Go.ChangeAt Go.RowKit Go.Joins Go.Deep
set_option linter.unusedVariables false
set_option linter.unusedSimpArgs false
/-- The slice v reads as the lists bs, all of it below block B. -/
def RdRR (w : World) (B : Nat) (v : Value) (bs : List (List R4)) : Prop :=
 ∃ A c, v = .slice A bs.length c ∧ (bs ≠ [] → ∃ b off, A = some ⟨b, off, none⟩ ∧ b < B ∧ ∀ j x, bs[j]? = some x → ∃ u, w.cell? ⟨b, off + j, none⟩ = some u ∧ RdK encR 4 w B u x)
theorem RdRR.keep {w w' : World} {B : Nat} {v : Value} {bs : List (List R4)} (h : RdRR w B v bs) (hk : ∀ b o, b < B → w'.cell? ⟨b, o, none⟩ = w.cell? ⟨b, o, none⟩) : RdRR w' B v bs := by
 obtain ⟨A, c, hv, h⟩ := h
 refine ⟨A, c, hv, fun hl => ?_⟩
 obtain ⟨b, off, hA, hb, hc⟩ := h hl
 refine ⟨b, off, hA, hb, fun j x hx => ?_⟩
 obtain ⟨u, h1, h2⟩ := hc j x hx
 exact ⟨u, (hk b _ hb).trans h1, h2.keep hk⟩
theorem RdRR.mono {w : World} {B B' : Nat} {v : Value} {bs : List (List R4)} (h : RdRR w B v bs) (hB : B ≤ B') : RdRR w B' v bs := by
 obtain ⟨A, c, hv, h⟩ := h
 refine ⟨A, c, hv, fun hl => ?_⟩
 obtain ⟨b, off, hA, hb, hc⟩ := h hl
 refine ⟨b, off, hA, by omega, fun j x hx => ?_⟩
 obtain ⟨u, h1, h2⟩ := hc j x hx
 exact ⟨u, h1, h2.mono hB⟩
theorem RdRR.below {w w' : World} {B : Nat} {v : Value} {bs : List (List R4)} (h : RdRR w B v bs) (hb : Below B w w') : RdRR w' B v bs := h.keep fun b o hlt => hb.cell (p := ⟨b, o, none⟩) hlt
section
variable {H : Type} {enc : TypeId × Value → H} {P : Program} {w : World} {base : Nat} {spare : Nat → Bool} {held : Bool}
end
end Go.Proofs.YtdfpbhlnlkjjlaaGreat
namespace Go.Proofs.YtdfpbhlnlkjjlaaGreat
open Go.RowKit
set_option linter.unusedVariables false
set_option linter.unusedSimpArgs false
/-- A cell of a list of regions. -/
theorem RdRR.get {w : World} {A : Option Addr} {n c : Nat} {bs : List (List R4)} (h : RdRR w w.heap.size (.slice A n c) bs) {j : Nat} {x : List R4} (hx : bs[j]? = some x) : ∃ b off A2 c2, A = some ⟨b, off, none⟩ ∧ b < w.heap.size ∧ w.cell? ⟨b, off + j, none⟩ = some (.slice A2 x.length c2) ∧ RdK encR 4 w w.heap.size (.slice A2 x.length c2) x := by
 obtain ⟨A1, c1, hv, h⟩ := h
 injection hv with e1 _ _
 subst e1
 obtain ⟨b, off, rfl, hb, k⟩ := h (by intro e; rw [e] at hx; simp at hx)
 obtain ⟨u, h1, h2⟩ := k j x hx
 obtain ⟨A2, c2, rfl, _⟩ := id h2
 exact ⟨b, off, A2, c2, rfl, hb, h1, h2⟩
end Go.Proofs.YtdfpbhlnlkjjlaaGreat
namespace Go.Proofs.YtdfpbhlnlkjjlaaGreat
open Go.RowKit Go.Maps
set_option linter.unusedVariables false
set_option linter.unusedSimpArgs false
def rectD (r : R4) : DataW Unit := .agg [.lit (.int .i64 r.x0), .lit (.int .i64 r.y0), .lit (.int .i64 r.x1), .lit (.int .i64 r.y1)]
/-- The map holds the rectangles of l at the indexes S. -/
def Mp (l : List R4) (S : Nat → Prop) (D : DataW Unit) : Prop :=
 (∀ kl, Maps.has D kl = true ↔ ∃ k, k < l.length ∧ S k ∧ kl = .int .i64 (k : Int)) ∧ ∀ (k : Nat) r, l[k]? = some r → S k → ∀ zd, D.atKey (.int .i64 (k : Int)) zd = rectD r
theorem key_ne {k j : Nat} (h : k ≠ j) : (Lit.int .i64 (k : Int)) ≠ .int .i64 (j : Int) := fun e => h (by injection e with _ e; omega)
theorem Mp.start (l : List R4) : Mp l (fun k => k < 0) (.map []) := by
 refine ⟨fun kl => ?_, fun k r _ h => absurd h (Nat.not_lt_zero _)⟩
 rw [has_eq]
 simp
theorem Mp.put {l : List R4} {D : DataW Unit} {m : Nat} {r : R4} (h : Mp l (fun k => k < m) D) (hD : IsMap D) (hr : l[m]? = some r) : Mp l (fun k => k < m + 1) (D.put (.int .i64 (m : Int)) (rectD r)) := by
 have hm := (List.getElem?_eq_some_iff.1 hr).1
 refine ⟨fun kl => ?_, fun k s hs hk zd => ?_⟩
 ·by_cases e : kl = .int .i64 (m : Int)
  ·subst e
   rw [has_put_same hD (show WideAt.IsKeyLit (.int .i64 (m : Int)) from trivial)]
   exact ⟨fun _ => ⟨m, hm, by omega, rfl⟩, fun _ => rfl⟩
  ·rw [has_put_other e, h.1]
   constructor
   ·rintro ⟨k, h1, h2, h3⟩
    exact ⟨k, h1, by omega, h3⟩
   ·rintro ⟨k, h1, h2, rfl⟩
    exact ⟨k, h1, by have : k ≠ m := fun e2 => e (by rw [e2]); omega, rfl⟩
 ·by_cases e : k = m
  ·subst e
   rw [hr] at hs
   injection hs with hs
   subst hs
   exact atKey_put_same hD (show WideAt.IsKeyLit (.int .i64 (k : Int)) from trivial) _ _
  ·rw [atKey_put_other (key_ne e)]
   exact h.2 k s hs (by omega) zd
theorem Mp.is {l : List R4} {S : Nat → Prop} {D : DataW Unit} (h : Mp l S D) {k : Nat} (hk : k < l.length) : Maps.has D (.int .i64 (k : Int)) = true ↔ S k := by
 rw [h.1]
 constructor
 ·rintro ⟨j, _, h2, h3⟩
  injection h3 with _ h3
  obtain rfl : k = j := by omega
  exact h2
 ·exact fun h => ⟨k, hk, h, rfl⟩
section
variable {w : World} {ops : Array Oper} {rest : List Oper} {o : Oper} {a : Act} {Q : Exit → Act → World → Prop}
end
/-- P: indexes of the component of m; of the first kk of them all neighbours are in P. -/
def Grow (l : List R4) (m : Nat) (P : List Nat) (kk : Nat) : Prop := (∀ p ∈ P, Conn l m p) ∧ m ∈ P ∧ ∀ i, i < kk → ∀ p, P[i]? = some p → ∀ n, adj l p n → n ∈ P
theorem Grow.start (l : List R4) (m : Nat) : Grow l m [m] 0 := ⟨fun p hp => by rw [List.mem_singleton] at hp; subst hp; exact .refl, List.mem_singleton.2 rfl, fun i h => absurd h (Nat.not_lt_zero _)⟩
theorem Grow.push {l : List R4} {m : Nat} {P : List Nat} {kk p n : Nat} (h : Grow l m P kk) (hkk : kk ≤ P.length) (hp : p ∈ P) (ha : adj l p n) : Grow l m (P ++ [n]) kk := by
 refine ⟨fun q hq => ?_, List.mem_append_left _ h.2.1, fun i hi q hq k hk => ?_⟩
 ·rcases List.mem_append.1 hq with hq | hq
  ·exact h.1 q hq
  ·rw [List.mem_singleton] at hq
   subst hq
   exact (h.1 p hp).step ha
 ·rw [List.getElem?_append_left (by omega)] at hq
  exact List.mem_append_left _ (h.2.2 i hi q hq k hk)
theorem Grow.next {l : List R4} {m : Nat} {P : List Nat} {kk p : Nat} (h : Grow l m P kk) (hp : P[kk]? = some p) (ha : ∀ n, adj l p n → n ∈ P) : Grow l m P (kk + 1) := by
 refine ⟨h.1, h.2.1, fun i hi q hq => ?_⟩
 by_cases e : i = kk
 ·subst e
  rw [hp] at hq
  injection hq with hq
  subst hq
  exact ha
 ·exact h.2.2 i (by omega) q hq
theorem Grow.all {l : List R4} {m : Nat} {P : List Nat} {kk : Nat} (h : Grow l m P kk) (hkk : P.length ≤ kk) {k : Nat} : k ∈ P ↔ Conn l m k := by
 refine ⟨h.1 k, fun c => ?_⟩
 induction c with
 | refl => exact h.2.1
 | step _ a ih =>
  obtain ⟨i, hi, e⟩ := List.getElem_of_mem ih
  exact h.2.2 i (by omega) _ (by rw [← e]; exact List.getElem?_eq_getElem hi) _ a
def left4 (l : List R4) (P : List Nat) : List R4 := P.filterMap fun k => l[k]?
end Go.Proofs.YtdfpbhlnlkjjlaaGreat
namespace Go.Proofs.YtdfpbhlnlkjjlaaGreat
open Go.RowKit Go.Maps
set_option linter.unusedVariables false
set_option linter.unusedSimpArgs false
/-- The part that is being found, the map, and all else as it was at W. -/
structure PS (l : List R4) (W : World) (bM m : Nat) (P : List Nat) (kk : Nat) (v : Value) (D : DataW Unit) (wi : World) : Prop where
 grow : Grow l m P kk
 mp : Mp l (fun k => m ≤ mn l k ∧ k ∉ P) D
 size : P.length + Maps.size D ≤ l.length
 row : wi.ownsRow W.heap.size 49 4 v P.length ((left4 l P).flatMap encR)
 same : W.grownBy wi (some bM)
theorem PS.lt {l : List R4} {W wi : World} {bM m kk : Nat} {P : List Nat} {v : Value} {D : DataW Unit} (h : PS l W bM m P kk v D wi) (hm : m < l.length) : ∀ p ∈ P, p < l.length := fun p hp => (h.grow.1 p hp).lt hm
/-- What the range has left over so far is not beside p. -/
def Off (l : List R4) (p : Nat) (D : DataW Unit) (left : Lit → Bool) : Prop := ∀ n, n < l.length → Maps.has D (.int .i64 (n : Int)) = true → left (.int .i64 (n : Int)) = false → ¬ adj l p n
theorem Off.start (l : List R4) (p : Nat) (D : DataW Unit) : Off l p D (Maps.has D) := fun n _ h1 h2 => by rw [h1] at h2; cases h2
theorem same_false {k n : Nat} (h : k ≠ n) : (Lit.int .i64 (n : Int)).sameKey (.int .i64 (k : Int)) = false := sameKey_ne (key_ne (Ne.symm h))
theorem Off.stay {l : List R4} {p k : Nat} {D : DataW Unit} {left : Lit → Bool} (h : Off l p D left) (hn : ¬ adj l p k) : Off l p D (fun z => left z && !z.sameKey (.int .i64 (k : Int))) := fun n hn1 h1 h2 => by
 by_cases e : k = n
 ·subst e; exact hn
 ·refine h n hn1 h1 ?_
  simpa [same_false e] using h2
theorem Off.done {l : List R4} {W wi : World} {bM m kk : Nat} {P : List Nat} {v : Value} {D : DataW Unit} {p : Nat} {left : Lit → Bool} (h : PS l W bM m P kk v D wi) (hm : mn l m = m) (hp : P[kk]? = some p) (ho : Off l p D left) (hl : ∀ kl, left kl = false) : PS l W bM m P (kk + 1) v D wi := by
 refine ⟨h.grow.next hp fun n ha => ?_, h.mp, h.size, h.row, h.same⟩
 by_cases hn : n ∈ P
 ·exact hn
 ·obtain ⟨_, y, _, hy, _⟩ := id ha
  have hlt := (List.getElem?_eq_some_iff.1 hy).1
  have hc := (h.grow.1 p (List.mem_of_getElem? hp)).step ha
  have hmn := mn_eq hc
  exact absurd ha (ho n hlt ((h.mp.is hlt).2 ⟨by omega, hn⟩) (hl _))

end Go.Proofs.YtdfpbhlnlkjjlaaGreat
