/- Texts laid together: Chk, RefK, LookA, JoinA, OutV, OutE, OutF, OutG, OutJ, TouchA, TouchB, MParts, MLook, MCount, MAlg, OutX, OutP, OulA, HeldF. Lemmas for the statements of this seat; no condition. -/
import Derived.Test.YtdfpbhlnlkjjlaaGreatPk6
import Derived.Test.YtdfpbhlnlkjjlaaGreatPk5
import Derived.Test.YtdfpbhlnlkjjlaaGreatPk2
import Derived.Laws.StructEq
import Derived.Deep.QuietTactic
import Derived.BigQuiet
import Derived.Test.YtdfpbhlnlkjjlaaGreatPk1

/- region.Make, region.Check, region.Has, region.Same, region.Area. -/
namespace Go.Proofs.YtdfpbhlnlkjjlaaGreat
open Go.RowKit
set_option linter.unusedVariables false
set_option linter.unusedSimpArgs false
def checkF (l : List R4) : Int := if 400 < l.length then 4 else if l.any (fun r => !decide (valid4 r)) then 8 else if (madeF l).2 = 0 ∧ (madeF l).1 = l then 0 else 8
def area4 (r : R4) : Int := (r.x1 - r.x0) * (r.y1 - r.y0)
def areaS (l : List R4) : Int := (l.map area4).sum
def areaF (l : List R4) : Int × Int := if checkF l = 0 then (areaS l, 0) else (0, checkF l)
theorem all_valid {l : List R4} (h : l.any (fun r => !decide (valid4 r)) = false) : ∀ r ∈ l, valid4 r := by
 intro r hr
 have := List.any_eq_false.1 h r hr
 simpa using this
theorem madeF_code (l : List R4) : (madeF l).2 = 0 ∨ (madeF l).2 = 4 := by
 unfold madeF
 split
 ·exact .inr rfl
 ·exact .inl rfl
theorem RegRet.mono {B B' : Nat} {x : List R4 × Int} {e : Ending} {w' : World} (h : RegRet B' x e w') (hb : B ≤ B') : RegRet B x e w' := by
 obtain ⟨A, c, h1, h2⟩ := h
 exact ⟨A, c, h1, own_base h2 hb⟩
set_option maxHeartbeats 1000000 in
theorem ckInv_any (r : R4) (w : World) :
  Calls Tryz.prog 55 #[.agg (encR r).toArray] w fun e w' => e = .returned (.bool (!decide (valid4 r))) ∧ Below w.heap.size w w' := by
 have hv := fun W => valid_any r W
 obtain ⟨a, b, c, d⟩ := r
 generalize decide (valid4 ⟨a, b, c, d⟩) = r at hv ⊢
 show Calls Tryz.prog 55 #[.agg #[.int .i64 a, .int .i64 b, .int .i64 c, .int .i64 d]] w _
 change ∀ W, Calls Tryz.prog 56 #[.agg #[.int .i64 a, .int .i64 b, .int .i64 c, .int .i64 d]] W _ at hv
 go_enter Tryz.func55, Tryz.ntmps55
 go_wp2_with (go_at_call 56; refine (hv _).mono ?_; rintro e w1 ⟨rfl, hb⟩)
 go_ret
 exact ⟨rfl, ((Below.refl _ _).alloc (Nat.le_refl _) _).trans (hb.mono (by simp))⟩
theorem enter_ckInv : ∀ args w, (callFunc 55 args).run Tryz.prog w = .ok (.enter 55 args) w := enters_of Tryz.func55 (by kernel_rfl) rfl
set_option maxHeartbeats 1000000 in
theorem check_any {w : World} {v : Value} {l : List R4} (hr : RdK encR 4 w w.heap.size v l) (hl : l.length ≤ 100000000) :
    Calls Tryz.prog 33 #[v] w fun e w' => e = .returned (.int .i64 (checkF l)) ∧ Below w.heap.size w w' := by
  have hcf := cfReg_any hr (by omega) 55 #[] (fun r => !decide (valid4 r)) enter_ckInv (fun W x _ _ => ckInv_any x W)
  obtain ⟨A, c, hv, _⟩ := id hr
  subst hv
  have HR := hide hr
  have HCF := hide hcf
  clear hcf hr
  by_cases h4 : 400 < l.length
  · have hz : (400 : Int) < (l.length : Int) := by omega
    have hm : checkF l = 4 := if_pos h4
    have HM := hide hm
    clear hm
    go_enter Tryz.func33, Tryz.ntmps33
    go_wp2
    go_ret
    exact ⟨ret_eq (int_eq HM.out.symm), Below.refl _ _⟩
  · have hz : (l.length : Int) ≤ 400 := by omega
    cases ha : l.any (fun r => !decide (valid4 r)) with
    | true =>
      have hm : checkF l = 8 := by unfold checkF; rw [if_neg h4, ha]; rfl
      rw [ha] at HCF
      have HM := hide hm
      clear hm ha
      go_enter Tryz.func33, Tryz.ntmps33
      go_wp2_with (first
        | (go_at_call 54; refine HCF.out.mono ?_; rintro e w1 ⟨rfl, hb1⟩))
      go_ret
      exact ⟨ret_eq (int_eq HM.out.symm), hb1⟩
    | false =>
      have hm : checkF l = if (madeF l).2 = 0 ∧ (madeF l).1 = l then 0 else 8 := by unfold checkF; rw [if_neg h4, ha]; rfl
      have HV := hide (all_valid ha)
      have hcode := madeF_code l
      have hmd : ∀ W, Below w.heap.size w W → _ := fun W hb => made_any ((HR.out.below hb).mono hb.size) (by omega) HV.out
      have heq : ∀ (W : World) (vs : Value), Below w.heap.size w W → RdK encR 4 W W.heap.size vs (madeF l).1 → (madeF l).1.length ≤ 100000000 → _ := fun W vs hb h1 h2 => eqRect_any h1 ((HR.out.below hb).mono hb.size) h2 (Nat.le_refl _) (Nat.le_refl _)
      have hlen : (madeF l).1.length ≤ 400 := by unfold madeF; split; · simp
                                                 · simp only; omega
      rw [ha] at HCF
      generalize madeF l = R at *
      obtain ⟨R1, R2⟩ := R
      simp only at *
      have HMD := hide hmd
      have HEQ := hide heq
      have HM := hide hm
      clear hm ha hmd heq
      rcases hcode with rfl | rfl
      · cases hd : decide (R1 = l) with
        | true =>
          have HD := hide hd
          clear hd
          go_enter Tryz.func33, Tryz.ntmps33
          go_wp2_with (first
            | (go_at_call 54; refine HCF.out.mono ?_; rintro e w1 ⟨rfl, hb1⟩)
            | (go_at_call 43; refine (HMD.out _ hb1).mono ?_; rintro e w2 ⟨⟨A2, c2, rfl, ho2⟩, hb2⟩; have HO := hide ho2; clear ho2)
            | (go_at_call 57; refine (HEQ.out _ _ (hb1.trans (hb2.mono hb1.size)) (own_rd HO.out (fun _ => rfl)) (by omega)).mono ?_; rintro e w3 ⟨rfl, hb3⟩; rw [HD.out]))
          go_ret
          exact ⟨ret_eq (int_eq (by rw [HM.out, if_pos ⟨trivial, of_decide_eq_true HD.out⟩])), (hb1.trans (hb2.mono hb1.size)).trans (hb3.mono (Nat.le_trans hb1.size hb2.size))⟩
        | false =>
          have HD := hide hd
          clear hd
          go_enter Tryz.func33, Tryz.ntmps33
          go_wp2_with (first
            | (go_at_call 54; refine HCF.out.mono ?_; rintro e w1 ⟨rfl, hb1⟩)
            | (go_at_call 43; refine (HMD.out _ hb1).mono ?_; rintro e w2 ⟨⟨A2, c2, rfl, ho2⟩, hb2⟩; have HO := hide ho2; clear ho2)
            | (go_at_call 57; refine (HEQ.out _ _ (hb1.trans (hb2.mono hb1.size)) (own_rd HO.out (fun _ => rfl)) (by omega)).mono ?_; rintro e w3 ⟨rfl, hb3⟩; rw [HD.out]))
          go_ret
          exact ⟨ret_eq (int_eq (by rw [HM.out, if_neg (fun h => of_decide_eq_false HD.out h.2)])), (hb1.trans (hb2.mono hb1.size)).trans (hb3.mono (Nat.le_trans hb1.size hb2.size))⟩
      · go_enter Tryz.func33, Tryz.ntmps33
        go_wp2_with (first
          | (go_at_call 54; refine HCF.out.mono ?_; rintro e w1 ⟨rfl, hb1⟩)
          | (go_at_call 43; refine (HMD.out _ hb1).mono ?_; rintro e w2 ⟨⟨A2, c2, rfl, ho2⟩, hb2⟩; have HO := hide ho2; clear ho2))
        go_ret
        exact ⟨ret_eq (int_eq (by rw [HM.out, if_neg (fun h => by simp at h)])), hb1.trans (hb2.mono hb1.size)⟩
theorem areaS_take {l : List R4} {m : Nat} {r : R4} (h : l[m]? = some r) : areaS (l.take (m + 1)) = areaS (l.take m) + area4 r := by
 obtain ⟨hm, hp⟩ := List.getElem?_eq_some_iff.1 h
 rw [List.take_succ_eq_append_getElem hm, hp]
 simp [areaS]
theorem area4_bd {r : R4} (h : valid4 r) : 0 ≤ area4 r ∧ area4 r ≤ 4000000000000 := by
 obtain ⟨h1, h2, ⟨a, b⟩, ⟨c, d⟩, ⟨e, f⟩, ⟨g, i⟩⟩ := h
 unfold area4
 have k1 : 0 ≤ r.x1 - r.x0 := by omega
 have k2 : 0 ≤ r.y1 - r.y0 := by omega
 refine ⟨Int.mul_nonneg k1 k2, ?_⟩
 have := Int.mul_le_mul (show r.x1 - r.x0 ≤ 2000000 by omega) (show r.y1 - r.y0 ≤ 2000000 by omega) k2 (by omega)
 omega
theorem areaS_bd : ∀ {l : List R4}, (∀ r ∈ l, valid4 r) → 0 ≤ areaS l ∧ areaS l ≤ 4000000000000 * l.length
 | [], _ => by simp [areaS]
 | r :: l, h => by
  have h1 := areaS_bd (l := l) fun r hr => h r (by simp [hr])
  have h2 := area4_bd (h r (by simp))
  have e : areaS (r :: l) = area4 r + areaS l := by simp [areaS]
  rw [e, List.length_cons]
  omega
theorem checkF_ok {l : List R4} (h : checkF l = 0) : l.length ≤ 400 ∧ (∀ r ∈ l, valid4 r) ∧ madeF l = (l, 0) := by
 unfold checkF at h
 by_cases h4 : 400 < l.length
 ·rw [if_pos h4] at h; simp at h
 rw [if_neg h4] at h
 cases ha : l.any (fun r => !decide (valid4 r)) with
 | true => rw [ha] at h; simp at h
 | false =>
  rw [ha] at h
  refine ⟨by omega, all_valid ha, ?_⟩
  by_cases hm : (madeF l).2 = 0 ∧ (madeF l).1 = l
  ·exact Prod.ext hm.2 hm.1
  ·simp [hm] at h
set_option maxHeartbeats 2000000 in
theorem area_any {w : World} {v : Value} {l : List R4} (hr : RdK encR 4 w w.heap.size v l) (hl : l.length ≤ 100000000) :
  Calls Tryz.prog 26 #[v] w fun e w' => e = .returned (.tuple #[.int .i64 (areaF l).1, .int .i64 (areaF l).2]) ∧ Below w.heap.size w w' := by
 have hck := check_any hr hl
 obtain ⟨A, c, hv, hc⟩ := id hr
 subst hv
 have HCK := hide hck
 clear hck
 by_cases h0 : checkF l = 0
 ·obtain ⟨k1, k2, _⟩ := checkF_ok h0
  have hf : areaF l = (areaS l, 0) := if_pos h0
  have HF := hide hf
  rw [h0] at HCK
  have HV := hide k2
  have HRC := hide hc
  clear hf h0 k2 hr hc
  go_enter Tryz.func26, Tryz.ntmps26
  go_wp2_with (go_at_call 33; refine HCK.out.mono ?_; rintro e w1 ⟨rfl, hb1⟩)
  go_loopw [5, 15] (fun s i wr => ∃ m : Nat, m ≤ l.length ∧ i = .int .i64 m ∧ s = .int .i64 (areaS (l.take m)) ∧ Below w.heap.size w wr) (fun _ i _ => l.length - (intOf i).toNat)
  case atStart => exact ⟨0, Nat.zero_le _, rfl, by simp [areaS], hb1⟩
  case round =>
   clear hb1
   obtain ⟨m, hm, rfl, rfl, hb⟩ := hrel
   by_cases hlt : m < l.length
   ·obtain ⟨⟨x0, y0, x1, y1⟩, hp⟩ : ∃ p, l[m]? = some p := ⟨_, List.getElem?_eq_getElem hlt⟩
    obtain ⟨b, o, rfl, hbl, k⟩ := HRC.out (by intro e; rw [e] at hlt; simp at hlt)
    have d0 : wr.cell? ⟨b, o + m * 4, none⟩ = some (.int .i64 x0) := (hb.cell (p := ⟨b, _, none⟩) hbl).trans (k m _ hp 0 _ rfl)
    have d1 : wr.cell? ⟨b, o + m * 4 + 1, none⟩ = some (.int .i64 y0) := (hb.cell (p := ⟨b, _, none⟩) hbl).trans (k m _ hp 1 _ rfl)
    have d2 : wr.cell? ⟨b, o + m * 4 + 2, none⟩ = some (.int .i64 x1) := (hb.cell (p := ⟨b, _, none⟩) hbl).trans (k m _ hp 2 _ rfl)
    have d3 : wr.cell? ⟨b, o + m * 4 + 3, none⟩ = some (.int .i64 y1) := (hb.cell (p := ⟨b, _, none⟩) hbl).trans (k m _ hp 3 _ rfl)
    obtain ⟨v1, v2, ⟨v3, v4⟩, ⟨v5, v6⟩, ⟨v7, v8⟩, ⟨v9, v10⟩⟩ := HV.out _ (List.mem_of_getElem? hp)
    have ba := area4_bd (HV.out _ (List.mem_of_getElem? hp))
    have bs := areaS_bd (l := l.take m) fun r hr => HV.out r (List.mem_of_mem_take hr)
    rw [List.length_take] at bs
    have HT := hide (areaS_take hp)
    have mz : (m : Int) < (l.length : Int) := by omega
    have lz : (l.length : Int) ≤ 400 := by omega
    simp only [area4] at ba v1 v2 v3 v4 v5 v6 v7 v8 v9 v10
    clear k hp
    generalize areaS (l.take m) = s at *
    have bs1 := bs.1
    have bs2 : s ≤ 1600000000000000 := by omega
    have ba1 := ba.1
    have ba2 := ba.2
    clear bs ba
    go_wp2
    go_roundw
    case rel => exact ⟨m + 1, by omega, by go_num, by rw [HT.out]; rfl, hb.alloc hb.size _⟩
    case measure => simp [intOf]; omega
   ·have mz : ¬ (m : Int) < (l.length : Int) := by omega
    have ht : l.take m = l := List.take_of_length_le (by omega)
    have HT := hide ht
    clear ht
    go_wp2
    go_ret2
    exact ⟨by rw [HF.out, HT.out]; rfl, hb⟩
 ·have hf : areaF l = (0, checkF l) := if_neg h0
  have HF := hide hf
  clear hf
  generalize checkF l = ck at *
  have hne : (ck != 0) = true := by simpa using h0
  clear h0
  go_enter Tryz.func26, Tryz.ntmps26
  go_wp2_with (go_at_call 33; refine HCK.out.mono ?_; rintro e w1 ⟨rfl, hb1⟩)
  go_ret2
  exact ⟨by rw [HF.out]; rfl, hb1⟩
end Go.Proofs.YtdfpbhlnlkjjlaaGreat

/- The reference's Check, Make, Area. -/
namespace Go.Proofs.YtdfpbhlnlkjjlaaGreat
open Go.RowKit
set_option linter.unusedVariables false
set_option linter.unusedSimpArgs false
theorem rjoin_or {l : List R4} (h : ∀ r ∈ l, wf4 r) : rjoin (hk 2) l [] = rjoin hFst l [] := by
 obtain ⟨h1, h2⟩ := rjoin_ok (h := hk 2) rfl h (b := []) (by simp)
 refine rjoin_eq rfl h (by simp) h1 fun x y => ?_
 rw [h2]
 have : decide (pmem ([] : List R4) x y) = false := decide_eq_false pmem_nil
 rw [this]
 simp [hk, hFst]
theorem isortI_len : ∀ (l : List Int), (isortI l).length ≤ l.length
 | [] => Nat.le_refl _
 | c :: l => by
  have h1 := insI_len c (isortI l)
  have h2 := isortI_len l
  simp only [isortI, List.length_cons]
  omega
theorem rjoin_len (l : List R4) (hl : l.length ≤ 400) : (rjoin hFst l []).length ≤ 100000000 := by
 have h1 := swp_len (fun c => sjoin hFst (crossL l c) (crossL [] c)) 1000 (fun c => by
  have h1 := sjoin_len hFst (crossL l c) (crossL [] c)
  have h2 := crossL_len l c
  have h3 : (crossL [] c).length = 0 := rfl
  omega) (prs (isortI (cutsL l ++ cutsL [])))
 rw [swp_sweep] at h1
 have h2 := prs_len (isortI (cutsL l ++ cutsL []))
 have h3 := isortI_len (cutsL l ++ cutsL [])
 rw [List.length_append, cutsL_len, cutsL_len] at h3
 simp only [List.length_nil] at h3
 unfold rjoin
 have h4 : (prs (isortI (cutsL l ++ cutsL []))).length ≤ 1000 := by omega
 have h5 := Nat.mul_le_mul_right 1000 h4
 omega
theorem checkF_valid {l : List R4} (h4 : ¬ 400 < l.length) (ha : l.any (fun r => !decide (valid4 r)) = false) : checkF l = if rjoin hFst l [] = l then 0 else 8 := by
 unfold checkF
 rw [if_neg h4, ha]
 simp only [Bool.false_eq_true, if_false]
 unfold madeF
 by_cases hr : rjoin hFst l [] = l
 ·rw [hr, if_neg h4, if_pos rfl, if_pos ⟨rfl, rfl⟩]
 ·rw [if_neg hr]
  by_cases h5 : 400 < (rjoin hFst l []).length
  ·rw [if_pos h5, if_neg (by simp)]
  ·rw [if_neg h5, if_neg (fun h => hr h.2)]
set_option maxRecDepth 100000 in
set_option maxHeartbeats 2000000 in
theorem rCheck_any {w : World} {v : Value} {l : List R4} (hr : RdK encR 4 w w.heap.size v l) (hl : l.length ≤ 100000000) :
  Calls Tryz.prog 32 #[v] w fun e w' => e = .returned (.int .i64 (checkF l)) ∧ Below w.heap.size w w' := by
 obtain ⟨A, c, hv, hc⟩ := id hr
 subst hv
 have HR := hide hr
 have HRC := hide hc
 clear hr hc
 by_cases h4 : 400 < l.length
 ·have hz : (400 : Int) < (l.length : Int) := by omega
  have hm : checkF l = 4 := if_pos h4
  have HM := hide hm
  clear hm
  go_enter Tryz.func32, Tryz.ntmps32
  go_wp2
  go_ret
  exact ⟨ret_eq (int_eq HM.out.symm), Below.refl _ _⟩
 ·have hz : (l.length : Int) ≤ 400 := by omega
  have hck : ∀ ha : l.any (fun r => !decide (valid4 r)) = false, checkF l = if rjoin hFst l [] = l then 0 else 8 := checkF_valid h4
  have hck8 : ∀ ha : l.any (fun r => !decide (valid4 r)) = true, checkF l = 8 := fun ha => by unfold checkF; rw [if_neg h4, ha]; rfl
  have HCK := hide hck
  have HCK8 := hide hck8
  clear hck hck8
  go_enter Tryz.func32, Tryz.ntmps32
  go_wp2
  go_loopw [3] (fun i wr => ∃ m : Nat, m ≤ l.length ∧ i = .int .i64 m ∧ Hid (∀ r ∈ l.take m, valid4 r) ∧ Hid (Below w.heap.size w wr)) (fun i _ => l.length - (intOf i).toNat)
  case atStart => exact ⟨0, Nat.zero_le _, rfl, hide (by simp), hide (Below.refl _ _)⟩
  case round =>
   obtain ⟨m, hm, rfl, HV, HB⟩ := hrel
   by_cases hlt : m < l.length
   ·obtain ⟨⟨x0, y0, x1, y1⟩, hp⟩ : ∃ p, l[m]? = some p := ⟨_, List.getElem?_eq_getElem hlt⟩
    obtain ⟨b, o, rfl, hbl, k⟩ := HRC.out (by intro e; rw [e] at hlt; simp at hlt)
    have d0 : wr.cell? ⟨b, o + m * 4, none⟩ = some (.int .i64 x0) := (HB.out.cell (p := ⟨b, _, none⟩) hbl).trans (k m _ hp 0 _ rfl)
    have d1 : wr.cell? ⟨b, o + m * 4 + 1, none⟩ = some (.int .i64 y0) := (HB.out.cell (p := ⟨b, _, none⟩) hbl).trans (k m _ hp 1 _ rfl)
    have d2 : wr.cell? ⟨b, o + m * 4 + 2, none⟩ = some (.int .i64 x1) := (HB.out.cell (p := ⟨b, _, none⟩) hbl).trans (k m _ hp 2 _ rfl)
    have d3 : wr.cell? ⟨b, o + m * 4 + 3, none⟩ = some (.int .i64 y1) := (HB.out.cell (p := ⟨b, _, none⟩) hbl).trans (k m _ hp 3 _ rfl)
    have mz : (m : Int) < (l.length : Int) := by omega
    have hva := rValid_any ⟨x0, y0, x1, y1⟩ wr
    have HP := hide hp
    simp only [encR] at hva
    have HVA := hide hva
    have hp' := hp
    clear k hp hva
    cases hq : decide (valid4 ⟨x0, y0, x1, y1⟩) with
    | true =>
     have HQ := hide hq
     rw [hq] at HVA
     clear hq hp'
     go_wp2_with (go_at_call 52; refine HVA.out.mono ?_; rintro e w2 ⟨rfl, hb2⟩)
     go_roundw
     case rel =>
      refine ⟨m + 1, by omega, by go_num, hide ?_, hide (HB.out.trans (hb2.mono HB.out.size))⟩
      obtain ⟨i1, e1⟩ := List.getElem?_eq_some_iff.1 HP.out
      intro r hr
      rw [List.take_succ_eq_append_getElem i1, List.mem_append] at hr
      rcases hr with hr | hr
      ·exact HV.out r hr
      ·rw [List.mem_singleton] at hr
       subst hr
       rw [e1]
       exact of_decide_eq_true HQ.out
     case measure => simp [intOf]; omega
    | false =>
     have hany : l.any (fun r => !decide (valid4 r)) = true := List.any_eq_true.2 ⟨_, List.mem_of_getElem? hp', by rw [hq]; rfl⟩
     have HAN := hide hany
     rw [hq] at HVA
     clear hq hany hp'
     go_wp2_with (go_at_call 52; refine HVA.out.mono ?_; rintro e w2 ⟨rfl, hb2⟩)
     go_ret
     exact ⟨ret_eq (int_eq (HCK8.out HAN.out).symm), HB.out.trans (hb2.mono HB.out.size)⟩
   ·have mz : ¬ (m : Int) < (l.length : Int) := by omega
    have hva : ∀ r ∈ l, valid4 r := by have := HV.out; rwa [List.take_of_length_le (by omega)] at this
    have hany : l.any (fun r => !decide (valid4 r)) = false := by
     rw [List.any_eq_false]
     intro r hr
     simp [hva r hr]
    have HAN := hide hany
    have HW := hide (fun (r : R4) (h : r ∈ l) => (show wf4 r from ⟨(hva r h).1, (hva r h).2.1⟩))
    have hjo := rJoined_any 2 (.inr (.inl rfl)) (w := wr) (HR.out.below HB.out) (RdK.nil (α := R4) none 0) HB.out.size (by omega) (by simp)
    rw [ref_join (h := hk 2) rfl HW.out (by simp), rjoin_or HW.out] at hjo
    have hsz := HB.out.size
    have HJO := hide hjo
    clear hjo hany hva
    have HRL := hide (rjoin_len l (by omega))
    generalize rjoin hFst l [] = R at *
    have heq : ∀ (W : World) (vs : Value), Below w.heap.size w W → W.ownsRow wr.heap.size 49 4 vs R.length (R.flatMap encR) → _ := fun W vs h1 h2 => rSameRects_any (w := W) (own_rd h2 (fun _ => rfl)) ((HR.out.below h1).mono h1.size) HRL.out (Nat.le_refl _) (Nat.le_refl _)
    have HEQ := hide heq
    clear heq
    cases hd : decide (R = l) with
    | true =>
     have HD := hide hd
     clear hd
     go_wp2_with (first
      | (go_at_call 53; refine HJO.out.mono ?_; rintro e w2 ⟨vo, rfl, ho, hb2⟩; have HO := hide ho; have HB2 := hide hb2; clear ho hb2)
      | (go_at_call 20; refine (HEQ.out _ _ (HB.out.trans (HB2.out.mono hsz)) HO.out).mono ?_; rintro e w3 ⟨rfl, hb3⟩; rw [HD.out]))
     go_ret
     exact ⟨ret_eq (int_eq (by rw [HCK.out HAN.out, if_pos (of_decide_eq_true HD.out)])), (HB.out.trans (HB2.out.mono hsz)).trans (hb3.mono (Nat.le_trans hsz HB2.out.size))⟩
    | false =>
     have HD := hide hd
     clear hd
     go_wp2_with (first
      | (go_at_call 53; refine HJO.out.mono ?_; rintro e w2 ⟨vo, rfl, ho, hb2⟩; have HO := hide ho; have HB2 := hide hb2; clear ho hb2)
      | (go_at_call 20; refine (HEQ.out _ _ (HB.out.trans (HB2.out.mono hsz)) HO.out).mono ?_; rintro e w3 ⟨rfl, hb3⟩; rw [HD.out]))
     go_ret
     exact ⟨ret_eq (int_eq (by rw [HCK.out HAN.out, if_neg (of_decide_eq_false HD.out)])), (HB.out.trans (HB2.out.mono hsz)).trans (hb3.mono (Nat.le_trans hsz HB2.out.size))⟩
end Go.Proofs.YtdfpbhlnlkjjlaaGreat

/- region.Cross, region.Move, region.Flip. -/
namespace Go.Proofs.YtdfpbhlnlkjjlaaGreat
open Go.RowKit
set_option linter.unusedVariables false
set_option linter.unusedSimpArgs false
def SpnRet (B : Nat) (x : List Sp × Int) (e : Ending) (w' : World) : Prop :=
 ∃ A c, e = .returned (.tuple #[.slice A x.1.length c, .int .i64 x.2]) ∧ w'.ownsRow B 104 2 (.slice A x.1.length c) x.1.length (x.1.flatMap encS)
def inMv (x : Int) : Prop := -2000000 ≤ x ∧ x ≤ 2000000
instance (x : Int) : Decidable (inMv x) := by unfold inMv; infer_instance
end Go.Proofs.YtdfpbhlnlkjjlaaGreat

/- span.Check at a canonical set; span.checked; span.Union, Meet, Minus; region.both and the reference's Both and Join. -/
namespace Go.Proofs.YtdfpbhlnlkjjlaaGreat
open Go.RowKit
set_option linter.unusedVariables false
set_option linter.unusedSimpArgs false
set_option maxRecDepth 100000 in
set_option maxHeartbeats 2000000 in
theorem spCheck_can {w : World} {v : Value} {s : List Sp} (hr : RdK encS 2 w w.heap.size v s) (hl : s.length ≤ 400) (hc : SCan s) (hv : ∀ p ∈ s, validS p) :
  Calls Tryz.prog 129 #[v] w fun e w' => e = .returned (.int .i64 0) ∧ Below w.heap.size w w' := by
 obtain ⟨A, c, rfl, hrd⟩ := hr
 have HR := hide hrd
 have HC := hide hc
 have HV := hide hv
 have lz : (s.length : Int) ≤ 400 := by omega
 clear hrd hc hv
 go_enter Tryz.func129, Tryz.ntmps129
 go_wp2
 go_loopw [10] (fun i wr => ∃ m : Nat, m ≤ s.length ∧ i = .int .i64 m ∧ Hid (Below w.heap.size w wr)) (fun i _ => s.length - (intOf i).toNat)
 case atStart => exact ⟨0, Nat.zero_le _, rfl, hide (Below.refl _ _)⟩
 case round =>
  obtain ⟨m, hm, rfl, HB⟩ := hrel
  by_cases hlt : m < s.length
  ·obtain ⟨⟨x, y⟩, hp⟩ : ∃ p, s[m]? = some p := ⟨_, List.getElem?_eq_getElem hlt⟩
   obtain ⟨b, o, rfl, hbl, k⟩ := HR.out (by intro e; rw [e] at hlt; simp at hlt)
   have d0 : wr.cell? ⟨b, o + m * 2, none⟩ = some (.int .i64 x) := (HB.out.cell (p := ⟨b, _, none⟩) hbl).trans (k m _ hp 0 _ rfl)
   have d1 : wr.cell? ⟨b, o + m * 2 + 1, none⟩ = some (.int .i64 y) := (HB.out.cell (p := ⟨b, _, none⟩) hbl).trans (k m _ hp 1 _ rfl)
   have mz : (m : Int) < (s.length : Int) := by omega
   have hsz := HB.out.size
   have hbw : b < wr.heap.size := by omega
   have HVA : Hid (∀ W, Calls Tryz.prog 112 #[.agg #[.int .i64 x, .int .i64 y]] W fun e w' => e = .returned (.bool true) ∧ Below W.heap.size W w') := hide (fun W => by
    have := validS_any (x, y) W
    rw [decide_eq_true (HV.out _ (List.mem_of_getElem? hp))] at this
    exact this)
   have HP := hide hp
   clear hp
   rcases Nat.eq_zero_or_pos m with rfl | hmp
   ·clear k
    simp only [Nat.zero_mul, Nat.add_zero] at d0 d1
    rw [show ((0 : Nat) : Int) = 0 from rfl] at *
    go_wp2
    refine wp_hab fun hab => ?_
    refine wp_region_above (by kernel_rfl) (by kernel_rfl) ?_
    repeat (go_big_quiet_step ((go_at_call 112; exact above_of (HVA.out _))))
    refine wpQuiet_nil ?_
    refine above_ends fun w3 hb3 => ?_
    clear hab
    have HB3 := hide ((HB.out.alloc hsz _).trans (hb3.mono (by simp; omega)))
    clear hb3
    go_wp2
    go_roundw
    case rel => exact ⟨0 + 1, by omega, by go_num, HB3⟩
    case measure => simp [intOf]; omega
   ·obtain ⟨j, rfl⟩ : ∃ j, m = j + 1 := ⟨m - 1, by omega⟩
    obtain ⟨⟨p, q⟩, hq⟩ : ∃ p, s[j]? = some p := ⟨_, List.getElem?_eq_getElem (by omega)⟩
    have d2 : wr.cell? ⟨b, o + j * 2 + 1, none⟩ = some (.int .i64 q) := (HB.out.cell (p := ⟨b, _, none⟩) hbl).trans (k j _ hq 1 _ rfl)
    have hqx : q < x := by
     obtain ⟨i1, e1⟩ := List.getElem?_eq_some_iff.1 hq
     obtain ⟨i2, e2⟩ := List.getElem?_eq_some_iff.1 HP.out
     have := List.pairwise_iff_getElem.1 HC.out.2 j (j + 1) i1 i2 (by omega)
     rw [e1, e2] at this
     exact this
    have hge : decide (x ≤ q) = false := decide_eq_false (by omega)
    have q1 : (0 : Int) < (j : Int) + 1 := by omega
    have q2 : (j : Int) < (s.length : Int) := by omega
    have q3 : IntKind.i64.wrap ((j : Int) + 1 - 1) = j := by simp [IntKind.wrap, IntKind.bits, IntKind.signed]; omega
    have q5 : IntKind.i64.wrap (j : Int) = j := by simp [IntKind.wrap, IntKind.bits, IntKind.signed]; omega
    have q4 : (0 : Int) ≤ (j : Int) := by omega
    have q6 : decide ((0 : Int) < (j : Int) + 1) = true := decide_eq_true q1
    clear k hq hmp
    rw [show ((j + 1 : Nat) : Int) = (j : Int) + 1 from rfl] at *
    go_wp2
    refine wp_hab fun hab => ?_
    refine wp_region_above (by kernel_rfl) (by kernel_rfl) ?_
    repeat (go_big_quiet_step ((go_at_call 112; exact above_of (HVA.out _))))
    refine wpQuiet_nil ?_
    refine above_ends fun w3 hb3 => ?_
    clear hab
    have HB3 := hide ((HB.out.alloc hsz _).trans (hb3.mono (by simp; omega)))
    clear hb3 q3 q5
    go_wp2
    go_roundw
    case rel => exact ⟨j + 1 + 1, by omega, by go_num, HB3⟩
    case measure => simp [intOf]; omega
  ·have mz : ¬ (m : Int) < (s.length : Int) := by omega
   go_wp2
   go_ret
   exact ⟨rfl, HB.out⟩
def sjF (h : Bool → Bool → Bool) (a b : List Sp) : List Sp × Int := if 400 < (sjoin h a b).length then ([], 4) else (sjoin h a b, 0)
set_option maxHeartbeats 2000000 in
theorem checked_any (a b : List Sp) (va vb : Value) (w : World) (g : Nat) (h : Bool → Bool → Bool) (h0 : h false false = false) (eg : ∀ args w, (callFunc g args).run Tryz.prog w = .ok (.enter g args) w)
  (hg : ∀ (x y : Bool) (W : World), Calls Tryz.prog g #[.bool x, .bool y] W fun e w' => e = .returned (.bool (h x y)) ∧ W = w')
  (ra : RdK encS 2 w w.heap.size va a) (rb : RdK encS 2 w w.heap.size vb b) (na : a.length ≤ 400) (nb : b.length ≤ 400) (ca : SCan a) (cb : SCan b) (ba : ∀ p ∈ a, validS p) (bb : ∀ p ∈ b, validS p) :
  Calls Tryz.prog 95 #[va, vb, .func (.func g) #[] #[]] w fun e w' => SpnRet w.heap.size (sjF h a b) e w' ∧ Below w.heap.size w w' := by
 have hcA := spCheck_can ra na ca ba
 have hcB := fun (W : World) (hW : Below w.heap.size w W) => spCheck_can (w := W) ((rb.below hW).mono hW.size) nb cb bb
 have hj := fun (W : World) (hW : Below w.heap.size w W) => sjoin_any a b va vb W g h h0 eg hg ((ra.below hW).mono hW.size) ((rb.below hW).mono hW.size) (by omega) (by omega) ba bb
 obtain ⟨A1, c1, hva, _⟩ := ra
 obtain ⟨A2, c2, hvb, _⟩ := rb
 subst hva; subst hvb
 have HCA := hide hcA
 have HCB := hide hcB
 have HJ := hide hj
 have hsl := sjoin_len h a b
 have hF : sjF h a b = if 400 < (sjoin h a b).length then ([], 4) else (sjoin h a b, 0) := rfl
 have HF := hide hF
 clear hcA hcB hj ca cb ba bb hg hF
 generalize sjoin h a b = s at *
 by_cases h4 : 400 < s.length
 ·have hz : (400 : Int) < (s.length : Int) := by omega
  have HF2 : Hid (sjF h a b = ([], 4)) := hide (by rw [HF.out, if_pos h4])
  go_enter Tryz.func95, Tryz.ntmps95
  go_wp2_with (fail)
  refine HCA.out.mono ?_
  rintro e w1 ⟨rfl, hb1⟩
  have HB1 := hide hb1
  clear hb1
  go_wp2_with (fail)
  refine (HCB.out _ HB1.out).mono ?_
  rintro e w2 ⟨rfl, hb2⟩
  have HB2 := hide (HB1.out.trans (hb2.mono HB1.out.size))
  clear hb2
  go_wp2_with (fail)
  refine (HJ.out _ HB2.out).mono ?_
  rintro e w3 ⟨A3, c3, rfl, ho3, hb3⟩
  have HO3 := hide ho3
  have HB3 := hide (HB2.out.trans (hb3.mono HB2.out.size))
  clear hb3 ho3
  go_wp2_with (fail)
  go_ret2
  exact ⟨⟨none, 0, by rw [HF2.out]; rfl, by rw [HF2.out]; exact World.ownsRow_nil _ _ _ _⟩, HB3.out⟩
 ·have hz : (s.length : Int) ≤ 400 := by omega
  have HF2 : Hid (sjF h a b = (s, 0)) := hide (by rw [HF.out, if_neg h4])
  go_enter Tryz.func95, Tryz.ntmps95
  go_wp2_with (fail)
  refine HCA.out.mono ?_
  rintro e w1 ⟨rfl, hb1⟩
  have HB1 := hide hb1
  clear hb1
  go_wp2_with (fail)
  refine (HCB.out _ HB1.out).mono ?_
  rintro e w2 ⟨rfl, hb2⟩
  have HB2 := hide (HB1.out.trans (hb2.mono HB1.out.size))
  clear hb2
  go_wp2_with (fail)
  refine (HJ.out _ HB2.out).mono ?_
  rintro e w3 ⟨A3, c3, rfl, ho3, hb3⟩
  have HO3 := hide (own_base (base := w.heap.size) ho3 HB2.out.size)
  have HB3 := hide (HB2.out.trans (hb3.mono HB2.out.size))
  clear hb3 ho3
  go_wp2_with (fail)
  go_ret2
  exact ⟨⟨A3, c3, by rw [HF2.out]; rfl, by rw [HF2.out]; exact HO3.out⟩, HB3.out⟩
theorem clSub_any (x y : Bool) (W : World) : Calls Tryz.prog 96 #[.bool x, .bool y] W fun e w' => e = .returned (.bool (hSub x y)) ∧ W = w' := by
 cases x <;> cases y
 all_goals
  go_enter Tryz.func96, Tryz.ntmps96
  go_wp2
  go_ret
  exact ⟨rfl, rfl⟩
theorem enter_clSub : ∀ args w, (callFunc 96 args).run Tryz.prog w = .ok (.enter 96 args) w := enters_of Tryz.func96 (by kernel_rfl) rfl
def SpJoin (f : Nat) (h : Bool → Bool → Bool) : Prop := ∀ (a b : List Sp) (va vb : Value) (w : World), RdK encS 2 w w.heap.size va a → RdK encS 2 w w.heap.size vb b → a.length ≤ 400 → b.length ≤ 400 → SCan a → SCan b → (∀ p ∈ a, validS p) → (∀ p ∈ b, validS p) →
 Calls Tryz.prog f #[va, vb] w fun e w' => SpnRet w.heap.size (sjF h a b) e w' ∧ Below w.heap.size w w'
set_option maxHeartbeats 1000000 in
theorem spSub_any : SpJoin 67 hSub := by
 intro a b va vb w ra rb na nb ca cb ba bb
 have hc := checked_any a b va vb w 96 hSub rfl enter_clSub clSub_any ra rb na nb ca cb ba bb
 obtain ⟨A1, c1, hva, _⟩ := ra
 obtain ⟨A2, c2, hvb, _⟩ := rb
 subst hva; subst hvb
 have HC := hide hc
 clear hc ca cb ba bb
 generalize sjF hSub a b = R at *
 obtain ⟨R1, R2⟩ := R
 go_enter Tryz.func67, Tryz.ntmps67
 go_wp2_with (fail)
 refine HC.out.mono ?_
 rintro e w1 ⟨⟨A3, c3, rfl, ho⟩, hb⟩
 have HO := hide ho
 clear ho
 go_wp2_with (fail)
 go_ret2
 exact ⟨⟨A3, c3, rfl, HO.out⟩, hb⟩
theorem check_wf {l : List R4} (h : checkF l = 0) : ∀ r ∈ l, wf4 r := fun r hr => ⟨((checkF_ok h).2.1 r hr).1, ((checkF_ok h).2.1 r hr).2.1⟩
end Go.Proofs.YtdfpbhlnlkjjlaaGreat

/- Outlines: the edges of a region: what they are, and the rows that hold them. -/
namespace Go.Proofs.YtdfpbhlnlkjjlaaGreat
open Go.RowKit
set_option linter.unusedVariables false
set_option linter.unusedSimpArgs false
def levE (t : R4) : List Eg := [((t.x0, t.y0), (t.x1, t.y0)), ((t.x1, t.y1), (t.x0, t.y1))]
def befE (l : List R4) (x : Int) : List Sp := sideF l fun t => t.x1 == x
def behE (l : List R4) (x : Int) : List Sp := sideF l fun t => t.x0 == x
def uprE (l : List R4) (x : Int) : List Eg := (sjoin hSub (befE l x) (behE l x)).map (fun s => ((x, s.1), (x, s.2))) ++ (sjoin hSub (behE l x) (befE l x)).map (fun s => ((x, s.2), (x, s.1)))
def xsE (l : List R4) : List Int := Lib.compact ((l.flatMap fun t => [t.x0, t.x1]).mergeSort fun x y => decide (x ≤ y))
def edgesF (l : List R4) : List Eg := l.flatMap levE ++ (xsE l).flatMap (uprE l)
theorem infoEg : (Tryz.prog.info? 74).map (fun i => (i.zero, i.size, i.bytes)) = some (some (.agg #[.int .i64 0, .int .i64 0, .int .i64 0, .int .i64 0]), 4, 32) := by kernel_rfl
structure EdI (w wr : World) (vo vc : Value) (E : List Eg) (C : List Int) : Prop where
 low : Below w.heap.size w wr
 ro : wr.ownsRow w.heap.size 74 4 vo E.length (E.flatMap encG)
 rc : wr.ownsRow w.heap.size 3 1 vc C.length (C.map iv)
 dj : ∀ k, vo.ownBlock = some k → vc.ownBlock ≠ some k
theorem EdI.below {w wr w2 : World} {vo vc : Value} {E : List Eg} {C : List Int} (h : EdI w wr vo vc E C) (hb : Below wr.heap.size wr w2) : EdI w w2 vo vc E C :=
 ⟨h.low.trans (hb.mono h.low.size), own_below h.ro hb, own_below h.rc hb, h.dj⟩
theorem EdI.nil (w : World) : EdI w w (.slice none 0 0) (.slice none 0 0) [] [] := ⟨Below.refl _ _, World.ownsRow_nil _ _ _ _, World.ownsRow_nil _ _ _ _, fun k h => by simp [Value.ownBlock] at h⟩
theorem EdI.pushC {w wr w9 : World} {vo vc : Value} {E : List Eg} {C D : List Int} {g cap : Nat} (h : EdI w wr vo vc E C) (hg : wr.grownBy w9 vc.ownBlock) (ho : w9.ownsRow w.heap.size 3 1 (.slice (some ⟨g, 0, none⟩) (C ++ D).length cap) (C ++ D).length ((C ++ D).map iv)) (hn : vc.ownBlock = some g ∨ g = wr.heap.size) : EdI w w9 vo (.slice (some ⟨g, 0, none⟩) (C ++ D).length cap) E (C ++ D) := by
 refine ⟨h.low.grown hg h.low.size (fun q hq => (h.rc.lt q hq).1), h.ro.kept hg ?_, ho, fun k hk e => ?_⟩
 ·cases hv : vo.ownBlock with
  | none => exact .inl rfl
  | some k => exact .inr fun e => h.dj k hv e.symm
 ·have e2 : g = k := by simpa [Value.ownBlock] using e
  subst e2
  rcases hn with h1 | h1
  ·exact h.dj g hk h1
  ·have := (h.ro.lt g hk).2
   omega
theorem EdI.pushO {w wr w9 : World} {vo vc : Value} {E F : List Eg} {C : List Int} {g cap : Nat} (h : EdI w wr vo vc E C) (hg : wr.grownBy w9 vo.ownBlock) (ho : w9.ownsRow w.heap.size 74 4 (.slice (some ⟨g, 0, none⟩) (E ++ F).length cap) (E ++ F).length ((E ++ F).flatMap encG)) (hn : vo.ownBlock = some g ∨ g = wr.heap.size) : EdI w w9 (.slice (some ⟨g, 0, none⟩) (E ++ F).length cap) vc (E ++ F) C := by
 refine ⟨h.low.grown hg h.low.size (fun q hq => (h.ro.lt q hq).1), ho, h.rc.kept hg ?_, fun k hk e => ?_⟩
 ·cases hv : vc.ownBlock with
  | none => exact .inl rfl
  | some k => exact .inr fun e => h.dj k e.symm hv
 ·have e2 : g = k := by simpa [Value.ownBlock] using hk
  subst e2
  rcases hn with h1 | h1
  ·exact h.dj g h1 e
  ·have := (h.rc.lt g e).2
   omega
end Go.Proofs.YtdfpbhlnlkjjlaaGreat

/- Outlines: lists of loops, read; the reference's SameLoop, Same, Less. -/
namespace Go.Proofs.YtdfpbhlnlkjjlaaGreat
open Go.RowKit
set_option linter.unusedVariables false
set_option linter.unusedSimpArgs false
def RdPs (w : World) (B : Nat) (v : Value) (L : List (List Pt)) : Prop := ∃ A c, v = .slice A L.length c ∧ (L ≠ [] → ∃ b off, A = some ⟨b, off, none⟩ ∧ b < B ∧ ∀ (j : Nat) (r : List Pt), L[j]? = some r → ∃ u, w.cell? ⟨b, off + j, none⟩ = some u ∧ RdK encS 2 w B u r)
theorem RdPs.below {w w' : World} {B : Nat} {v : Value} {L : List (List Pt)} (h : RdPs w B v L) (hb : Below B w w') : RdPs w' B v L := by
 obtain ⟨A, c, hv, h⟩ := h
 refine ⟨A, c, hv, fun hl => ?_⟩
 obtain ⟨b, off, hA, hb2, hc⟩ := h hl
 refine ⟨b, off, hA, hb2, fun j r hr => ?_⟩
 obtain ⟨u, h1, h2⟩ := hc j r hr
 exact ⟨u, (hb.cell (p := ⟨b, _, none⟩) hb2).trans h1, h2.below hb⟩
theorem RdPs.mono {w : World} {B B' : Nat} {v : Value} {L : List (List Pt)} (h : RdPs w B v L) (hB : B ≤ B') : RdPs w B' v L := by
 obtain ⟨A, c, hv, h⟩ := h
 refine ⟨A, c, hv, fun hl => ?_⟩
 obtain ⟨b, off, hA, hb2, hc⟩ := h hl
 refine ⟨b, off, hA, Nat.lt_of_lt_of_le hb2 hB, fun j r hr => ?_⟩
 obtain ⟨u, h1, h2⟩ := hc j r hr
 exact ⟨u, h1, h2.mono hB⟩
theorem RdPs.get {w : World} {A : Option Addr} {n c : Nat} {L : List (List Pt)} (h : RdPs w w.heap.size (.slice A n c) L) {j : Nat} {r : List Pt} (hr : L[j]? = some r) : ∃ b off u, A = some ⟨b, off, none⟩ ∧ b < w.heap.size ∧ w.cell? ⟨b, off + j, none⟩ = some u ∧ RdK encS 2 w w.heap.size u r := by
 obtain ⟨A1, c1, hv, h⟩ := h
 injection hv with e1 _ _
 subst e1
 obtain ⟨b, off, rfl, hb, k⟩ := h (by intro e; rw [e] at hr; simp at hr)
 obtain ⟨u, h1, h2⟩ := k j r hr
 exact ⟨b, off, u, rfl, hb, h1, h2⟩
set_option maxHeartbeats 4000000 in
theorem rLoop13_any {w : World} {vs vt : Value} {s t : List Pt} {B C : Nat} (hs : RdK encS 2 w B vs s) (ht : RdK encS 2 w C vt t) (ns : s.length ≤ 100000000) (hB : B ≤ w.heap.size) (hC : C ≤ w.heap.size) :
  Calls Tryz.prog 14 #[vs, vt] w fun e w' => e = .returned (.bool (decide (s = t))) ∧ Below w.heap.size w w' := by
 obtain ⟨A1, c1, rfl, h1⟩ := hs
 obtain ⟨A2, c2, rfl, h2⟩ := ht
 have g : Tryz.prog.eqGuardType Tryz.prog.depth 53 = false := by kernel_rfl
 have H1 := hide h1
 have H2 := hide h2
 clear h1 h2
 go_enter Tryz.func14, Tryz.ntmps14
 by_cases hl : s.length = t.length
 ·have hne : ((s.length : Int) != (t.length : Int)) = false := by rw [hl]; simp
  have HL := hide hl
  clear hl
  go_wp2
  go_loopw [5] (fun i wr => ∃ k : Nat, k ≤ s.length ∧ i = .int .i64 k ∧ Hid (s.take k = t.take k) ∧ Below w.heap.size w wr) (fun i _ => s.length - (intOf i).toNat)
  case atStart => exact ⟨0, Nat.zero_le _, rfl, hide rfl, Below.refl _ _⟩
  case round =>
   obtain ⟨k, hk, rfl, HT, hb⟩ := hrel
   by_cases hlt : k < s.length
   ·obtain ⟨⟨a0, a1⟩, hp⟩ : ∃ p, s[k]? = some p := ⟨_, List.getElem?_eq_getElem hlt⟩
    have hlt2 : k < t.length := by rw [← HL.out]; exact hlt
    obtain ⟨⟨b0, b1⟩, hq⟩ : ∃ p, t[k]? = some p := ⟨_, List.getElem?_eq_getElem hlt2⟩
    obtain ⟨p1, o1, rfl, hp1, k1⟩ := H1.out (by intro e; rw [e] at hlt; simp at hlt)
    obtain ⟨p2, o2, rfl, hp2, k2⟩ := H2.out (by intro e; rw [e] at hlt2; simp at hlt2)
    have x0 : wr.cell? ⟨p1, o1 + k * 2, none⟩ = some (.int .i64 a0) := (hb.cell (p := ⟨p1, _, none⟩) (by show p1 < _; omega)).trans (k1 k _ hp 0 _ rfl)
    have y0 : wr.cell? ⟨p2, o2 + k * 2, none⟩ = some (.int .i64 b0) := (hb.cell (p := ⟨p2, _, none⟩) (by show p2 < _; omega)).trans (k2 k _ hq 0 _ rfl)
    have x1 : wr.cell? ⟨p1, o1 + k * 2 + 1, none⟩ = some (.int .i64 a1) := (hb.cell (p := ⟨p1, _, none⟩) (by show p1 < _; omega)).trans (k1 k _ hp 1 _ rfl)
    have y1 : wr.cell? ⟨p2, o2 + k * 2 + 1, none⟩ = some (.int .i64 b1) := (hb.cell (p := ⟨p2, _, none⟩) (by show p2 < _; omega)).trans (k2 k _ hq 1 _ rfl)
    have z1 : (k : Int) < (s.length : Int) := by omega
    have z2 : (k : Int) < (t.length : Int) := by omega
    have HP := hide hp
    have HQ := hide hq
    clear hp hq k1 k2
    by_cases e0 : a0 = b0
    rotate_left 1
    ·have hd : decide (s = t) = false := decide_eq_false fun e => by
      subst e
      have := HP.out.symm.trans HQ.out
      simp only [Option.some.injEq, Prod.mk.injEq] at this
      omega
     have HD := hide hd
     clear hd
     go_wp2
     go_region
     go_wp2
     go_ret
     exact ⟨ret_eq (bool_eq HD.out.symm), hb.drew⟩
    by_cases e1 : a1 = b1
    rotate_left 1
    ·have hd : decide (s = t) = false := decide_eq_false fun e => by
      subst e
      have := HP.out.symm.trans HQ.out
      simp only [Option.some.injEq, Prod.mk.injEq] at this
      omega
     have HD := hide hd
     clear hd
     subst e0
     go_wp2
     go_region
     go_wp2
     go_ret
     exact ⟨ret_eq (bool_eq HD.out.symm), hb.drew⟩
    subst e0
    subst e1
    go_wp2
    go_region
    go_wp2
    go_roundw
    case rel =>
     refine ⟨k + 1, by omega, by go_num, hide ?_, hb.drew⟩
     obtain ⟨i1, e1⟩ := List.getElem?_eq_some_iff.1 HP.out
     obtain ⟨i2, e2⟩ := List.getElem?_eq_some_iff.1 HQ.out
     rw [List.take_succ_eq_append_getElem i1, List.take_succ_eq_append_getElem i2, HT.out, e1, e2]
    case measure => simp [intOf]; omega
   ·have hlz : ¬ (k : Int) < (s.length : Int) := by omega
    have hd : decide (s = t) = true := decide_eq_true (by
     have := HT.out
     rw [List.take_of_length_le (by omega), List.take_of_length_le (by rw [← HL.out]; omega)] at this
     exact this)
    have HD := hide hd
    clear hd
    go_wp2
    go_ret
    exact ⟨ret_eq (bool_eq HD.out.symm), hb⟩
 ·have hne : ((s.length : Int) != (t.length : Int)) = true := by simp; omega
  have hd : decide (s = t) = false := decide_eq_false fun e => hl (by rw [e])
  rw [hd]
  clear hl hd
  go_wp2
  go_ret
  exact ⟨rfl, Below.refl _ _⟩
theorem take_eqO {α : Type} {a b : List α} {m : Nat} {x : α} (h : a.take m = b.take m) (ha : a[m]? = some x) (hb : b[m]? = some x) : a.take (m + 1) = b.take (m + 1) := by rw [List.take_add_one, List.take_add_one, h, ha, hb]
instance (a b : Pt) : Decidable (ptLt a b) := by unfold ptLt; infer_instance
set_option maxHeartbeats 4000000 in
theorem rLess13_any (a b : Pt) (w : World) :
  Calls Tryz.prog 46 #[.agg #[.int .i64 a.1, .int .i64 a.2], .agg #[.int .i64 b.1, .int .i64 b.2]] w fun e w' => e = .returned (.bool (decide (ptLt a b))) ∧ Below w.heap.size w w' := by
 obtain ⟨ax, ay⟩ := a
 obtain ⟨bx, cy⟩ := b
 simp only
 have hb : Below w.heap.size w ((w.alloc (.cells #[.int .i64 ax, .int .i64 ay] 53)).alloc (.cells #[.int .i64 bx, .int .i64 cy] 53)) := ((Below.refl _ _).alloc (Nat.le_refl _) _).alloc (by simp) _
 have HB := hide hb
 clear hb
 by_cases t0 : ax < bx
 ·have b0 : decide (ax < bx) = true := decide_eq_true t0
  have HT := hide t0
  clear t0
  go_enter Tryz.func46, Tryz.ntmps46
  go_wp2
  go_ret
  refine ⟨ret_eq (bool_eq ?_), HB.out⟩
  rw [decide_eq_true (show ptLt (ax, ay) (bx, cy) from .inl HT.out)]
 ·have b0 : decide (ax < bx) = false := decide_eq_false t0
  by_cases t1 : ax = bx
  ·have b1 : (ax == bx) = true := by simpa using t1
   have HT := hide (show decide (ptLt (ax, ay) (bx, cy)) = decide (ay < cy) from by rw [Bool.eq_iff_iff, decide_eq_true_eq, decide_eq_true_eq]; unfold ptLt; simp only; omega)
   clear t0 t1
   go_enter Tryz.func46, Tryz.ntmps46
   go_wp2
   go_ret
   refine ⟨ret_eq (bool_eq ?_), HB.out⟩
   rw [HT.out]
  ·have b1 : (ax == bx) = false := by simpa using t1
   have HT := hide (show decide (ptLt (ax, ay) (bx, cy)) = false from by refine decide_eq_false ?_; unfold ptLt; simp only; omega)
   clear t0 t1
   go_enter Tryz.func46, Tryz.ntmps46
   go_wp2
   go_ret
   refine ⟨ret_eq (bool_eq ?_), HB.out⟩
   rw [HT.out]
end Go.Proofs.YtdfpbhlnlkjjlaaGreat

/- Outlines: the reference's Before. -/
namespace Go.Proofs.YtdfpbhlnlkjjlaaGreat
open Go.RowKit
set_option linter.unusedVariables false
set_option linter.unusedSimpArgs false
def befB : List Pt → List Pt → Bool
 | [], [] => false
 | [], _ :: _ => true
 | _ :: _, [] => false
 | a :: s, b :: t => if a = b then befB s t else decide (ptLt a b)
theorem befB_iff : ∀ a b, befB a b = true ↔ ltL a b
 | [], [] => by simp [befB, ltL]
 | [], _ :: _ => by simp [befB, ltL]
 | _ :: _, [] => by simp [befB, ltL]
 | a :: s, b :: t => by
  unfold befB ltL
  by_cases e : a = b
  ·rw [if_pos e, if_pos e]; exact befB_iff s t
  ·rw [if_neg e, if_neg e]; exact decide_eq_true_iff
theorem bef_at : ∀ {m : Nat} {a b : List Pt} {x y : Pt}, a.take m = b.take m → a[m]? = some x → b[m]? = some y → x ≠ y → befB a b = decide (ptLt x y)
 | 0, a :: s, b :: t, x, y, _, h1, h2, hne => by
  simp only [List.getElem?_cons_zero, Option.some.injEq] at h1 h2
  subst h1; subst h2
  unfold befB
  rw [if_neg hne]
 | m + 1, a :: s, b :: t, x, y, h, h1, h2, hne => by
  simp only [List.take_succ_cons, List.cons.injEq] at h
  simp only [List.getElem?_cons_succ] at h1 h2
  unfold befB
  rw [if_pos h.1]
  exact bef_at h.2 h1 h2 hne
 | _, [], _, _, _, _, h1, _, _ => by simp at h1
 | _, _ :: _, [], _, _, _, _, h2, _ => by simp at h2
theorem bef_end : ∀ {m : Nat} {a b : List Pt}, a.take m = b.take m → m ≤ a.length → m ≤ b.length → m = a.length ∨ m = b.length → befB a b = decide (a.length < b.length)
 | _, [], [], _, _, _, _ => by simp [befB]
 | _, [], _ :: _, _, _, _, _ => by simp [befB]
 | _, _ :: _, [], _, _, _, _ => by simp [befB]
 | 0, a :: s, b :: t, _, _, _, h => by simp at h
 | m + 1, a :: s, b :: t, h, h1, h2, h3 => by
  simp only [List.take_succ_cons, List.cons.injEq] at h
  simp only [List.length_cons, Nat.add_le_add_iff_right, Nat.add_right_cancel_iff] at h1 h2 h3
  unfold befB
  rw [if_pos h.1, bef_end h.2 h1 h2 h3]
  simp
set_option maxRecDepth 100000 in
set_option maxHeartbeats 8000000 in
theorem rBefore13_any {w : World} {vs vt : Value} {s t : List Pt} (hs : RdK encS 2 w w.heap.size vs s) (ht : RdK encS 2 w w.heap.size vt t) (ns : s.length ≤ 100000000) (nt : t.length ≤ 100000000) :
  Calls Tryz.prog 22 #[vs, vt] w fun e w' => e = .returned (.bool (befB s t)) ∧ Below w.heap.size w w' := by
 obtain ⟨A1, c1, rfl, h1⟩ := hs
 obtain ⟨A2, c2, rfl, h2⟩ := ht
 have g : Tryz.prog.eqGuardType Tryz.prog.depth 53 = false := by kernel_rfl
 have H1 := hide h1
 have H2 := hide h2
 clear h1 h2
 obtain ⟨F, hF⟩ : ∃ F, befB s t = F := ⟨_, rfl⟩
 have HF := hide hF
 rw [hF]
 clear hF
 go_enter Tryz.func22, Tryz.ntmps22
 go_wp2
 go_loopw [5] (fun i wr => ∃ k : Nat, k ≤ s.length ∧ k ≤ t.length ∧ i = .int .i64 k ∧ Hid (s.take k = t.take k) ∧ Hid (Below w.heap.size w wr)) (fun i _ => s.length - (intOf i).toNat)
 case atStart => exact ⟨0, Nat.zero_le _, Nat.zero_le _, rfl, hide rfl, hide (Below.refl _ _)⟩
 case round =>
  obtain ⟨k, hk, hk2, rfl, HT, HB⟩ := hrel
  have hb := HB.out
  by_cases hlt : k < s.length
  ·have z1 : (k : Int) < (s.length : Int) := by omega
   by_cases hlt2 : k < t.length
   ·have z2 : (k : Int) < (t.length : Int) := by omega
    obtain ⟨⟨a0, a1⟩, hp⟩ : ∃ p, s[k]? = some p := ⟨_, List.getElem?_eq_getElem hlt⟩
    obtain ⟨⟨b0, b1⟩, hq⟩ : ∃ p, t[k]? = some p := ⟨_, List.getElem?_eq_getElem hlt2⟩
    obtain ⟨p1, o1, rfl, hp1, k1⟩ := H1.out (by intro e; rw [e] at hlt; simp at hlt)
    obtain ⟨p2, o2, rfl, hp2, k2⟩ := H2.out (by intro e; rw [e] at hlt2; simp at hlt2)
    have x0 : wr.cell? ⟨p1, o1 + k * 2, none⟩ = some (.int .i64 a0) := (hb.cell (p := ⟨p1, _, none⟩) (by show p1 < _; omega)).trans (k1 k _ hp 0 _ rfl)
    have x1 : wr.cell? ⟨p1, o1 + k * 2 + 1, none⟩ = some (.int .i64 a1) := (hb.cell (p := ⟨p1, _, none⟩) (by show p1 < _; omega)).trans (k1 k _ hp 1 _ rfl)
    have y0 : wr.cell? ⟨p2, o2 + k * 2, none⟩ = some (.int .i64 b0) := (hb.cell (p := ⟨p2, _, none⟩) (by show p2 < _; omega)).trans (k2 k _ hq 0 _ rfl)
    have y1 : wr.cell? ⟨p2, o2 + k * 2 + 1, none⟩ = some (.int .i64 b1) := (hb.cell (p := ⟨p2, _, none⟩) (by show p2 < _; omega)).trans (k2 k _ hq 1 _ rfl)
    have HP := hide hp
    have HQ := hide hq
    clear hp hq k1 k2 hb hlt hlt2
    have DIFF : (a0, a1) ≠ (b0, b1) → Hid (F = decide (ptLt (a0, a1) (b0, b1))) := fun h => hide (by rw [← HF.out]; exact bef_at HT.out HP.out HQ.out h)
    by_cases e0 : a0 = b0
    ·subst e0
     by_cases e1 : a1 = b1
     ·subst e1
      clear DIFF
      have HT2 := hide (take_eqO HT.out HP.out HQ.out)
      have HBD : Hid (Below w.heap.size w wr) := HB
      go_wp2
      go_region
      go_wp2
      go_roundw
      case rel => exact ⟨k + 1, by omega, by omega, by go_num, HT2, hide (HB.out.drew)⟩
      case measure => simp [intOf]; omega
     ·have HD := DIFF (fun e => e1 (Prod.ext_iff.1 e).2)
      clear DIFF
      go_wp2
      go_region
      refine name_exit fun w2 hw2 => ?_
      have HB2 : Hid (Below w.heap.size w w2) := hide (by rw [hw2]; exact HB.out.drew)
      have hz1 : p1 < w2.heap.size := Nat.lt_of_lt_of_le hp1 HB2.out.size
      have hz2 : p2 < w2.heap.size := Nat.lt_of_lt_of_le hp2 HB2.out.size
      replace x0 : w2.cell? ⟨p1, o1 + k * 2, none⟩ = some (.int .i64 a0) := by rw [hw2]; simpa [go_sem] using x0
      replace x1 : w2.cell? ⟨p1, o1 + k * 2 + 1, none⟩ = some (.int .i64 a1) := by rw [hw2]; simpa [go_sem] using x1
      replace y0 : w2.cell? ⟨p2, o2 + k * 2, none⟩ = some (.int .i64 a0) := by rw [hw2]; simpa [go_sem] using y0
      replace y1 : w2.cell? ⟨p2, o2 + k * 2 + 1, none⟩ = some (.int .i64 b1) := by rw [hw2]; simpa [go_sem] using y1
      clear hw2
      have HSA : Hid (∀ y : Above w2, _) := hide (fun y : Above w2 => above_of (x := y) (rLess13_any (a0, a1) (a0, b1) y.get))
      go_upto_region 5 with fail
      refine wp_hab fun hab => ?_
      refine wp_region_above (by kernel_rfl) (by kernel_rfl) ?_
      repeat (go_big_quiet_step ((go_at_call 46; with_reducible exact HSA.out _)))
      refine wpQuiet_nil ?_
      refine above_ends fun w3 hb3 => ?_
      have HBZ := hide (HB2.out.trans (hb3.mono HB2.out.size))
      clear hab hb3 HSA
      go_wp2
      go_ret
      exact ⟨ret_eq (bool_eq (by rw [HD.out])), HBZ.out⟩
    ·have HD := DIFF (fun e => e0 (Prod.ext_iff.1 e).1)
     clear DIFF
     go_wp2
     go_region
     refine name_exit fun w2 hw2 => ?_
     have HB2 : Hid (Below w.heap.size w w2) := hide (by rw [hw2]; exact HB.out.drew)
     have hz1 : p1 < w2.heap.size := Nat.lt_of_lt_of_le hp1 HB2.out.size
     have hz2 : p2 < w2.heap.size := Nat.lt_of_lt_of_le hp2 HB2.out.size
     replace x0 : w2.cell? ⟨p1, o1 + k * 2, none⟩ = some (.int .i64 a0) := by rw [hw2]; simpa [go_sem] using x0
     replace x1 : w2.cell? ⟨p1, o1 + k * 2 + 1, none⟩ = some (.int .i64 a1) := by rw [hw2]; simpa [go_sem] using x1
     replace y0 : w2.cell? ⟨p2, o2 + k * 2, none⟩ = some (.int .i64 b0) := by rw [hw2]; simpa [go_sem] using y0
     replace y1 : w2.cell? ⟨p2, o2 + k * 2 + 1, none⟩ = some (.int .i64 b1) := by rw [hw2]; simpa [go_sem] using y1
     clear hw2
     have HSA : Hid (∀ y : Above w2, _) := hide (fun y : Above w2 => above_of (x := y) (rLess13_any (a0, a1) (b0, b1) y.get))
     go_upto_region 5 with fail
     refine wp_hab fun hab => ?_
     refine wp_region_above (by kernel_rfl) (by kernel_rfl) ?_
     repeat (go_big_quiet_step ((go_at_call 46; with_reducible exact HSA.out _)))
     refine wpQuiet_nil ?_
     refine above_ends fun w3 hb3 => ?_
     have HBZ := hide (HB2.out.trans (hb3.mono HB2.out.size))
     clear hab hb3 HSA
     go_wp2
     go_ret
     exact ⟨ret_eq (bool_eq (by rw [HD.out])), HBZ.out⟩
   ·have z2 : ¬ (k : Int) < (t.length : Int) := by omega
    have HE : Hid (F = decide (s.length < t.length)) := hide (by rw [← HF.out]; exact bef_end HT.out hk hk2 (.inr (by omega)))
    clear hb hlt hlt2
    go_wp2
    go_ret
    exact ⟨ret_eq (bool_eq (by rw [HE.out])), HB.out⟩
  ·have z1 : ¬ (k : Int) < (s.length : Int) := by omega
   have HE : Hid (F = decide (s.length < t.length)) := hide (by rw [← HF.out]; exact bef_end HT.out hk hk2 (.inl (by omega)))
   clear hb hlt
   go_wp2
   go_ret
   exact ⟨ret_eq (bool_eq (by rw [HE.out])), HB.out⟩
end Go.Proofs.YtdfpbhlnlkjjlaaGreat

/- Outlines: the reference's Turned. -/
namespace Go.Proofs.YtdfpbhlnlkjjlaaGreat
open Go.RowKit
set_option linter.unusedVariables false
set_option linter.unusedSimpArgs false
theorem infoPtO : (Tryz.prog.info? 53).map (fun i => (i.zero, i.size, i.bytes)) = some (some (.agg #[.int .i64 0, .int .i64 0]), 2, 16) := by kernel_rfl
theorem one_encSO (l : List (Int × Int)) : ∀ u ∈ l.flatMap encS, u.oneCell' = true := by
 intro u hu
 obtain ⟨r, _, hr⟩ := List.mem_flatMap.1 hu
 simp only [encS, List.mem_cons, List.not_mem_nil, or_false] at hr
 rcases hr with rfl | rfl <;> rfl
section
variable {α : Type} {enc : α → List Value} {k : Nat} {w : World} {B b o n c m c' : Nat} {l : List α}
theorem rd_takeO (h : RdK enc k w B (.slice (some ⟨b, o, none⟩) n c) l) (hm : m ≤ l.length) : RdK enc k w B (.slice (some ⟨b, o, none⟩) m c') (l.take m) := by
 obtain ⟨A, c1, hv, hc⟩ := h
 injection hv with e1 e2 e3
 subst e1
 have e : (l.take m).length = m := by simp; omega
 refine ⟨_, c', by rw [e], fun hl => ?_⟩
 obtain ⟨b2, o2, e, hb, hk⟩ := hc (by intro h; subst h; simp at hl)
 injection e with e
 injection e with e1 e2
 subst e1; subst e2
 refine ⟨b, o, rfl, hb, fun j y hy i u hu => hk j y ?_ i u hu⟩
 rw [List.getElem?_take] at hy
 split at hy
 ·exact hy
 ·cases hy
theorem rd_dropO (h : RdK enc k w B (.slice (some ⟨b, o, none⟩) n c) l) (hm : m ≤ l.length) : RdK enc k w B (.slice (some ⟨b, o + m * k, none⟩) (l.length - m) c') (l.drop m) := by
 obtain ⟨A, c1, hv, hc⟩ := h
 injection hv with e1 e2 e3
 subst e1
 refine ⟨_, c', by rw [List.length_drop], fun hl => ?_⟩
 obtain ⟨b2, o2, e, hb, hk⟩ := hc (by intro h; subst h; simp at hl)
 injection e with e
 injection e with e1 e2
 subst e1; subst e2
 refine ⟨b, o + m * k, rfl, hb, fun j y hy i u hu => ?_⟩
 rw [List.getElem?_drop] at hy
 have := hk (m + j) y hy i u hu
 rwa [show o + (m + j) * k + i = o + m * k + j * k + i by rw [Nat.add_mul]; omega] at this
end
theorem own_capO {w : World} {base size : Nat} {e : TypeId} {b o n c : Nat} {xs : List Value} (h : w.ownsRow base e size (.slice (some ⟨b, o, none⟩) n c) n xs) : n ≤ c ∧ o = 0 := by
 rcases h.2 with ⟨h1, _⟩ | ⟨g, cap, cur, h1, h2, h3, h4, _⟩
 ·cases h1
 ·injection h1 with h1 h5 h6
  injection h1 with h1
  injection h1 with h1 h7
  exact ⟨by omega, h7⟩
def FMp (l : List Pt) (m i : Nat) : Prop := i < m ∧ (∀ j, j < i → ptLt (pAt l i) (pAt l j)) ∧ ∀ j, i < j → j < m → ¬ ptLt (pAt l j) (pAt l i)
theorem FMp.one (l : List Pt) : FMp l 1 0 := ⟨by omega, fun j h => by omega, fun j h1 h2 => by omega⟩
theorem FMp.up {l : List Pt} {m i : Nat} (h : FMp l m i) (hl : ptLt (pAt l m) (pAt l i)) : FMp l (m + 1) m := by
 refine ⟨by omega, fun j hj => ?_, fun j h1 h2 => by omega⟩
 rcases Nat.lt_trichotomy j i with h1 | h1 | h1
 ·exact ptLt_tr hl (h.2.1 j h1)
 ·rw [h1]; exact hl
 ·have := h.2.2 j h1 hj
  unfold ptLt at *
  omega
theorem FMp.stay {l : List Pt} {m i : Nat} (h : FMp l m i) (hl : ¬ ptLt (pAt l m) (pAt l i)) : FMp l (m + 1) i := by
 refine ⟨by have := h.1; omega, h.2.1, fun j h1 h2 => ?_⟩
 rcases Nat.lt_or_ge j m with h3 | h3
 ·exact h.2.2 j h1 h3
 ·rw [show j = m by omega]; exact hl
theorem FMp.min {l : List Pt} {i : Nat} (h : FMp l l.length i) : FirstMin l i := h
end Go.Proofs.YtdfpbhlnlkjjlaaGreat

/- Outlines: the reference's In, begins, step. -/
namespace Go.Proofs.YtdfpbhlnlkjjlaaGreat
open Go.RowKit
set_option linter.unusedVariables false
set_option linter.unusedSimpArgs false
def setR (l : List R4) : Cs := fun x y => decide (pmem l x y)
end Go.Proofs.YtdfpbhlnlkjjlaaGreat

/- Rectangles side by side: region.beside, and the reference's near and common. -/
namespace Go.Proofs.YtdfpbhlnlkjjlaaGreat
open Go.RowKit
set_option linter.unusedVariables false
set_option linter.unusedSimpArgs false
def bsd (a b : R4) : Bool := (decide (min a.x1 b.x1 - max a.x0 b.x0 = 0) && decide (0 < min a.y1 b.y1 - max a.y0 b.y0)) || (decide (0 < min a.x1 b.x1 - max a.x0 b.x0) && decide (min a.y1 b.y1 - max a.y0 b.y0 = 0))
theorem bsd_symm (a b : R4) : bsd a b = bsd b a := by
 unfold bsd
 rw [Int.min_comm a.x1, Int.max_comm a.x0, Int.min_comm a.y1, Int.max_comm a.y0]
def mid4 (r : R4) : Prop := (-1000000 ≤ r.x0 ∧ r.x0 ≤ 1000000) ∧ (-1000000 ≤ r.y0 ∧ r.y0 ≤ 1000000) ∧ (-1000000 ≤ r.x1 ∧ r.x1 ≤ 1000000) ∧ (-1000000 ≤ r.y1 ∧ r.y1 ≤ 1000000)
set_option maxHeartbeats 1000000 in
theorem beside_any (r s : R4) (hr : mid4 r) (hs : mid4 s) (w : World) :
  Calls Tryz.prog 42 #[.agg (encR r).toArray, .agg (encR s).toArray] w fun e w' => e = .returned (.bool (bsd r s)) ∧ Below w.heap.size w w' := by
 obtain ⟨a0, a1, a2, a3⟩ := r
 obtain ⟨b0, b1, b2, b3⟩ := s
 obtain ⟨⟨p0, p0'⟩, ⟨p1, p1'⟩, ⟨p2, p2'⟩, p3, p3'⟩ := hr
 obtain ⟨⟨q0, q0'⟩, ⟨q1, q1'⟩, ⟨q2, q2'⟩, q3, q3'⟩ := hs
 simp only at p0 p0' p1 p1' p2 p2' p3 p3' q0 q0' q1 q1' q2 q2' q3 q3'
 show Calls Tryz.prog 42 #[.agg #[.int .i64 a0, .int .i64 a1, .int .i64 a2, .int .i64 a3], .agg #[.int .i64 b0, .int .i64 b1, .int .i64 b2, .int .i64 b3]] w _
 have wx : wrap64 (min a2 b2 - max a0 b0) = min a2 b2 - max a0 b0 := by unfold wrap64; omega
 have wy : wrap64 (min a3 b3 - max a1 b1) = min a3 b3 - max a1 b1 := by unfold wrap64; omega
 have hF : bsd ⟨a0, a1, a2, a3⟩ ⟨b0, b1, b2, b3⟩ = ((decide (min a2 b2 - max a0 b0 = 0) && decide (0 < min a3 b3 - max a1 b1)) || (decide (0 < min a2 b2 - max a0 b0) && decide (min a3 b3 - max a1 b1 = 0))) := rfl
 rw [hF]
 have fin : Below w.heap.size w ((w.alloc (.cells #[.int .i64 a0, .int .i64 a1, .int .i64 a2, .int .i64 a3] 49)).alloc (.cells #[.int .i64 b0, .int .i64 b1, .int .i64 b2, .int .i64 b3] 49)) := ((Below.refl _ _).alloc (Nat.le_refl _) _).alloc (by simp) _
 have FIN := hide fin
 clear fin hF p0 p0' p1 p1' p2 p2' p3 p3' q0 q0' q1 q1' q2 q2' q3 q3'
 go_enter Tryz.func42, Tryz.ntmps42
 go_wp2_with (fail)
 all_goals go_ret
 all_goals refine ⟨ret_eq (bool_eq ?_), FIN.out⟩
 all_goals first
  | rfl
  | (rw [Bool.eq_iff_iff]; simp only [Bool.or_eq_true, Bool.and_eq_true, decide_eq_true_eq, Bool.false_eq_true, true_iff, iff_true, false_iff, iff_false, beq_iff_eq]; omega)
end Go.Proofs.YtdfpbhlnlkjjlaaGreat

/- region.Touch. -/
namespace Go.Proofs.YtdfpbhlnlkjjlaaGreat
open Go.RowKit
set_option linter.unusedVariables false
set_option linter.unusedSimpArgs false
theorem valid_mid {r : R4} (h : valid4 r) : mid4 r := by
 obtain ⟨_, _, h1, h2, h3, h4⟩ := h
 unfold fineP at h1 h2 h3 h4
 unfold mid4
 omega
end Go.Proofs.YtdfpbhlnlkjjlaaGreat

/- Plain law: components of a list of rectangles, each named by its least index. -/
namespace Go.Proofs.YtdfpbhlnlkjjlaaGreat
set_option linter.unusedVariables false
set_option linter.unusedSimpArgs false
def adj (l : List R4) (i j : Nat) : Prop := ∃ x y, l[i]? = some x ∧ l[j]? = some y ∧ bsd x y = true
theorem adj.symm {l : List R4} {i j : Nat} (h : adj l i j) : adj l j i := by
 obtain ⟨x, y, h1, h2, h3⟩ := h
 exact ⟨y, x, h2, h1, by rw [bsd_symm]; exact h3⟩
inductive Conn (l : List R4) (i : Nat) : Nat → Prop where
 | refl : Conn l i i
 | step {j k : Nat} : Conn l i j → adj l j k → Conn l i k
theorem Conn.trans {l : List R4} {i j k : Nat} (h : Conn l i j) (g : Conn l j k) : Conn l i k := by
 induction g with
 | refl => exact h
 | step _ a ih => exact ih.step a
theorem Conn.symm {l : List R4} {i j : Nat} (h : Conn l i j) : Conn l j i := by
 induction h with
 | refl => exact .refl
 | step _ a ih => exact (Conn.refl.step a.symm).trans ih
theorem Conn.lt {l : List R4} {i j : Nat} (h : Conn l i j) (hi : i < l.length) : j < l.length := by
 cases h with
 | refl => exact hi
 | step _ a =>
  obtain ⟨x, y, _, h2, _⟩ := a
  exact (List.getElem?_eq_some_iff.1 h2).1
theorem least (p : Nat → Prop) : ∀ n, p n → ∃ m, p m ∧ ∀ k, p k → m ≤ k := by
 intro n
 induction n using Nat.strongRecOn with
 | _ n ih =>
  intro h
  by_cases hk : ∃ k, k < n ∧ p k
  ·obtain ⟨k, h1, h2⟩ := hk
   exact ih k h1 h2
  ·refine ⟨n, h, fun k hp => ?_⟩
   by_cases hkn : k < n
   ·exact absurd ⟨k, hkn, hp⟩ hk
   ·omega
noncomputable def mn (l : List R4) (i : Nat) : Nat := Classical.choose (least (Conn l i) i .refl)
theorem mn_conn (l : List R4) (i : Nat) : Conn l i (mn l i) := (Classical.choose_spec (least (Conn l i) i .refl)).1
theorem mn_least {l : List R4} {i k : Nat} (h : Conn l i k) : mn l i ≤ k := (Classical.choose_spec (least (Conn l i) i .refl)).2 k h
theorem mn_le (l : List R4) (i : Nat) : mn l i ≤ i := mn_least .refl
theorem mn_eq {l : List R4} {i j : Nat} (h : Conn l i j) : mn l i = mn l j := by
 have h1 := mn_least (h.trans (mn_conn l j))
 have h2 := mn_least (h.symm.trans (mn_conn l i))
 omega
theorem mn_mn (l : List R4) (i : Nat) : mn l (mn l i) = mn l i := (mn_eq (mn_conn l i)).symm
theorem conn_of_mn {l : List R4} {i j : Nat} (h : mn l i = mn l j) : Conn l i j := by
 have h1 := mn_conn l i
 rw [h] at h1
 exact h1.trans (mn_conn l j).symm
theorem labels_mn {l : List R4} {f : Nat → Nat} (h1 : ∀ i, i < l.length → Conn l i (f i) ∧ f i ≤ i) (h2 : ∀ i k, adj l i k → f i ≤ f k) : ∀ i, i < l.length → f i = mn l i := by
 have key : ∀ i k, Conn l i k → f i = f k := by
  intro i k h
  induction h with
  | refl => rfl
  | step _ a ih => have := h2 _ _ a; have := h2 _ _ a.symm; omega
 intro i hi
 have a1 := mn_least (h1 i hi).1
 have a2 := (h1 _ ((mn_conn l i).lt hi)).2
 have a3 := key _ _ (mn_conn l i)
 omega
open Classical in
noncomputable def compL (l : List R4) (i : Nat) : List R4 := ((List.range l.length).filter fun j => decide (mn l j = i)).filterMap fun j => l[j]?
open Classical in
noncomputable def partsF (l : List R4) : List (List R4) := ((List.range l.length).filter fun i => decide (mn l i = i)).map fun i => rjoin hFst (compL l i) []
theorem mem_compL {l : List R4} {i : Nat} {r : R4} : r ∈ compL l i ↔ ∃ j, mn l j = i ∧ l[j]? = some r := by
 unfold compL
 simp only [List.mem_filterMap, List.mem_filter, List.mem_range, decide_eq_true_eq]
 constructor
 ·rintro ⟨j, ⟨_, h2⟩, h3⟩
  exact ⟨j, h2, h3⟩
 ·rintro ⟨j, h2, h3⟩
  exact ⟨j, ⟨(List.getElem?_eq_some_iff.1 h3).1, h2⟩, h3⟩
theorem rjoin_set {a b : List R4} (ha : ∀ r ∈ a, wf4 r) (hb : ∀ r ∈ b, wf4 r) (h : ∀ r, r ∈ a ↔ r ∈ b) : rjoin hFst a [] = rjoin hFst b [] := by
 obtain ⟨c1, p1⟩ := rjoin_ok (h := hFst) rfl ha (b := []) (by simp)
 obtain ⟨c2, p2⟩ := rjoin_ok (h := hFst) rfl hb (b := []) (by simp)
 refine c1.ext c2 fun x y => ?_
 rw [p1, p2]
 have : decide (pmem a x y) = decide (pmem b x y) := decide_eq_decide.2 (by
  unfold pmem
  constructor
  ·rintro ⟨r, h1, h2⟩
   exact ⟨r, (h r).1 h1, h2⟩
  ·rintro ⟨r, h1, h2⟩
   exact ⟨r, (h r).2 h1, h2⟩)
 rw [this]
end Go.Proofs.YtdfpbhlnlkjjlaaGreat

/- Plain law: cross-sections of a canonical region; hulls; moved regions. -/
namespace Go.Proofs.YtdfpbhlnlkjjlaaGreat
set_option linter.unusedVariables false
set_option linter.unusedSimpArgs false
theorem crossL_append (a b : List R4) (x : Int) : crossL (a ++ b) x = crossL a x ++ crossL b x := by simp [crossL]
theorem crossL_flat1 (a : Slab) (x : Int) : crossL (flat1 a) x = if a.f ≤ x ∧ x < a.t then a.s else [] := by
 unfold crossL flat1
 rw [List.filter_map, List.map_map]
 by_cases hx : a.f ≤ x ∧ x < a.t
 ·rw [if_pos hx]
  have : (fun p : Sp => decide (a.f ≤ x) && decide (x < a.t)) = fun _ => true := by funext p; simp [hx.1, hx.2]
  show List.map _ (List.filter (fun p : Sp => decide (a.f ≤ x) && decide (x < a.t)) a.s) = _
  rw [this, List.filter_eq_self.2 (fun _ _ => rfl)]
  show List.map (fun p : Sp => (p.1, p.2)) a.s = a.s
  simp
 ·rw [if_neg hx]
  have : (fun p : Sp => decide (a.f ≤ x) && decide (x < a.t)) = fun _ => false := by
   funext p
   by_cases h1 : a.f ≤ x
   ·have h2 : ¬ x < a.t := fun h => hx ⟨h1, h⟩
    simp [h2]
   ·simp [h1]
  show List.map _ (List.filter (fun p : Sp => decide (a.f ≤ x) && decide (x < a.t)) a.s) = _
  rw [this, List.filter_eq_nil_iff.2 (by simp)]
  rfl
theorem crossL_flat : ∀ {S : List Slab} (x : Int), SOK S → crossL (flat S) x = cr S x
 | [], x, _ => rfl
 | a :: S, x, h => by
  have e : flat (a :: S) = flat1 a ++ flat S := by simp [flat]
  rw [e, crossL_append, crossL_flat1, crossL_flat x h.tail]
  simp only [cr]
  by_cases hx : a.f ≤ x ∧ x < a.t
  ·rw [if_pos hx, if_pos hx, cr_far (S := S) (fun b hb => .inl (by have := h.after b hb; omega)), List.append_nil]
  ·rw [if_neg hx, if_neg hx, List.nil_append]
theorem check_rcan {l : List R4} (h : checkF l = 0) : RCan l := by
 obtain ⟨h1, h2, h3⟩ := checkF_ok h
 have hr : rjoin hFst l [] = l := by
  unfold madeF at h3
  split at h3
  ·simp at h3
  ·exact (Prod.mk.inj h3).1
 rw [← hr]
 exact (rjoin_ok (h := hFst) rfl (fun r hr => ⟨(h2 r hr).1, (h2 r hr).2.1⟩) (by simp)).1
theorem crossL_can {l : List R4} (h : RCan l) (x : Int) : SCan (crossL l x) := by
 obtain ⟨S, hS, rfl⟩ := h
 rw [crossL_flat x hS]
 exact cr_can x hS
def hullS (h r : R4) : R4 := ⟨min h.x0 r.x0, min h.y0 r.y0, max h.x1 r.x1, max h.y1 r.y1⟩
structure IsHull (l : List R4) (h : R4) : Prop where
 a0 : ∃ r ∈ l, r.x0 = h.x0
 a1 : ∃ r ∈ l, r.y0 = h.y0
 a2 : ∃ r ∈ l, r.x1 = h.x1
 a3 : ∃ r ∈ l, r.y1 = h.y1
 b : ∀ r ∈ l, h.x0 ≤ r.x0 ∧ h.y0 ≤ r.y0 ∧ r.x1 ≤ h.x1 ∧ r.y1 ≤ h.y1
theorem IsHull.step {l : List R4} {h r : R4} (hh : IsHull l h) : IsHull (l ++ [r]) (hullS h r) := by
 obtain ⟨⟨p0, q0, e0⟩, ⟨p1, q1, e1⟩, ⟨p2, q2, e2⟩, ⟨p3, q3, e3⟩, hb⟩ := hh
 refine ⟨?_, ?_, ?_, ?_, ?_⟩
 ·by_cases c : h.x0 ≤ r.x0
  ·exact ⟨p0, by simp [q0], by simp only [hullS]; omega⟩
  ·exact ⟨r, by simp, by simp only [hullS]; omega⟩
 ·by_cases c : h.y0 ≤ r.y0
  ·exact ⟨p1, by simp [q1], by simp only [hullS]; omega⟩
  ·exact ⟨r, by simp, by simp only [hullS]; omega⟩
 ·by_cases c : r.x1 ≤ h.x1
  ·exact ⟨p2, by simp [q2], by simp only [hullS]; omega⟩
  ·exact ⟨r, by simp, by simp only [hullS]; omega⟩
 ·by_cases c : r.y1 ≤ h.y1
  ·exact ⟨p3, by simp [q3], by simp only [hullS]; omega⟩
  ·exact ⟨r, by simp, by simp only [hullS]; omega⟩
 ·intro q hq
  rcases List.mem_append.1 hq with hq | hq
  ·have := hb q hq
   simp only [hullS]; omega
  ·rw [List.mem_singleton] at hq
   subst hq
   simp only [hullS]; omega
theorem IsHull.one (r : R4) : IsHull [r] r := ⟨⟨r, by simp, rfl⟩, ⟨r, by simp, rfl⟩, ⟨r, by simp, rfl⟩, ⟨r, by simp, rfl⟩, by simp⟩
end Go.Proofs.YtdfpbhlnlkjjlaaGreat

/- Plain law: a part of a canonical region, made a region, has no more rectangles than the part. -/
namespace Go.Proofs.YtdfpbhlnlkjjlaaGreat
set_option linter.unusedVariables false
set_option linter.unusedSimpArgs false
theorem swp_sum_from (g : Int → List Sp) : ∀ (ps : List (Int × Int)) (S : List Slab), (flat (ps.foldl (fun S p => addS S p.1 p.2 (g p.1)) S)).length ≤ (flat S).length + (ps.map fun p => (g p.1).length).sum
 | [], S => by simp
 | p :: ps, S => by
  have h1 := swp_sum_from g ps (addS S p.1 p.2 (g p.1))
  have h2 := addS_len S p.1 p.2 (g p.1)
  simp only [List.foldl_cons, List.map_cons, List.sum_cons]
  omega
theorem prs_sum (f : Int → Nat) : ∀ cs : List Int, ((prs cs).map fun p => f p.1).sum ≤ (cs.map f).sum
 | [] => by simp [prs]
 | [c] => by simp [prs]
 | c :: d :: r => by
  have := prs_sum f (d :: r)
  simp only [prs, List.map_cons, List.sum_cons] at this ⊢
  omega
theorem crossL_cons_len (r : R4) (C : List R4) (c : Int) : (crossL (r :: C) c).length = (if r.x0 ≤ c ∧ c < r.x1 then 1 else 0) + (crossL C c).length := by
 unfold crossL
 by_cases h : r.x0 ≤ c ∧ c < r.x1
 ·rw [List.filter_cons_of_pos (by simp [h.1, h.2]), if_pos h]
  simp; omega
 ·rw [List.filter_cons_of_neg (by simpa using h), if_neg h]
  simp
theorem sum_add {α : Type} (f g : α → Nat) : ∀ l : List α, (l.map fun x => f x + g x).sum = (l.map f).sum + (l.map g).sum
 | [] => rfl
 | a :: l => by have := sum_add f g l; simp only [List.map_cons, List.sum_cons, this]; omega
theorem one_cut {r : R4} : ∀ {cs : List Int}, cs.Pairwise (· < ·) → (∀ c ∈ cs, r.x0 ≤ c → c < r.x1 → r.x0 = c) → (cs.map fun c => if r.x0 ≤ c ∧ c < r.x1 then 1 else 0).sum ≤ 1
  | [], _, _ => by simp
  | c :: cs, hs, h => by
    have ih := one_cut (r := r) (List.pairwise_cons.1 hs).2 (fun c hc => h c (List.mem_cons_of_mem _ hc))
    simp only [List.map_cons, List.sum_cons]
    by_cases hc : r.x0 ≤ c ∧ c < r.x1
    · have e := h c (List.mem_cons_self) hc.1 hc.2
      have hz : (cs.map fun c => if r.x0 ≤ c ∧ c < r.x1 then 1 else 0).sum = 0 := by
        rw [List.sum_eq_zero_iff_forall_eq_nat]
        intro n hn
        obtain ⟨d, hd, rfl⟩ := List.mem_map.1 hn
        have h1 := (List.pairwise_cons.1 hs).1 d hd
        rw [if_neg]
        rintro ⟨h2, h3⟩
        have := h d (List.mem_cons_of_mem _ hd) h2 h3
        omega
      rw [if_pos hc, hz]
      omega
    · rw [if_neg hc]
      omega
theorem sum_cross {cs : List Int} (hs : cs.Pairwise (· < ·)) : ∀ {C : List R4}, (∀ r ∈ C, ∀ c ∈ cs, r.x0 ≤ c → c < r.x1 → r.x0 = c) → (cs.map fun c => (crossL C c).length).sum ≤ C.length
  | [], _ => by
    have : (cs.map fun c => (crossL [] c).length).sum = 0 := by
      rw [List.sum_eq_zero_iff_forall_eq_nat]
      intro n hn
      obtain ⟨d, _, rfl⟩ := List.mem_map.1 hn
      rfl
    omega
  | r :: C, h => by
    have ih := sum_cross hs (C := C) (fun r hr => h r (List.mem_cons_of_mem _ hr))
    have h1 := one_cut hs (h r (List.mem_cons_self))
    simp only [crossL_cons_len]
    rw [sum_add]
    simp only [List.length_cons]
    omega
theorem SOK.apart : ∀ {S : List Slab}, SOK S → ∀ a ∈ S, ∀ b ∈ S, a = b ∨ a.t ≤ b.f ∨ b.t ≤ a.f
 | [], _, a, ha, _, _ => by cases ha
 | c :: S, h, a, ha, b, hb => by
  rcases List.mem_cons.1 ha with e1 | ha'
  ·rcases List.mem_cons.1 hb with e2 | hb'
   ·exact .inl (e1.trans e2.symm)
   ·exact .inr (.inl (e1 ▸ h.after b hb'))
  ·rcases List.mem_cons.1 hb with e2 | hb'
   ·exact .inr (.inr (e2 ▸ h.after a ha'))
   ·exact SOK.apart h.tail a ha' b hb'
theorem SOK.wide : ∀ {S : List Slab}, SOK S → ∀ a ∈ S, a.f < a.t
 | [], _, a, ha => by cases ha
 | c :: S, h, a, ha => by
  rcases List.mem_cons.1 ha with rfl | ha
  ·exact h.head.1
  ·exact SOK.wide h.tail a ha
theorem mem_flat {S : List Slab} {r : R4} (h : r ∈ flat S) : ∃ a ∈ S, r.x0 = a.f ∧ r.x1 = a.t := by
 obtain ⟨a, ha, h⟩ := List.mem_flatMap.1 h
 obtain ⟨p, hp, rfl⟩ := List.mem_map.1 h
 exact ⟨a, ha, rfl, rfl⟩
theorem can_cut {l : List R4} (h : RCan l) {r s : R4} (hr : r ∈ l) (hs : s ∈ l) {c : Int} (hc : c = s.x0 ∨ c = s.x1) (h1 : r.x0 ≤ c) (h2 : c < r.x1) : r.x0 = c := by
 obtain ⟨S, hS, rfl⟩ := h
 obtain ⟨a, ha, a1, a2⟩ := mem_flat hr
 obtain ⟨b, hb, b1, b2⟩ := mem_flat hs
 have w1 := hS.wide a ha
 have w2 := hS.wide b hb
 rcases hS.apart a ha b hb with rfl | h3 | h3 <;> rcases hc with rfl | rfl <;> omega
theorem sub_count {l C : List R4} (h : RCan l) (hw : ∀ r ∈ l, wf4 r) (hC : C.Sublist l) : (rjoin hFst C []).length ≤ C.length := by
 have hcs := cutsOf_ok (cutsL C)
 have hwC : ∀ r ∈ C, wf4 r := fun r hr => hw r (hC.subset hr)
 have hg : ∀ c, sjoin hFst (crossL C c) (crossL [] c) = crossL C c := fun c => by
  refine (sjoin_eq (h := hFst) rfl (crossL_wf hwC c) (by simp [crossL]) ⟨crossL_wf hwC c, (crossL_can h c).2.sublist ((hC.filter _).map _)⟩ fun x => by simp [hFst]).symm
 rw [← swp_join (h := hFst) rfl hwC (b := []) (by simp) hcs.1 (fun c hc => (hcs.2 c).2 hc) (by simp [cutsL])]
 have h1 := swp_sum_from (fun c => sjoin hFst (crossL C c) (crossL [] c)) (prs (cutsOf (cutsL C))) []
 simp only [hg] at h1
 have h2 := prs_sum (fun c => (crossL C c).length) (cutsOf (cutsL C))
 have h3 := sum_cross hcs.1 (C := C) (fun r hr c hc q1 q2 => by
  have hc2 := (hcs.2 c).1 hc
  obtain ⟨s, hs, he⟩ : ∃ s ∈ C, c = s.x0 ∨ c = s.x1 := by simpa [cutsL] using hc2
  exact can_cut h (hC.subset hr) (hC.subset hs) he q1 q2)
 have h4 : (flat ([] : List Slab)).length = 0 := rfl
 unfold swp
 simp only [hg]
 omega
theorem filterMap_at {α : Type} : ∀ l : List α, (List.range l.length).filterMap (fun j => l[j]?) = l
 | [] => rfl
 | a :: l => by
  have ih := filterMap_at l
  rw [List.length_cons, List.range_succ_eq_map, List.filterMap_cons_some (by rfl : (a :: l)[0]? = some a), List.filterMap_map]
  show a :: List.filterMap (fun j => l[j]?) (List.range l.length) = a :: l
  rw [ih]
theorem compL_sub (l : List R4) (i : Nat) : (compL l i).Sublist l := by
 have h := filterMap_at l
 have h2 : (compL l i).Sublist ((List.range l.length).filterMap (fun j => l[j]?)) := (List.filter_sublist).filterMap _
 rwa [h] at h2
end Go.Proofs.YtdfpbhlnlkjjlaaGreat

/- Plain law: what makes a list a region; joins of regions are regions; areas count points. -/
namespace Go.Proofs.YtdfpbhlnlkjjlaaGreat
set_option linter.unusedVariables false
set_option linter.unusedSimpArgs false
theorem can_wf {l : List R4} (h : RCan l) : ∀ r ∈ l, wf4 r := by
 obtain ⟨S, hS, rfl⟩ := h
 intro r hr
 obtain ⟨a, ha, hr⟩ := List.mem_flatMap.1 hr
 obtain ⟨p, hp, rfl⟩ := List.mem_map.1 hr
 have := hS.all a ha
 exact ⟨this.1, this.2.2.1 p hp⟩
theorem sub_valid {l m : List R4} (hl : ∀ r ∈ l, wf4 r) (hm : ∀ r ∈ m, valid4 r) (h : ∀ x y, pmem l x y → pmem m x y) : ∀ r ∈ l, valid4 r := by
 intro r hr
 obtain ⟨w1, w2⟩ := hl r hr
 obtain ⟨s, hs, h1⟩ := h r.x0 r.y0 ⟨r, hr, by simp only [rin]; omega⟩
 obtain ⟨t, ht, h2⟩ := h (r.x1 - 1) (r.y1 - 1) ⟨r, hr, by simp only [rin]; omega⟩
 have v1 := hm s hs
 have v2 := hm t ht
 simp only [rin, valid4, fineP] at h1 h2 v1 v2 ⊢
 omega
theorem made_self {l : List R4} (hc : RCan l) : rjoin hFst l [] = l :=
 (rjoin_eq (h := hFst) rfl (can_wf hc) (by simp) hc fun x y => by simp [hFst]).symm
theorem can_check {l : List R4} (hc : RCan l) (hv : ∀ r ∈ l, valid4 r) (hn : l.length ≤ 400) : checkF l = 0 := by
 have ha : l.any (fun r => !decide (valid4 r)) = false := by
  rw [List.any_eq_false]
  intro r hr
  simp [hv r hr]
 rw [checkF_valid (by omega) ha, if_pos (made_self hc)]
theorem check_frame {l : List R4} (h : checkF l = 0) {m : Nat} (hm : 1000000 ≤ m) : ∀ r ∈ l, inFr m r := fun r hr => by
 have := (checkF_ok h).2.1 r hr
 simp only [valid4, fineP, inFr] at this ⊢
 omega
theorem area_vol {l : List R4} (h : checkF l = 0) {m : Nat} (hm : 1000000 ≤ m) : areaS l = vol m (one l) := by
 have e : vol m (one l) = vol m (cntP l) := vol_congr fun x y _ _ _ _ => (cntP_ind (check_rcan h).apart x y).symm
 rw [e, vol_cntP (check_frame h hm)]
 unfold areaS
 congr 1
 refine List.map_congr_left fun r hr => ?_
 obtain ⟨w1, w2⟩ := check_wf h r hr
 unfold area4 box
 rw [Int.max_eq_right (by omega), Int.max_eq_right (by omega)]
end Go.Proofs.YtdfpbhlnlkjjlaaGreat

/- Outlines, plain: the edges that the code lists are straight runs of unit lines of the outline, and each unit line is in exactly one of them. -/
namespace Go.Proofs.YtdfpbhlnlkjjlaaGreat
set_option linter.unusedVariables false
set_option linter.unusedSimpArgs false
def onE (e : Eg) (z : Un) : Prop := ∃ m i : Nat, i < m ∧ e.2 = addW e.1 m z.2 ∧ z.1 = addW e.1 i z.2
structure EdgesOf (S : Cs) (E : List Eg) : Prop where
 run : ∀ e ∈ E, ∃ (d : Wy) (m : Nat), 0 < m ∧ e.2 = addW e.1 m d ∧ ∀ i : Nat, i < m → bgn S (addW e.1 i d, d)
 apart : E.Pairwise fun e f => ∀ z, ¬ (onE e z ∧ onE f z)
 all : ∀ z, bgn S z → ∃ e ∈ E, onE e z
theorem onE_e {a b y : Int} (h : a < b) (z : Un) : onE ((a, y), (b, y)) z ↔ z.2 = .e ∧ z.1.2 = y ∧ a ≤ z.1.1 ∧ z.1.1 < b := by
 obtain ⟨⟨p, q⟩, d⟩ := z
 constructor
 ·rintro ⟨m, i, hi, h1, h2⟩
  cases d <;> simp only [addW, Wy.v, Prod.mk.injEq] at h1 h2 <;> first | exact ⟨rfl, by simp only; omega, by simp only; omega, by simp only; omega⟩ | (exfalso; omega)
 ·rintro ⟨h1, h2, h3, h4⟩
  simp only at h1 h2 h3 h4
  subst h1 h2
  refine ⟨(b - a).toNat, (p - a).toNat, by omega, ?_, ?_⟩ <;> simp only [addW, Wy.v, Prod.mk.injEq] <;> omega
theorem onE_w {a b y : Int} (h : a < b) (z : Un) : onE ((b, y), (a, y)) z ↔ z.2 = .w ∧ z.1.2 = y ∧ a < z.1.1 ∧ z.1.1 ≤ b := by
 obtain ⟨⟨p, q⟩, d⟩ := z
 constructor
 ·rintro ⟨m, i, hi, h1, h2⟩
  cases d <;> simp only [addW, Wy.v, Prod.mk.injEq] at h1 h2 <;> first | exact ⟨rfl, by simp only; omega, by simp only; omega, by simp only; omega⟩ | (exfalso; omega)
 ·rintro ⟨h1, h2, h3, h4⟩
  simp only at h1 h2 h3 h4
  subst h1 h2
  refine ⟨(b - a).toNat, (b - p).toNat, by omega, ?_, ?_⟩ <;> simp only [addW, Wy.v, Prod.mk.injEq] <;> omega
theorem onE_n {a b x : Int} (h : a < b) (z : Un) : onE ((x, a), (x, b)) z ↔ z.2 = .n ∧ z.1.1 = x ∧ a ≤ z.1.2 ∧ z.1.2 < b := by
 obtain ⟨⟨p, q⟩, d⟩ := z
 constructor
 ·rintro ⟨m, i, hi, h1, h2⟩
  cases d <;> simp only [addW, Wy.v, Prod.mk.injEq] at h1 h2 <;> first | exact ⟨rfl, by simp only; omega, by simp only; omega, by simp only; omega⟩ | (exfalso; omega)
 ·rintro ⟨h1, h2, h3, h4⟩
  simp only at h1 h2 h3 h4
  subst h1 h2
  refine ⟨(b - a).toNat, (q - a).toNat, by omega, ?_, ?_⟩ <;> simp only [addW, Wy.v, Prod.mk.injEq] <;> omega
theorem onE_s {a b x : Int} (h : a < b) (z : Un) : onE ((x, b), (x, a)) z ↔ z.2 = .s ∧ z.1.1 = x ∧ a < z.1.2 ∧ z.1.2 ≤ b := by
 obtain ⟨⟨p, q⟩, d⟩ := z
 constructor
 ·rintro ⟨m, i, hi, h1, h2⟩
  cases d <;> simp only [addW, Wy.v, Prod.mk.injEq] at h1 h2 <;> first | exact ⟨rfl, by simp only; omega, by simp only; omega, by simp only; omega⟩ | (exfalso; omega)
 ·rintro ⟨h1, h2, h3, h4⟩
  simp only at h1 h2 h3 h4
  subst h1 h2
  refine ⟨(b - a).toNat, (b - q).toNat, by omega, ?_, ?_⟩ <;> simp only [addW, Wy.v, Prod.mk.injEq] <;> omega
section
variable {l : List R4}
theorem inC_setR {c : Pt} : inC (setR l) c = true ↔ pmem l c.1 c.2 := by simp [inC, setR]
theorem inC_setR' {c : Pt} : inC (setR l) c = false ↔ ¬ pmem l c.1 c.2 := by simp [inC, setR]
theorem bgn_setR {z : Un} : bgn (setR l) z ↔ pmem l (lc z).1 (lc z).2 ∧ ¬ pmem l (rc z).1 (rc z).2 := by unfold bgn; rw [inC_setR, inC_setR']
theorem cross_mem {t : R4} {x : Int} (ht : t ∈ l) (h1 : t.x0 ≤ x) (h2 : x < t.x1) : (t.y0, t.y1) ∈ crossL l x := by
 unfold crossL
 exact List.mem_map.2 ⟨t, List.mem_filter.2 ⟨ht, by simp [h1, h2]⟩, rfl⟩
theorem span_apart {s : List Sp} (h : SCan s) {p q : Sp} (hp : p ∈ s) (hq : q ∈ s) : p = q ∨ p.2 < q.1 ∨ q.2 < p.1 := by
 obtain ⟨i, hi, rfl⟩ := List.getElem_of_mem hp
 obtain ⟨j, hj, rfl⟩ := List.getElem_of_mem hq
 rcases Nat.lt_trichotomy i j with h1 | h1 | h1
 ·exact .inr (.inl (List.pairwise_iff_getElem.1 h.2 i j hi hj h1))
 ·subst h1; exact .inl rfl
 ·exact .inr (.inr (List.pairwise_iff_getElem.1 h.2 j i hj hi h1))
variable (hc : RCan l)
include hc
theorem can_low {t : R4} (ht : t ∈ l) {x : Int} (h1 : t.x0 ≤ x) (h2 : x < t.x1) : ¬ pmem l x (t.y0 - 1) := by
 rintro ⟨r, hr, h3, h4, h5, h6⟩
 have hs := crossL_can hc x
 have w1 := (can_wf hc t ht).2
 rcases span_apart hs (cross_mem ht h1 h2) (cross_mem hr h3 h4) with h | h | h
 ·simp only [Prod.mk.injEq] at h; omega
 ·simp only at h; omega
 ·simp only at h; omega
theorem can_high {t : R4} (ht : t ∈ l) {x : Int} (h1 : t.x0 ≤ x) (h2 : x < t.x1) : ¬ pmem l x t.y1 := by
 rintro ⟨r, hr, h3, h4, h5, h6⟩
 have hs := crossL_can hc x
 have w1 := (can_wf hc t ht).2
 rcases span_apart hs (cross_mem ht h1 h2) (cross_mem hr h3 h4) with h | h | h
 ·simp only [Prod.mk.injEq] at h; omega
 ·simp only at h; omega
 ·simp only at h; omega
theorem ys_wf (p : R4 → Bool) : ∀ q ∈ ysP l p, q.1 < q.2 := fun q hq => by
 unfold ysP at hq
 obtain ⟨t, ht, rfl⟩ := List.mem_map.1 hq
 exact (can_wf hc t (List.mem_filter.1 ht).1).2
theorem side_can (p : R4 → Bool) : SCan (sideF l p) := (sjoin_ok (h := hFst) rfl (ys_wf hc p) (by simp)).1
theorem side_mem (p : R4 → Bool) (y : Int) : smem (sideF l p) y ↔ ∃ t ∈ l, p t = true ∧ t.y0 ≤ y ∧ y < t.y1 := by
 unfold sideF
 rw [(sjoin_ok (h := hFst) rfl (ys_wf hc p) (by simp)).2]
 simp only [hFst, decide_eq_true_eq]
 unfold smem ysP
 constructor
 ·rintro ⟨q, hq, h1, h2⟩
  obtain ⟨t, ht, rfl⟩ := List.mem_map.1 hq
  obtain ⟨ht, hp⟩ := List.mem_filter.1 ht
  exact ⟨t, ht, hp, h1, h2⟩
 ·rintro ⟨t, ht, hp, h1, h2⟩
  exact ⟨_, List.mem_map.2 ⟨t, List.mem_filter.2 ⟨ht, hp⟩, rfl⟩, h1, h2⟩
theorem ends_mem {x : Int} (y : Int) : smem (sjoin hSub (befE l x) (behE l x)) y ↔ ((∃ t ∈ l, t.x1 = x ∧ t.y0 ≤ y ∧ y < t.y1) ∧ ¬ ∃ t ∈ l, t.x0 = x ∧ t.y0 ≤ y ∧ y < t.y1) := by
 unfold befE behE
 rw [(sjoin_ok (h := hSub) rfl (side_can hc _).1 (side_can hc _).1).2]
 simp only [hSub, Bool.and_eq_true, Bool.not_eq_true', decide_eq_true_eq, decide_eq_false_iff_not]
 rw [side_mem hc, side_mem hc]
 simp only [beq_iff_eq]
theorem begins_mem {x : Int} (y : Int) : smem (sjoin hSub (behE l x) (befE l x)) y ↔ ((∃ t ∈ l, t.x0 = x ∧ t.y0 ≤ y ∧ y < t.y1) ∧ ¬ ∃ t ∈ l, t.x1 = x ∧ t.y0 ≤ y ∧ y < t.y1) := by
 unfold befE behE
 rw [(sjoin_ok (h := hSub) rfl (side_can hc _).1 (side_can hc _).1).2]
 simp only [hSub, Bool.and_eq_true, Bool.not_eq_true', decide_eq_true_eq, decide_eq_false_iff_not]
 rw [side_mem hc, side_mem hc]
 simp only [beq_iff_eq]
theorem sub_can (x : Int) : SCan (sjoin hSub (befE l x) (behE l x)) ∧ SCan (sjoin hSub (behE l x) (befE l x)) :=
 ⟨(sjoin_ok (h := hSub) rfl (side_can hc _).1 (side_can hc _).1).1, (sjoin_ok (h := hSub) rfl (side_can hc _).1 (side_can hc _).1).1⟩
theorem ends_bgn {x y : Int} (h : smem (sjoin hSub (befE l x) (behE l x)) y) : pmem l (x - 1) y ∧ ¬ pmem l x y := by
 obtain ⟨⟨t, ht, rfl, h1, h2⟩, h3⟩ := (ends_mem hc y).1 h
 have w1 := (can_wf hc t ht).1
 refine ⟨⟨t, ht, by omega, by omega, h1, h2⟩, ?_⟩
 rintro ⟨r, hr, h4, h5, h6, h7⟩
 exact h3 ⟨r, hr, can_cut hc hr ht (.inr rfl) h4 h5, h6, h7⟩
theorem begins_bgn {x y : Int} (h : smem (sjoin hSub (behE l x) (befE l x)) y) : pmem l x y ∧ ¬ pmem l (x - 1) y := by
 obtain ⟨⟨t, ht, rfl, h1, h2⟩, h3⟩ := (begins_mem hc y).1 h
 have w1 := (can_wf hc t ht).1
 refine ⟨⟨t, ht, by omega, by omega, h1, h2⟩, ?_⟩
 rintro ⟨r, hr, h4, h5, h6, h7⟩
 rcases Int.lt_or_le t.x0 r.x1 with h8 | h8
 ·have := can_cut hc hr ht (.inl rfl) (by omega) h8
  omega
 ·exact h3 ⟨r, hr, by omega, h6, h7⟩
theorem bgn_ends {x y : Int} (h1 : pmem l (x - 1) y) (h2 : ¬ pmem l x y) : x ∈ xsE l ∧ smem (sjoin hSub (befE l x) (behE l x)) y := by
 obtain ⟨t, ht, h3, h4, h5, h6⟩ := h1
 have e : t.x1 = x := by
  rcases Int.lt_or_le x t.x1 with h | h
  ·exact absurd ⟨t, ht, by omega, h, h5, h6⟩ h2
  ·omega
 refine ⟨((cutsOf_ok (cutsL l)).2 x).2 (by rw [← e]; exact (mem_cutsL ht).2), (ends_mem hc y).2 ⟨⟨t, ht, e, h5, h6⟩, ?_⟩⟩
 rintro ⟨r, hr, h7, h8, h9⟩
 have w1 := (can_wf hc r hr).1
 exact h2 ⟨r, hr, by omega, by omega, h8, h9⟩
theorem bgn_begins {x y : Int} (h1 : pmem l x y) (h2 : ¬ pmem l (x - 1) y) : x ∈ xsE l ∧ smem (sjoin hSub (behE l x) (befE l x)) y := by
 obtain ⟨t, ht, h3, h4, h5, h6⟩ := h1
 have e : t.x0 = x := by
  rcases Int.lt_or_le t.x0 x with h | h
  ·exact absurd ⟨t, ht, by omega, by omega, h5, h6⟩ h2
  ·omega
 refine ⟨((cutsOf_ok (cutsL l)).2 x).2 (by rw [← e]; exact (mem_cutsL ht).1), (begins_mem hc y).2 ⟨⟨t, ht, e, h5, h6⟩, ?_⟩⟩
 rintro ⟨r, hr, h7, h8, h9⟩
 have w1 := (can_wf hc r hr).1
 exact h2 ⟨r, hr, by omega, by omega, h8, h9⟩
theorem lev_on {t : R4} (ht : t ∈ l) {e : Eg} (he : e ∈ levE t) {z : Un} (hz : onE e z) : rin t (lc z).1 (lc z).2 ∧ (z.2 = .e ∨ z.2 = .w) := by
 have w := can_wf hc t ht
 obtain ⟨⟨p, q⟩, d⟩ := z
 rcases List.mem_cons.1 he with rfl | he
 ·obtain ⟨h1, h2, h3, h4⟩ := (onE_e w.1 _).1 hz
  simp only at h1 h2 h3 h4
  subst h1
  exact ⟨⟨by simp only [lc]; omega, by simp only [lc]; omega, by simp only [lc]; omega, by simp only [lc]; have := w.2; omega⟩, .inl rfl⟩
 ·obtain rfl := List.mem_singleton.1 he
  obtain ⟨h1, h2, h3, h4⟩ := (onE_w w.1 _).1 hz
  simp only at h1 h2 h3 h4
  subst h1
  exact ⟨⟨by simp only [lc]; omega, by simp only [lc]; omega, by simp only [lc]; have := w.2; omega, by simp only [lc]; omega⟩, .inr rfl⟩
theorem upr_on {x : Int} {e : Eg} (he : e ∈ uprE l x) {z : Un} (hz : onE e z) : z.1.1 = x ∧ (z.2 = .n ∨ z.2 = .s) := by
 unfold uprE at he
 rcases List.mem_append.1 he with he | he
 ·obtain ⟨s, hs, rfl⟩ := List.mem_map.1 he
  obtain ⟨h1, h2, _⟩ := (onE_n ((sub_can hc x).1.1 s hs) _).1 hz
  exact ⟨h2, .inl h1⟩
 ·obtain ⟨s, hs, rfl⟩ := List.mem_map.1 he
  obtain ⟨h1, h2, _⟩ := (onE_s ((sub_can hc x).2.1 s hs) _).1 hz
  exact ⟨h2, .inr h1⟩
theorem edges_of : EdgesOf (setR l) (edgesF l) := by
 refine ⟨fun e he => ?_, ?_, fun z hz => ?_⟩
 ·unfold edgesF at he
  rcases List.mem_append.1 he with he | he
  ·obtain ⟨t, ht, he⟩ := List.mem_flatMap.1 he
   have w := can_wf hc t ht
   have w1 := w.1
   have w2 := w.2
   rcases List.mem_cons.1 he with rfl | he
   ·refine ⟨.e, (t.x1 - t.x0).toNat, by omega, by refine pt_ext ?_ ?_ <;> simp only [addW, Wy.v] <;> omega, fun i hi => bgn_setR.2 ⟨⟨t, ht, ?_⟩, ?_⟩⟩
    ·simp only [rin, lc, addW, Wy.v]; omega
    ·have := can_low hc ht (x := t.x0 + i) (by omega) (by omega)
     simpa [rc, addW, Wy.v] using this
   ·obtain rfl := List.mem_singleton.1 he
    refine ⟨.w, (t.x1 - t.x0).toNat, by omega, by refine pt_ext ?_ ?_ <;> simp only [addW, Wy.v] <;> omega, fun i hi => bgn_setR.2 ⟨⟨t, ht, ?_⟩, ?_⟩⟩
    ·simp only [rin, lc, addW, Wy.v]; omega
    ·have := can_high hc ht (x := t.x1 - i - 1) (by omega) (by omega)
     have e : t.x1 + (i : Int) * -1 - 1 = t.x1 - i - 1 := by omega
     simp only [rc, addW, Wy.v]
     rw [e]
     simpa using this
  ·obtain ⟨x, hx, he⟩ := List.mem_flatMap.1 he
   unfold uprE at he
   rcases List.mem_append.1 he with he | he
   ·obtain ⟨s, hs, rfl⟩ := List.mem_map.1 he
    have w1 := (sub_can hc x).1.1 s hs
    refine ⟨.n, (s.2 - s.1).toNat, by omega, by refine pt_ext ?_ ?_ <;> simp only [addW, Wy.v] <;> omega, fun i hi => bgn_setR.2 ?_⟩
    have := ends_bgn hc (x := x) (y := s.1 + i) ⟨s, hs, by omega, by omega⟩
    simpa [lc, rc, addW, Wy.v] using this
   ·obtain ⟨s, hs, rfl⟩ := List.mem_map.1 he
    have w1 := (sub_can hc x).2.1 s hs
    refine ⟨.s, (s.2 - s.1).toNat, by omega, by refine pt_ext ?_ ?_ <;> simp only [addW, Wy.v] <;> omega, fun i hi => bgn_setR.2 ?_⟩
    have := begins_bgn hc (x := x) (y := s.2 - i - 1) ⟨s, hs, by omega, by omega⟩
    have e : s.2 + (i : Int) * -1 - 1 = s.2 - i - 1 := by omega
    simp only [lc, rc, addW, Wy.v]
    rw [e]
    simpa using this
 ·unfold edgesF
  refine List.pairwise_append.2 ⟨List.pairwise_flatMap.2 ⟨fun t ht => ?_, ?_⟩, List.pairwise_flatMap.2 ⟨fun x hx => ?_, ?_⟩, fun e he f hf z hz => ?_⟩
  ·have w := (can_wf hc t ht).1
   refine List.pairwise_cons.2 ⟨fun f hf z hz => ?_, by simp⟩
   obtain rfl := List.mem_singleton.1 hf
   have h1 := ((onE_e w _).1 hz.1).1
   rw [((onE_w w _).1 hz.2).1] at h1
   cases h1
  ·refine List.Pairwise.imp_of_mem (fun {s t} hs ht hst e he f hf z hz => ?_) hc.apart
   exact hst _ _ ⟨(lev_on hc hs he hz.1).1, (lev_on hc ht hf hz.2).1⟩
  ·unfold uprE
   obtain ⟨c1, c2⟩ := sub_can hc x
   refine List.pairwise_append.2 ⟨List.pairwise_map.2 ?_, List.pairwise_map.2 ?_, fun e he f hf z hz => ?_⟩
   ·refine List.Pairwise.imp_of_mem (fun {s t} hs ht hst z hz => ?_) c1.2
    have h1 := (onE_n (c1.1 s hs) _).1 hz.1
    have h2 := (onE_n (c1.1 t ht) _).1 hz.2
    omega
   ·refine List.Pairwise.imp_of_mem (fun {s t} hs ht hst z hz => ?_) c2.2
    have h1 := (onE_s (c2.1 s hs) _).1 hz.1
    have h2 := (onE_s (c2.1 t ht) _).1 hz.2
    omega
   ·obtain ⟨s, hs, rfl⟩ := List.mem_map.1 he
    obtain ⟨t, ht, rfl⟩ := List.mem_map.1 hf
    have h1 := ((onE_n (c1.1 s hs) _).1 hz.1).1
    rw [((onE_s (c2.1 t ht) _).1 hz.2).1] at h1
    cases h1
  ·refine (cutsOf_ok (cutsL l)).1.imp fun {x y} hxy e he f hf z hz => ?_
   have h1 := (upr_on hc he hz.1).1
   have h2 := (upr_on hc hf hz.2).1
   omega
  ·obtain ⟨t, ht, he⟩ := List.mem_flatMap.1 he
   obtain ⟨x, hx, hf⟩ := List.mem_flatMap.1 hf
   have h1 := (lev_on hc ht he hz.1).2
   rcases (upr_on hc hf hz.2).2 with h2 | h2 <;> rw [h2] at h1 <;> rcases h1 with h1 | h1 <;> cases h1
 ·obtain ⟨⟨x, y⟩, d⟩ := z
  obtain ⟨h1, h2⟩ := bgn_setR.1 hz
  unfold edgesF
  cases d <;> simp only [lc, rc] at h1 h2
  ·obtain ⟨t, ht, h3, h4, h5, h6⟩ := h1
   have e : t.y0 = y := by
    rcases Int.lt_or_le t.y0 y with h | h
    ·exact absurd ⟨t, ht, h3, h4, by omega, by omega⟩ h2
    ·omega
   refine ⟨((t.x0, t.y0), (t.x1, t.y0)), List.mem_append_left _ (List.mem_flatMap.2 ⟨t, ht, by simp [levE]⟩), (onE_e (can_wf hc t ht).1 _).2 ⟨rfl, e.symm, h3, h4⟩⟩
  ·obtain ⟨hx, s, hs, h3, h4⟩ := bgn_ends hc h1 h2
   refine ⟨((x, s.1), (x, s.2)), List.mem_append_right _ (List.mem_flatMap.2 ⟨x, hx, List.mem_append_left _ (List.mem_map.2 ⟨s, hs, rfl⟩)⟩), (onE_n ((sub_can hc x).1.1 s hs) _).2 ⟨rfl, rfl, h3, h4⟩⟩
  ·obtain ⟨t, ht, h3, h4, h5, h6⟩ := h1
   have e : t.y1 = y := by
    rcases Int.lt_or_le y t.y1 with h | h
    ·exact absurd ⟨t, ht, h3, h4, by omega, by omega⟩ h2
    ·omega
   refine ⟨((t.x1, t.y1), (t.x0, t.y1)), List.mem_append_left _ (List.mem_flatMap.2 ⟨t, ht, by simp [levE]⟩), (onE_w (can_wf hc t ht).1 _).2 ⟨rfl, e.symm, by simp only; omega, by simp only; omega⟩⟩
  ·obtain ⟨hx, s, hs, h3, h4⟩ := bgn_begins hc (x := x) (y := y - 1) h1 h2
   refine ⟨((x, s.2), (x, s.1)), List.mem_append_right _ (List.mem_flatMap.2 ⟨x, hx, List.mem_append_right _ (List.mem_map.2 ⟨s, hs, rfl⟩)⟩), (onE_s ((sub_can hc x).2.1 s hs) _).2 ⟨rfl, rfl, by simp only; omega, by simp only; omega⟩⟩
end
end Go.Proofs.YtdfpbhlnlkjjlaaGreat

/- Outlines: a loop's corners by index; a loop is as the checks want it. -/
namespace Go.Proofs.YtdfpbhlnlkjjlaaGreat
set_option linter.unusedVariables false
set_option linter.unusedSimpArgs false
section
variable {S : Cs} {u : Un} {n : Nat}
theorem LpU.pAt (h : LpU S u n) {i : Nat} (hi : i < mC S u n) : pAt (lpC S u n) i = (cU S u n i).1 := by
 have := pAt_get (l := lpC S u n) (i := i) (by rw [lp_len]; exact hi)
 rw [lp_get hi] at this
 injection this with e
 exact e.symm
theorem LpU.qAt (h : LpU S u n) {i : Nat} (hi : i < mC S u n) : qAt (lpC S u n) i = (cU S u n (i + 1)).1 := by
 have hm : 0 < mC S u n := by omega
 have h1 := h.next_get hi
 have h2 := pAt_get (l := lpC S u n) (i := (i + 1) % mC S u n) (by rw [lp_len]; exact Nat.mod_lt _ hm)
 rw [h1] at h2
 injection h2 with e
 show Go.Proofs.YtdfpbhlnlkjjlaaGreat.pAt _ _ = _
 rw [lp_len]
 exact e.symm
theorem LpU.ends (h : LpU S u n) {i : Nat} (hi : i < mC S u n) : (horW (cU S u n i).2 → (cU S u n i).1.1 ≠ (cU S u n (i + 1)).1.1 ∧ (cU S u n i).1.2 = (cU S u n (i + 1)).1.2) ∧ (¬ horW (cU S u n i).2 → (cU S u n i).1.1 = (cU S u n (i + 1)).1.1 ∧ (cU S u n i).1.2 ≠ (cU S u n (i + 1)).1.2) := by
 obtain ⟨t, ht, _, e, _⟩ := h.side hi
 rw [e]
 unfold horW addW
 cases (cU S u n i).2 <;> simp [Wy.v] <;> omega
theorem LpU.chk (h : LpU S u n) (hl : mC S u n ≤ 2000) (hb : ∀ i, i < mC S u n → (-1000000 ≤ (cU S u n i).1.1 ∧ (cU S u n i).1.1 ≤ 1000000) ∧ -1000000 ≤ (cU S u n i).1.2 ∧ (cU S u n i).1.2 ≤ 1000000) : chkO (lpC S u n) = 0 := by
 have he := h.even
 unfold chkO
 rw [lp_len, if_neg (by omega), if_neg (by omega), if_neg]
 intro hany
 obtain ⟨i, hi, hbad⟩ := List.any_eq_true.1 hany
 have hi := List.mem_range.1 hi
 have hp := h.pAt hi
 have hq := h.qAt hi
 have h0 := h.pAt (i := 0) (by omega)
 have h1 := h.pAt (i := 1) (by omega)
 have hc := h.ends hi
 have hc0 := h.ends (i := 0) (by omega)
 have ha := h.alt i (by omega)
 have hz := h.zero_eq
 have hbi := hb i hi
 unfold badC at hbad
 rw [hp, hq, h0, h1] at hbad
 rw [hz] at hc0 hbad
 simp only [Bool.or_eq_true, decide_eq_true_eq] at hbad
 rcases hbad with h2 | h2 | h2 | h2
 ·omega
 ·omega
 ·by_cases hh : horW (cU S u n i).2
  ·obtain ⟨x1, x2⟩ := hc.1 hh
   rw [x2] at h2
   simp [x1] at h2
  ·obtain ⟨x1, x2⟩ := hc.2 hh
   rw [x1] at h2
   simp [x2] at h2
 ·have e1 : ((cU S u n i).1.1 == (cU S u n (i + 1)).1.1) = true ↔ ¬ horW (cU S u n i).2 := by
   constructor
   ·intro e hh
    exact (hc.1 hh).1 (by simpa using e)
   ·intro hh
    simpa using (hc.2 hh).1
  have e2 : (u.1.1 == (cU S u n 1).1.1) = true ↔ ¬ horW u.2 := by
   constructor
   ·intro e hh
    exact (hc0.1 hh).1 (by simpa using e)
   ·intro hh
    simpa using (hc0.2 hh).1
  have e3 : (((i : Int) % 2) == 0) = true ↔ i % 2 = 0 := by rw [beq_iff_eq]; omega
  generalize ((cU S u n i).1.1 == (cU S u n (i + 1)).1.1) = A at *
  generalize (u.1.1 == (cU S u n 1).1.1) = B at *
  generalize (((i : Int) % 2) == 0) = C at *
  by_cases y1 : horW (cU S u n i).2 <;> by_cases y2 : horW u.2 <;> by_cases y3 : i % 2 = 0 <;> cases A <;> cases B <;> cases C <;> simp_all
end
end Go.Proofs.YtdfpbhlnlkjjlaaGreat

/- Outlines, plain: how many corners and loops the outline of a canonical region has. -/
namespace Go.Proofs.YtdfpbhlnlkjjlaaGreat
set_option linter.unusedVariables false
set_option linter.unusedSimpArgs false
def begU (l : List R4) : List Un := l.flatMap fun t => [((t.x0, t.y0), .e), ((t.x1, t.y1), .w)]
theorem begU_len : ∀ l : List R4, (begU l).length = 2 * l.length
 | [] => rfl
 | t :: l => by
  have e : begU (t :: l) = [((t.x0, t.y0), Wy.e), ((t.x1, t.y1), Wy.w)] ++ begU l := by simp [begU]
  rw [e, List.length_append, begU_len l, List.length_cons]
  simp only [List.length_cons, List.length_nil]
  omega
theorem can_begU {l : List R4} (hc : RCan l) {z : Un} (hz : bgn (setR l) z) (ht : trp (setR l) z ≠ 0) (hh : horW z.2) : z ∈ begU l := by
 obtain ⟨⟨x, y⟩, d⟩ := z
 obtain ⟨h1, h2⟩ := bgn_setR.1 hz
 unfold begU
 rcases hh with hh | hh <;> simp only at hh <;> subst hh <;> simp only [lc, rc] at h1 h2
 ·obtain ⟨t, htl, h3, h4, h5, h6⟩ := h1
  have e : t.y0 = y := by
   rcases Int.lt_or_le t.y0 y with h | h
   ·exact absurd ⟨t, htl, h3, h4, by omega, by omega⟩ h2
   ·omega
  refine List.mem_flatMap.2 ⟨t, htl, ?_⟩
  have e2 : t.x0 = x := Classical.byContradiction fun hne => ht (by
   have a1 : inC (setR l) (lc (bkU ((x, y), .e))) = true := inC_setR.2 ⟨t, htl, by simp only [lc, bkU, Wy.v]; omega, by simp only [lc, bkU, Wy.v]; omega, by simp only [lc, bkU, Wy.v]; omega, by simp only [lc, bkU, Wy.v]; omega⟩
   have a2 : inC (setR l) (rc (bkU ((x, y), .e))) = false := inC_setR'.2 (by
    have := can_low hc htl (x := x - 1) (by omega) (by omega)
    simpa [rc, bkU, Wy.v, e] using this)
   unfold trp
   rw [if_neg (by rw [a1]; simp), if_pos a2])
  simp [e, e2]
 ·obtain ⟨t, htl, h3, h4, h5, h6⟩ := h1
  have e : t.y1 = y := by
   rcases Int.lt_or_le y t.y1 with h | h
   ·exact absurd ⟨t, htl, h3, h4, by omega, by omega⟩ h2
   ·omega
  refine List.mem_flatMap.2 ⟨t, htl, ?_⟩
  have e2 : t.x1 = x := Classical.byContradiction fun hne => ht (by
   have a1 : inC (setR l) (lc (bkU ((x, y), .w))) = true := inC_setR.2 ⟨t, htl, by simp only [lc, bkU, Wy.v]; omega, by simp only [lc, bkU, Wy.v]; omega, by simp only [lc, bkU, Wy.v]; omega, by simp only [lc, bkU, Wy.v]; omega⟩
   have a2 : inC (setR l) (rc (bkU ((x, y), .w))) = false := inC_setR'.2 (by
    have := can_high hc htl (x := x) (by omega) (by omega)
    simpa [rc, bkU, Wy.v, e] using this)
   unfold trp
   rw [if_neg (by rw [a1]; simp), if_pos a2])
  simp [e, e2]
section
variable {S : Cs} {u : Un} {n : Nat}
theorem kC_mono {i j : Nat} (hij : i < j) (hj : j ≤ mC S u n) : kC S u n i < kC S u n j := by
 induction j with
 | zero => omega
 | succ j ih =>
  have h1 := (kC_next (S := S) (u := u) (n := n) (i := j) (by omega)).1
  rcases Nat.lt_or_ge i j with h2 | h2
  ·exact Nat.lt_trans (ih h2 (by omega)) h1
  ·have : i = j := by omega
   subst this; exact h1
def levU (S : Cs) (u : Un) (n : Nat) : List Un := (List.range (mC S u n / 2)).map fun j => cU S u n (2 * j + if u.2 = .e then 0 else 1)
theorem LpU.lev_mem (h : LpU S u n) {z : Un} (hz : z ∈ levU S u n) : inCy S u n z ∧ trp S z ≠ 0 ∧ horW z.2 := by
 obtain ⟨j, hj, rfl⟩ := List.mem_map.1 hz
 rw [List.mem_range] at hj
 have hi : 2 * j + (if u.2 = Wy.e then 0 else 1) < mC S u n := by split <;> omega
 have hk := kC_lt (S := S) (u := u) (n := n) hi
 refine ⟨⟨_, hk.1, rfl⟩, hk.2, (h.alt _ (Nat.le_of_lt hi)).2 ?_⟩
 rcases h.dir with hd | hd
 ·rw [hd, if_pos rfl]
  exact ⟨fun _ => by omega, fun _ => .inl rfl⟩
 ·rw [hd, if_neg (by simp)]
  exact ⟨fun h5 => (by rcases h5 with h5 | h5 <;> cases h5), fun h5 => by omega⟩
theorem LpU.lev_nodup (h : LpU S u n) : (levU S u n).Nodup := by
 refine List.pairwise_map.2 (List.Pairwise.imp_of_mem (fun {a b} ha hb hab => ?_) List.pairwise_lt_range)
 rw [List.mem_range] at hb
 have hj : 2 * b + (if u.2 = Wy.e then 0 else 1) < mC S u n := by split <;> omega
 exact h.cyc.apart _ _ (kC_mono (by omega) (Nat.le_of_lt hj)) (kC_lt hj).1
theorem trips_lev : ∀ {us : List (Un × Nat)}, (∀ q ∈ us, LpU S q.1 q.2) → (us.Pairwise fun a b => ∀ z, ¬ (inCy S a.1 a.2 z ∧ inCy S b.1 b.2 z)) → (us.flatMap fun q => levU S q.1 q.2).Nodup ∧ ((us.map (lpP S)).map List.length).sum = 2 * (us.flatMap fun q => levU S q.1 q.2).length ∧ 4 * us.length ≤ ((us.map (lpP S)).map List.length).sum
 | [], _, _ => ⟨by simp, by simp, by simp⟩
 | q :: us, h, hp => by
  obtain ⟨p1, p2⟩ := List.pairwise_cons.1 hp
  obtain ⟨h1, h2, h3⟩ := trips_lev (fun r hr => h r (by simp [hr])) p2
  have hq := h q (by simp)
  have he := hq.even
  have hl : (levU S q.1 q.2).length = mC S q.1 q.2 / 2 := by unfold levU; rw [List.length_map, List.length_range]
  refine ⟨?_, ?_, ?_⟩
  ·rw [List.flatMap_cons]
   refine List.pairwise_append.2 ⟨hq.lev_nodup, h1, fun a ha b hb e => ?_⟩
   subst e
   obtain ⟨r, hr, hb⟩ := List.mem_flatMap.1 hb
   exact p1 r hr a ⟨(hq.lev_mem ha).1, ((h r (by simp [hr])).lev_mem hb).1⟩
  ·rw [List.flatMap_cons, List.length_append, List.map_cons, List.map_cons, List.sum_cons, h2, hl, lp_len]
   omega
  ·rw [List.map_cons, List.map_cons, List.sum_cons, List.length_cons, lp_len]
   omega
end
theorem perm_sumN {α : Type} {a b : List α} (f : α → Nat) (h : a.Perm b) : (a.map f).sum = (b.map f).sum := by
 induction h with
 | nil => rfl
 | cons x _ ih => simp only [List.map_cons, List.sum_cons, ih]
 | swap x y l => simp only [List.map_cons, List.sum_cons]; omega
 | trans _ _ h1 h2 => exact h1.trans h2
theorem Outl.count {l : List R4} {L : List (List Pt)} (hc : RCan l) (h : Outl (setR l) L) : (L.map List.length).sum ≤ 4 * l.length ∧ L.length ≤ l.length := by
 obtain ⟨⟨us, ht, hp⟩, _⟩ := h
 obtain ⟨h1, h2, h3⟩ := trips_lev ht.lp ht.apart
 have h4 : (us.flatMap fun q => levU (setR l) q.1 q.2).length ≤ (begU l).length := nodup_len h1 fun z hz => by
  obtain ⟨q, hq, hz⟩ := List.mem_flatMap.1 hz
  obtain ⟨a1, a2, a3⟩ := (ht.lp q hq).lev_mem hz
  exact can_begU hc ((ht.lp q hq).cyc.bgn_of a1) a2 a3
 rw [begU_len] at h4
 have e1 := perm_sumN List.length hp
 have e2 := hp.length_eq
 rw [List.length_map] at e2
 rw [e1]
 constructor <;> omega
theorem mem_len_sum {L : List (List Pt)} {l : List Pt} (h : l ∈ L) : l.length ≤ (L.map List.length).sum := by
 induction L with
 | nil => simp at h
 | cons a L ih =>
  rw [List.map_cons, List.sum_cons]
  rcases List.mem_cons.1 h with rfl | h
  ·omega
  ·have := ih h; omega
theorem setR_bd {l : List R4} {M : Nat} (hv : ∀ r ∈ l, -(M : Int) ≤ r.x0 ∧ r.x1 ≤ M ∧ -(M : Int) ≤ r.y0 ∧ r.y1 ≤ M) : bdC (setR l) M := fun x y h => by
 have : pmem l x y := by simpa [setR] using h
 obtain ⟨r, hr, h1, h2, h3, h4⟩ := this
 have := hv r hr
 omega
theorem Outl.chk {l : List R4} {L : List (List Pt)} (hc : RCan l) (h : Outl (setR l) L) (hn : l.length ≤ 500) (hv : ∀ r ∈ l, -1000000 ≤ r.x0 ∧ r.x1 ≤ 1000000 ∧ -1000000 ≤ r.y0 ∧ r.y1 ≤ 1000000) : ∀ p ∈ L, chkO p = 0 := fun p hp => by
 have hcnt := (h.count hc).1
 have hlen := mem_len_sum hp
 obtain ⟨u, n, hu, rfl⟩ := (h.mem p).1 hp
 rw [lp_len] at hlen
 have hM : bdC (setR l) 1000000 := setR_bd fun r hr => by have := hv r hr; omega
 refine hu.chk (by omega) fun i hi => ?_
 have hb := bgn_in hM (itU_bgn hu.cyc.beg (kC (setR l) u n i))
 exact ⟨⟨by have := hb.1.1; omega, by have := hb.1.2; omega⟩, by have := hb.2.1; omega, by have := hb.2.2; omega⟩
end Go.Proofs.YtdfpbhlnlkjjlaaGreat

/- A region that draws its order: reads first, then the other operations in each of the orders that they may come up in (a tree of orders). -/
namespace Go.Proofs.YtdfpbhlnlkjjlaaGreat
open Go.RowKit
set_option linter.unusedVariables false
set_option linter.unusedSimpArgs false
inductive Ords where
 | done : Ords
 | one : Nat → Ords → Ords
 | two : Nat → Ords → Nat → Ords → Ords
def Ords.isDone : Ords → Bool
 | .done => true
 | _ => false
def ordsB (md : Region.Mode) (ops : Array Oper) : Nat → Ords → Array Bool → Bool
 | 0, .done, l => (Region.ready md ops l).isEmpty
 | n + 1, .one t r, l => (Region.ready md ops l == [t]) && (!r.isDone || t == ops.size - 1) && ordsB md ops n r (l.setIfInBounds t true)
 | n + 1, .two i r j s, l => (Region.ready md ops l == [i, j]) && !r.isDone && !s.isDone && ordsB md ops n r (l.setIfInBounds i true) && ordsB md ops n s (l.setIfInBounds j true)
 | _, _, _ => false
section
variable {P : Program} {Q : Exit → Act → World → Prop} {md : Region.Mode} {S : World → Prop}
def wpOne (P : Program) (ops : Array Oper) (Q : Exit → Act → World → Prop) (o : Oper) (next : Act → World → Prop) (a : Act) (w : World) : Prop :=
 ∀ K : Act → World → Prop, (∀ a' w', next a' w' → K a' w') → if Region.wanted o (yielded ops a.tmps) = true then o.wp P a w K Q else K (a.put o.dst undef) w
def wpOrds (P : Program) (l : List Oper) (S : World → Prop) (Q : Exit → Act → World → Prop) : Ords → Act → World → Prop
 | .done, a, w => Q .normal a w
 | .one t r, a, w => wpOne P l.toArray Q (opAt l t) (fun a' w' => (r.isDone = false → S w') ∧ wpOrds P l S Q r a' w') a w
 | .two i r j s, a, w => wpOne P l.toArray Q (opAt l i) (fun a' w' => S w' ∧ wpOrds P l S Q r a' w') a w ∧ wpOne P l.toArray Q (opAt l j) (fun a' w' => S w' ∧ wpOrds P l S Q s a' w') a w
theorem wpOrds_E {l : List Oper} : ∀ (n : Nat) (T : Ords) (listed : Array Bool) (a : Act) (w : World), ordsB md l.toArray n T listed = true → wpOrds P l S Q T a w → wpAnyE P md l.toArray Q S (l.length - 1) n listed a w
 | 0, .done, listed, a, w, hT, h => by
  simp only [ordsB, List.isEmpty_iff] at hT
  exact ⟨hT, h⟩
 | n + 1, .one t r, listed, a, w, hT, h => by
  simp only [ordsB, Bool.and_eq_true, beq_iff_eq, Bool.or_eq_true, Bool.not_eq_true', List.size_toArray] at hT
  obtain ⟨⟨h1, h2⟩, h3⟩ := hT
  refine ⟨fun h0 => (by rw [h1] at h0; cases h0), fun i hi => ?_⟩
  obtain ⟨_, o, ho, _⟩ := mem_ready.1 hi
  rw [h1] at hi
  obtain rfl : i = t := by simpa using hi
  have ho' : l[i]? = some o := by simpa using ho
  simp only [wpOrds, opAt_some ho'] at h
  refine wpOp_step ho fun K' hK => h K' fun a' w' hn => hK a' w' ⟨fun hne => hn.1 ?_, wpOrds_E n r _ a' w' h3 hn.2⟩
  rcases h2 with h2 | h2
  ·exact h2
  ·exact absurd h2 hne
 | n + 1, .two i r j s, listed, a, w, hT, h => by
  simp only [ordsB, Bool.and_eq_true, beq_iff_eq, Bool.not_eq_true'] at hT
  obtain ⟨⟨⟨⟨h1, h2⟩, h3⟩, h4⟩, h5⟩ := hT
  refine ⟨fun h0 => (by rw [h1] at h0; cases h0), fun k hk => ?_⟩
  obtain ⟨_, o, ho, _⟩ := mem_ready.1 hk
  have ho' : l[k]? = some o := by simpa using ho
  rw [h1] at hk
  simp only [wpOrds] at h
  rcases List.mem_cons.1 hk with rfl | hk
  ·have h := h.1
   rw [opAt_some ho'] at h
   exact wpOp_step ho fun K' hK => h K' fun a' w' hn => hK a' w' ⟨fun _ => hn.1, wpOrds_E n r _ a' w' h4 hn.2⟩
  ·obtain rfl : k = j := by simpa using hk
   have h := h.2
   rw [opAt_some ho'] at h
   exact wpOp_step ho fun K' hK => h K' fun a' w' hn => hK a' w' ⟨fun _ => hn.1, wpOrds_E n s _ a' w' h5 hn.2⟩
def ordRB (md : Region.Mode) (ops : Array Oper) (n : Nat) (T : Ords) : List Nat → Array Bool → Bool
 | [], l => ordsB md ops n T l
 | i :: r, l => Region.free md ops l i && (Region.ready md ops l).contains i && waitsFor md ops (ops.size - 1) i && ordRB md ops n T r (l.setIfInBounds i true)
def ordB (md : Region.Mode) (ops : Array Oper) (R : List Nat) (n : Nat) (T : Ords) : Bool := Region.noSelect ops && decide (R.length + n = ops.size) && ordRB md ops n T R (Array.replicate ops.size false)
theorem wpReads_ord {l : List Oper} {T : Ords} {n : Nat} (hsel : ∀ (j : Nat) (o : Oper) cs b, l.toArray[j]? = some o → o.op ≠ .select cs b) (hQ : ∀ c a a' w, Q (.panic c) a w → Q (.panic c) a' w)
  {w : World} (hS : S w) : ∀ (R : List Nat) (listed : Array Bool) (a : Act), ordRB md l.toArray n T R listed = true → wpReads P l.toArray S (fun a' => wpOrds P l S Q T a' w) (R.map (opAt l)) a →
   wpAnyE P md l.toArray Q S (l.length - 1) (R.length + n) listed a w
 | [], listed, a, hR, h => by
  rw [List.length_nil, Nat.zero_add]
  exact wpOrds_E n T listed a w hR h
 | i :: r, listed, a, hR, h => by
  simp only [ordRB, Bool.and_eq_true, List.contains_iff_mem] at hR
  obtain ⟨⟨⟨f1, f2⟩, f3⟩, f4⟩ := hR
  obtain ⟨_, o, ho, _⟩ := mem_ready.1 f2
  have ho' : l[i]? = some o := by simpa using ho
  simp only [List.map_cons, opAt_some ho'] at h
  obtain ⟨v, hy, h⟩ := h
  have ih := wpReads_ord hsel hQ hS r _ _ f4 h
  rw [List.length_cons, Nat.add_right_comm]
  refine wpAnyE_first ho hsel (fun c a w h => hQ c _ _ w h) ?_ _ _ _ _ (Region.free_spec ho f1) f2 hy hS ih
  intro oL hoL
  unfold waitsFor at f3
  simp only [List.size_toArray] at f3
  rw [hoL] at f3
  obtain ⟨e, he, h2⟩ := Array.any_eq_true'.1 f3
  simp only [Bool.and_eq_true, beq_iff_eq] at h2
  exact ⟨e, he, h2.1, h2.2⟩
theorem wp_region_ords {id : Nat} {a : Act} {w : World} {l : List Oper} (R : List Nat) (n : Nat) (T : Ords) (S : World → Prop) (hm : P.follows .mixedOrders = true) (hB : ordB .any l.toArray R n T = true) (hS : S w.drew)
  (h : wpReads P l.toArray S (fun a' => wpOrds P l S (NoPanic Q) T a' w.drew) (R.map (opAt l)) a) : (Code.region id l.toArray true).wp P Q a w := by
 refine wp_region_noPanic (wp_region_any hm (wpAny_of_E (S := S) (L := l.length - 1) _ _ _ _ ?_))
 simp only [ordB, Bool.and_eq_true, decide_eq_true_eq, List.size_toArray] at hB
 obtain ⟨⟨b1, b2⟩, b4⟩ := hB
 have := wpReads_ord (Q := NoPanic Q) (S := S) (l := l) (T := T) (n := n) (w := w.drew) (Region.noSelect_spec b1) (fun _ _ _ _ h => h) hS R _ a b4 h
 rw [b2] at this
 exact this
end
end Go.Proofs.YtdfpbhlnlkjjlaaGreat
