/- Texts laid together: RefK, LookA, JoinA, MLook, MAlg, MLots, MRoof, MRoofP, MOff. Lemmas for the statements of this seat; no condition. -/
import Derived.Test.YtdolpeljengpaaaGreatPk5
import Derived.Test.YtdolpeljengpaaaGreatPk1
import Derived.Test.YtdolpeljengpaaaGreatPk3
import Derived.Test.YtdolpeljengpaaaGreatPk2

/- The reference's Check, Make, Area. -/
namespace Go.Proofs.YtdolpeljengpaaaGreat
open Go.RowKit
set_option linter.unusedVariables false
set_option linter.unusedSimpArgs false

theorem rjoin_or {l : List R4} (h : ∀ r ∈ l, wf4 r) : rjoin (hk 2) l [] = rjoin hFst l [] := by
  obtain ⟨h1, h2⟩ := rjoin_ok (h := hk 2) rfl h (b := []) (by simp)
  refine rjoin_eq rfl h (by simp) h1 fun x y => ?_
  rw [h2]
  have : decide (pmem ([] : List R4) x y) = false := decide_eq_false pmem_nil
  rw [this]
  simp [hk, hFst]
theorem isortI_len : ∀ (l : List Int), (isortI l).length ≤ l.length
  | [] => Nat.le_refl _
  | c :: l => by
    have h1 := insI_len c (isortI l)
    have h2 := isortI_len l
    simp only [isortI, List.length_cons]
    omega
theorem rjoin_len (l : List R4) (hl : l.length ≤ 400) : (rjoin hFst l []).length ≤ 100000000 := by
  have h1 := swp_len (fun c => sjoin hFst (crossL l c) (crossL [] c)) 1000 (fun c => by
    have h1 := sjoin_len hFst (crossL l c) (crossL [] c)
    have h2 := crossL_len l c
    have h3 : (crossL [] c).length = 0 := rfl
    omega) (prs (isortI (cutsL l ++ cutsL [])))
  rw [swp_sweep] at h1
  have h2 := prs_len (isortI (cutsL l ++ cutsL []))
  have h3 := isortI_len (cutsL l ++ cutsL [])
  rw [List.length_append, cutsL_len, cutsL_len] at h3
  simp only [List.length_nil] at h3
  unfold rjoin
  have h4 : (prs (isortI (cutsL l ++ cutsL []))).length ≤ 1000 := by omega
  have h5 := Nat.mul_le_mul_right 1000 h4
  omega
theorem makeF_len (l : List R4) : (makeF l).1.length ≤ 400 := by
  unfold makeF
  split
  · simp
  · split
    · simp
    · unfold madeF
      split
      · simp
      · simp only; omega
theorem checkF_valid {l : List R4} (h4 : ¬ 400 < l.length) (ha : l.any (fun r => !decide (valid4 r)) = false) : checkF l = if rjoin hFst l [] = l then 0 else 8 := by
  unfold checkF
  rw [if_neg h4, ha]
  simp only [Bool.false_eq_true, if_false]
  unfold madeF
  by_cases hr : rjoin hFst l [] = l
  · rw [hr, if_neg h4, if_pos rfl, if_pos ⟨rfl, rfl⟩]
  · rw [if_neg hr]
    by_cases h5 : 400 < (rjoin hFst l []).length
    · rw [if_pos h5, if_neg (by simp)]
    · rw [if_neg h5, if_neg (fun h => hr h.2)]

set_option maxRecDepth 100000 in
set_option maxHeartbeats 2000000 in
theorem rCheck_any {w : World} {v : Value} {l : List R4} (hr : RdK encR 4 w w.heap.size v l) (hl : l.length ≤ 100000000) :
    Calls Tryz.prog 53 #[v] w fun e w' => e = .returned (.int .i64 (checkF l)) ∧ Below w.heap.size w w' := by
  obtain ⟨A, c, hv, hc⟩ := id hr
  subst hv
  have HR := hide hr
  have HRC := hide hc
  clear hr hc
  by_cases h4 : 400 < l.length
  · have hz : (400 : Int) < (l.length : Int) := by omega
    have hm : checkF l = 4 := if_pos h4
    have HM := hide hm
    clear hm
    go_enter Tryz.func53, Tryz.ntmps53
    go_wp2
    go_ret
    exact ⟨ret_eq (int_eq HM.out.symm), Below.refl _ _⟩
  · have hz : (l.length : Int) ≤ 400 := by omega
    have hck : ∀ ha : l.any (fun r => !decide (valid4 r)) = false, checkF l = if rjoin hFst l [] = l then 0 else 8 := checkF_valid h4
    have hck8 : ∀ ha : l.any (fun r => !decide (valid4 r)) = true, checkF l = 8 := fun ha => by unfold checkF; rw [if_neg h4, ha]; rfl
    have HCK := hide hck
    have HCK8 := hide hck8
    clear hck hck8
    go_enter Tryz.func53, Tryz.ntmps53
    go_wp2
    go_loopw [3] (fun i wr => ∃ m : Nat, m ≤ l.length ∧ i = .int .i64 m ∧ Hid (∀ r ∈ l.take m, valid4 r) ∧ Hid (Below w.heap.size w wr)) (fun i _ => l.length - (intOf i).toNat)
    case atStart => exact ⟨0, Nat.zero_le _, rfl, hide (by simp), hide (Below.refl _ _)⟩
    case round =>
      obtain ⟨m, hm, rfl, HV, HB⟩ := hrel
      by_cases hlt : m < l.length
      · obtain ⟨⟨x0, y0, x1, y1⟩, hp⟩ : ∃ p, l[m]? = some p := ⟨_, List.getElem?_eq_getElem hlt⟩
        obtain ⟨b, o, rfl, hbl, k⟩ := HRC.out (by intro e; rw [e] at hlt; simp at hlt)
        have d0 : wr.cell? ⟨b, o + m * 4, none⟩ = some (.int .i64 x0) := (HB.out.cell (p := ⟨b, _, none⟩) hbl).trans (k m _ hp 0 _ rfl)
        have d1 : wr.cell? ⟨b, o + m * 4 + 1, none⟩ = some (.int .i64 y0) := (HB.out.cell (p := ⟨b, _, none⟩) hbl).trans (k m _ hp 1 _ rfl)
        have d2 : wr.cell? ⟨b, o + m * 4 + 2, none⟩ = some (.int .i64 x1) := (HB.out.cell (p := ⟨b, _, none⟩) hbl).trans (k m _ hp 2 _ rfl)
        have d3 : wr.cell? ⟨b, o + m * 4 + 3, none⟩ = some (.int .i64 y1) := (HB.out.cell (p := ⟨b, _, none⟩) hbl).trans (k m _ hp 3 _ rfl)
        have mz : (m : Int) < (l.length : Int) := by omega
        have hva := rValid_any ⟨x0, y0, x1, y1⟩ wr
        have HP := hide hp
        simp only [encR] at hva
        have HVA := hide hva
        have hp' := hp
        clear k hp hva
        cases hq : decide (valid4 ⟨x0, y0, x1, y1⟩) with
        | true =>
          have HQ := hide hq
          rw [hq] at HVA
          clear hq hp'
          go_wp2_with (go_at_call 95; refine HVA.out.mono ?_; rintro e w2 ⟨rfl, hb2⟩)
          go_roundw
          case rel =>
            refine ⟨m + 1, by omega, by go_num, hide ?_, hide (HB.out.trans (hb2.mono HB.out.size))⟩
            obtain ⟨i1, e1⟩ := List.getElem?_eq_some_iff.1 HP.out
            intro r hr
            rw [List.take_succ_eq_append_getElem i1, List.mem_append] at hr
            rcases hr with hr | hr
            · exact HV.out r hr
            · rw [List.mem_singleton] at hr
              subst hr
              rw [e1]
              exact of_decide_eq_true HQ.out
          case measure => simp [intOf]; omega
        | false =>
          have hany : l.any (fun r => !decide (valid4 r)) = true := List.any_eq_true.2 ⟨_, List.mem_of_getElem? hp', by rw [hq]; rfl⟩
          have HAN := hide hany
          rw [hq] at HVA
          clear hq hany hp'
          go_wp2_with (go_at_call 95; refine HVA.out.mono ?_; rintro e w2 ⟨rfl, hb2⟩)
          go_ret
          exact ⟨ret_eq (int_eq (HCK8.out HAN.out).symm), HB.out.trans (hb2.mono HB.out.size)⟩
      · have mz : ¬ (m : Int) < (l.length : Int) := by omega
        have hva : ∀ r ∈ l, valid4 r := by have := HV.out; rwa [List.take_of_length_le (by omega)] at this
        have hany : l.any (fun r => !decide (valid4 r)) = false := by
          rw [List.any_eq_false]
          intro r hr
          simp [hva r hr]
        have HAN := hide hany
        have HW := hide (fun (r : R4) (h : r ∈ l) => (show wf4 r from ⟨(hva r h).1, (hva r h).2.1⟩))
        have hjo := rJoined_any 2 (.inr (.inl rfl)) (w := wr) (HR.out.below HB.out) (RdK.nil (α := R4) none 0) HB.out.size (by omega) (by simp)
        rw [ref_join (h := hk 2) rfl HW.out (by simp), rjoin_or HW.out] at hjo
        have hsz := HB.out.size
        have HJO := hide hjo
        clear hjo hany hva
        have HRL := hide (rjoin_len l (by omega))
        generalize rjoin hFst l [] = R at *
        have heq : ∀ (W : World) (vs : Value), Below w.heap.size w W → W.ownsRow wr.heap.size 69 4 vs R.length (R.flatMap encR) → _ := fun W vs h1 h2 => rSameRects_any (w := W) (own_rd h2 (fun _ => rfl)) ((HR.out.below h1).mono h1.size) HRL.out (Nat.le_refl _) (Nat.le_refl _)
        have HEQ := hide heq
        clear heq
        cases hd : decide (R = l) with
        | true =>
          have HD := hide hd
          clear hd
          go_wp2_with (first
            | (go_at_call 72; refine HJO.out.mono ?_; rintro e w2 ⟨vo, rfl, ho, hb2⟩; have HO := hide ho; have HB2 := hide hb2; clear ho hb2)
            | (go_at_call 19; refine (HEQ.out _ _ (HB.out.trans (HB2.out.mono hsz)) HO.out).mono ?_; rintro e w3 ⟨rfl, hb3⟩; rw [HD.out]))
          go_ret
          exact ⟨ret_eq (int_eq (by rw [HCK.out HAN.out, if_pos (of_decide_eq_true HD.out)])), (HB.out.trans (HB2.out.mono hsz)).trans (hb3.mono (Nat.le_trans hsz HB2.out.size))⟩
        | false =>
          have HD := hide hd
          clear hd
          go_wp2_with (first
            | (go_at_call 72; refine HJO.out.mono ?_; rintro e w2 ⟨vo, rfl, ho, hb2⟩; have HO := hide ho; have HB2 := hide hb2; clear ho hb2)
            | (go_at_call 19; refine (HEQ.out _ _ (HB.out.trans (HB2.out.mono hsz)) HO.out).mono ?_; rintro e w3 ⟨rfl, hb3⟩; rw [HD.out]))
          go_ret
          exact ⟨ret_eq (int_eq (by rw [HCK.out HAN.out, if_neg (of_decide_eq_false HD.out)])), (HB.out.trans (HB2.out.mono hsz)).trans (hb3.mono (Nat.le_trans hsz HB2.out.size))⟩

set_option maxRecDepth 100000 in
set_option maxHeartbeats 2000000 in
theorem rMake_any {w : World} {v : Value} {l : List R4} (hr : RdK encR 4 w w.heap.size v l) (hl : l.length ≤ 100000000) :
    Calls Tryz.prog 50 #[v] w fun e w' => RegRet w.heap.size (makeF l) e w' ∧ Below w.heap.size w w' := by
  obtain ⟨A, c, hv, hc⟩ := id hr
  subst hv
  have HR := hide hr
  have HRC := hide hc
  clear hr hc
  by_cases h4 : 400 < l.length
  · have hz : (400 : Int) < (l.length : Int) := by omega
    have hm : makeF l = ([], 4) := if_pos h4
    have HM := hide hm
    clear hm
    go_enter Tryz.func50, Tryz.ntmps50
    go_wp2
    go_ret2
    exact ⟨⟨none, 0, by rw [HM.out]; rfl, by rw [HM.out]; exact World.ownsRow_nil _ _ _ _⟩, Below.refl _ _⟩
  · have hz : (l.length : Int) ≤ 400 := by omega
    have hck : ∀ ha : l.any (fun r => !decide (valid4 r)) = false, makeF l = if 400 < (rjoin hFst l []).length then ([], 4) else (rjoin hFst l [], 0) := fun ha => by unfold makeF madeF; rw [if_neg h4, ha]; rfl
    have hck8 : ∀ ha : l.any (fun r => !decide (valid4 r)) = true, makeF l = ([], 8) := fun ha => by unfold makeF; rw [if_neg h4, ha]; rfl
    have HCK := hide hck
    have HCK8 := hide hck8
    clear hck hck8
    go_enter Tryz.func50, Tryz.ntmps50
    go_wp2
    go_loopw [4] (fun i wr => ∃ m : Nat, m ≤ l.length ∧ i = .int .i64 m ∧ Hid (∀ r ∈ l.take m, valid4 r) ∧ Hid (Below w.heap.size w wr)) (fun i _ => l.length - (intOf i).toNat)
    case atStart => exact ⟨0, Nat.zero_le _, rfl, hide (by simp), hide (Below.refl _ _)⟩
    case round =>
      obtain ⟨m, hm, rfl, HV, HB⟩ := hrel
      by_cases hlt : m < l.length
      · obtain ⟨⟨x0, y0, x1, y1⟩, hp⟩ : ∃ p, l[m]? = some p := ⟨_, List.getElem?_eq_getElem hlt⟩
        obtain ⟨b, o, rfl, hbl, k⟩ := HRC.out (by intro e; rw [e] at hlt; simp at hlt)
        have d0 : wr.cell? ⟨b, o + m * 4, none⟩ = some (.int .i64 x0) := (HB.out.cell (p := ⟨b, _, none⟩) hbl).trans (k m _ hp 0 _ rfl)
        have d1 : wr.cell? ⟨b, o + m * 4 + 1, none⟩ = some (.int .i64 y0) := (HB.out.cell (p := ⟨b, _, none⟩) hbl).trans (k m _ hp 1 _ rfl)
        have d2 : wr.cell? ⟨b, o + m * 4 + 2, none⟩ = some (.int .i64 x1) := (HB.out.cell (p := ⟨b, _, none⟩) hbl).trans (k m _ hp 2 _ rfl)
        have d3 : wr.cell? ⟨b, o + m * 4 + 3, none⟩ = some (.int .i64 y1) := (HB.out.cell (p := ⟨b, _, none⟩) hbl).trans (k m _ hp 3 _ rfl)
        have mz : (m : Int) < (l.length : Int) := by omega
        have hva := rValid_any ⟨x0, y0, x1, y1⟩ wr
        have HP := hide hp
        simp only [encR] at hva
        have HVA := hide hva
        have hp' := hp
        clear k hp hva
        cases hq : decide (valid4 ⟨x0, y0, x1, y1⟩) with
        | true =>
          have HQ := hide hq
          rw [hq] at HVA
          clear hq hp'
          go_wp2_with (go_at_call 95; refine HVA.out.mono ?_; rintro e w2 ⟨rfl, hb2⟩)
          go_roundw
          case rel =>
            refine ⟨m + 1, by omega, by go_num, hide ?_, hide (HB.out.trans (hb2.mono HB.out.size))⟩
            obtain ⟨i1, e1⟩ := List.getElem?_eq_some_iff.1 HP.out
            intro r hr
            rw [List.take_succ_eq_append_getElem i1, List.mem_append] at hr
            rcases hr with hr | hr
            · exact HV.out r hr
            · rw [List.mem_singleton] at hr
              subst hr
              rw [e1]
              exact of_decide_eq_true HQ.out
          case measure => simp [intOf]; omega
        | false =>
          have hany : l.any (fun r => !decide (valid4 r)) = true := List.any_eq_true.2 ⟨_, List.mem_of_getElem? hp', by rw [hq]; rfl⟩
          have HAN := hide hany
          rw [hq] at HVA
          clear hq hany hp'
          go_wp2_with (go_at_call 95; refine HVA.out.mono ?_; rintro e w2 ⟨rfl, hb2⟩)
          go_ret2
          exact ⟨⟨none, 0, by rw [HCK8.out HAN.out]; rfl, by rw [HCK8.out HAN.out]; exact World.ownsRow_nil _ _ _ _⟩, HB.out.trans (hb2.mono HB.out.size)⟩
      · have mz : ¬ (m : Int) < (l.length : Int) := by omega
        have hva : ∀ r ∈ l, valid4 r := by have := HV.out; rwa [List.take_of_length_le (by omega)] at this
        have hany : l.any (fun r => !decide (valid4 r)) = false := by
          rw [List.any_eq_false]
          intro r hr
          simp [hva r hr]
        have HAN := hide hany
        have HW := hide (fun (r : R4) (h : r ∈ l) => (show wf4 r from ⟨(hva r h).1, (hva r h).2.1⟩))
        have hjo := rJoined_any 2 (.inr (.inl rfl)) (w := wr) (HR.out.below HB.out) (RdK.nil (α := R4) none 0) HB.out.size (by omega) (by simp)
        rw [ref_join (h := hk 2) rfl HW.out (by simp), rjoin_or HW.out] at hjo
        have hsz := HB.out.size
        have HJO := hide hjo
        clear hjo hany hva
        have HRL := hide (rjoin_len l (by omega))
        generalize rjoin hFst l [] = R at *
        by_cases h5 : 400 < R.length
        · have h5z : (400 : Int) < (R.length : Int) := by omega
          have HM : Hid (makeF l = ([], 4)) := hide (by rw [HCK.out HAN.out, if_pos h5])
          go_wp2_with (first
            | (go_at_call 72; refine HJO.out.mono ?_; rintro e w2 ⟨vo, rfl, ho, hb2⟩; obtain ⟨Ao, co, hvo⟩ := own_form ho; subst hvo; have HO := hide ho; have HB2 := hide hb2; clear ho hb2))
          go_ret2
          exact ⟨⟨none, 0, by rw [HM.out]; rfl, by rw [HM.out]; exact World.ownsRow_nil _ _ _ _⟩, HB.out.trans (HB2.out.mono hsz)⟩
        · have h5z : (R.length : Int) ≤ 400 := by omega
          have HM : Hid (makeF l = (R, 0)) := hide (by rw [HCK.out HAN.out, if_neg h5])
          go_wp2_with (first
            | (go_at_call 72; refine HJO.out.mono ?_; rintro e w2 ⟨vo, rfl, ho, hb2⟩; obtain ⟨Ao, co, hvo⟩ := own_form ho; subst hvo; have HO := hide ho; have HB2 := hide hb2; clear ho hb2))
          go_ret2
          exact ⟨⟨Ao, co, by rw [HM.out]; rfl, by rw [HM.out]; exact own_base HO.out hsz⟩, HB.out.trans (HB2.out.mono hsz)⟩

end Go.Proofs.YtdolpeljengpaaaGreat

/- region.Cross, region.Move, region.Flip. -/
namespace Go.Proofs.YtdolpeljengpaaaGreat
open Go.RowKit
set_option linter.unusedVariables false
set_option linter.unusedSimpArgs false

/-- A list of spans and an error code come back. -/
def SpnRet (B : Nat) (x : List Sp × Int) (e : Ending) (w' : World) : Prop :=
  ∃ A c, e = .returned (.tuple #[.slice A x.1.length c, .int .i64 x.2]) ∧ w'.ownsRow B 188 2 (.slice A x.1.length c) x.1.length (x.1.flatMap encS)
def crossF (l : List R4) (x : Int) : List Sp × Int := if checkF l = 0 then (crossL l x, 0) else ([], checkF l)
def mv (x y : Int) (r : R4) : R4 := ⟨r.x0 + x, r.y0 + y, r.x1 + x, r.y1 + y⟩
def inMv (x : Int) : Prop := -2000000 ≤ x ∧ x ≤ 2000000
instance (x : Int) : Decidable (inMv x) := by unfold inMv; infer_instance
def moveF (l : List R4) (x y : Int) : List R4 × Int := if checkF l = 0 then (if l = [] ∨ (inMv x ∧ inMv y ∧ ∀ r ∈ l, valid4 (mv x y r)) then (l.map (mv x y), 0) else ([], 16)) else ([], checkF l)
def flip4 (r : R4) : R4 := ⟨r.y0, r.x0, r.y1, r.x1⟩
def flipF (l : List R4) : List R4 × Int := if checkF l = 0 then madeF (l.map flip4) else ([], checkF l)
theorem map_take {α β : Type} (f : α → β) {l : List α} {m : Nat} {r : α} (h : l[m]? = some r) : (l.take (m + 1)).map f = (l.take m).map f ++ [f r] := by
  obtain ⟨hm, hp⟩ := List.getElem?_eq_some_iff.1 h
  rw [List.take_succ_eq_append_getElem hm, hp]
  simp
theorem flip_valid {r : R4} (h : valid4 r) : valid4 (flip4 r) := ⟨h.2.1, h.1, h.2.2.2.2.1, h.2.2.2.2.2, h.2.2.1, h.2.2.2.1⟩

end Go.Proofs.YtdolpeljengpaaaGreat

/- span.Check at a canonical set; span.checked; span.Union, Meet, Minus; region.both and the reference's Both and Join. -/
namespace Go.Proofs.YtdolpeljengpaaaGreat
open Go.RowKit
set_option linter.unusedVariables false
set_option linter.unusedSimpArgs false

set_option maxRecDepth 100000 in
set_option maxHeartbeats 2000000 in
theorem spCheck_can {w : World} {v : Value} {s : List Sp} (hr : RdK encS 2 w w.heap.size v s) (hl : s.length ≤ 400) (hc : SCan s) (hv : ∀ p ∈ s, validS p) :
    Calls Tryz.prog 188 #[v] w fun e w' => e = .returned (.int .i64 0) ∧ Below w.heap.size w w' := by
  obtain ⟨A, c, rfl, hrd⟩ := hr
  have HR := hide hrd
  have HC := hide hc
  have HV := hide hv
  have lz : (s.length : Int) ≤ 400 := by omega
  clear hrd hc hv
  go_enter Tryz.func188, Tryz.ntmps188
  go_wp2
  go_loopw [10] (fun i wr => ∃ m : Nat, m ≤ s.length ∧ i = .int .i64 m ∧ Hid (Below w.heap.size w wr)) (fun i _ => s.length - (intOf i).toNat)
  case atStart => exact ⟨0, Nat.zero_le _, rfl, hide (Below.refl _ _)⟩
  case round =>
    obtain ⟨m, hm, rfl, HB⟩ := hrel
    by_cases hlt : m < s.length
    · obtain ⟨⟨x, y⟩, hp⟩ : ∃ p, s[m]? = some p := ⟨_, List.getElem?_eq_getElem hlt⟩
      obtain ⟨b, o, rfl, hbl, k⟩ := HR.out (by intro e; rw [e] at hlt; simp at hlt)
      have d0 : wr.cell? ⟨b, o + m * 2, none⟩ = some (.int .i64 x) := (HB.out.cell (p := ⟨b, _, none⟩) hbl).trans (k m _ hp 0 _ rfl)
      have d1 : wr.cell? ⟨b, o + m * 2 + 1, none⟩ = some (.int .i64 y) := (HB.out.cell (p := ⟨b, _, none⟩) hbl).trans (k m _ hp 1 _ rfl)
      have mz : (m : Int) < (s.length : Int) := by omega
      have hsz := HB.out.size
      have hbw : b < wr.heap.size := by omega
      have HVA : Hid (∀ W, Calls Tryz.prog 183 #[.agg #[.int .i64 x, .int .i64 y]] W fun e w' => e = .returned (.bool true) ∧ Below W.heap.size W w') := hide (fun W => by
        have := validS_any (x, y) W
        rw [decide_eq_true (HV.out _ (List.mem_of_getElem? hp))] at this
        exact this)
      have HP := hide hp
      clear hp
      rcases Nat.eq_zero_or_pos m with rfl | hmp
      · clear k
        simp only [Nat.zero_mul, Nat.add_zero] at d0 d1
        rw [show ((0 : Nat) : Int) = 0 from rfl] at *
        go_wp2
        refine wp_hab fun hab => ?_
        refine wp_region_above (by kernel_rfl) (by kernel_rfl) ?_
        repeat (go_big_quiet_step ((go_at_call 183; exact above_of (HVA.out _))))
        refine wpQuiet_nil ?_
        refine above_ends fun w3 hb3 => ?_
        clear hab
        have HB3 := hide ((HB.out.alloc hsz _).trans (hb3.mono (by simp; omega)))
        clear hb3
        go_wp2
        go_roundw
        case rel => exact ⟨0 + 1, by omega, by go_num, HB3⟩
        case measure => simp [intOf]; omega
      · obtain ⟨j, rfl⟩ : ∃ j, m = j + 1 := ⟨m - 1, by omega⟩
        obtain ⟨⟨p, q⟩, hq⟩ : ∃ p, s[j]? = some p := ⟨_, List.getElem?_eq_getElem (by omega)⟩
        have d2 : wr.cell? ⟨b, o + j * 2 + 1, none⟩ = some (.int .i64 q) := (HB.out.cell (p := ⟨b, _, none⟩) hbl).trans (k j _ hq 1 _ rfl)
        have hqx : q < x := by
          obtain ⟨i1, e1⟩ := List.getElem?_eq_some_iff.1 hq
          obtain ⟨i2, e2⟩ := List.getElem?_eq_some_iff.1 HP.out
          have := List.pairwise_iff_getElem.1 HC.out.2 j (j + 1) i1 i2 (by omega)
          rw [e1, e2] at this
          exact this
        have hge : decide (x ≤ q) = false := decide_eq_false (by omega)
        have q1 : (0 : Int) < (j : Int) + 1 := by omega
        have q2 : (j : Int) < (s.length : Int) := by omega
        have q3 : IntKind.i64.wrap ((j : Int) + 1 - 1) = j := by simp [IntKind.wrap, IntKind.bits, IntKind.signed]; omega
        have q5 : IntKind.i64.wrap (j : Int) = j := by simp [IntKind.wrap, IntKind.bits, IntKind.signed]; omega
        have q4 : (0 : Int) ≤ (j : Int) := by omega
        have q6 : decide ((0 : Int) < (j : Int) + 1) = true := decide_eq_true q1
        clear k hq hmp
        rw [show ((j + 1 : Nat) : Int) = (j : Int) + 1 from rfl] at *
        go_wp2
        refine wp_hab fun hab => ?_
        refine wp_region_above (by kernel_rfl) (by kernel_rfl) ?_
        repeat (go_big_quiet_step ((go_at_call 183; exact above_of (HVA.out _))))
        refine wpQuiet_nil ?_
        refine above_ends fun w3 hb3 => ?_
        clear hab
        have HB3 := hide ((HB.out.alloc hsz _).trans (hb3.mono (by simp; omega)))
        clear hb3 q3 q5
        go_wp2
        go_roundw
        case rel => exact ⟨j + 1 + 1, by omega, by go_num, HB3⟩
        case measure => simp [intOf]; omega
    · have mz : ¬ (m : Int) < (s.length : Int) := by omega
      go_wp2
      go_ret
      exact ⟨rfl, HB.out⟩

/-- What span.checked returns for canonical sets. -/
def sjF (h : Bool → Bool → Bool) (a b : List Sp) : List Sp × Int := if 400 < (sjoin h a b).length then ([], 4) else (sjoin h a b, 0)
set_option maxHeartbeats 2000000 in
theorem checked_any (a b : List Sp) (va vb : Value) (w : World) (g : Nat) (h : Bool → Bool → Bool) (h0 : h false false = false) (eg : ∀ args w, (callFunc g args).run Tryz.prog w = .ok (.enter g args) w)
    (hg : ∀ (x y : Bool) (W : World), Calls Tryz.prog g #[.bool x, .bool y] W fun e w' => e = .returned (.bool (h x y)) ∧ W = w')
    (ra : RdK encS 2 w w.heap.size va a) (rb : RdK encS 2 w w.heap.size vb b) (na : a.length ≤ 400) (nb : b.length ≤ 400) (ca : SCan a) (cb : SCan b) (ba : ∀ p ∈ a, validS p) (bb : ∀ p ∈ b, validS p) :
    Calls Tryz.prog 149 #[va, vb, .func (.func g) #[] #[]] w fun e w' => SpnRet w.heap.size (sjF h a b) e w' ∧ Below w.heap.size w w' := by
  have hcA := spCheck_can ra na ca ba
  have hcB := fun (W : World) (hW : Below w.heap.size w W) => spCheck_can (w := W) ((rb.below hW).mono hW.size) nb cb bb
  have hj := fun (W : World) (hW : Below w.heap.size w W) => sjoin_any a b va vb W g h h0 eg hg ((ra.below hW).mono hW.size) ((rb.below hW).mono hW.size) (by omega) (by omega) ba bb
  obtain ⟨A1, c1, hva, _⟩ := ra
  obtain ⟨A2, c2, hvb, _⟩ := rb
  subst hva; subst hvb
  have HCA := hide hcA
  have HCB := hide hcB
  have HJ := hide hj
  have hsl := sjoin_len h a b
  have hF : sjF h a b = if 400 < (sjoin h a b).length then ([], 4) else (sjoin h a b, 0) := rfl
  have HF := hide hF
  clear hcA hcB hj ca cb ba bb hg hF
  generalize sjoin h a b = s at *
  by_cases h4 : 400 < s.length
  · have hz : (400 : Int) < (s.length : Int) := by omega
    have HF2 : Hid (sjF h a b = ([], 4)) := hide (by rw [HF.out, if_pos h4])
    go_enter Tryz.func149, Tryz.ntmps149
    go_wp2_with (fail)
    refine HCA.out.mono ?_
    rintro e w1 ⟨rfl, hb1⟩
    have HB1 := hide hb1
    clear hb1
    go_wp2_with (fail)
    refine (HCB.out _ HB1.out).mono ?_
    rintro e w2 ⟨rfl, hb2⟩
    have HB2 := hide (HB1.out.trans (hb2.mono HB1.out.size))
    clear hb2
    go_wp2_with (fail)
    refine (HJ.out _ HB2.out).mono ?_
    rintro e w3 ⟨A3, c3, rfl, ho3, hb3⟩
    have HO3 := hide ho3
    have HB3 := hide (HB2.out.trans (hb3.mono HB2.out.size))
    clear hb3 ho3
    go_wp2_with (fail)
    go_ret2
    exact ⟨⟨none, 0, by rw [HF2.out]; rfl, by rw [HF2.out]; exact World.ownsRow_nil _ _ _ _⟩, HB3.out⟩
  · have hz : (s.length : Int) ≤ 400 := by omega
    have HF2 : Hid (sjF h a b = (s, 0)) := hide (by rw [HF.out, if_neg h4])
    go_enter Tryz.func149, Tryz.ntmps149
    go_wp2_with (fail)
    refine HCA.out.mono ?_
    rintro e w1 ⟨rfl, hb1⟩
    have HB1 := hide hb1
    clear hb1
    go_wp2_with (fail)
    refine (HCB.out _ HB1.out).mono ?_
    rintro e w2 ⟨rfl, hb2⟩
    have HB2 := hide (HB1.out.trans (hb2.mono HB1.out.size))
    clear hb2
    go_wp2_with (fail)
    refine (HJ.out _ HB2.out).mono ?_
    rintro e w3 ⟨A3, c3, rfl, ho3, hb3⟩
    have HO3 := hide (own_base (base := w.heap.size) ho3 HB2.out.size)
    have HB3 := hide (HB2.out.trans (hb3.mono HB2.out.size))
    clear hb3 ho3
    go_wp2_with (fail)
    go_ret2
    exact ⟨⟨A3, c3, by rw [HF2.out]; rfl, by rw [HF2.out]; exact HO3.out⟩, HB3.out⟩

theorem clSub_any (x y : Bool) (W : World) : Calls Tryz.prog 150 #[.bool x, .bool y] W fun e w' => e = .returned (.bool (hSub x y)) ∧ W = w' := by
  cases x <;> cases y
  all_goals
    go_enter Tryz.func150, Tryz.ntmps150
    go_wp2
    go_ret
    exact ⟨rfl, rfl⟩
theorem enter_clSub : ∀ args w, (callFunc 150 args).run Tryz.prog w = .ok (.enter 150 args) w := enters_of Tryz.func150 (by kernel_rfl) rfl
theorem enter_spSub : ∀ args w, (callFunc 97 args).run Tryz.prog w = .ok (.enter 97 args) w := enters_of Tryz.func97 (by kernel_rfl) rfl
/-- The contract of a joining function: at canonical sets. -/
def SpJoin (f : Nat) (h : Bool → Bool → Bool) : Prop := ∀ (a b : List Sp) (va vb : Value) (w : World), RdK encS 2 w w.heap.size va a → RdK encS 2 w w.heap.size vb b → a.length ≤ 400 → b.length ≤ 400 → SCan a → SCan b → (∀ p ∈ a, validS p) → (∀ p ∈ b, validS p) →
  Calls Tryz.prog f #[va, vb] w fun e w' => SpnRet w.heap.size (sjF h a b) e w' ∧ Below w.heap.size w w'
set_option maxHeartbeats 1000000 in
theorem spSub_any : SpJoin 97 hSub := by
  intro a b va vb w ra rb na nb ca cb ba bb
  have hc := checked_any a b va vb w 150 hSub rfl enter_clSub clSub_any ra rb na nb ca cb ba bb
  obtain ⟨A1, c1, hva, _⟩ := ra
  obtain ⟨A2, c2, hvb, _⟩ := rb
  subst hva; subst hvb
  have HC := hide hc
  clear hc ca cb ba bb
  generalize sjF hSub a b = R at *
  obtain ⟨R1, R2⟩ := R
  go_enter Tryz.func97, Tryz.ntmps97
  go_wp2_with (fail)
  refine HC.out.mono ?_
  rintro e w1 ⟨⟨A3, c3, rfl, ho⟩, hb⟩
  have HO := hide ho
  clear ho
  go_wp2_with (fail)
  go_ret2
  exact ⟨⟨A3, c3, rfl, HO.out⟩, hb⟩
/-- The error of two regions. -/
def bothF (a b : List R4) : Int := if checkF a = 0 then checkF b else checkF a
set_option maxHeartbeats 1000000 in
theorem both_any {w : World} {va vb : Value} {a b : List R4} (ra : RdK encR 4 w w.heap.size va a) (rb : RdK encR 4 w w.heap.size vb b) (na : a.length ≤ 100000000) (nb : b.length ≤ 100000000) :
    Calls Tryz.prog 147 #[va, vb] w fun e w' => e = .returned (.int .i64 (bothF a b)) ∧ Below w.heap.size w w' := by
  have hA := check_any ra na
  have hB := fun (W : World) (hW : Below w.heap.size w W) => check_any (w := W) ((rb.below hW).mono hW.size) nb
  obtain ⟨A1, c1, hva, _⟩ := ra
  obtain ⟨A2, c2, hvb, _⟩ := rb
  subst hva; subst hvb
  have HA := hide hA
  have HB := hide hB
  clear hA hB
  by_cases h0 : checkF a = 0
  · have HF : Hid (bothF a b = checkF b) := hide (if_pos h0)
    rw [h0] at HA
    clear h0
    go_enter Tryz.func147, Tryz.ntmps147
    go_wp2_with (fail)
    refine HA.out.mono ?_
    rintro e w1 ⟨rfl, hb1⟩
    have HB1 := hide hb1
    clear hb1
    go_wp2_with (fail)
    refine (HB.out _ HB1.out).mono ?_
    rintro e w2 ⟨rfl, hb2⟩
    go_wp2_with (fail)
    go_ret
    exact ⟨ret_eq (int_eq HF.out.symm), HB1.out.trans (hb2.mono HB1.out.size)⟩
  · have HF : Hid (bothF a b = checkF a) := hide (if_neg h0)
    generalize checkF a = ck at *
    have hne : (ck != 0) = true := by simpa using h0
    clear h0
    go_enter Tryz.func147, Tryz.ntmps147
    go_wp2_with (fail)
    refine HA.out.mono ?_
    rintro e w1 ⟨rfl, hb1⟩
    go_wp2_with (fail)
    go_ret
    exact ⟨ret_eq (int_eq HF.out.symm), hb1⟩
set_option maxHeartbeats 1000000 in
theorem rBoth_any {w : World} {va vb : Value} {a b : List R4} (ra : RdK encR 4 w w.heap.size va a) (rb : RdK encR 4 w w.heap.size vb b) (na : a.length ≤ 100000000) (nb : b.length ≤ 100000000) :
    Calls Tryz.prog 99 #[va, vb] w fun e w' => e = .returned (.int .i64 (bothF a b)) ∧ Below w.heap.size w w' := by
  have hA := fun (W : World) (hW : Below w.heap.size w W) => rCheck_any (w := W) ((ra.below hW).mono hW.size) na
  have hB := fun (W : World) (hW : Below w.heap.size w W) => rCheck_any (w := W) ((rb.below hW).mono hW.size) nb
  obtain ⟨A1, c1, hva, _⟩ := ra
  obtain ⟨A2, c2, hvb, _⟩ := rb
  subst hva; subst hvb
  have HA := hide hA
  have HB := hide hB
  clear hA hB
  by_cases h0 : checkF a = 0
  · have HF : Hid (bothF a b = checkF b) := hide (if_pos h0)
    rw [h0] at HA
    clear h0
    go_enter Tryz.func99, Tryz.ntmps99
    go_wp2_with (fail)
    refine (HA.out _ (Below.refl _ _)).mono ?_
    rintro e w1 ⟨rfl, hb1⟩
    have HB1 := hide hb1
    clear hb1
    go_wp2_with (fail)
    refine (HB.out _ HB1.out).mono ?_
    rintro e w2 ⟨rfl, hb2⟩
    go_wp2_with (fail)
    go_ret
    exact ⟨ret_eq (int_eq HF.out.symm), HB1.out.trans (hb2.mono HB1.out.size)⟩
  · have HF : Hid (bothF a b = checkF a) := hide (if_neg h0)
    generalize checkF a = ck at *
    have hne : (ck != 0) = true := by simpa using h0
    clear h0
    go_enter Tryz.func99, Tryz.ntmps99
    go_wp2_with (fail)
    refine (HA.out _ (Below.refl _ _)).mono ?_
    rintro e w1 ⟨rfl, hb1⟩
    have HB1 := hide hb1
    clear hb1
    go_wp2_with (fail)
    refine (HA.out _ HB1.out).mono ?_
    rintro e w2 ⟨rfl, hb2⟩
    go_wp2_with (fail)
    go_ret
    exact ⟨ret_eq (int_eq HF.out.symm), HB1.out.trans (hb2.mono HB1.out.size)⟩
def joinF (h : Bool → Bool → Bool) (a b : List R4) : List R4 × Int := if bothF a b = 0 then (if 400 < (rjoin h a b).length then ([], 4) else (rjoin h a b, 0)) else ([], bothF a b)
theorem bothF_ok {a b : List R4} (h : bothF a b = 0) : checkF a = 0 ∧ checkF b = 0 := by
  unfold bothF at h
  by_cases h0 : checkF a = 0
  · rw [if_pos h0] at h; exact ⟨h0, h⟩
  · rw [if_neg h0] at h; exact absurd h h0
theorem check_wf {l : List R4} (h : checkF l = 0) : ∀ r ∈ l, wf4 r := fun r hr => ⟨((checkF_ok h).2.1 r hr).1, ((checkF_ok h).2.1 r hr).2.1⟩
theorem rjoin_len2 (h : Bool → Bool → Bool) (a b : List R4) (ha : a.length ≤ 400) (hb : b.length ≤ 400) : (rjoin h a b).length ≤ 100000000 := by
  have h1 := swp_len (fun c => sjoin h (crossL a c) (crossL b c)) 1600 (fun c => by
    have h1 := sjoin_len h (crossL a c) (crossL b c)
    have h2 := crossL_len a c
    have h3 := crossL_len b c
    omega) (prs (isortI (cutsL a ++ cutsL b)))
  rw [swp_sweep] at h1
  have h2 := prs_len (isortI (cutsL a ++ cutsL b))
  have h3 := isortI_len (cutsL a ++ cutsL b)
  rw [List.length_append, cutsL_len, cutsL_len] at h3
  unfold rjoin
  have h4 : (prs (isortI (cutsL a ++ cutsL b))).length ≤ 1600 := by omega
  have h5 := Nat.mul_le_mul_right 1600 h4
  omega
set_option maxRecDepth 100000 in
set_option maxHeartbeats 2000000 in
/-- The reference's Join, the kind being 1, 2 or 3. -/
theorem rJoin_any (kd : Int) (hkd : kd = 1 ∨ kd = 2 ∨ kd = 3) {w : World} {va vb : Value} {a b : List R4} (ra : RdK encR 4 w w.heap.size va a) (rb : RdK encR 4 w w.heap.size vb b) (na : a.length ≤ 100000000) (nb : b.length ≤ 100000000) :
    Calls Tryz.prog 54 #[.int .i64 kd, va, vb] w fun e w' => RegRet w.heap.size (joinF (hk kd) a b) e w' ∧ Below w.heap.size w w' := by
  have hA := fun (W : World) (hW : Below w.heap.size w W) => rBoth_any (w := W) ((ra.below hW).mono hW.size) ((rb.below hW).mono hW.size) na nb
  have hk0 : hk kd false false = false := by rcases hkd with rfl | rfl | rfl <;> rfl
  have hJ := fun (W : World) (hW : Below w.heap.size w W) (h1 : a.length ≤ 2500) (h2 : b.length ≤ 2500) => rJoined_any kd hkd (w := W) (ra.below hW) (rb.below hW) hW.size h1 h2
  obtain ⟨A1, c1, hva, _⟩ := ra
  obtain ⟨A2, c2, hvb, _⟩ := rb
  subst hva; subst hvb
  have HA := hide hA
  by_cases h0 : bothF a b = 0
  · obtain ⟨ca, cb⟩ := bothF_ok h0
    have la := (checkF_ok ca).1
    have lb := (checkF_ok cb).1
    have hJ2 := fun W hW => hJ W hW (by omega) (by omega)
    rw [ref_join hk0 (check_wf ca) (check_wf cb)] at hJ2
    have HJ := hide hJ2
    have hF : joinF (hk kd) a b = if 400 < (rjoin (hk kd) a b).length then ([], 4) else (rjoin (hk kd) a b, 0) := if_pos h0
    have HF := hide hF
    have hl := rjoin_len2 (hk kd) a b la lb
    rw [h0] at HA
    clear hA hJ hJ2 hF h0 ca cb hkd
    generalize rjoin (hk kd) a b = R at *
    by_cases h4 : 400 < R.length
    · have hz : (400 : Int) < (R.length : Int) := by omega
      have HF2 : Hid (joinF (hk kd) a b = ([], 4)) := hide (by rw [HF.out, if_pos h4])
      go_enter Tryz.func54, Tryz.ntmps54
      go_wp2_with (fail)
      refine (HA.out _ (Below.refl _ _)).mono ?_
      rintro e w1 ⟨rfl, hb1⟩
      have HB1 := hide hb1
      clear hb1
      go_wp2_with (fail)
      refine (HJ.out _ HB1.out).mono ?_
      rintro e w2 ⟨vo, rfl, ho, hb2⟩
      obtain ⟨Ao, co, hvo⟩ := own_form ho
      subst hvo
      have HB2 := hide (HB1.out.trans (hb2.mono HB1.out.size))
      clear ho hb2
      go_wp2_with (fail)
      go_ret2
      exact ⟨⟨none, 0, by rw [HF2.out]; rfl, by rw [HF2.out]; exact World.ownsRow_nil _ _ _ _⟩, HB2.out⟩
    · have hz : (R.length : Int) ≤ 400 := by omega
      have HF2 : Hid (joinF (hk kd) a b = (R, 0)) := hide (by rw [HF.out, if_neg h4])
      go_enter Tryz.func54, Tryz.ntmps54
      go_wp2_with (fail)
      refine (HA.out _ (Below.refl _ _)).mono ?_
      rintro e w1 ⟨rfl, hb1⟩
      have HB1 := hide hb1
      clear hb1
      go_wp2_with (fail)
      refine (HJ.out _ HB1.out).mono ?_
      rintro e w2 ⟨vo, rfl, ho, hb2⟩
      obtain ⟨Ao, co, hvo⟩ := own_form ho
      subst hvo
      have HB2 := hide (HB1.out.trans (hb2.mono HB1.out.size))
      have HO := hide (own_base (base := w.heap.size) ho HB1.out.size)
      clear ho hb2
      go_wp2_with (fail)
      go_ret2
      exact ⟨⟨Ao, co, by rw [HF2.out]; rfl, by rw [HF2.out]; exact HO.out⟩, HB2.out⟩
  · have HF : Hid (joinF (hk kd) a b = ([], bothF a b)) := hide (if_neg h0)
    generalize bothF a b = ck at *
    have hne : (ck != 0) = true := by simpa using h0
    clear h0 hA hJ hkd
    go_enter Tryz.func54, Tryz.ntmps54
    go_wp2_with (fail)
    refine (HA.out _ (Below.refl _ _)).mono ?_
    rintro e w1 ⟨rfl, hb1⟩
    have HB1 := hide hb1
    clear hb1
    go_wp2_with (fail)
    refine (HA.out _ HB1.out).mono ?_
    rintro e w2 ⟨rfl, hb2⟩
    go_wp2_with (fail)
    go_ret2
    exact ⟨⟨none, 0, by rw [HF.out]; rfl, by rw [HF.out]; exact World.ownsRow_nil _ _ _ _⟩, HB1.out.trans (hb2.mono HB1.out.size)⟩
end Go.Proofs.YtdolpeljengpaaaGreat

/- Plain law: cross-sections of a canonical region; hulls; moved regions. -/
namespace Go.Proofs.YtdolpeljengpaaaGreat
set_option linter.unusedVariables false
set_option linter.unusedSimpArgs false

theorem crossL_append (a b : List R4) (x : Int) : crossL (a ++ b) x = crossL a x ++ crossL b x := by simp [crossL]
theorem crossL_flat1 (a : Slab) (x : Int) : crossL (flat1 a) x = if a.f ≤ x ∧ x < a.t then a.s else [] := by
  unfold crossL flat1
  rw [List.filter_map, List.map_map]
  by_cases hx : a.f ≤ x ∧ x < a.t
  · rw [if_pos hx]
    have : (fun p : Sp => decide (a.f ≤ x) && decide (x < a.t)) = fun _ => true := by funext p; simp [hx.1, hx.2]
    show List.map _ (List.filter (fun p : Sp => decide (a.f ≤ x) && decide (x < a.t)) a.s) = _
    rw [this, List.filter_eq_self.2 (fun _ _ => rfl)]
    show List.map (fun p : Sp => (p.1, p.2)) a.s = a.s
    simp
  · rw [if_neg hx]
    have : (fun p : Sp => decide (a.f ≤ x) && decide (x < a.t)) = fun _ => false := by
      funext p
      by_cases h1 : a.f ≤ x
      · have h2 : ¬ x < a.t := fun h => hx ⟨h1, h⟩
        simp [h2]
      · simp [h1]
    show List.map _ (List.filter (fun p : Sp => decide (a.f ≤ x) && decide (x < a.t)) a.s) = _
    rw [this, List.filter_eq_nil_iff.2 (by simp)]
    rfl
theorem crossL_flat : ∀ {S : List Slab} (x : Int), SOK S → crossL (flat S) x = cr S x
  | [], x, _ => rfl
  | a :: S, x, h => by
    have e : flat (a :: S) = flat1 a ++ flat S := by simp [flat]
    rw [e, crossL_append, crossL_flat1, crossL_flat x h.tail]
    simp only [cr]
    by_cases hx : a.f ≤ x ∧ x < a.t
    · rw [if_pos hx, if_pos hx, cr_far (S := S) (fun b hb => .inl (by have := h.after b hb; omega)), List.append_nil]
    · rw [if_neg hx, if_neg hx, List.nil_append]
theorem check_rcan {l : List R4} (h : checkF l = 0) : RCan l := by
  obtain ⟨h1, h2, h3⟩ := checkF_ok h
  have hr : rjoin hFst l [] = l := by
    unfold madeF at h3
    split at h3
    · simp at h3
    · exact (Prod.mk.inj h3).1
  rw [← hr]
  exact (rjoin_ok (h := hFst) rfl (fun r hr => ⟨(h2 r hr).1, (h2 r hr).2.1⟩) (by simp)).1
theorem crossL_can {l : List R4} (h : RCan l) (x : Int) : SCan (crossL l x) := by
  obtain ⟨S, hS, rfl⟩ := h
  rw [crossL_flat x hS]
  exact cr_can x hS
/-- The reference's cross-section of a canonical region. -/
theorem ref_cross {l : List R4} (h : RCan l) (x : Int) {ys : List Int} (hs : ys.Pairwise (· < ·)) (hy : ∀ c ∈ cutsY l, c ∈ ys) : canF ys (ys.map fun y => decide (pmem l x y)) = crossL l x := by
  obtain ⟨h1, h2⟩ := refG_ok (h := hFst) rfl hs hy (b := []) (by simp [cutsY]) x
  refine h1.ext (crossL_can h x) fun y => ?_
  rw [smem_crossL]
  exact (h2 y).trans (by simp [hFst])

/-! ### Hulls -/
def hullS (h r : R4) : R4 := ⟨min h.x0 r.x0, min h.y0 r.y0, max h.x1 r.x1, max h.y1 r.y1⟩
def hullL : List R4 → R4
  | [] => ⟨0, 0, 0, 0⟩
  | r :: l => (r :: l).foldl hullS r
/-- h is the hull of the rectangles. -/
structure IsHull (l : List R4) (h : R4) : Prop where
  a0 : ∃ r ∈ l, r.x0 = h.x0
  a1 : ∃ r ∈ l, r.y0 = h.y0
  a2 : ∃ r ∈ l, r.x1 = h.x1
  a3 : ∃ r ∈ l, r.y1 = h.y1
  b : ∀ r ∈ l, h.x0 ≤ r.x0 ∧ h.y0 ≤ r.y0 ∧ r.x1 ≤ h.x1 ∧ r.y1 ≤ h.y1
theorem IsHull.step {l : List R4} {h r : R4} (hh : IsHull l h) : IsHull (l ++ [r]) (hullS h r) := by
  obtain ⟨⟨p0, q0, e0⟩, ⟨p1, q1, e1⟩, ⟨p2, q2, e2⟩, ⟨p3, q3, e3⟩, hb⟩ := hh
  refine ⟨?_, ?_, ?_, ?_, ?_⟩
  · by_cases c : h.x0 ≤ r.x0
    · exact ⟨p0, by simp [q0], by simp only [hullS]; omega⟩
    · exact ⟨r, by simp, by simp only [hullS]; omega⟩
  · by_cases c : h.y0 ≤ r.y0
    · exact ⟨p1, by simp [q1], by simp only [hullS]; omega⟩
    · exact ⟨r, by simp, by simp only [hullS]; omega⟩
  · by_cases c : r.x1 ≤ h.x1
    · exact ⟨p2, by simp [q2], by simp only [hullS]; omega⟩
    · exact ⟨r, by simp, by simp only [hullS]; omega⟩
  · by_cases c : r.y1 ≤ h.y1
    · exact ⟨p3, by simp [q3], by simp only [hullS]; omega⟩
    · exact ⟨r, by simp, by simp only [hullS]; omega⟩
  · intro q hq
    rcases List.mem_append.1 hq with hq | hq
    · have := hb q hq
      simp only [hullS]; omega
    · rw [List.mem_singleton] at hq
      subst hq
      simp only [hullS]; omega
theorem IsHull.one (r : R4) : IsHull [r] r := ⟨⟨r, by simp, rfl⟩, ⟨r, by simp, rfl⟩, ⟨r, by simp, rfl⟩, ⟨r, by simp, rfl⟩, by simp⟩
theorem hullS_self (r : R4) : hullS r r = r := by simp [hullS]
theorem hull_from : ∀ (l pre : List R4) (h : R4), IsHull pre h → IsHull (pre ++ l) (l.foldl hullS h)
  | [], pre, h, hh => by simpa using hh
  | r :: l, pre, h, hh => by
    have := hull_from l (pre ++ [r]) (hullS h r) hh.step
    simpa using this
theorem hullL_ok {l : List R4} (h : l ≠ []) : IsHull l (hullL l) := by
  cases l with
  | nil => exact absurd rfl h
  | cons r l =>
    show IsHull _ (l.foldl hullS (hullS r r))
    rw [hullS_self]
    exact hull_from l [r] r (IsHull.one r)
/-- Behind m rectangles; ahead of all, the first one. -/
def hullP (l : List R4) (m : Nat) : R4 := (l.take m).foldl hullS (l.headD ⟨0, 0, 0, 0⟩)
theorem hullP_step {l : List R4} {m : Nat} {r : R4} (h : l[m]? = some r) : hullP l (m + 1) = hullS (hullP l m) r := by
  obtain ⟨hm, hp⟩ := List.getElem?_eq_some_iff.1 h
  unfold hullP
  rw [List.take_succ_eq_append_getElem hm, hp, List.foldl_append]
  rfl
theorem hullP_all {l : List R4} {m : Nat} (hm : l.length ≤ m) : hullP l m = hullL l := by
  unfold hullP
  rw [List.take_of_length_le hm]
  cases l <;> rfl
def hullF (l : List R4) : R4 × Int := if checkF l = 0 then (if l = [] then (⟨0, 0, 0, 0⟩, 6) else (hullL l, 0)) else (⟨0, 0, 0, 0⟩, checkF l)
/-- The least and the greatest cut. -/
theorem srt_ends {l : List Int} {a b : Int} (ha : a ∈ l) (hb : b ∈ l) (h : ∀ x ∈ l, a ≤ x ∧ x ≤ b) : (srt l)[0]? = some a ∧ (srt l)[(srt l).length - 1]? = some b ∧ 0 < (srt l).length := by
  obtain ⟨h1, h2⟩ := srt_ok l
  have ha' := (h2 a).2 ha
  have hb' := (h2 b).2 hb
  have hm : ∀ x ∈ srt l, a ≤ x ∧ x ≤ b := fun x hx => h x ((h2 x).1 hx)
  generalize srt l = s at *
  have hl : 0 < s.length := List.length_pos_of_mem ha'
  have key : ∀ i (hi : i < s.length), (i = 0 → s[i] = a) ∧ (i = s.length - 1 → s[i] = b) := by
    intro i hi
    have hmi := hm s[i] (List.getElem_mem hi)
    obtain ⟨j, hj, ej⟩ := List.getElem_of_mem ha'
    obtain ⟨k, hk, ek⟩ := List.getElem_of_mem hb'
    constructor
    · intro h0
      rcases Nat.lt_trichotomy i j with g | g | g
      · have := List.pairwise_iff_getElem.1 h1 i j hi hj g; omega
      · subst g; exact ej
      · omega
    · intro h0
      rcases Nat.lt_trichotomy i k with g | g | g
      · omega
      · subst g; exact ek
      · have := List.pairwise_iff_getElem.1 h1 k i hk hi g; omega
  exact ⟨by rw [List.getElem?_eq_getElem hl, (key 0 hl).1 rfl], by rw [List.getElem?_eq_getElem (by omega), (key _ (by omega)).2 rfl], hl⟩
theorem hull_cuts {l : List R4} (hne : l ≠ []) (hw : ∀ r ∈ l, wf4 r) : ((srt (cutsL l ++ cutsL []))[0]? = some (hullL l).x0 ∧ (srt (cutsL l ++ cutsL []))[(srt (cutsL l ++ cutsL [])).length - 1]? = some (hullL l).x1 ∧ 0 < (srt (cutsL l ++ cutsL [])).length) ∧
    ((srt (cutsY l ++ cutsY []))[0]? = some (hullL l).y0 ∧ (srt (cutsY l ++ cutsY []))[(srt (cutsY l ++ cutsY [])).length - 1]? = some (hullL l).y1 ∧ 0 < (srt (cutsY l ++ cutsY [])).length) := by
  obtain ⟨⟨p0, q0, e0⟩, ⟨p1, q1, e1⟩, ⟨p2, q2, e2⟩, ⟨p3, q3, e3⟩, hb⟩ := hullL_ok hne
  have hx : cutsL l ++ cutsL [] = cutsL l := by simp [cutsL]
  have hy : cutsY l ++ cutsY [] = cutsY l := by simp [cutsY]
  rw [hx, hy]
  refine ⟨srt_ends (by rw [← e0]; exact (mem_cutsL q0).1) (by rw [← e2]; exact (mem_cutsL q2).2) fun x hx => ?_, srt_ends (by rw [← e1]; exact (mem_cutsY q1).1) (by rw [← e3]; exact (mem_cutsY q3).2) fun x hx => ?_⟩
  · obtain ⟨r, hr, hx⟩ := List.mem_flatMap.1 hx
    have h1 := hb r hr
    have h2 := hw r hr
    unfold wf4 at h2
    simp only [List.mem_cons, List.not_mem_nil, or_false] at hx
    rcases hx with rfl | rfl <;> omega
  · obtain ⟨r, hr, hx⟩ := List.mem_flatMap.1 hx
    have h1 := hb r hr
    have h2 := hw r hr
    unfold wf4 at h2
    simp only [List.mem_cons, List.not_mem_nil, or_false] at hx
    rcases hx with rfl | rfl <;> omega
theorem mv_in {x y : Int} {r : R4} (h : valid4 r) (hm : valid4 (mv x y r)) : inMv x ∧ inMv y := by
  obtain ⟨h1, h2, ⟨a, b⟩, ⟨c, d⟩, ⟨e, f⟩, ⟨g, i⟩⟩ := h
  obtain ⟨h1', h2', ⟨a', b'⟩, ⟨c', d'⟩, ⟨e', f'⟩, ⟨g', i'⟩⟩ := hm
  simp only [mv] at a' b' c' d' e' f' g' i'
  unfold inMv
  omega
theorem flip_make {l : List R4} (h : checkF l = 0) : makeF (l.map flip4) = flipF l := by
  obtain ⟨h1, h2, _⟩ := checkF_ok h
  have hf : flipF l = madeF (l.map flip4) := if_pos h
  rw [hf]
  unfold makeF
  rw [if_neg (by simp; omega)]
  have : (l.map flip4).any (fun r => !decide (valid4 r)) = false := by
    rw [List.any_eq_false]
    intro r hr
    obtain ⟨q, hq, rfl⟩ := List.mem_map.1 hr
    simp [flip_valid (h2 q hq)]
  rw [this]
  rfl
end Go.Proofs.YtdolpeljengpaaaGreat

/- Plain law: what makes a list a region; joins of regions are regions; areas count points. -/
namespace Go.Proofs.YtdolpeljengpaaaGreat
set_option linter.unusedVariables false
set_option linter.unusedSimpArgs false

theorem can_wf {l : List R4} (h : RCan l) : ∀ r ∈ l, wf4 r := by
  obtain ⟨S, hS, rfl⟩ := h
  intro r hr
  obtain ⟨a, ha, hr⟩ := List.mem_flatMap.1 hr
  obtain ⟨p, hp, rfl⟩ := List.mem_map.1 hr
  have := hS.all a ha
  exact ⟨this.1, this.2.2.1 p hp⟩
/-- A list whose points belong to valid rectangles has valid rectangles. -/
theorem sub_valid {l m : List R4} (hl : ∀ r ∈ l, wf4 r) (hm : ∀ r ∈ m, valid4 r) (h : ∀ x y, pmem l x y → pmem m x y) : ∀ r ∈ l, valid4 r := by
  intro r hr
  obtain ⟨w1, w2⟩ := hl r hr
  obtain ⟨s, hs, h1⟩ := h r.x0 r.y0 ⟨r, hr, by simp only [rin]; omega⟩
  obtain ⟨t, ht, h2⟩ := h (r.x1 - 1) (r.y1 - 1) ⟨r, hr, by simp only [rin]; omega⟩
  have v1 := hm s hs
  have v2 := hm t ht
  simp only [rin, valid4, fineP] at h1 h2 v1 v2 ⊢
  omega
theorem made_self {l : List R4} (hc : RCan l) : rjoin hFst l [] = l :=
  (rjoin_eq (h := hFst) rfl (can_wf hc) (by simp) hc fun x y => by simp [hFst]).symm
theorem can_check {l : List R4} (hc : RCan l) (hv : ∀ r ∈ l, valid4 r) (hn : l.length ≤ 400) : checkF l = 0 := by
  have ha : l.any (fun r => !decide (valid4 r)) = false := by
    rw [List.any_eq_false]
    intro r hr
    simp [hv r hr]
  rw [checkF_valid (by omega) ha, if_pos (made_self hc)]
theorem check_frame {l : List R4} (h : checkF l = 0) {m : Nat} (hm : 1000000 ≤ m) : ∀ r ∈ l, inFr m r := fun r hr => by
  have := (checkF_ok h).2.1 r hr
  simp only [valid4, fineP, inFr] at this ⊢
  omega
theorem join_pts {h : Bool → Bool → Bool} (h0 : h false false = false) {a b : List R4} (ha : checkF a = 0) (hb : checkF b = 0) (x y : Int) : pmem (rjoin h a b) x y ↔ h (decide (pmem a x y)) (decide (pmem b x y)) = true :=
  (rjoin_ok h0 (check_wf ha) (check_wf hb)).2 x y
theorem join_check {h : Bool → Bool → Bool} (h0 : h false false = false) {a b : List R4} (ha : checkF a = 0) (hb : checkF b = 0) (hn : (rjoin h a b).length ≤ 400) : checkF (rjoin h a b) = 0 := by
  have hc := (rjoin_ok h0 (check_wf ha) (check_wf hb)).1
  refine can_check hc (sub_valid (m := a ++ b) (can_wf hc) (fun r hr => ?_) fun x y hx => ?_) hn
  · rcases List.mem_append.1 hr with hr | hr
    · exact (checkF_ok ha).2.1 r hr
    · exact (checkF_ok hb).2.1 r hr
  · rw [join_pts h0 ha hb] at hx
    rw [pmem_append]
    by_cases p1 : pmem a x y
    · exact .inl p1
    · by_cases p2 : pmem b x y
      · exact .inr p2
      · rw [decide_eq_false p1, decide_eq_false p2, h0] at hx; cases hx
theorem joinF_ok {h : Bool → Bool → Bool} {a b : List R4} (ha : checkF a = 0) (hb : checkF b = 0) : joinF h a b = if 400 < (rjoin h a b).length then ([], 4) else (rjoin h a b, 0) := by
  have : bothF a b = 0 := by unfold bothF; rw [if_pos ha]; exact hb
  unfold joinF
  rw [if_pos this]
theorem can_eq {a b : List R4} (ha : checkF a = 0) (hb : checkF b = 0) (h : ∀ x y, pmem a x y ↔ pmem b x y) : a = b := (check_rcan ha).ext (check_rcan hb) h
theorem area_vol {l : List R4} (h : checkF l = 0) {m : Nat} (hm : 1000000 ≤ m) : areaS l = vol m (one l) := by
  have e : vol m (one l) = vol m (cntP l) := vol_congr fun x y _ _ _ _ => (cntP_ind (check_rcan h).apart x y).symm
  rw [e, vol_cntP (check_frame h hm)]
  unfold areaS
  congr 1
  refine List.map_congr_left fun r hr => ?_
  obtain ⟨w1, w2⟩ := check_wf h r hr
  unfold area4 box
  rw [Int.max_eq_right (by omega), Int.max_eq_right (by omega)]
/-- The areas of the union and of the common part. -/
theorem area_sum {a b u c : List R4} (ha : checkF a = 0) (hb : checkF b = 0) (hu : checkF u = 0) (hc : checkF c = 0) (pu : ∀ x y, pmem u x y ↔ pmem a x y ∨ pmem b x y) (pc : ∀ x y, pmem c x y ↔ pmem a x y ∧ pmem b x y) : areaS u + areaS c = areaS a + areaS b := by
  obtain ⟨m, hm⟩ : ∃ m : Nat, m = 1000000 := ⟨_, rfl⟩
  rw [area_vol ha (m := m) (by omega), area_vol hb (m := m) (by omega), area_vol hu (m := m) (by omega), area_vol hc (m := m) (by omega), ← vol_add, ← vol_add]
  refine vol_congr fun x y _ _ _ _ => ?_
  unfold one
  rw [ind_iff (pu x y), ind_iff (pc x y)]
  unfold ind
  by_cases h1 : pmem a x y <;> by_cases h2 : pmem b x y <;> simp [h1, h2]
end Go.Proofs.YtdolpeljengpaaaGreat

/- Plain: how many points of a rectangle a canonical region has; the front of a rectangle; what is reached. -/
namespace Go.Proofs.YtdolpeljengpaaaGreat
open Go.RowKit
set_option linter.unusedVariables false
set_option linter.unusedSimpArgs false

/-- The points next to a side. -/
def besF (r : R4) (i : Nat) : R4 := match i with
  | 0 => ⟨r.x0 - 1, r.y0, r.x0, r.y1⟩
  | 1 => ⟨r.x1, r.y0, r.x1 + 1, r.y1⟩
  | 2 => ⟨r.x0, r.y0 - 1, r.x1, r.y0⟩
  | _ => ⟨r.x0, r.y1, r.x1, r.y1 + 1⟩
def onQ (r q : R4) : Int := if 0 < min r.x1 q.x1 - max r.x0 q.x0 ∧ 0 < min r.y1 q.y1 - max r.y0 q.y0 then (min r.x1 q.x1 - max r.x0 q.x0) * (min r.y1 q.y1 - max r.y0 q.y0) else 0
def onF (r : R4) (s : List R4) : Int := (s.map (onQ r)).sum
def arQ (r : R4) : Int := (r.x1 - r.x0) * (r.y1 - r.y0)
def bitF (r : R4) (s : List R4) (i : Nat) : Bool := decide (onF (besF r i) s = arQ (besF r i))
def frF (r : R4) (s : List R4) : Int := (if bitF r s 0 = true then 1 else 0) + (if bitF r s 1 = true then 2 else 0) + (if bitF r s 2 = true then 4 else 0) + (if bitF r s 3 = true then 8 else 0)
theorem onQ_box (r q : R4) : onQ r q = box (meet4 r q) := by
  unfold onQ box meet4
  simp only
  by_cases h : 0 < min r.x1 q.x1 - max r.x0 q.x0 ∧ 0 < min r.y1 q.y1 - max r.y0 q.y0
  · rw [if_pos h, show max 0 (min r.x1 q.x1 - max r.x0 q.x0) = min r.x1 q.x1 - max r.x0 q.x0 by omega, show max 0 (min r.y1 q.y1 - max r.y0 q.y0) = min r.y1 q.y1 - max r.y0 q.y0 by omega]
  · rw [if_neg h]
    by_cases h1 : 0 < min r.x1 q.x1 - max r.x0 q.x0
    · rw [show max 0 (min r.y1 q.y1 - max r.y0 q.y0) = 0 by omega, Int.mul_zero]
    · rw [show max 0 (min r.x1 q.x1 - max r.x0 q.x0) = 0 by omega, Int.zero_mul]
theorem bes_wf {r : R4} (h : wf4 r) (i : Nat) : wf4 (besF r i) := by
  obtain ⟨h1, h2⟩ := h
  unfold besF wf4
  split <;> (simp only; omega)
theorem bes_fr {m : Nat} {r : R4} (h : inFr m r) (i : Nat) (hw : wf4 r) : inFr (m + 1) (besF r i) := by
  obtain ⟨h1, h2⟩ := hw
  unfold besF inFr at *
  split <;> (simp only; omega)
theorem onF_vol {m : Nat} {r : R4} {s : List R4} (hr : inFr m r) (hs : s.Pairwise apart4) : onF r s = vol m (fun x y => ind (rin r x y) * one s x y) := by
  have e : onF r s = (s.map fun q => box (meet4 r q)).sum := by
    unfold onF
    congr 1
    exact List.map_congr_left fun q _ => onQ_box r q
  rw [e, ← vol_rect_cnt hr]
  exact vol_congr fun x y _ _ _ _ => by rw [cntP_ind hs]; rfl
theorem arQ_box {r : R4} (h : wf4 r) : arQ r = box r := by
  unfold arQ box
  obtain ⟨h1, h2⟩ := h
  rw [Int.max_eq_right (by omega), Int.max_eq_right (by omega)]
theorem arQ_vol {m : Nat} {r : R4} (hr : inFr m r) (h : wf4 r) : arQ r = vol m (fun x y => ind (rin r x y)) := by
  obtain ⟨h1, h2, h3, h4⟩ := hr
  rw [arQ_box h, vol_rect h1 h2 h3 h4]
/-- What the reference counts. -/
theorem on_ref {m : Nat} {r : R4} {s : List R4} (hr : inFr m r) (hw : wf4 r) (hs : RCan s) (hf : ∀ q ∈ s, inFr m q) : ((rjoin hAnd [r] s).map arQ).sum = onF r s := by
  have h1 : ∀ q ∈ [r], wf4 q := fun q hq => by rw [List.mem_singleton] at hq; subst hq; exact hw
  obtain ⟨hc, hp⟩ := rjoin_ok (h := hAnd) rfl h1 (can_wf hs)
  have hin : ∀ q ∈ rjoin hAnd [r] s, inFr m q := fun q hq => by
    have hq' := can_wf hc q hq
    have a1 : pmem (rjoin hAnd [r] s) q.x0 q.y0 := ⟨q, hq, by unfold rin; unfold wf4 at hq'; omega⟩
    have a2 : pmem (rjoin hAnd [r] s) (q.x1 - 1) (q.y1 - 1) := ⟨q, hq, by unfold rin; unfold wf4 at hq'; omega⟩
    rw [hp] at a1 a2
    simp only [hAnd, Bool.and_eq_true, decide_eq_true_eq] at a1 a2
    obtain ⟨⟨p, hp1, hp2⟩, _⟩ := a1
    obtain ⟨⟨p', hp1', hp2'⟩, _⟩ := a2
    rw [List.mem_singleton] at hp1 hp1'
    subst hp1; subst hp1'
    unfold rin at hp2 hp2'
    unfold inFr at hr ⊢
    omega
  have e : ((rjoin hAnd [r] s).map arQ).sum = ((rjoin hAnd [r] s).map box).sum := by
    congr 1
    exact List.map_congr_left fun q hq => arQ_box (can_wf hc q hq)
  rw [e, ← vol_cntP hin, onF_vol hr hs.apart]
  refine vol_congr fun x y _ _ _ _ => ?_
  rw [cntP_ind hc.apart]
  unfold one
  rw [← ind_and]
  refine ind_iff ?_
  rw [hp]
  simp [hAnd, pmem]
  intro _
  exact decide_eq_true_iff
theorem sumZ_all {f : Int → Int} {lo : Int} : ∀ {n : Nat}, (∀ i, lo ≤ i → i < lo + n → 0 ≤ f i) → sumZ f lo n = 0 → ∀ i, lo ≤ i → i < lo + n → f i = 0
  | 0, _, _, i, a, b => by omega
  | n + 1, h, e, i, a, b => by
    have h0 := sumZ_nonneg (f := f) (lo := lo) (n := n) fun i a b => h i a (by omega)
    have h1 := h (lo + n) (by omega) (by omega)
    have e' : sumZ f lo n + f (lo + n) = 0 := e
    by_cases hi : i < lo + n
    · exact sumZ_all (fun i a b => h i a (by omega)) (by omega) i a hi
    · have : i = lo + n := by omega
      subst this
      omega
theorem vol_all {m : Nat} {f : Int → Int → Int} (h : ∀ x y, 0 ≤ f x y) (e : vol m f = 0) : ∀ x y, -(m : Int) ≤ x → x < m → -(m : Int) ≤ y → y < m → f x y = 0 := fun x y a b c d =>
  sumZ_all (fun j _ _ => h x j) (sumZ_all (fun i _ _ => sumZ_nonneg fun j _ _ => h i j) e x a (by omega)) y c (by omega)
/-- A rectangle is full exactly if the region has all its points. -/
theorem full_iff {m : Nat} {r : R4} {s : List R4} (hr : inFr m r) (hw : wf4 r) (hs : s.Pairwise apart4) : onF r s = arQ r ↔ ∀ x y, rin r x y → pmem s x y := by
  rw [onF_vol hr hs, arQ_vol hr hw]
  constructor
  · intro e x y hx
    have e' : vol m (fun x y => ind (rin r x y) - ind (rin r x y) * one s x y) = 0 := by rw [vol_sub, e]; omega
    have hz := vol_all (m := m) (fun x y => by
      rcases one_01 s x y with h | h <;> rcases ind_01 (rin r x y) with g | g <;> simp [h, g]) e' x y (by unfold inFr at hr; unfold rin at hx; omega) (by unfold inFr at hr; unfold rin at hx; omega) (by unfold inFr at hr; unfold rin at hx; omega) (by unfold inFr at hr; unfold rin at hx; omega)
    rw [ind_t hx] at hz
    by_cases hp : pmem s x y
    · exact hp
    · have : one s x y = 0 := ind_f hp
      rw [this] at hz
      omega
  · intro h
    refine vol_congr fun x y _ _ _ _ => ?_
    by_cases hx : rin r x y
    · have : one s x y = 1 := ind_t (h x y hx)
      rw [this, Int.mul_one]
    · rw [ind_f hx, Int.zero_mul]
theorem onQ_bd (r q : R4) (h1 : r.x1 - r.x0 ≤ 2000000) (h2 : r.y1 - r.y0 ≤ 2000000) : 0 ≤ onQ r q ∧ onQ r q ≤ 4000000000000 := by
  unfold onQ
  split
  · rename_i h
    obtain ⟨a, b⟩ := h
    refine ⟨Int.mul_nonneg (by omega) (by omega), ?_⟩
    have := Int.mul_le_mul (show min r.x1 q.x1 - max r.x0 q.x0 ≤ 2000000 by omega) (show min r.y1 q.y1 - max r.y0 q.y0 ≤ 2000000 by omega) (by omega) (by omega)
    omega
  · omega
theorem onF_bd {r : R4} (h1 : r.x1 - r.x0 ≤ 2000000) (h2 : r.y1 - r.y0 ≤ 2000000) : ∀ (s : List R4), 0 ≤ onF r s ∧ onF r s ≤ 4000000000000 * s.length
  | [] => by simp [onF]
  | q :: s => by
    have := onF_bd h1 h2 s
    have hq := onQ_bd r q h1 h2
    simp only [onF, List.map_cons, List.sum_cons, List.length_cons] at this ⊢
    omega
/-- What is reached: over the sides of a front. -/
def rchF (l : Lot5) (s : List R4) : Int := (if hasS l.f 1 = true then onF (besF l.r 0) s else 0) + (if hasS l.f 2 = true then onF (besF l.r 1) s else 0) + (if hasS l.f 4 = true then onF (besF l.r 2) s else 0) + (if hasS l.f 8 = true then onF (besF l.r 3) s else 0)
theorem bits4 : ∀ a b c d : Bool, let f : Int := (if a = true then 1 else 0) + (if b = true then 2 else 0) + (if c = true then 4 else 0) + (if d = true then 8 else 0)
    hasS f 1 = a ∧ hasS f 2 = b ∧ hasS f 4 = c ∧ hasS f 8 = d ∧ 0 ≤ f ∧ f ≤ 15 := by decide
theorem fr_has (r : R4) (s : List R4) : hasS (frF r s) 1 = bitF r s 0 ∧ hasS (frF r s) 2 = bitF r s 1 ∧ hasS (frF r s) 4 = bitF r s 2 ∧ hasS (frF r s) 8 = bitF r s 3 ∧ 0 ≤ frF r s ∧ frF r s ≤ 15 := bits4 _ _ _ _
theorem onF_take {r q : R4} {s : List R4} {m : Nat} (h : s[m]? = some q) : onF r (s.take (m + 1)) = onF r (s.take m) + onQ r q := by
  unfold onF
  rw [List.take_add_one, h, List.map_append, List.sum_append]
  simp
end Go.Proofs.YtdolpeljengpaaaGreat

/- Plain: the height of a roof: the square that fits, and the distance from what is missing. -/
namespace Go.Proofs.YtdolpeljengpaaaGreat
open Go.RowKit
set_option linter.unusedVariables false
set_option linter.unusedSimpArgs false

def dbl (r : R4) : R4 := ⟨2 * r.x0, 2 * r.y0, 2 * r.x1, 2 * r.y1⟩
def sqr (x y d : Int) : R4 := ⟨x - d, y - d, x + d, y + d⟩
/-- The covered area, by twice the coordinates. -/
def covF (l : List R4) (x y d : Int) : Int := onF (sqr x y d) (l.map dbl)
def notF (l : List R4) (x y : Int) (i : Nat) : Bool := decide (covF l x y ((i : Int) + 1) < 2 * ((i : Int) + 1) * (2 * ((i : Int) + 1)))
def heightF (l : List R4) (x y : Int) : Nat := (List.range 2000001).countP fun i => !notF l x y i
def cellM (l : List R4) (p q : Int × Int) : Option R4 := if pmem l p.1 q.1 then none else some ⟨p.1, q.1, p.2, q.2⟩
def colM (l : List R4) (ys : List Int) (p : Int × Int) : List R4 := (prs ys).filterMap (cellM l p)
def ringM (a b c d : Int) : List R4 := [⟨-4000000, -4000000, a, 4000000⟩, ⟨c, -4000000, 4000000, 4000000⟩, ⟨-4000000, -4000000, 4000000, b⟩, ⟨-4000000, d, 4000000, 4000000⟩]
def missG (l : List R4) (xs ys : List Int) : List R4 := if xs.length = 0 then [⟨-4000000, -4000000, 4000000, 4000000⟩] else
  (prs xs).flatMap (colM l ys) ++ ringM (xs.getD 0 0) (ys.getD 0 0) (xs.getD (xs.length - 1) 0) (ys.getD (ys.length - 1) 0)
def missF (l : List R4) : List R4 := missG l (srt (cutsL l)) (srt (cutsY l))
def highQ (m : R4) (x y : Int) : Int := max (max (max (max 0 (2 * m.x0 - x)) (x - 2 * m.x1)) (2 * m.y0 - y)) (y - 2 * m.y1)
def highF (ms : List R4) (x y : Int) : Int := ms.foldl (fun b m => min b (highQ m x y)) 8000000
theorem high_from (x y d : Int) : ∀ (ms : List R4) (b : Int), ms.foldl (fun b m => min b (highQ m x y)) b ≤ d ↔ b ≤ d ∨ ∃ m ∈ ms, highQ m x y ≤ d
  | [], b => by simp
  | m :: ms, b => by
    rw [List.foldl_cons, high_from x y d ms]
    simp only [List.mem_cons]
    constructor
    · rintro (h | ⟨q, hq, h⟩)
      · by_cases hb : b ≤ d
        · exact .inl hb
        · exact .inr ⟨m, .inl rfl, by omega⟩
      · exact .inr ⟨q, .inr hq, h⟩
    · rintro (h | ⟨q, rfl | hq, h⟩)
      · exact .inl (by omega)
      · exact .inl (by omega)
      · exact .inr ⟨q, hq, h⟩
theorem high_le {ms : List R4} {x y d : Int} (hd : d < 8000000) : highF ms x y ≤ d ↔ ∃ m ∈ ms, highQ m x y ≤ d := by
  unfold highF
  rw [high_from]
  constructor
  · rintro (h | h)
    · omega
    · exact h
  · exact .inr
theorem high_nn (x y : Int) : ∀ (ms : List R4) (b : Int), 0 ≤ b → 0 ≤ ms.foldl (fun b m => min b (highQ m x y)) b
  | [], b, h => h
  | m :: ms, b, h => by
    rw [List.foldl_cons]
    refine high_nn x y ms _ ?_
    have : 0 ≤ highQ m x y := by unfold highQ; omega
    omega
theorem high_bd (x y : Int) : ∀ (ms : List R4) (b : Int), ms.foldl (fun b m => min b (highQ m x y)) b ≤ b
  | [], b => Int.le_refl _
  | m :: ms, b => by
    rw [List.foldl_cons]
    have := high_bd x y ms (min b (highQ m x y))
    omega
/-- A strictly ordered list's pairs hold every number between its ends. -/
theorem prs_at : ∀ (cs : List Int), cs.Pairwise (· < ·) → ∀ x : Int, 0 < cs.length → cs.getD 0 0 ≤ x → x < cs.getD (cs.length - 1) 0 → ∃ p ∈ prs cs, p.1 ≤ x ∧ x < p.2
  | [], _, _, h, _, _ => absurd h (by simp)
  | [a], _, x, _, h1, h2 => by simp at h1 h2; omega
  | a :: b :: cs, hs, x, _, h1, h2 => by
    by_cases hb : x < b
    · exact ⟨(a, b), by simp [prs], by simpa using h1, hb⟩
    · obtain ⟨p, hp, h⟩ := prs_at (b :: cs) (List.pairwise_cons.1 hs).2 x (by simp) (by simp; omega) (by simpa using h2)
      exact ⟨p, by simp only [prs, List.mem_cons]; exact .inr hp, h⟩
theorem prs_gap2 : ∀ {cs : List Int}, cs.Pairwise (· < ·) → ∀ p ∈ prs cs, p.1 < p.2 ∧ p.1 ∈ cs ∧ p.2 ∈ cs ∧ ∀ e ∈ cs, e ≤ p.1 ∨ p.2 ≤ e
  | [], _, p, hp => by simp [prs] at hp
  | [a], _, p, hp => by simp [prs] at hp
  | a :: b :: cs, hs, p, hp => by
    obtain ⟨h1, h2⟩ := List.pairwise_cons.1 hs
    simp only [prs, List.mem_cons] at hp
    rcases hp with rfl | hp
    · refine ⟨h1 b (by simp), by simp, by simp, fun e he => ?_⟩
      rcases List.mem_cons.1 he with rfl | he
      · exact .inl (Int.le_refl _)
      · right
        rcases List.mem_cons.1 he with rfl | he
        · exact Int.le_refl _
        · exact Int.le_of_lt ((List.pairwise_cons.1 h2).1 e he)
    · obtain ⟨g1, g2, g3, g4⟩ := prs_gap2 h2 p (by simpa [prs] using hp)
      refine ⟨g1, List.mem_cons_of_mem _ g2, List.mem_cons_of_mem _ g3, fun e he => ?_⟩
      rcases List.mem_cons.1 he with rfl | he
      · exact .inl (Int.le_of_lt (h1 p.1 g2))
      · exact g4 e he
theorem pmem_sameX {l : List R4} {cs : List Int} (hcs : ∀ c ∈ cutsL l, c ∈ cs) {c d x y : Int} (hgap : ∀ e ∈ cs, e ≤ c ∨ d ≤ e) (h1 : c ≤ x) (h2 : x < d) : pmem l x y ↔ pmem l c y := by
  unfold pmem
  refine exists_congr fun r => and_congr_right fun hr => ?_
  obtain ⟨m1, m2⟩ := mem_cutsL hr
  have := hgap _ (hcs _ m1)
  have := hgap _ (hcs _ m2)
  unfold rin
  omega
theorem srt_get {l : List Int} {x : Int} (h : x ∈ l) : 0 < (srt l).length ∧ (srt l).getD 0 0 ≤ x ∧ x ≤ (srt l).getD ((srt l).length - 1) 0 := by
  obtain ⟨h1, h2⟩ := srt_ok l
  have hm := (h2 x).2 h
  obtain ⟨i, hi, rfl⟩ := List.getElem_of_mem hm
  have hs := List.pairwise_iff_getElem.1 h1
  refine ⟨by omega, ?_, ?_⟩
  · rw [List.getD_eq_getElem?_getD, List.getElem?_eq_getElem (by omega), Option.getD_some]
    rcases Nat.eq_zero_or_pos i with e | e
    · subst e; exact Int.le_refl _
    · exact Int.le_of_lt (hs 0 i (by omega) hi e)
  · rw [List.getD_eq_getElem?_getD, List.getElem?_eq_getElem (by omega), Option.getD_some]
    rcases Nat.lt_or_ge i ((srt l).length - 1) with e | e
    · exact Int.le_of_lt (hs i _ hi (by omega) e)
    · have : i = (srt l).length - 1 := by omega
      subst this
      exact Int.le_refl _
theorem srt_rim {l : List Int} (h : 0 < (srt l).length) : (srt l).getD 0 0 ∈ l ∧ (srt l).getD ((srt l).length - 1) 0 ∈ l := by
  have h2 := (srt_ok l).2
  refine ⟨(h2 _).1 ?_, (h2 _).1 ?_⟩
  · rw [List.getD_eq_getElem?_getD, List.getElem?_eq_getElem h, Option.getD_some]; exact List.getElem_mem _
  · rw [List.getD_eq_getElem?_getD, List.getElem?_eq_getElem (by omega), Option.getD_some]; exact List.getElem_mem _
theorem cut_bd {l : List R4} (hv : ∀ r ∈ l, valid4 r) : (∀ c ∈ cutsL l, -1000000 ≤ c ∧ c ≤ 1000000) ∧ (∀ c ∈ cutsY l, -1000000 ≤ c ∧ c ≤ 1000000) := by
  constructor
  · intro c hc
    obtain ⟨r, hr, hm⟩ := List.mem_flatMap.1 hc
    obtain ⟨_, _, h1, h2, h3, h4⟩ := hv r hr
    simp only [fineP] at h1 h2 h3 h4
    simp only [List.mem_cons, List.not_mem_nil, or_false] at hm
    rcases hm with rfl | rfl <;> omega
  · intro c hc
    obtain ⟨r, hr, hm⟩ := List.mem_flatMap.1 hc
    obtain ⟨_, _, h1, h2, h3, h4⟩ := hv r hr
    simp only [fineP] at h1 h2 h3 h4
    simp only [List.mem_cons, List.not_mem_nil, or_false] at hm
    rcases hm with rfl | rfl <;> omega
theorem len_cuts {l : List R4} (h : l ≠ []) : 0 < (srt (cutsL l)).length ∧ 0 < (srt (cutsY l)).length := by
  obtain ⟨r, hr⟩ := List.exists_mem_of_ne_nil l h
  exact ⟨(srt_get (mem_cutsL hr).1).1, (srt_get (mem_cutsY hr).1).1⟩
/-- What is missing has exactly the points that the region has not. -/
theorem cover_miss {l : List R4} (hv : ∀ r ∈ l, valid4 r) {X Y : Int} (hX : -4000000 ≤ X ∧ X < 4000000) (hY : -4000000 ≤ Y ∧ Y < 4000000) : pmem (missF l) X Y ↔ ¬ pmem l X Y := by
  unfold missF missG
  by_cases hl : l = []
  · subst hl
    have e : (srt (cutsL [])).length = 0 := by decide
    rw [if_pos e]
    refine ⟨fun _ => pmem_nil, fun _ => ⟨_, List.mem_singleton.2 rfl, ?_⟩⟩
    unfold rin
    simp only
    omega
  · obtain ⟨nx, ny⟩ := len_cuts hl
    rw [if_neg (by omega)]
    obtain ⟨sx, mx⟩ := srt_ok (cutsL l)
    obtain ⟨sy, my⟩ := srt_ok (cutsY l)
    obtain ⟨bx, bY⟩ := cut_bd hv
    constructor
    · rintro ⟨m, hm, hin⟩ hp
      rw [List.mem_append] at hm
      rcases hm with hm | hm
      · obtain ⟨p, hp1, hm⟩ := List.mem_flatMap.1 hm
        obtain ⟨q, hq1, hm⟩ := List.mem_filterMap.1 hm
        obtain ⟨_, _, _, g1⟩ := prs_gap2 sx p hp1
        obtain ⟨_, _, _, g2⟩ := prs_gap2 sy q hq1
        unfold cellM at hm
        split at hm
        · cases hm
        · rename_i hno
          simp only [Option.some.injEq] at hm
          subst hm
          unfold rin at hin
          simp only at hin
          rw [pmem_sameX (fun c hc => (mx c).2 hc) g1 hin.1 hin.2.1, pmem_sameY (fun c hc => (my c).2 hc) g2 hin.2.2.1 hin.2.2.2] at hp
          exact hno hp
      · obtain ⟨r, hr, hp⟩ := hp
        obtain ⟨a1, a2⟩ := mem_cutsL hr
        obtain ⟨a3, a4⟩ := mem_cutsY hr
        have b1 := srt_get a1
        have b2 := srt_get a2
        have b3 := srt_get a3
        have b4 := srt_get a4
        unfold ringM at hm
        simp only [List.mem_cons, List.not_mem_nil, or_false] at hm
        unfold rin at hin hp
        rcases hm with rfl | rfl | rfl | rfl <;> simp only at hin <;> omega
    · intro hno
      by_cases h1 : X < (srt (cutsL l)).getD 0 0
      · exact ⟨_, List.mem_append.2 (.inr (by unfold ringM; exact List.mem_cons_self)), by unfold rin; simp only; omega⟩
      by_cases h2 : (srt (cutsL l)).getD ((srt (cutsL l)).length - 1) 0 ≤ X
      · exact ⟨_, List.mem_append.2 (.inr (by unfold ringM; exact List.mem_cons_of_mem _ List.mem_cons_self)), by unfold rin; simp only; omega⟩
      by_cases h3 : Y < (srt (cutsY l)).getD 0 0
      · exact ⟨_, List.mem_append.2 (.inr (by unfold ringM; exact List.mem_cons_of_mem _ (List.mem_cons_of_mem _ List.mem_cons_self))), by unfold rin; simp only; omega⟩
      by_cases h4 : (srt (cutsY l)).getD ((srt (cutsY l)).length - 1) 0 ≤ Y
      · exact ⟨_, List.mem_append.2 (.inr (by unfold ringM; exact List.mem_cons_of_mem _ (List.mem_cons_of_mem _ (List.mem_cons_of_mem _ List.mem_cons_self)))), by unfold rin; simp only; omega⟩
      obtain ⟨p, hp, p1, p2⟩ := prs_at _ sx X nx (by omega) (by omega)
      obtain ⟨q, hq, q1, q2⟩ := prs_at _ sy Y ny (by omega) (by omega)
      obtain ⟨_, _, _, g1⟩ := prs_gap2 sx p hp
      obtain ⟨_, _, _, g2⟩ := prs_gap2 sy q hq
      rw [pmem_sameX (fun c hc => (mx c).2 hc) g1 p1 p2, pmem_sameY (fun c hc => (my c).2 hc) g2 q1 q2] at hno
      refine ⟨⟨p.1, q.1, p.2, q.2⟩, List.mem_append.2 (.inl (List.mem_flatMap.2 ⟨p, hp, List.mem_filterMap.2 ⟨q, hq, ?_⟩⟩)), ⟨p1, p2, q1, q2⟩⟩
      unfold cellM
      rw [if_neg hno]
theorem wf_miss {l : List R4} (hv : ∀ r ∈ l, valid4 r) : ∀ m ∈ missF l, (m.x0 < m.x1 ∧ m.y0 < m.y1) ∧ -4000000 ≤ m.x0 ∧ m.x1 ≤ 4000000 ∧ -4000000 ≤ m.y0 ∧ m.y1 ≤ 4000000 := by
  intro m hm
  unfold missF missG at hm
  by_cases hl : l = []
  · subst hl
    have e : (srt (cutsL [])).length = 0 := by decide
    rw [if_pos e, List.mem_singleton] at hm
    subst hm
    simp
  · obtain ⟨nx, ny⟩ := len_cuts hl
    rw [if_neg (by omega), List.mem_append] at hm
    obtain ⟨bx, bY⟩ := cut_bd hv
    rcases hm with hm | hm
    · obtain ⟨p, hp1, hm⟩ := List.mem_flatMap.1 hm
      obtain ⟨q, hq1, hm⟩ := List.mem_filterMap.1 hm
      obtain ⟨sx, mx⟩ := srt_ok (cutsL l)
      obtain ⟨sy, my⟩ := srt_ok (cutsY l)
      obtain ⟨a1, a2, a3, _⟩ := prs_gap2 sx p hp1
      obtain ⟨b1, b2, b3, _⟩ := prs_gap2 sy q hq1
      have := bx _ ((mx _).1 a2)
      have := bx _ ((mx _).1 a3)
      have := bY _ ((my _).1 b2)
      have := bY _ ((my _).1 b3)
      unfold cellM at hm
      split at hm
      · cases hm
      · simp only [Option.some.injEq] at hm
        subst hm
        simp only
        omega
    · obtain ⟨e1, e2⟩ := srt_rim nx
      obtain ⟨e3, e4⟩ := srt_rim ny
      have := bx _ e1
      have := bx _ e2
      have := bY _ e3
      have := bY _ e4
      unfold ringM at hm
      simp only [List.mem_cons, List.not_mem_nil, or_false] at hm
      rcases hm with rfl | rfl | rfl | rfl <;> simp only <;> omega
theorem rin_dbl (r : R4) (X Y : Int) : rin (dbl r) X Y ↔ rin r (X / 2) (Y / 2) := by
  unfold rin dbl
  simp only
  omega
theorem pmem_dbl (l : List R4) (X Y : Int) : pmem (l.map dbl) X Y ↔ pmem l (X / 2) (Y / 2) := by
  unfold pmem
  constructor
  · rintro ⟨z, hz, h⟩
    obtain ⟨r, hr, rfl⟩ := List.mem_map.1 hz
    exact ⟨r, hr, (rin_dbl r X Y).1 h⟩
  · rintro ⟨r, hr, h⟩
    exact ⟨dbl r, List.mem_map_of_mem hr, (rin_dbl r X Y).2 h⟩
theorem apart_dbl {l : List R4} (h : l.Pairwise apart4) : (l.map dbl).Pairwise apart4 := by
  rw [List.pairwise_map]
  refine h.imp fun {a b} hab X Y hh => hab (X / 2) (Y / 2) ⟨(rin_dbl a X Y).1 hh.1, (rin_dbl b X Y).1 hh.2⟩
theorem onF_le {m : Nat} {r : R4} {s : List R4} (hr : inFr m r) (hw : wf4 r) (hs : s.Pairwise apart4) : onF r s ≤ arQ r := by
  have e1 := onF_vol hr hs
  have e2 := arQ_vol hr hw
  have e3 : 0 ≤ vol m (fun x y => ind (rin r x y) - ind (rin r x y) * one s x y) := sumZ_nonneg fun i _ _ => sumZ_nonneg fun j _ _ => by
    rcases one_01 s i j with h | h <;> rcases ind_01 (rin r i j) with g | g <;> simp [h, g]
  rw [vol_sub] at e3
  omega
theorem not_iff {l : List R4} (hv : ∀ r ∈ l, valid4 r) (hs : l.Pairwise apart4) {x y : Int} (hx : -2000001 ≤ x ∧ x ≤ 2000001) (hy : -2000001 ≤ y ∧ y ≤ 2000001) {d : Nat} (hd : d ≤ 2000000) :
    notF l x y d = true ↔ ∃ m ∈ missF l, highQ m x y ≤ d := by
  have hw : wf4 (sqr x y ((d : Int) + 1)) := by unfold wf4 sqr; simp only; omega
  have hf : inFr 5000000 (sqr x y ((d : Int) + 1)) := by unfold inFr sqr; simp only; omega
  have ha : arQ (sqr x y ((d : Int) + 1)) = 2 * ((d : Int) + 1) * (2 * ((d : Int) + 1)) := by
    unfold arQ sqr
    simp only
    rw [show x + ((d : Int) + 1) - (x - ((d : Int) + 1)) = 2 * ((d : Int) + 1) by omega, show y + ((d : Int) + 1) - (y - ((d : Int) + 1)) = 2 * ((d : Int) + 1) by omega]
  have hle := onF_le hf hw (apart_dbl hs)
  have hfull := full_iff hf hw (apart_dbl hs)
  unfold notF covF
  rw [decide_eq_true_eq, ← ha]
  constructor
  · intro hlt
    have hne : ¬ ∀ X Y, rin (sqr x y ((d : Int) + 1)) X Y → pmem (l.map dbl) X Y := fun h => by
      have := hfull.2 h
      omega
    rw [Classical.not_forall] at hne
    obtain ⟨X, hne⟩ := hne
    rw [Classical.not_forall] at hne
    obtain ⟨Y, hne⟩ := hne
    rw [Classical.not_imp] at hne
    obtain ⟨hin, hno⟩ := hne
    rw [pmem_dbl] at hno
    unfold rin sqr at hin
    simp only at hin
    obtain ⟨m, hm, hmin⟩ := (cover_miss hv (X := X / 2) (Y := Y / 2) (by omega) (by omega)).2 hno
    refine ⟨m, hm, ?_⟩
    unfold rin at hmin
    unfold highQ
    omega
  · rintro ⟨m, hm, hq⟩
    obtain ⟨⟨w1, w2⟩, w3, w4, w5, w6⟩ := wf_miss hv m hm
    unfold highQ at hq
    have hno : ¬ ∀ X Y, rin (sqr x y ((d : Int) + 1)) X Y → pmem (l.map dbl) X Y := fun h => by
      have hp := h (max (2 * m.x0) (x - d - 1)) (max (2 * m.y0) (y - d - 1)) (by unfold rin sqr; simp only; omega)
      rw [pmem_dbl] at hp
      exact (cover_miss hv (by omega) (by omega)).1 ⟨m, hm, by unfold rin; omega⟩ hp
    rw [← hfull] at hno
    omega
theorem count_lt (K : Nat) : ∀ N, (List.range N).countP (fun i => decide (i < K)) = min N K
  | 0 => by simp
  | N + 1 => by
    rw [List.range_succ, List.countP_append, count_lt K N, List.countP_singleton]
    by_cases h : N < K
    · rw [decide_eq_true h]; simp; omega
    · rw [decide_eq_false h]; simp; omega
theorem high_top {l : List R4} (hv : ∀ r ∈ l, valid4 r) {x y : Int} (hx : -2000001 ≤ x ∧ x ≤ 2000001) (hy : -2000001 ≤ y ∧ y ≤ 2000001) : highF (missF l) x y ≤ 2000000 := by
  rw [high_le (by omega)]
  unfold missF missG
  by_cases hl : l = []
  · subst hl
    have e : (srt (cutsL [])).length = 0 := by decide
    rw [if_pos e]
    exact ⟨_, List.mem_singleton.2 rfl, by unfold highQ; simp only; omega⟩
  · obtain ⟨nx, ny⟩ := len_cuts hl
    rw [if_neg (by omega)]
    obtain ⟨bx, bY⟩ := cut_bd hv
    obtain ⟨e1, e2⟩ := srt_rim nx
    have b1 := bx _ e1
    have b2 := bx _ e2
    have b3 := (srt_get e2).2.1
    by_cases h : x ≤ (srt (cutsL l)).getD 0 0 + (srt (cutsL l)).getD ((srt (cutsL l)).length - 1) 0
    · exact ⟨_, List.mem_append.2 (.inr (by unfold ringM; exact List.mem_cons_self)), by unfold highQ; simp only; omega⟩
    · exact ⟨_, List.mem_append.2 (.inr (by unfold ringM; exact List.mem_cons_of_mem _ List.mem_cons_self)), by unfold highQ; simp only; omega⟩
/-- The height of the square that fits is the distance from what is missing. -/
theorem height_eq {l : List R4} (hc : checkF l = 0) {x y : Int} (hx : -2000001 ≤ x ∧ x ≤ 2000001) (hy : -2000001 ≤ y ∧ y ≤ 2000001) : ((heightF l x y : Nat) : Int) = highF (missF l) x y := by
  have hv := (checkF_ok hc).2.1
  have hs := (check_rcan hc).apart
  have htop := high_top hv hx hy
  have hnn : 0 ≤ highF (missF l) x y := high_nn x y _ _ (by omega)
  have e : (List.range 2000001).countP (fun i => !notF l x y i) = (List.range 2000001).countP (fun i => decide (i < (highF (missF l) x y).toNat)) := by
    refine List.countP_congr fun i hi => ?_
    have hi' : i < 2000001 := List.mem_range.1 hi
    have := not_iff hv hs hx hy (d := i) (by omega)
    rw [← high_le (by omega)] at this
    cases hn : notF l x y i
    · rw [hn] at this
      simp only [Bool.false_eq_true, false_iff] at this
      simp
      omega
    · rw [hn] at this
      simp only [true_iff] at this
      simp
      omega
  unfold heightF
  rw [e, count_lt]
  omega
theorem not_mono {l : List R4} (hc : checkF l = 0) {x y : Int} (hx : -2000001 ≤ x ∧ x ≤ 2000001) (hy : -2000001 ≤ y ∧ y ≤ 2000001) : ∀ a b, a ≤ b → b < 2000001 → notF l x y a = true → notF l x y b = true := by
  have hv := (checkF_ok hc).2.1
  have hs := (check_rcan hc).apart
  intro a b hab hb h
  obtain ⟨m, hm, h⟩ := (not_iff hv hs hx hy (by omega)).1 h
  exact (not_iff hv hs hx hy (by omega)).2 ⟨m, hm, by omega⟩
end Go.Proofs.YtdolpeljengpaaaGreat

/- Plain: the peak of a roof: the greatest square that fits, with its corner at cuts; the greatest height of all half points. -/
namespace Go.Proofs.YtdolpeljengpaaaGreat
open Go.RowKit
set_option linter.unusedVariables false
set_option linter.unusedSimpArgs false

/-- The square of a side fits with its least corner at (a, b). -/
def sqIn (l : List R4) (a b s : Int) : Prop := ∀ X Y, a ≤ X → X < a + s → b ≤ Y → Y < b + s → pmem l X Y
def covE (l : List R4) (x y s : Int) : Bool := decide (covF l (2 * x + s) (2 * y + s) s = 2 * s * (2 * s))
def fitsQ (l : List R4) (s : Int) (a b : R4) : Bool := covE l a.x0 b.y0 s || covE l a.x0 b.y1 s || covE l a.x1 b.y0 s || covE l a.x1 b.y1 s
def fitsF (l : List R4) (s : Int) : Bool := l.any fun a => l.any fun b => fitsQ l s a b
def peakF (l : List R4) : Nat := (List.range 2000001).countP fun (i : Nat) => fitsF l ((i : Int) + 1)
theorem covE_iff {l : List R4} (hs : l.Pairwise apart4) {x y s : Int} (hx : -2000000 ≤ x ∧ x ≤ 2000000) (hy : -2000000 ≤ y ∧ y ≤ 2000000) (h0 : 1 ≤ s) (h1 : s ≤ 2000001) : covE l x y s = true ↔ sqIn l x y s := by
  have hw : wf4 (sqr (2 * x + s) (2 * y + s) s) := by unfold wf4 sqr; simp only; omega
  have hf : inFr 10000000 (sqr (2 * x + s) (2 * y + s) s) := by unfold inFr sqr; simp only; omega
  have ha : arQ (sqr (2 * x + s) (2 * y + s) s) = 2 * s * (2 * s) := by
    unfold arQ sqr
    simp only
    rw [show 2 * x + s + s - (2 * x + s - s) = 2 * s by omega, show 2 * y + s + s - (2 * y + s - s) = 2 * s by omega]
  have hfull := full_iff hf hw (apart_dbl hs)
  unfold covE covF
  rw [decide_eq_true_eq, ← ha, hfull]
  constructor
  · intro h X Y a1 a2 a3 a4
    have := h (2 * X) (2 * Y) (by unfold rin sqr; simp only; omega)
    rw [pmem_dbl] at this
    rwa [show 2 * X / 2 = X by omega, show 2 * Y / 2 = Y by omega] at this
  · intro h X Y hin
    unfold rin sqr at hin
    simp only at hin
    rw [pmem_dbl]
    exact h _ _ (by omega) (by omega) (by omega) (by omega)
/-- The least number from a bound on that has a property. -/
theorem least_from {P : Int → Prop} {lo a : Int} (ha : P a) (hlo : ∀ x, P x → lo ≤ x) : ∃ x, P x ∧ x ≤ a ∧ ¬ P (x - 1) := by
  have key : ∀ (n : Nat) (a : Int), P a → a < lo + n → ∃ x, P x ∧ x ≤ a ∧ ¬ P (x - 1) := by
    intro n
    induction n with
    | zero =>
      intro a h1 h2
      have := hlo a h1
      omega
    | succ n ih =>
      intro a h1 h2
      by_cases h : P (a - 1)
      · obtain ⟨x, e1, e2, e3⟩ := ih (a - 1) h (by omega)
        exact ⟨x, e1, by omega, e3⟩
      · exact ⟨a, h1, Int.le_refl _, h⟩
  have := hlo a ha
  exact key (a - lo + 1).toNat a ha (by omega)
theorem sq_bds {l : List R4} (hv : ∀ r ∈ l, valid4 r) {a b s : Int} (h0 : 1 ≤ s) (h : sqIn l a b s) : (-1000000 ≤ a ∧ a + s ≤ 1000000) ∧ (-1000000 ≤ b ∧ b + s ≤ 1000000) := by
  obtain ⟨r, hr, h1⟩ := h a b (by omega) (by omega) (by omega) (by omega)
  obtain ⟨t, ht, h2⟩ := h (a + s - 1) (b + s - 1) (by omega) (by omega) (by omega) (by omega)
  obtain ⟨_, _, ⟨v1, v2⟩, ⟨v3, v4⟩, ⟨v5, v6⟩, v7, v8⟩ := hv r hr
  obtain ⟨_, _, ⟨u1, u2⟩, ⟨u3, u4⟩, ⟨u5, u6⟩, u7, u8⟩ := hv t ht
  unfold rin at h1 h2
  omega
theorem fits_iff {l : List R4} (hv : ∀ r ∈ l, valid4 r) (hs : l.Pairwise apart4) {s : Int} (h0 : 1 ≤ s) (h1 : s ≤ 2000001) : fitsF l s = true ↔ ∃ a b, sqIn l a b s := by
  have bd : ∀ r ∈ l, (-2000000 ≤ r.x0 ∧ r.x0 ≤ 2000000) ∧ (-2000000 ≤ r.x1 ∧ r.x1 ≤ 2000000) ∧ (-2000000 ≤ r.y0 ∧ r.y0 ≤ 2000000) ∧ (-2000000 ≤ r.y1 ∧ r.y1 ≤ 2000000) := fun r hr => by
    obtain ⟨_, _, ⟨v1, v2⟩, ⟨v3, v4⟩, ⟨v5, v6⟩, v7, v8⟩ := hv r hr
    omega
  constructor
  · intro h
    unfold fitsF at h
    rw [List.any_eq_true] at h
    obtain ⟨a, ha, h⟩ := h
    rw [List.any_eq_true] at h
    obtain ⟨b, hb, h⟩ := h
    obtain ⟨a0, a1, _, _⟩ := bd a ha
    obtain ⟨_, _, b0, b1⟩ := bd b hb
    unfold fitsQ at h
    simp only [Bool.or_eq_true] at h
    rcases h with ((h | h) | h) | h
    · exact ⟨_, _, (covE_iff hs a0 b0 h0 h1).1 h⟩
    · exact ⟨_, _, (covE_iff hs a0 b1 h0 h1).1 h⟩
    · exact ⟨_, _, (covE_iff hs a1 b0 h0 h1).1 h⟩
    · exact ⟨_, _, (covE_iff hs a1 b1 h0 h1).1 h⟩
  · rintro ⟨a, b, h⟩
    obtain ⟨x, hx, _, nx⟩ := least_from (P := fun x => sqIn l x b s) (lo := -1000000) h fun x hx => (sq_bds hv h0 hx).1.1
    obtain ⟨y, hy, _, ny⟩ := least_from (P := fun y => sqIn l x y s) (lo := -1000000) hx fun y hy => (sq_bds hv h0 hy).2.1
    have cx : ∃ r ∈ l, r.x0 = x := by
      unfold sqIn at nx
      simp only [Classical.not_forall, not_imp] at nx
      obtain ⟨X, Y, g1, g2, g3, g4, hno⟩ := nx
      have hX : X = x - 1 := by
        by_cases e : x ≤ X
        · exact absurd (hx X Y e (by omega) g3 g4) hno
        · omega
      subst hX
      obtain ⟨r, hr, hin⟩ := hx x Y (by omega) (by omega) g3 g4
      refine ⟨r, hr, ?_⟩
      by_cases e : r.x0 = x
      · exact e
      · exact absurd ⟨r, hr, by unfold rin at hin ⊢; omega⟩ hno
    have cy : ∃ r ∈ l, r.y0 = y := by
      unfold sqIn at ny
      simp only [Classical.not_forall, not_imp] at ny
      obtain ⟨X, Y, g1, g2, g3, g4, hno⟩ := ny
      have hY : Y = y - 1 := by
        by_cases e : y ≤ Y
        · exact absurd (hy X Y g1 g2 e (by omega)) hno
        · omega
      subst hY
      obtain ⟨r, hr, hin⟩ := hy X y g1 g2 (by omega) (by omega)
      refine ⟨r, hr, ?_⟩
      by_cases e : r.y0 = y
      · exact e
      · exact absurd ⟨r, hr, by unfold rin at hin ⊢; omega⟩ hno
    obtain ⟨r, hr, rfl⟩ := cx
    obtain ⟨t, ht, rfl⟩ := cy
    obtain ⟨a0, _⟩ := bd r hr
    obtain ⟨_, _, b0, _⟩ := bd t ht
    unfold fitsF
    rw [List.any_eq_true]
    refine ⟨r, hr, ?_⟩
    rw [List.any_eq_true]
    refine ⟨t, ht, ?_⟩
    unfold fitsQ
    rw [(covE_iff hs a0 b0 h0 h1).2 hy]
    simp
theorem fits_mono {l : List R4} (hv : ∀ r ∈ l, valid4 r) (hs : l.Pairwise apart4) : ∀ a b : Nat, a ≤ b → b < 2000001 → (!fitsF l ((a : Int) + 1)) = true → (!fitsF l ((b : Int) + 1)) = true := by
  intro a b hab hb h
  rw [Bool.not_eq_true', ← Bool.not_eq_true] at h ⊢
  intro hf
  refine h ?_
  rw [fits_iff hv hs (by omega) (by omega)] at hf ⊢
  obtain ⟨x, y, h2⟩ := hf
  exact ⟨x, y, fun X Y g1 g2 g3 g4 => h2 X Y g1 (by omega) g3 (by omega)⟩
theorem countP_down {p : Nat → Bool} : ∀ N : Nat, (∀ a b, a ≤ b → b < N → p b = true → p a = true) → ∀ s, s < N → (s < (List.range N).countP p ↔ p s = true)
  | 0, _, s, hs => by omega
  | N + 1, hm, s, hs => by
    have ih := countP_down N fun a b hab hb => hm a b hab (by omega)
    have hle := List.countP_le_length (p := p) (l := List.range N)
    rw [List.length_range] at hle
    rw [List.range_succ, List.countP_append, List.countP_singleton]
    by_cases h : p N = true
    · have hall : (List.range N).countP p = N := by
        rw [List.countP_eq_length.2 fun i hi => hm i N (Nat.le_of_lt (List.mem_range.1 hi)) (by omega) h, List.length_range]
      rw [if_pos h, hall]
      refine ⟨fun _ => hm s N (by omega) (by omega) h, fun _ => by omega⟩
    · rw [if_neg h, Nat.add_zero]
      by_cases e : s = N
      · subst e
        refine ⟨fun h2 => by omega, fun h2 => absurd h2 h⟩
      · exact ih s (by omega)
theorem peak_lt {l : List R4} (hv : ∀ r ∈ l, valid4 r) (hs : l.Pairwise apart4) {s : Nat} (h : s < 2000001) : s < peakF l ↔ ∃ a b, sqIn l a b ((s : Int) + 1) := by
  rw [← fits_iff hv hs (by omega) (by omega)]
  refine countP_down (p := fun (i : Nat) => fitsF l ((i : Int) + 1)) 2000001 (fun a b hab hb hp => ?_) s h
  cases he : fitsF l ((a : Int) + 1)
  · have := fits_mono hv hs a b hab hb (by rw [he]; rfl)
    rw [hp] at this
    cases this
  · rfl
theorem peak_le {l : List R4} (hv : ∀ r ∈ l, valid4 r) (hs : l.Pairwise apart4) : peakF l ≤ 2000000 := by
  have hp : ¬ 2000000 < peakF l := fun h => by
    obtain ⟨a, b, h⟩ := (peak_lt hv hs (by omega)).1 h
    have := sq_bds hv (by omega) h
    omega
  omega
/-- A height is that of a square of lattice points. -/
theorem height_sq {l : List R4} (hc : checkF l = 0) {x y : Int} (hx : -2000001 ≤ x ∧ x ≤ 2000001) (hy : -2000001 ≤ y ∧ y ≤ 2000001) {h : Nat} (h0 : 1 ≤ h) (h1 : h ≤ 2000001) : h ≤ heightF l x y ↔ ∀ X Y, x - h ≤ X → X < x + h → y - h ≤ Y → Y < y + h → pmem l (X / 2) (Y / 2) := by
  have hv := (checkF_ok hc).2.1
  have hs := (check_rcan hc).apart
  have hdn := countP_down (p := fun i => !notF l x y i) 2000001 (fun a b hab hb hp => by
    cases he : notF l x y a
    · rfl
    · have := not_mono hc hx hy a b hab hb he
      rw [this] at hp
      cases hp) (h - 1) (by omega)
  have e1 : h ≤ heightF l x y ↔ h - 1 < (List.range 2000001).countP (fun i => !notF l x y i) := by unfold heightF; omega
  rw [e1, hdn]
  have hw : wf4 (sqr x y h) := by unfold wf4 sqr; simp only; omega
  have hf : inFr 10000000 (sqr x y h) := by unfold inFr sqr; simp only; omega
  have ha : arQ (sqr x y h) = 2 * (h : Int) * (2 * (h : Int)) := by
    unfold arQ sqr
    simp only
    rw [show x + (h : Int) - (x - h) = 2 * (h : Int) by omega, show y + (h : Int) - (y - h) = 2 * (h : Int) by omega]
  have hle := onF_le hf hw (apart_dbl hs)
  have hfull := full_iff hf hw (apart_dbl hs)
  have e2 : (!notF l x y (h - 1)) = true ↔ ¬ covF l x y h < 2 * (h : Int) * (2 * (h : Int)) := by
    unfold notF
    rw [show (((h - 1 : Nat) : Int) + 1) = (h : Int) by omega]
    simp
  rw [e2]
  unfold covF
  rw [← ha]
  constructor
  · intro h2 X Y g1 g2 g3 g4
    have := hfull.1 (by omega) X Y (by unfold rin sqr; simp only; omega)
    rwa [pmem_dbl] at this
  · intro h2
    have := hfull.2 fun X Y hin => by
      unfold rin sqr at hin
      simp only at hin
      rw [pmem_dbl]
      exact h2 X Y hin.1 hin.2.1 hin.2.2.1 hin.2.2.2
    omega
theorem height_peak {l : List R4} (hc : checkF l = 0) {x y : Int} (hx : -2000001 ≤ x ∧ x ≤ 2000001) (hy : -2000001 ≤ y ∧ y ≤ 2000001) : heightF l x y ≤ peakF l := by
  have hv := (checkF_ok hc).2.1
  have hs := (check_rcan hc).apart
  have ht := high_top hv hx hy
  rw [← height_eq hc hx hy] at ht
  by_cases h0 : heightF l x y = 0
  · omega
  have h := (height_sq hc hx hy (h := heightF l x y) (by omega) (by omega)).1 (Nat.le_refl _)
  generalize heightF l x y = k at *
  have := (peak_lt hv hs (s := k - 1) (by omega)).2 ⟨(x - k) / 2, (y - k) / 2, fun X Y g1 g2 g3 g4 => by
    have hh := h (max (2 * X) (x - k)) (max (2 * Y) (y - k)) (by omega) (by omega) (by omega) (by omega)
    rwa [show max (2 * X) (x - k) / 2 = X by omega, show max (2 * Y) (y - k) / 2 = Y by omega] at hh⟩
  omega
theorem peak_height {l : List R4} (hc : checkF l = 0) (hp : 0 < peakF l) : ∃ a b, sqIn l a b (peakF l) ∧ peakF l ≤ heightF l (2 * a + peakF l) (2 * b + peakF l) := by
  have hv := (checkF_ok hc).2.1
  have hs := (check_rcan hc).apart
  have hle := peak_le hv hs
  obtain ⟨a, b, h⟩ := (peak_lt hv hs (s := peakF l - 1) (by omega)).1 (by omega)
  rw [show (((peakF l - 1 : Nat) : Int) + 1) = (peakF l : Int) by omega] at h
  have hb := sq_bds hv (by omega) h
  generalize peakF l = k at *
  refine ⟨a, b, h, ?_⟩
  rw [height_sq hc (by omega) (by omega) (by omega) (by omega)]
  intro X Y g1 g2 g3 g4
  exact h _ _ (by omega) (by omega) (by omega) (by omega)
end Go.Proofs.YtdolpeljengpaaaGreat

/- Plain: growing and shrinking of regions. -/
namespace Go.Proofs.YtdolpeljengpaaaGreat
set_option linter.unusedVariables false
set_option linter.unusedSimpArgs false

def growR (d : Int) (r : R4) : R4 := ⟨r.x0 - d, r.y0 - d, r.x1 + d, r.y1 + d⟩
/-- All points of the square of a point. -/
def full (l : List R4) (d x y : Int) : Prop := ∀ u v, x - d ≤ u → u ≤ x + d → y - d ≤ v → v ≤ y + d → pmem l u v
def near (l : List R4) (d x y : Int) : Prop := ∃ u v, x - d ≤ u ∧ u ≤ x + d ∧ y - d ≤ v ∧ v ≤ y + d ∧ pmem l u v
theorem rin_grow {r : R4} (hw : wf4 r) {d : Int} (hd : 0 ≤ d) (x y : Int) : rin (growR d r) x y ↔ ∃ u v, x - d ≤ u ∧ u ≤ x + d ∧ y - d ≤ v ∧ v ≤ y + d ∧ rin r u v := by
  obtain ⟨h1, h2⟩ := hw
  unfold rin growR
  constructor
  · rintro ⟨a, b, c, e⟩
    simp only at a b c e
    exact ⟨max r.x0 (min x (r.x1 - 1)), max r.y0 (min y (r.y1 - 1)), by omega, by omega, by omega, by omega, by omega, by omega, by omega, by omega⟩
  · rintro ⟨u, v, a, b, c, e, f, g, i, j⟩
    simp only
    omega
theorem near_grow {l : List R4} (hw : ∀ r ∈ l, wf4 r) {d : Int} (hd : 0 ≤ d) (x y : Int) : near l d x y ↔ pmem (l.map (growR d)) x y := by
  unfold near pmem
  constructor
  · rintro ⟨u, v, a, b, c, e, r, hr, h⟩
    exact ⟨growR d r, List.mem_map_of_mem hr, (rin_grow (hw r hr) hd x y).2 ⟨u, v, a, b, c, e, h⟩⟩
  · rintro ⟨z, hz, h⟩
    obtain ⟨r, hr, rfl⟩ := List.mem_map.1 hz
    obtain ⟨u, v, a, b, c, e, h⟩ := (rin_grow (hw r hr) hd x y).1 h
    exact ⟨u, v, a, b, c, e, r, hr, h⟩
theorem grow_wf {r : R4} (h : wf4 r) {d : Int} (hd : 0 ≤ d) : wf4 (growR d r) := by
  unfold wf4 growR at *
  simp only
  omega
/-! ### The rectangles of the hull that a region does not have -/
def Nx (p q : R4) : Prop := (p.x0 = q.x0 ∧ p.x1 = q.x1 ∧ p.y1 < q.y0) ∨ p.x1 ≤ q.x0
def CHN : List R4 → Prop
  | [] => True
  | [_] => True
  | a :: b :: r => Nx a b ∧ CHN (b :: r)
theorem CHN.tail {a : R4} : ∀ {l : List R4}, CHN (a :: l) → CHN l
  | [], _ => trivial
  | _ :: _, h => h.2
theorem CHN.append : ∀ {A B : List R4}, CHN A → CHN B → (∀ a b, A.getLast? = some a → B.head? = some b → Nx a b) → CHN (A ++ B)
  | [], B, _, hB, _ => hB
  | [a], [], _, _, _ => trivial
  | [a], b :: B, _, hB, h => ⟨h a b rfl rfl, hB⟩
  | a :: c :: A, B, hA, hB, h => ⟨hA.1, CHN.append (A := c :: A) hA.2 hB fun x y hx hy => h x y (by simpa using hx) hy⟩
theorem chn_flat1 {f t : Int} : ∀ {s : List Sp}, SCan s → CHN (s.map fun p => (⟨f, p.1, t, p.2⟩ : R4))
  | [], _ => trivial
  | [_], _ => trivial
  | p :: q :: s, h => ⟨.inl ⟨rfl, rfl, (List.pairwise_cons.1 h.2).1 q (by simp)⟩, chn_flat1 h.tail⟩
theorem chn_flat : ∀ {S : List Slab}, SOK S → CHN (flat S)
  | [], _ => trivial
  | a :: S, h => by
    have e : flat (a :: S) = flat1 a ++ flat S := by simp [flat]
    rw [e]
    refine CHN.append (chn_flat1 h.head.2.2) (chn_flat h.tail) fun p q hp hq => .inr ?_
    have hp' := List.mem_of_getLast? hp
    have hq' : q ∈ flat S := by
      cases hS : flat S with
      | nil => rw [hS] at hq; cases hq
      | cons z l => rw [hS] at hq; simp at hq; subst hq; simp
    unfold flat1 at hp'
    obtain ⟨u, _, rfl⟩ := List.mem_map.1 hp'
    unfold flat at hq'
    obtain ⟨b, hb, hq2⟩ := List.mem_flatMap.1 hq'
    unfold flat1 at hq2
    obtain ⟨v, _, rfl⟩ := List.mem_map.1 hq2
    exact h.after b hb
theorem chn_can {l : List R4} (h : RCan l) : CHN l := by
  obtain ⟨S, hS, rfl⟩ := h
  exact chn_flat hS
/-- A rectangle, unless it is empty. -/
def nz (z : R4) : List R4 := if z.x0 < z.x1 ∧ z.y0 < z.y1 then [z] else []
theorem pmem_nz (z : R4) (x y : Int) : pmem (nz z) x y ↔ rin z x y := by
  unfold nz
  split
  · simp [pmem]
  · rename_i h
    unfold pmem rin
    simp
    omega
def gapX (h : R4) : Option R4 → R4 → List R4
  | none, _ => []
  | some p, x => if p.x0 = x.x0 then [] else nz ⟨p.x1, h.y0, x.x0, h.y1⟩
def lowY (h : R4) : Option R4 → R4 → Int
  | none, _ => h.y0
  | some p, x => if p.x0 = x.x0 then p.y1 else h.y0
def topY (h : R4) (x : R4) : Option R4 → List R4
  | none => nz ⟨x.x0, x.y1, x.x1, h.y1⟩
  | some q => if q.x0 = x.x0 then [] else nz ⟨x.x0, x.y1, x.x1, h.y1⟩
def missAt (h : R4) (p : Option R4) (x : R4) (q : Option R4) : List R4 := gapX h p x ++ (nz ⟨x.x0, lowY h p x, x.x1, x.y0⟩ ++ topY h x q)
def missL (h : R4) : Option R4 → List R4 → List R4
  | _, [] => []
  | p, x :: r => missAt h p x r.head? ++ missL h (some x) r
/-- Where the points behind a rectangle lie. -/
theorem chn_behind {q : R4} : ∀ {r : List R4}, CHN (q :: r) → (∀ z ∈ q :: r, wf4 z) → ∀ {x y : Int}, pmem r x y → (q.x0 ≤ x ∧ x < q.x1 ∧ q.y1 < y ∧ ∃ z, r.head? = some z ∧ z.x0 = q.x0) ∨ q.x1 ≤ x
  | [], _, _, x, y, h => (pmem_nil h).elim
  | z :: r, hc, hw, x, y, h => by
    have hz := hw z (by simp)
    have hq := hw q (by simp)
    unfold wf4 at hz hq
    have hn := hc.1
    unfold Nx at hn
    rcases pmem_cons.1 h with h | h
    · unfold rin at h
      rcases hn with hn | hn
      · exact .inl ⟨by omega, by omega, by omega, z, rfl, by omega⟩
      · exact .inr (by omega)
    · rcases chn_behind hc.tail (fun w hw' => hw w (List.mem_cons_of_mem _ hw')) h with ⟨a, b, c, _⟩ | a
      · rcases hn with hn | hn
        · exact .inl ⟨by omega, by omega, by omega, z, rfl, by omega⟩
        · exact .inr (by omega)
      · rcases hn with hn | hn
        · exact .inr (by omega)
        · exact .inr (by omega)
/-- What is missing behind a rectangle. -/
theorem miss_behind {h : R4} : ∀ {r : List R4} {p : R4}, CHN (p :: r) → (∀ z ∈ p :: r, wf4 z) → (∀ z ∈ p :: r, h.y0 ≤ z.y0 ∧ z.y1 ≤ h.y1) → ∀ x y : Int,
    (pmem (missL h (some p) r) x y ↔ h.y0 ≤ y ∧ y < h.y1 ∧ ¬ pmem r x y ∧ (∃ z ∈ r, x < z.x1) ∧ ((p.x0 ≤ x ∧ x < p.x1 ∧ p.y1 ≤ y ∧ ∃ z, r.head? = some z ∧ z.x0 = p.x0) ∨ p.x1 ≤ x))
  | [], p, _, _, _, x, y => by simp [missL, pmem]
  | q :: r, p, hc, hw, hh, x, y => by
    have ih := miss_behind (h := h) (r := r) (p := q) hc.tail (fun z hz => hw z (List.mem_cons_of_mem _ hz)) (fun z hz => hh z (List.mem_cons_of_mem _ hz)) x y
    have hb : pmem r x y → _ := chn_behind hc.tail (fun z hz => hw z (List.mem_cons_of_mem _ hz)) (x := x) (y := y)
    have hp := hw p (by simp)
    have hq := hw q (by simp)
    have hq2 := hh q (by simp)
    have hp2 := hh p (by simp)
    have hn := hc.1
    unfold Nx at hn
    unfold wf4 at hp hq
    show pmem (missAt h (some p) q r.head? ++ missL h (some q) r) x y ↔ _
    unfold missAt
    rw [pmem_append, pmem_append, pmem_append, pmem_nz, ih]
    have e1 : (∃ z ∈ q :: r, x < z.x1) ↔ x < q.x1 ∨ ∃ z ∈ r, x < z.x1 := by simp
    have e2 : pmem (q :: r) x y ↔ rin q x y ∨ pmem r x y := pmem_cons
    have e3 : (∃ z, (q :: r).head? = some z ∧ z.x0 = p.x0) ↔ q.x0 = p.x0 := by simp
    rw [e1, e2, e3]
    have g1 : pmem (gapX h (some p) q) x y ↔ p.x0 ≠ q.x0 ∧ p.x1 ≤ x ∧ x < q.x0 ∧ h.y0 ≤ y ∧ y < h.y1 := by
      show pmem (if p.x0 = q.x0 then [] else nz ⟨p.x1, h.y0, q.x0, h.y1⟩) x y ↔ _
      split
      · rename_i e; simp [pmem, e]
      · rename_i e; rw [pmem_nz]; unfold rin; simp only; omega
    have g2 : lowY h (some p) q = if p.x0 = q.x0 then p.y1 else h.y0 := rfl
    have g3 : pmem (topY h q r.head?) x y ↔ (¬ ∃ z, r.head? = some z ∧ z.x0 = q.x0) ∧ q.x0 ≤ x ∧ x < q.x1 ∧ q.y1 ≤ y ∧ y < h.y1 := by
      cases hr : r.head? with
      | none => unfold topY; rw [pmem_nz]; unfold rin; simp
      | some z =>
        unfold topY
        simp only
        split
        · rename_i e; simp [pmem, e]
        · rename_i e; rw [pmem_nz]; unfold rin; simp [e]
    rw [g1, g2, g3]
    have hend : (∃ z, r.head? = some z ∧ z.x0 = q.x0) → ∃ z ∈ r, x < q.x1 → x < z.x1 := by
      rintro ⟨z, hz, hzx⟩
      cases r with
      | nil => cases hz
      | cons w r =>
        simp at hz
        subst hz
        have := hc.2.1
        unfold Nx at this
        have hw' := hw w (by simp)
        unfold wf4 at hw'
        exact ⟨w, by simp, fun _ => by omega⟩
    generalize (∃ z, r.head? = some z ∧ z.x0 = q.x0) = S at *
    generalize hE : (∃ z ∈ r, x < z.x1) = E at *
    have hend2 : S → x < q.x1 → E := fun s hx => by
      obtain ⟨z, hz, hzx⟩ := hend s
      rw [← hE]
      exact ⟨z, hz, hzx hx⟩
    generalize pmem r x y = M at *
    unfold rin
    simp only
    clear ih e1 e2 e3 g1 g2 g3 hend hE hc hw hh
    by_cases hS : S <;> by_cases hEE : E <;> by_cases hM : M <;> by_cases hpq : p.x0 = q.x0 <;> simp only [hS, hEE, hM, hpq, if_true, if_false, not_true, not_false_iff, true_and, and_true, false_and, and_false, or_false, false_or, true_or, or_true, ne_eq, true_implies, false_implies, iff_false, imp_false, implies_true] at hb hend2 ⊢ <;> omega
/-- **The hull's missing rectangles have just the hull's points that the region does not have.** -/
theorem miss_cover {l : List R4} (hc : RCan l) (hne : l ≠ []) {h : R4} (hh : IsHull l h) (x y : Int) : pmem (missL h none l) x y ↔ rin h x y ∧ ¬ pmem l x y := by
  cases l with
  | nil => exact absurd rfl hne
  | cons q r =>
    have hch := chn_can hc
    have hw := can_wf hc
    have hb : pmem r x y → _ := chn_behind hch hw (x := x) (y := y)
    have ih := miss_behind (h := h) hch hw (fun z hz => ⟨(hh.b z hz).2.1, (hh.b z hz).2.2.2⟩) x y
    have hq := hw q (by simp)
    have hq2 := hh.b q (by simp)
    unfold wf4 at hq
    have hx0 : h.x0 = q.x0 := by
      obtain ⟨z, hz, e⟩ := hh.a0
      have h1 := hq2.1
      have h2 : q.x0 ≤ z.x0 := by
        rcases List.mem_cons.1 hz with rfl | hz'
        · exact Int.le_refl _
        · have hzw := hw z hz
          unfold wf4 at hzw
          have := chn_behind hch hw (x := z.x0) (y := z.y0) ⟨z, hz', by unfold rin; omega⟩
          rcases this with ⟨a, _⟩ | a <;> omega
      omega
    have hx1 : x < h.x1 ↔ x < q.x1 ∨ ∃ z ∈ r, x < z.x1 := by
      constructor
      · intro hx
        obtain ⟨z, hz, e⟩ := hh.a2
        rcases List.mem_cons.1 hz with rfl | hz'
        · exact .inl (by omega)
        · exact .inr ⟨z, hz', by omega⟩
      · rintro (hx | ⟨z, hz, hx⟩)
        · omega
        · have := hh.b z (List.mem_cons_of_mem _ hz); omega
    have hend : (∃ z, r.head? = some z ∧ z.x0 = q.x0) → ∃ z ∈ r, x < q.x1 → x < z.x1 := by
      rintro ⟨z, hz, hzx⟩
      cases r with
      | nil => cases hz
      | cons w r =>
        simp at hz
        subst hz
        have := hch.1
        unfold Nx at this
        have hw' := hw w (by simp)
        unfold wf4 at hw'
        exact ⟨w, by simp, fun _ => by omega⟩
    show pmem (missAt h none q r.head? ++ missL h (some q) r) x y ↔ _
    unfold missAt
    rw [pmem_append, pmem_append, pmem_append, pmem_nz, ih]
    have e2 : pmem (q :: r) x y ↔ rin q x y ∨ pmem r x y := pmem_cons
    have g1 : pmem (gapX h none q) x y ↔ False := by simp [gapX, pmem]
    have g2 : lowY h none q = h.y0 := rfl
    have g3 : pmem (topY h q r.head?) x y ↔ (¬ ∃ z, r.head? = some z ∧ z.x0 = q.x0) ∧ q.x0 ≤ x ∧ x < q.x1 ∧ q.y1 ≤ y ∧ y < h.y1 := by
      cases hr : r.head? with
      | none => unfold topY; rw [pmem_nz]; unfold rin; simp
      | some z =>
        unfold topY
        simp only
        split
        · rename_i e; simp [pmem, e]
        · rename_i e; rw [pmem_nz]; unfold rin; simp [e]
    rw [e2, g1, g2, g3]
    have e4 : rin h x y ↔ h.x0 ≤ x ∧ (x < q.x1 ∨ ∃ z ∈ r, x < z.x1) ∧ h.y0 ≤ y ∧ y < h.y1 := by unfold rin; rw [hx1]
    rw [e4]
    generalize (∃ z, r.head? = some z ∧ z.x0 = q.x0) = S at *
    generalize hE : (∃ z ∈ r, x < z.x1) = E at *
    have hend2 : S → x < q.x1 → E := fun s hx => by
      obtain ⟨z, hz, hzx⟩ := hend s
      rw [← hE]
      exact ⟨z, hz, hzx hx⟩
    generalize pmem r x y = M at *
    unfold rin
    simp only
    clear ih e2 g1 g2 g3 e4 hend hE hch hw hh hx1 hne hc
    by_cases hS : S <;> by_cases hEE : E <;> by_cases hM : M <;> simp only [hS, hEE, hM, not_true, not_false_iff, true_and, and_true, false_and, and_false, or_false, false_or, true_or, or_true, true_implies, false_implies, iff_false, imp_false, implies_true] at hb hend2 ⊢ <;> omega
end Go.Proofs.YtdolpeljengpaaaGreat
