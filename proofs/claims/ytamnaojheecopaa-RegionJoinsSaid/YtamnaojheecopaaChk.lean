/- region.Make, region.Check, region.Has, region.Same, region.Area. -/
import Derived.Test.YtamnaojheecopaaMade
import Derived.Test.YtamnaojheecopaaEqR
import Derived.Test.YtamnaojheecopaaIdxA
import Derived.Test.YtamnaojheecopaaIdxB
namespace Go.Proofs.Ytamnaojheecopaa
open Go.RowKit
set_option linter.unusedVariables false
set_option linter.unusedSimpArgs false

def makeF (l : List R4) : List R4 × Int := if 400 < l.length then ([], 4) else if l.any (fun r => !decide (valid4 r)) then ([], 8) else madeF l
def checkF (l : List R4) : Int := if 400 < l.length then 4 else if l.any (fun r => !decide (valid4 r)) then 8 else if (madeF l).2 = 0 ∧ (madeF l).1 = l then 0 else 8
def area4 (r : R4) : Int := (r.x1 - r.x0) * (r.y1 - r.y0)
def areaS (l : List R4) : Int := (l.map area4).sum
def areaF (l : List R4) : Int × Int := if checkF l = 0 then (areaS l, 0) else (0, checkF l)

theorem all_valid {l : List R4} (h : l.any (fun r => !decide (valid4 r)) = false) : ∀ r ∈ l, valid4 r := by
  intro r hr
  have := List.any_eq_false.1 h r hr
  simpa using this
theorem madeF_code (l : List R4) : (madeF l).2 = 0 ∨ (madeF l).2 = 4 := by
  unfold madeF
  split
  · exact .inr rfl
  · exact .inl rfl
theorem RegRet.mono {B B' : Nat} {x : List R4 × Int} {e : Ending} {w' : World} (h : RegRet B' x e w') (hb : B ≤ B') : RegRet B x e w' := by
  obtain ⟨A, c, h1, h2⟩ := h
  exact ⟨A, c, h1, own_base h2 hb⟩

set_option maxHeartbeats 1000000 in
theorem mkInv_any (r : R4) (w : World) :
    Calls Try.prog 40 #[.agg (encR r).toArray] w fun e w' => e = .returned (.bool (!decide (valid4 r))) ∧ Below w.heap.size w w' := by
  have hv := fun W => valid_any r W
  obtain ⟨a, b, c, d⟩ := r
  generalize decide (valid4 ⟨a, b, c, d⟩) = r at hv ⊢
  show Calls Try.prog 40 #[.agg #[.int .i64 a, .int .i64 b, .int .i64 c, .int .i64 d]] w _
  change ∀ W, Calls Try.prog 41 #[.agg #[.int .i64 a, .int .i64 b, .int .i64 c, .int .i64 d]] W _ at hv
  go_enter Try.func40, Try.ntmps40
  go_wp2_with (go_at_call 41; refine (hv _).mono ?_; rintro e w1 ⟨rfl, hb⟩)
  go_ret
  exact ⟨rfl, ((Below.refl _ _).alloc (Nat.le_refl _) _).trans (hb.mono (by simp))⟩
set_option maxHeartbeats 1000000 in
theorem ckInv_any (r : R4) (w : World) :
    Calls Try.prog 46 #[.agg (encR r).toArray] w fun e w' => e = .returned (.bool (!decide (valid4 r))) ∧ Below w.heap.size w w' := by
  have hv := fun W => valid_any r W
  obtain ⟨a, b, c, d⟩ := r
  generalize decide (valid4 ⟨a, b, c, d⟩) = r at hv ⊢
  show Calls Try.prog 46 #[.agg #[.int .i64 a, .int .i64 b, .int .i64 c, .int .i64 d]] w _
  change ∀ W, Calls Try.prog 41 #[.agg #[.int .i64 a, .int .i64 b, .int .i64 c, .int .i64 d]] W _ at hv
  go_enter Try.func46, Try.ntmps46
  go_wp2_with (go_at_call 41; refine (hv _).mono ?_; rintro e w1 ⟨rfl, hb⟩)
  go_ret
  exact ⟨rfl, ((Below.refl _ _).alloc (Nat.le_refl _) _).trans (hb.mono (by simp))⟩
theorem enter_mkInv : ∀ args w, (callFunc 40 args).run Try.prog w = .ok (.enter 40 args) w := enters_of Try.func40 (by kernel_rfl) rfl
theorem enter_ckInv : ∀ args w, (callFunc 46 args).run Try.prog w = .ok (.enter 46 args) w := enters_of Try.func46 (by kernel_rfl) rfl

set_option maxHeartbeats 1000000 in
/-- **region.Make.** -/
theorem make_any {w : World} {v : Value} {l : List R4} (hr : RdK encR 4 w w.heap.size v l) (hl : l.length ≤ 100000000) :
    Calls Try.prog 10 #[v] w fun e w' => RegRet w.heap.size (makeF l) e w' ∧ Below w.heap.size w w' := by
  have hcf := cfRect_any hr (by omega) 40 #[] (fun r => !decide (valid4 r)) enter_mkInv (fun W x _ _ => mkInv_any x W)
  obtain ⟨A, c, hv, _⟩ := id hr
  subst hv
  have HR := hide hr
  have HCF := hide hcf
  clear hcf hr
  by_cases h4 : 400 < l.length
  · have hz : (400 : Int) < (l.length : Int) := by omega
    have hm : makeF l = ([], 4) := if_pos h4
    have HM := hide hm
    clear hm
    go_enter Try.func10, Try.ntmps10
    go_wp2
    go_ret2
    exact ⟨⟨none, 0, by rw [HM.out]; rfl, by rw [HM.out]; exact World.ownsRow_nil _ _ _ _⟩, Below.refl _ _⟩
  · have hz : (l.length : Int) ≤ 400 := by omega
    cases ha : l.any (fun r => !decide (valid4 r)) with
    | true =>
      have hm : makeF l = ([], 8) := by unfold makeF; rw [if_neg h4, ha]; rfl
      rw [ha] at HCF
      have HM := hide hm
      clear hm ha
      go_enter Try.func10, Try.ntmps10
      go_wp2_with (first
        | (go_at_call 39; refine HCF.out.mono ?_; rintro e w1 ⟨rfl, hb1⟩))
      go_ret2
      exact ⟨⟨none, 0, by rw [HM.out]; rfl, by rw [HM.out]; exact World.ownsRow_nil _ _ _ _⟩, hb1⟩
    | false =>
      have hm : makeF l = madeF l := by unfold makeF; rw [if_neg h4, ha]; rfl
      have HV := hide (all_valid ha)
      rw [ha] at HCF
      have HM := hide hm
      clear hm ha
      go_enter Try.func10, Try.ntmps10
      go_wp2_with (first
        | (go_at_call 39; refine HCF.out.mono ?_; rintro e w1 ⟨rfl, hb1⟩)
        | (go_at_call 42; refine (made_any ((HR.out.below hb1).mono hb1.size) (by omega) HV.out).mono ?_; rintro e w2 ⟨⟨A2, c2, rfl, ho2⟩, hb2⟩; have HO := hide ho2; clear ho2))
      go_ret2
      exact ⟨⟨A2, c2, by rw [HM.out]; rfl, by rw [HM.out]; exact own_base HO.out hb1.size⟩, hb1.trans (hb2.mono hb1.size)⟩

set_option maxHeartbeats 1000000 in
/-- **region.Check.** -/
theorem check_any {w : World} {v : Value} {l : List R4} (hr : RdK encR 4 w w.heap.size v l) (hl : l.length ≤ 100000000) :
    Calls Try.prog 14 #[v] w fun e w' => e = .returned (.int .i64 (checkF l)) ∧ Below w.heap.size w w' := by
  have hcf := cfReg_any hr (by omega) 46 #[] (fun r => !decide (valid4 r)) enter_ckInv (fun W x _ _ => ckInv_any x W)
  obtain ⟨A, c, hv, _⟩ := id hr
  subst hv
  have HR := hide hr
  have HCF := hide hcf
  clear hcf hr
  by_cases h4 : 400 < l.length
  · have hz : (400 : Int) < (l.length : Int) := by omega
    have hm : checkF l = 4 := if_pos h4
    have HM := hide hm
    clear hm
    go_enter Try.func14, Try.ntmps14
    go_wp2
    go_ret
    exact ⟨ret_eq (int_eq HM.out.symm), Below.refl _ _⟩
  · have hz : (l.length : Int) ≤ 400 := by omega
    cases ha : l.any (fun r => !decide (valid4 r)) with
    | true =>
      have hm : checkF l = 8 := by unfold checkF; rw [if_neg h4, ha]; rfl
      rw [ha] at HCF
      have HM := hide hm
      clear hm ha
      go_enter Try.func14, Try.ntmps14
      go_wp2_with (first
        | (go_at_call 45; refine HCF.out.mono ?_; rintro e w1 ⟨rfl, hb1⟩))
      go_ret
      exact ⟨ret_eq (int_eq HM.out.symm), hb1⟩
    | false =>
      have hm : checkF l = if (madeF l).2 = 0 ∧ (madeF l).1 = l then 0 else 8 := by unfold checkF; rw [if_neg h4, ha]; rfl
      have HV := hide (all_valid ha)
      have hcode := madeF_code l
      have hmd : ∀ W, Below w.heap.size w W → _ := fun W hb => made_any ((HR.out.below hb).mono hb.size) (by omega) HV.out
      have heq : ∀ (W : World) (vs : Value), Below w.heap.size w W → RdK encR 4 W W.heap.size vs (madeF l).1 → (madeF l).1.length ≤ 100000000 → _ := fun W vs hb h1 h2 => eqRect_any h1 ((HR.out.below hb).mono hb.size) h2 (Nat.le_refl _) (Nat.le_refl _)
      have hlen : (madeF l).1.length ≤ 400 := by unfold madeF; split; · simp
                                                 · simp only; omega
      rw [ha] at HCF
      generalize madeF l = R at *
      obtain ⟨R1, R2⟩ := R
      simp only at *
      have HMD := hide hmd
      have HEQ := hide heq
      have HM := hide hm
      clear hm ha hmd heq
      rcases hcode with rfl | rfl
      · cases hd : decide (R1 = l) with
        | true =>
          have HD := hide hd
          clear hd
          go_enter Try.func14, Try.ntmps14
          go_wp2_with (first
            | (go_at_call 45; refine HCF.out.mono ?_; rintro e w1 ⟨rfl, hb1⟩)
            | (go_at_call 42; refine (HMD.out _ hb1).mono ?_; rintro e w2 ⟨⟨A2, c2, rfl, ho2⟩, hb2⟩; have HO := hide ho2; clear ho2)
            | (go_at_call 47; refine (HEQ.out _ _ (hb1.trans (hb2.mono hb1.size)) (own_rd HO.out (fun _ => rfl)) (by omega)).mono ?_; rintro e w3 ⟨rfl, hb3⟩; rw [HD.out]))
          go_ret
          exact ⟨ret_eq (int_eq (by rw [HM.out, if_pos ⟨trivial, of_decide_eq_true HD.out⟩])), (hb1.trans (hb2.mono hb1.size)).trans (hb3.mono (Nat.le_trans hb1.size hb2.size))⟩
        | false =>
          have HD := hide hd
          clear hd
          go_enter Try.func14, Try.ntmps14
          go_wp2_with (first
            | (go_at_call 45; refine HCF.out.mono ?_; rintro e w1 ⟨rfl, hb1⟩)
            | (go_at_call 42; refine (HMD.out _ hb1).mono ?_; rintro e w2 ⟨⟨A2, c2, rfl, ho2⟩, hb2⟩; have HO := hide ho2; clear ho2)
            | (go_at_call 47; refine (HEQ.out _ _ (hb1.trans (hb2.mono hb1.size)) (own_rd HO.out (fun _ => rfl)) (by omega)).mono ?_; rintro e w3 ⟨rfl, hb3⟩; rw [HD.out]))
          go_ret
          exact ⟨ret_eq (int_eq (by rw [HM.out, if_neg (fun h => of_decide_eq_false HD.out h.2)])), (hb1.trans (hb2.mono hb1.size)).trans (hb3.mono (Nat.le_trans hb1.size hb2.size))⟩
      · go_enter Try.func14, Try.ntmps14
        go_wp2_with (first
          | (go_at_call 45; refine HCF.out.mono ?_; rintro e w1 ⟨rfl, hb1⟩)
          | (go_at_call 42; refine (HMD.out _ hb1).mono ?_; rintro e w2 ⟨⟨A2, c2, rfl, ho2⟩, hb2⟩; have HO := hide ho2; clear ho2))
        go_ret
        exact ⟨ret_eq (int_eq (by rw [HM.out, if_neg (fun h => by simp at h)])), hb1.trans (hb2.mono hb1.size)⟩

set_option maxHeartbeats 1000000 in
/-- region.Same. -/
theorem same_any {w : World} {vs vt : Value} {s t : List R4} (hs : RdK encR 4 w w.heap.size vs s) (ht : RdK encR 4 w w.heap.size vt t) (ns : s.length ≤ 100000000) :
    Calls Try.prog 19 #[vs, vt] w fun e w' => e = .returned (.bool (decide (s = t))) ∧ Below w.heap.size w w' := by
  have h := eqRect_any hs ht ns (Nat.le_refl _) (Nat.le_refl _)
  generalize decide (s = t) = d at *
  obtain ⟨A1, c1, rfl, _⟩ := hs
  obtain ⟨A2, c2, rfl, _⟩ := ht
  go_enter Try.func19, Try.ntmps19
  go_wp2_with (go_at_call 47; refine h.mono ?_; rintro e w1 ⟨rfl, hb⟩)
  go_ret
  exact ⟨rfl, hb⟩

set_option maxHeartbeats 1000000 in
theorem hasC_any (r : R4) (x y : Int) (bx bY : Nat) (w : World) (hx : w.cell? ⟨bx, 0, none⟩ = some (.int .i64 x)) (hy : w.cell? ⟨bY, 0, none⟩ = some (.int .i64 y)) :
    Calls Try.prog 48 #[.agg (encR r).toArray, .pointer (some ⟨bx, 0, none⟩), .pointer (some ⟨bY, 0, none⟩)] w fun e w' => e = .returned (.bool (decide (rin r x y))) ∧ Below w.heap.size w w' := by
  obtain ⟨a, b, c, d⟩ := r
  show Calls Try.prog 48 #[.agg #[.int .i64 a, .int .i64 b, .int .i64 c, .int .i64 d], .pointer (some ⟨bx, 0, none⟩), .pointer (some ⟨bY, 0, none⟩)] w _
  have lx := lt_of_cell hx
  have ly := lt_of_cell hy
  have nx : bx ≠ w.heap.size := by omega
  have ny : bY ≠ w.heap.size := by omega
  go_enter Try.func48, Try.ntmps48
  go_wp2
  all_goals
    go_ret
    refine ⟨ret_eq (bool_eq ?_), (Below.refl _ _).alloc (Nat.le_refl _) _⟩
    first
      | exact (decide_eq_false (by simp only [rin]; omega)).symm
      | exact (decide_eq_true (by simp only [rin]; omega)).symm
      | exact decide_eq_decide.2 (by simp only [rin]; omega)
theorem enter_hasC : ∀ args w, (callFunc 48 args).run Try.prog w = .ok (.enter 48 args) w := enters_of Try.func48 (by kernel_rfl) rfl
theorem any_pmem (l : List R4) (x y : Int) : l.any (fun r => decide (rin r x y)) = decide (pmem l x y) := by
  rw [Bool.eq_iff_iff, List.any_eq_true, decide_eq_true_iff]
  simp [pmem]
set_option maxHeartbeats 1000000 in
/-- region.Has. -/
theorem has_any {w : World} {v : Value} {l : List R4} (hr : RdK encR 4 w w.heap.size v l) (hl : l.length ≤ 100000000) (x y : Int) :
    Calls Try.prog 17 #[v, .int .i64 x, .int .i64 y] w fun e w' => e = .returned (.bool (decide (pmem l x y))) ∧ Below w.heap.size w w' := by
  have hb0 : Below w.heap.size w ((w.alloc (.cells #[.int .i64 x] 3)).alloc (.cells #[.int .i64 y] 3)) := ((Below.refl _ _).alloc (Nat.le_refl _) _).alloc (by simp) _
  have h := cfReg_any (w := (w.alloc (.cells #[.int .i64 x] 3)).alloc (.cells #[.int .i64 y] 3)) ((hr.below hb0).mono hb0.size) (by omega) 48 #[.pointer (some ⟨w.heap.size, 0, none⟩), .pointer (some ⟨w.heap.size + 1, 0, none⟩)] (fun r => decide (rin r x y)) enter_hasC
    (fun W r _ hb => hasC_any r x y _ _ W ((hb.cell (p := ⟨w.heap.size, 0, none⟩) (by simp; omega)).trans (by simp [go_sem])) ((hb.cell (p := ⟨w.heap.size + 1, 0, none⟩) (by simp)).trans (by simp [go_sem])))
  rw [any_pmem] at h
  generalize decide (pmem l x y) = d at *
  have HB := hide hb0
  obtain ⟨A1, c1, rfl, _⟩ := hr
  clear hb0
  go_enter Try.func17, Try.ntmps17
  go_wp2_with (go_at_call 45; refine h.mono ?_; rintro e w1 ⟨rfl, hb⟩)
  go_ret
  exact ⟨rfl, HB.out.trans (hb.mono HB.out.size)⟩

theorem areaS_take {l : List R4} {m : Nat} {r : R4} (h : l[m]? = some r) : areaS (l.take (m + 1)) = areaS (l.take m) + area4 r := by
  obtain ⟨hm, hp⟩ := List.getElem?_eq_some_iff.1 h
  rw [List.take_succ_eq_append_getElem hm, hp]
  simp [areaS]
theorem area4_bd {r : R4} (h : valid4 r) : 0 ≤ area4 r ∧ area4 r ≤ 4000000000000 := by
  obtain ⟨h1, h2, ⟨a, b⟩, ⟨c, d⟩, ⟨e, f⟩, ⟨g, i⟩⟩ := h
  unfold area4
  have k1 : 0 ≤ r.x1 - r.x0 := by omega
  have k2 : 0 ≤ r.y1 - r.y0 := by omega
  refine ⟨Int.mul_nonneg k1 k2, ?_⟩
  have := Int.mul_le_mul (show r.x1 - r.x0 ≤ 2000000 by omega) (show r.y1 - r.y0 ≤ 2000000 by omega) k2 (by omega)
  omega
theorem areaS_bd : ∀ {l : List R4}, (∀ r ∈ l, valid4 r) → 0 ≤ areaS l ∧ areaS l ≤ 4000000000000 * l.length
  | [], _ => by simp [areaS]
  | r :: l, h => by
    have h1 := areaS_bd (l := l) fun r hr => h r (by simp [hr])
    have h2 := area4_bd (h r (by simp))
    have e : areaS (r :: l) = area4 r + areaS l := by simp [areaS]
    rw [e, List.length_cons]
    omega
theorem checkF_ok {l : List R4} (h : checkF l = 0) : l.length ≤ 400 ∧ (∀ r ∈ l, valid4 r) ∧ madeF l = (l, 0) := by
  unfold checkF at h
  by_cases h4 : 400 < l.length
  · rw [if_pos h4] at h; simp at h
  rw [if_neg h4] at h
  cases ha : l.any (fun r => !decide (valid4 r)) with
  | true => rw [ha] at h; simp at h
  | false =>
    rw [ha] at h
    refine ⟨by omega, all_valid ha, ?_⟩
    by_cases hm : (madeF l).2 = 0 ∧ (madeF l).1 = l
    · exact Prod.ext hm.2 hm.1
    · simp [hm] at h
set_option maxHeartbeats 2000000 in
/-- region.Area. -/
theorem area_any {w : World} {v : Value} {l : List R4} (hr : RdK encR 4 w w.heap.size v l) (hl : l.length ≤ 100000000) :
    Calls Try.prog 12 #[v] w fun e w' => e = .returned (.tuple #[.int .i64 (areaF l).1, .int .i64 (areaF l).2]) ∧ Below w.heap.size w w' := by
  have hck := check_any hr hl
  obtain ⟨A, c, hv, hc⟩ := id hr
  subst hv
  have HCK := hide hck
  clear hck
  by_cases h0 : checkF l = 0
  · obtain ⟨k1, k2, _⟩ := checkF_ok h0
    have hf : areaF l = (areaS l, 0) := if_pos h0
    have HF := hide hf
    rw [h0] at HCK
    have HV := hide k2
    have HRC := hide hc
    clear hf h0 k2 hr hc
    go_enter Try.func12, Try.ntmps12
    go_wp2_with (go_at_call 14; refine HCK.out.mono ?_; rintro e w1 ⟨rfl, hb1⟩)
    go_loopw [5, 15] (fun s i wr => ∃ m : Nat, m ≤ l.length ∧ i = .int .i64 m ∧ s = .int .i64 (areaS (l.take m)) ∧ Below w.heap.size w wr) (fun _ i _ => l.length - (intOf i).toNat)
    case atStart => exact ⟨0, Nat.zero_le _, rfl, by simp [areaS], hb1⟩
    case round =>
      clear hb1
      obtain ⟨m, hm, rfl, rfl, hb⟩ := hrel
      by_cases hlt : m < l.length
      · obtain ⟨⟨x0, y0, x1, y1⟩, hp⟩ : ∃ p, l[m]? = some p := ⟨_, List.getElem?_eq_getElem hlt⟩
        obtain ⟨b, o, rfl, hbl, k⟩ := HRC.out (by intro e; rw [e] at hlt; simp at hlt)
        have d0 : wr.cell? ⟨b, o + m * 4, none⟩ = some (.int .i64 x0) := (hb.cell (p := ⟨b, _, none⟩) hbl).trans (k m _ hp 0 _ rfl)
        have d1 : wr.cell? ⟨b, o + m * 4 + 1, none⟩ = some (.int .i64 y0) := (hb.cell (p := ⟨b, _, none⟩) hbl).trans (k m _ hp 1 _ rfl)
        have d2 : wr.cell? ⟨b, o + m * 4 + 2, none⟩ = some (.int .i64 x1) := (hb.cell (p := ⟨b, _, none⟩) hbl).trans (k m _ hp 2 _ rfl)
        have d3 : wr.cell? ⟨b, o + m * 4 + 3, none⟩ = some (.int .i64 y1) := (hb.cell (p := ⟨b, _, none⟩) hbl).trans (k m _ hp 3 _ rfl)
        obtain ⟨v1, v2, ⟨v3, v4⟩, ⟨v5, v6⟩, ⟨v7, v8⟩, ⟨v9, v10⟩⟩ := HV.out _ (List.mem_of_getElem? hp)
        have ba := area4_bd (HV.out _ (List.mem_of_getElem? hp))
        have bs := areaS_bd (l := l.take m) fun r hr => HV.out r (List.mem_of_mem_take hr)
        rw [List.length_take] at bs
        have HT := hide (areaS_take hp)
        have mz : (m : Int) < (l.length : Int) := by omega
        have lz : (l.length : Int) ≤ 400 := by omega
        simp only [area4] at ba v1 v2 v3 v4 v5 v6 v7 v8 v9 v10
        clear k hp
        generalize areaS (l.take m) = s at *
        have bs1 := bs.1
        have bs2 : s ≤ 1600000000000000 := by omega
        have ba1 := ba.1
        have ba2 := ba.2
        clear bs ba
        go_wp2
        go_roundw
        case rel => exact ⟨m + 1, by omega, by go_num, by rw [HT.out]; rfl, hb.alloc hb.size _⟩
        case measure => simp [intOf]; omega
      · have mz : ¬ (m : Int) < (l.length : Int) := by omega
        have ht : l.take m = l := List.take_of_length_le (by omega)
        have HT := hide ht
        clear ht
        go_wp2
        go_ret2
        exact ⟨by rw [HF.out, HT.out]; rfl, hb⟩
  · have hf : areaF l = (0, checkF l) := if_neg h0
    have HF := hide hf
    clear hf
    generalize checkF l = ck at *
    have hne : (ck != 0) = true := by simpa using h0
    clear h0
    go_enter Try.func12, Try.ntmps12
    go_wp2_with (go_at_call 14; refine HCK.out.mono ?_; rintro e w1 ⟨rfl, hb1⟩)
    go_ret2
    exact ⟨by rw [HF.out]; rfl, hb1⟩
end Go.Proofs.Ytamnaojheecopaa
