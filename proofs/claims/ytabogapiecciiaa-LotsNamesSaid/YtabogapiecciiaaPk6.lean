/- Texts laid together: JoinA, MLook, MAlg, MLots, RdLit, ParA, ParB, ParC, ParD, ParE. Lemmas for the statements of this seat; no condition. -/
import Derived.Test.YtabogapiecciiaaPk5
import Derived.Test.YtabogapiecciiaaPk1
import Derived.Test.YtabogapiecciiaaPk3
import Derived.Test.YtabogapiecciiaaPk2

/- span.Check at a canonical set; span.checked; span.Union, Meet, Minus; region.both and the reference's Both and Join. -/
namespace Go.Proofs.Ytabogapiecciiaa
open Go.RowKit
set_option linter.unusedVariables false
set_option linter.unusedSimpArgs false

set_option maxRecDepth 100000 in
set_option maxHeartbeats 2000000 in
theorem spCheck_can {w : World} {v : Value} {s : List Sp} (hr : RdK encS 2 w w.heap.size v s) (hl : s.length ≤ 400) (hc : SCan s) (hv : ∀ p ∈ s, validS p) :
    Calls Try.prog 69 #[v] w fun e w' => e = .returned (.int .i64 0) ∧ Below w.heap.size w w' := by
  obtain ⟨A, c, rfl, hrd⟩ := hr
  have HR := hide hrd
  have HC := hide hc
  have HV := hide hv
  have lz : (s.length : Int) ≤ 400 := by omega
  clear hrd hc hv
  go_enter Try.func69, Try.ntmps69
  go_wp2
  go_loopw [10] (fun i wr => ∃ m : Nat, m ≤ s.length ∧ i = .int .i64 m ∧ Hid (Below w.heap.size w wr)) (fun i _ => s.length - (intOf i).toNat)
  case atStart => exact ⟨0, Nat.zero_le _, rfl, hide (Below.refl _ _)⟩
  case round =>
    obtain ⟨m, hm, rfl, HB⟩ := hrel
    by_cases hlt : m < s.length
    · obtain ⟨⟨x, y⟩, hp⟩ : ∃ p, s[m]? = some p := ⟨_, List.getElem?_eq_getElem hlt⟩
      obtain ⟨b, o, rfl, hbl, k⟩ := HR.out (by intro e; rw [e] at hlt; simp at hlt)
      have d0 : wr.cell? ⟨b, o + m * 2, none⟩ = some (.int .i64 x) := (HB.out.cell (p := ⟨b, _, none⟩) hbl).trans (k m _ hp 0 _ rfl)
      have d1 : wr.cell? ⟨b, o + m * 2 + 1, none⟩ = some (.int .i64 y) := (HB.out.cell (p := ⟨b, _, none⟩) hbl).trans (k m _ hp 1 _ rfl)
      have mz : (m : Int) < (s.length : Int) := by omega
      have hsz := HB.out.size
      have hbw : b < wr.heap.size := by omega
      have HVA : Hid (∀ W, Calls Try.prog 78 #[.agg #[.int .i64 x, .int .i64 y]] W fun e w' => e = .returned (.bool true) ∧ Below W.heap.size W w') := hide (fun W => by
        have := validS_any (x, y) W
        rw [decide_eq_true (HV.out _ (List.mem_of_getElem? hp))] at this
        exact this)
      have HP := hide hp
      clear hp
      rcases Nat.eq_zero_or_pos m with rfl | hmp
      · clear k
        simp only [Nat.zero_mul, Nat.add_zero] at d0 d1
        rw [show ((0 : Nat) : Int) = 0 from rfl] at *
        go_wp2
        refine wp_hab fun hab => ?_
        refine wp_region_above (by kernel_rfl) (by kernel_rfl) ?_
        repeat (go_big_quiet_step ((go_at_call 78; exact above_of (HVA.out _))))
        refine wpQuiet_nil ?_
        refine above_ends fun w3 hb3 => ?_
        clear hab
        have HB3 := hide ((HB.out.alloc hsz _).trans (hb3.mono (by simp; omega)))
        clear hb3
        go_wp2
        go_roundw
        case rel => exact ⟨0 + 1, by omega, by go_num, HB3⟩
        case measure => simp [intOf]; omega
      · obtain ⟨j, rfl⟩ : ∃ j, m = j + 1 := ⟨m - 1, by omega⟩
        obtain ⟨⟨p, q⟩, hq⟩ : ∃ p, s[j]? = some p := ⟨_, List.getElem?_eq_getElem (by omega)⟩
        have d2 : wr.cell? ⟨b, o + j * 2 + 1, none⟩ = some (.int .i64 q) := (HB.out.cell (p := ⟨b, _, none⟩) hbl).trans (k j _ hq 1 _ rfl)
        have hqx : q < x := by
          obtain ⟨i1, e1⟩ := List.getElem?_eq_some_iff.1 hq
          obtain ⟨i2, e2⟩ := List.getElem?_eq_some_iff.1 HP.out
          have := List.pairwise_iff_getElem.1 HC.out.2 j (j + 1) i1 i2 (by omega)
          rw [e1, e2] at this
          exact this
        have hge : decide (x ≤ q) = false := decide_eq_false (by omega)
        have q1 : (0 : Int) < (j : Int) + 1 := by omega
        have q2 : (j : Int) < (s.length : Int) := by omega
        have q3 : IntKind.i64.wrap ((j : Int) + 1 - 1) = j := by simp [IntKind.wrap, IntKind.bits, IntKind.signed]; omega
        have q5 : IntKind.i64.wrap (j : Int) = j := by simp [IntKind.wrap, IntKind.bits, IntKind.signed]; omega
        have q4 : (0 : Int) ≤ (j : Int) := by omega
        have q6 : decide ((0 : Int) < (j : Int) + 1) = true := decide_eq_true q1
        clear k hq hmp
        rw [show ((j + 1 : Nat) : Int) = (j : Int) + 1 from rfl] at *
        go_wp2
        refine wp_hab fun hab => ?_
        refine wp_region_above (by kernel_rfl) (by kernel_rfl) ?_
        repeat (go_big_quiet_step ((go_at_call 78; exact above_of (HVA.out _))))
        refine wpQuiet_nil ?_
        refine above_ends fun w3 hb3 => ?_
        clear hab
        have HB3 := hide ((HB.out.alloc hsz _).trans (hb3.mono (by simp; omega)))
        clear hb3 q3 q5
        go_wp2
        go_roundw
        case rel => exact ⟨j + 1 + 1, by omega, by go_num, HB3⟩
        case measure => simp [intOf]; omega
    · have mz : ¬ (m : Int) < (s.length : Int) := by omega
      go_wp2
      go_ret
      exact ⟨rfl, HB.out⟩

/-- What span.checked returns for canonical sets. -/
def sjF (h : Bool → Bool → Bool) (a b : List Sp) : List Sp × Int := if 400 < (sjoin h a b).length then ([], 4) else (sjoin h a b, 0)
set_option maxHeartbeats 2000000 in
theorem checked_any (a b : List Sp) (va vb : Value) (w : World) (g : Nat) (h : Bool → Bool → Bool) (h0 : h false false = false) (eg : ∀ args w, (callFunc g args).run Try.prog w = .ok (.enter g args) w)
    (hg : ∀ (x y : Bool) (W : World), Calls Try.prog g #[.bool x, .bool y] W fun e w' => e = .returned (.bool (h x y)) ∧ W = w')
    (ra : RdK encS 2 w w.heap.size va a) (rb : RdK encS 2 w w.heap.size vb b) (na : a.length ≤ 400) (nb : b.length ≤ 400) (ca : SCan a) (cb : SCan b) (ba : ∀ p ∈ a, validS p) (bb : ∀ p ∈ b, validS p) :
    Calls Try.prog 47 #[va, vb, .func (.func g) #[] #[]] w fun e w' => SpnRet w.heap.size (sjF h a b) e w' ∧ Below w.heap.size w w' := by
  have hcA := spCheck_can ra na ca ba
  have hcB := fun (W : World) (hW : Below w.heap.size w W) => spCheck_can (w := W) ((rb.below hW).mono hW.size) nb cb bb
  have hj := fun (W : World) (hW : Below w.heap.size w W) => sjoin_any a b va vb W g h h0 eg hg ((ra.below hW).mono hW.size) ((rb.below hW).mono hW.size) (by omega) (by omega) ba bb
  obtain ⟨A1, c1, hva, _⟩ := ra
  obtain ⟨A2, c2, hvb, _⟩ := rb
  subst hva; subst hvb
  have HCA := hide hcA
  have HCB := hide hcB
  have HJ := hide hj
  have hsl := sjoin_len h a b
  have hF : sjF h a b = if 400 < (sjoin h a b).length then ([], 4) else (sjoin h a b, 0) := rfl
  have HF := hide hF
  clear hcA hcB hj ca cb ba bb hg hF
  generalize sjoin h a b = s at *
  by_cases h4 : 400 < s.length
  · have hz : (400 : Int) < (s.length : Int) := by omega
    have HF2 : Hid (sjF h a b = ([], 4)) := hide (by rw [HF.out, if_pos h4])
    go_enter Try.func47, Try.ntmps47
    go_wp2_with (fail)
    refine HCA.out.mono ?_
    rintro e w1 ⟨rfl, hb1⟩
    have HB1 := hide hb1
    clear hb1
    go_wp2_with (fail)
    refine (HCB.out _ HB1.out).mono ?_
    rintro e w2 ⟨rfl, hb2⟩
    have HB2 := hide (HB1.out.trans (hb2.mono HB1.out.size))
    clear hb2
    go_wp2_with (fail)
    refine (HJ.out _ HB2.out).mono ?_
    rintro e w3 ⟨A3, c3, rfl, ho3, hb3⟩
    have HO3 := hide ho3
    have HB3 := hide (HB2.out.trans (hb3.mono HB2.out.size))
    clear hb3 ho3
    go_wp2_with (fail)
    go_ret2
    exact ⟨⟨none, 0, by rw [HF2.out]; rfl, by rw [HF2.out]; exact World.ownsRow_nil _ _ _ _⟩, HB3.out⟩
  · have hz : (s.length : Int) ≤ 400 := by omega
    have HF2 : Hid (sjF h a b = (s, 0)) := hide (by rw [HF.out, if_neg h4])
    go_enter Try.func47, Try.ntmps47
    go_wp2_with (fail)
    refine HCA.out.mono ?_
    rintro e w1 ⟨rfl, hb1⟩
    have HB1 := hide hb1
    clear hb1
    go_wp2_with (fail)
    refine (HCB.out _ HB1.out).mono ?_
    rintro e w2 ⟨rfl, hb2⟩
    have HB2 := hide (HB1.out.trans (hb2.mono HB1.out.size))
    clear hb2
    go_wp2_with (fail)
    refine (HJ.out _ HB2.out).mono ?_
    rintro e w3 ⟨A3, c3, rfl, ho3, hb3⟩
    have HO3 := hide (own_base (base := w.heap.size) ho3 HB2.out.size)
    have HB3 := hide (HB2.out.trans (hb3.mono HB2.out.size))
    clear hb3 ho3
    go_wp2_with (fail)
    go_ret2
    exact ⟨⟨A3, c3, by rw [HF2.out]; rfl, by rw [HF2.out]; exact HO3.out⟩, HB3.out⟩

theorem clSub_any (x y : Bool) (W : World) : Calls Try.prog 48 #[.bool x, .bool y] W fun e w' => e = .returned (.bool (hSub x y)) ∧ W = w' := by
  cases x <;> cases y
  all_goals
    go_enter Try.func48, Try.ntmps48
    go_wp2
    go_ret
    exact ⟨rfl, rfl⟩
theorem enter_clSub : ∀ args w, (callFunc 48 args).run Try.prog w = .ok (.enter 48 args) w := enters_of Try.func48 (by kernel_rfl) rfl
theorem enter_spSub : ∀ args w, (callFunc 28 args).run Try.prog w = .ok (.enter 28 args) w := enters_of Try.func28 (by kernel_rfl) rfl
/-- The contract of a joining function: at canonical sets. -/
def SpJoin (f : Nat) (h : Bool → Bool → Bool) : Prop := ∀ (a b : List Sp) (va vb : Value) (w : World), RdK encS 2 w w.heap.size va a → RdK encS 2 w w.heap.size vb b → a.length ≤ 400 → b.length ≤ 400 → SCan a → SCan b → (∀ p ∈ a, validS p) → (∀ p ∈ b, validS p) →
  Calls Try.prog f #[va, vb] w fun e w' => SpnRet w.heap.size (sjF h a b) e w' ∧ Below w.heap.size w w'
set_option maxHeartbeats 1000000 in
theorem spSub_any : SpJoin 28 hSub := by
  intro a b va vb w ra rb na nb ca cb ba bb
  have hc := checked_any a b va vb w 48 hSub rfl enter_clSub clSub_any ra rb na nb ca cb ba bb
  obtain ⟨A1, c1, hva, _⟩ := ra
  obtain ⟨A2, c2, hvb, _⟩ := rb
  subst hva; subst hvb
  have HC := hide hc
  clear hc ca cb ba bb
  generalize sjF hSub a b = R at *
  obtain ⟨R1, R2⟩ := R
  go_enter Try.func28, Try.ntmps28
  go_wp2_with (fail)
  refine HC.out.mono ?_
  rintro e w1 ⟨⟨A3, c3, rfl, ho⟩, hb⟩
  have HO := hide ho
  clear ho
  go_wp2_with (fail)
  go_ret2
  exact ⟨⟨A3, c3, rfl, HO.out⟩, hb⟩
/-- The error of two regions. -/
def bothF (a b : List R4) : Int := if checkF a = 0 then checkF b else checkF a
set_option maxHeartbeats 1000000 in
theorem both_any {w : World} {va vb : Value} {a b : List R4} (ra : RdK encR 4 w w.heap.size va a) (rb : RdK encR 4 w w.heap.size vb b) (na : a.length ≤ 100000000) (nb : b.length ≤ 100000000) :
    Calls Try.prog 43 #[va, vb] w fun e w' => e = .returned (.int .i64 (bothF a b)) ∧ Below w.heap.size w w' := by
  have hA := check_any ra na
  have hB := fun (W : World) (hW : Below w.heap.size w W) => check_any (w := W) ((rb.below hW).mono hW.size) nb
  obtain ⟨A1, c1, hva, _⟩ := ra
  obtain ⟨A2, c2, hvb, _⟩ := rb
  subst hva; subst hvb
  have HA := hide hA
  have HB := hide hB
  clear hA hB
  by_cases h0 : checkF a = 0
  · have HF : Hid (bothF a b = checkF b) := hide (if_pos h0)
    rw [h0] at HA
    clear h0
    go_enter Try.func43, Try.ntmps43
    go_wp2_with (fail)
    refine HA.out.mono ?_
    rintro e w1 ⟨rfl, hb1⟩
    have HB1 := hide hb1
    clear hb1
    go_wp2_with (fail)
    refine (HB.out _ HB1.out).mono ?_
    rintro e w2 ⟨rfl, hb2⟩
    go_wp2_with (fail)
    go_ret
    exact ⟨ret_eq (int_eq HF.out.symm), HB1.out.trans (hb2.mono HB1.out.size)⟩
  · have HF : Hid (bothF a b = checkF a) := hide (if_neg h0)
    generalize checkF a = ck at *
    have hne : (ck != 0) = true := by simpa using h0
    clear h0
    go_enter Try.func43, Try.ntmps43
    go_wp2_with (fail)
    refine HA.out.mono ?_
    rintro e w1 ⟨rfl, hb1⟩
    go_wp2_with (fail)
    go_ret
    exact ⟨ret_eq (int_eq HF.out.symm), hb1⟩
def joinF (h : Bool → Bool → Bool) (a b : List R4) : List R4 × Int := if bothF a b = 0 then (if 400 < (rjoin h a b).length then ([], 4) else (rjoin h a b, 0)) else ([], bothF a b)
theorem bothF_ok {a b : List R4} (h : bothF a b = 0) : checkF a = 0 ∧ checkF b = 0 := by
  unfold bothF at h
  by_cases h0 : checkF a = 0
  · rw [if_pos h0] at h; exact ⟨h0, h⟩
  · rw [if_neg h0] at h; exact absurd h h0
theorem check_wf {l : List R4} (h : checkF l = 0) : ∀ r ∈ l, wf4 r := fun r hr => ⟨((checkF_ok h).2.1 r hr).1, ((checkF_ok h).2.1 r hr).2.1⟩
theorem rjoin_len2 (h : Bool → Bool → Bool) (a b : List R4) (ha : a.length ≤ 400) (hb : b.length ≤ 400) : (rjoin h a b).length ≤ 100000000 := by
  have h1 := swp_len (fun c => sjoin h (crossL a c) (crossL b c)) 1600 (fun c => by
    have h1 := sjoin_len h (crossL a c) (crossL b c)
    have h2 := crossL_len a c
    have h3 := crossL_len b c
    omega) (prs (isortI (cutsL a ++ cutsL b)))
  rw [swp_sweep] at h1
  have h2 := prs_len (isortI (cutsL a ++ cutsL b))
  have h3 := isortI_len (cutsL a ++ cutsL b)
  rw [List.length_append, cutsL_len, cutsL_len] at h3
  unfold rjoin
  have h4 : (prs (isortI (cutsL a ++ cutsL b))).length ≤ 1600 := by omega
  have h5 := Nat.mul_le_mul_right 1600 h4
  omega
end Go.Proofs.Ytabogapiecciiaa

/- Plain law: cross-sections of a canonical region; hulls; moved regions. -/
namespace Go.Proofs.Ytabogapiecciiaa
set_option linter.unusedVariables false
set_option linter.unusedSimpArgs false

theorem crossL_append (a b : List R4) (x : Int) : crossL (a ++ b) x = crossL a x ++ crossL b x := by simp [crossL]
theorem crossL_flat1 (a : Slab) (x : Int) : crossL (flat1 a) x = if a.f ≤ x ∧ x < a.t then a.s else [] := by
  unfold crossL flat1
  rw [List.filter_map, List.map_map]
  by_cases hx : a.f ≤ x ∧ x < a.t
  · rw [if_pos hx]
    have : (fun p : Sp => decide (a.f ≤ x) && decide (x < a.t)) = fun _ => true := by funext p; simp [hx.1, hx.2]
    show List.map _ (List.filter (fun p : Sp => decide (a.f ≤ x) && decide (x < a.t)) a.s) = _
    rw [this, List.filter_eq_self.2 (fun _ _ => rfl)]
    show List.map (fun p : Sp => (p.1, p.2)) a.s = a.s
    simp
  · rw [if_neg hx]
    have : (fun p : Sp => decide (a.f ≤ x) && decide (x < a.t)) = fun _ => false := by
      funext p
      by_cases h1 : a.f ≤ x
      · have h2 : ¬ x < a.t := fun h => hx ⟨h1, h⟩
        simp [h2]
      · simp [h1]
    show List.map _ (List.filter (fun p : Sp => decide (a.f ≤ x) && decide (x < a.t)) a.s) = _
    rw [this, List.filter_eq_nil_iff.2 (by simp)]
    rfl
theorem crossL_flat : ∀ {S : List Slab} (x : Int), SOK S → crossL (flat S) x = cr S x
  | [], x, _ => rfl
  | a :: S, x, h => by
    have e : flat (a :: S) = flat1 a ++ flat S := by simp [flat]
    rw [e, crossL_append, crossL_flat1, crossL_flat x h.tail]
    simp only [cr]
    by_cases hx : a.f ≤ x ∧ x < a.t
    · rw [if_pos hx, if_pos hx, cr_far (S := S) (fun b hb => .inl (by have := h.after b hb; omega)), List.append_nil]
    · rw [if_neg hx, if_neg hx, List.nil_append]
theorem check_rcan {l : List R4} (h : checkF l = 0) : RCan l := by
  obtain ⟨h1, h2, h3⟩ := checkF_ok h
  have hr : rjoin hFst l [] = l := by
    unfold madeF at h3
    split at h3
    · simp at h3
    · exact (Prod.mk.inj h3).1
  rw [← hr]
  exact (rjoin_ok (h := hFst) rfl (fun r hr => ⟨(h2 r hr).1, (h2 r hr).2.1⟩) (by simp)).1
theorem crossL_can {l : List R4} (h : RCan l) (x : Int) : SCan (crossL l x) := by
  obtain ⟨S, hS, rfl⟩ := h
  rw [crossL_flat x hS]
  exact cr_can x hS
/-- The reference's cross-section of a canonical region. -/
theorem ref_cross {l : List R4} (h : RCan l) (x : Int) {ys : List Int} (hs : ys.Pairwise (· < ·)) (hy : ∀ c ∈ cutsY l, c ∈ ys) : canF ys (ys.map fun y => decide (pmem l x y)) = crossL l x := by
  obtain ⟨h1, h2⟩ := refG_ok (h := hFst) rfl hs hy (b := []) (by simp [cutsY]) x
  refine h1.ext (crossL_can h x) fun y => ?_
  rw [smem_crossL]
  exact (h2 y).trans (by simp [hFst])

/-! ### Hulls -/
def hullS (h r : R4) : R4 := ⟨min h.x0 r.x0, min h.y0 r.y0, max h.x1 r.x1, max h.y1 r.y1⟩
def hullL : List R4 → R4
  | [] => ⟨0, 0, 0, 0⟩
  | r :: l => (r :: l).foldl hullS r
/-- h is the hull of the rectangles. -/
structure IsHull (l : List R4) (h : R4) : Prop where
  a0 : ∃ r ∈ l, r.x0 = h.x0
  a1 : ∃ r ∈ l, r.y0 = h.y0
  a2 : ∃ r ∈ l, r.x1 = h.x1
  a3 : ∃ r ∈ l, r.y1 = h.y1
  b : ∀ r ∈ l, h.x0 ≤ r.x0 ∧ h.y0 ≤ r.y0 ∧ r.x1 ≤ h.x1 ∧ r.y1 ≤ h.y1
theorem IsHull.step {l : List R4} {h r : R4} (hh : IsHull l h) : IsHull (l ++ [r]) (hullS h r) := by
  obtain ⟨⟨p0, q0, e0⟩, ⟨p1, q1, e1⟩, ⟨p2, q2, e2⟩, ⟨p3, q3, e3⟩, hb⟩ := hh
  refine ⟨?_, ?_, ?_, ?_, ?_⟩
  · by_cases c : h.x0 ≤ r.x0
    · exact ⟨p0, by simp [q0], by simp only [hullS]; omega⟩
    · exact ⟨r, by simp, by simp only [hullS]; omega⟩
  · by_cases c : h.y0 ≤ r.y0
    · exact ⟨p1, by simp [q1], by simp only [hullS]; omega⟩
    · exact ⟨r, by simp, by simp only [hullS]; omega⟩
  · by_cases c : r.x1 ≤ h.x1
    · exact ⟨p2, by simp [q2], by simp only [hullS]; omega⟩
    · exact ⟨r, by simp, by simp only [hullS]; omega⟩
  · by_cases c : r.y1 ≤ h.y1
    · exact ⟨p3, by simp [q3], by simp only [hullS]; omega⟩
    · exact ⟨r, by simp, by simp only [hullS]; omega⟩
  · intro q hq
    rcases List.mem_append.1 hq with hq | hq
    · have := hb q hq
      simp only [hullS]; omega
    · rw [List.mem_singleton] at hq
      subst hq
      simp only [hullS]; omega
theorem IsHull.one (r : R4) : IsHull [r] r := ⟨⟨r, by simp, rfl⟩, ⟨r, by simp, rfl⟩, ⟨r, by simp, rfl⟩, ⟨r, by simp, rfl⟩, by simp⟩
theorem hullS_self (r : R4) : hullS r r = r := by simp [hullS]
theorem hull_from : ∀ (l pre : List R4) (h : R4), IsHull pre h → IsHull (pre ++ l) (l.foldl hullS h)
  | [], pre, h, hh => by simpa using hh
  | r :: l, pre, h, hh => by
    have := hull_from l (pre ++ [r]) (hullS h r) hh.step
    simpa using this
theorem hullL_ok {l : List R4} (h : l ≠ []) : IsHull l (hullL l) := by
  cases l with
  | nil => exact absurd rfl h
  | cons r l =>
    show IsHull _ (l.foldl hullS (hullS r r))
    rw [hullS_self]
    exact hull_from l [r] r (IsHull.one r)
/-- Behind m rectangles; ahead of all, the first one. -/
def hullP (l : List R4) (m : Nat) : R4 := (l.take m).foldl hullS (l.headD ⟨0, 0, 0, 0⟩)
theorem hullP_step {l : List R4} {m : Nat} {r : R4} (h : l[m]? = some r) : hullP l (m + 1) = hullS (hullP l m) r := by
  obtain ⟨hm, hp⟩ := List.getElem?_eq_some_iff.1 h
  unfold hullP
  rw [List.take_succ_eq_append_getElem hm, hp, List.foldl_append]
  rfl
theorem hullP_all {l : List R4} {m : Nat} (hm : l.length ≤ m) : hullP l m = hullL l := by
  unfold hullP
  rw [List.take_of_length_le hm]
  cases l <;> rfl
def hullF (l : List R4) : R4 × Int := if checkF l = 0 then (if l = [] then (⟨0, 0, 0, 0⟩, 6) else (hullL l, 0)) else (⟨0, 0, 0, 0⟩, checkF l)
/-- The least and the greatest cut. -/
theorem srt_ends {l : List Int} {a b : Int} (ha : a ∈ l) (hb : b ∈ l) (h : ∀ x ∈ l, a ≤ x ∧ x ≤ b) : (srt l)[0]? = some a ∧ (srt l)[(srt l).length - 1]? = some b ∧ 0 < (srt l).length := by
  obtain ⟨h1, h2⟩ := srt_ok l
  have ha' := (h2 a).2 ha
  have hb' := (h2 b).2 hb
  have hm : ∀ x ∈ srt l, a ≤ x ∧ x ≤ b := fun x hx => h x ((h2 x).1 hx)
  generalize srt l = s at *
  have hl : 0 < s.length := List.length_pos_of_mem ha'
  have key : ∀ i (hi : i < s.length), (i = 0 → s[i] = a) ∧ (i = s.length - 1 → s[i] = b) := by
    intro i hi
    have hmi := hm s[i] (List.getElem_mem hi)
    obtain ⟨j, hj, ej⟩ := List.getElem_of_mem ha'
    obtain ⟨k, hk, ek⟩ := List.getElem_of_mem hb'
    constructor
    · intro h0
      rcases Nat.lt_trichotomy i j with g | g | g
      · have := List.pairwise_iff_getElem.1 h1 i j hi hj g; omega
      · subst g; exact ej
      · omega
    · intro h0
      rcases Nat.lt_trichotomy i k with g | g | g
      · omega
      · subst g; exact ek
      · have := List.pairwise_iff_getElem.1 h1 k i hk hi g; omega
  exact ⟨by rw [List.getElem?_eq_getElem hl, (key 0 hl).1 rfl], by rw [List.getElem?_eq_getElem (by omega), (key _ (by omega)).2 rfl], hl⟩
theorem hull_cuts {l : List R4} (hne : l ≠ []) (hw : ∀ r ∈ l, wf4 r) : ((srt (cutsL l ++ cutsL []))[0]? = some (hullL l).x0 ∧ (srt (cutsL l ++ cutsL []))[(srt (cutsL l ++ cutsL [])).length - 1]? = some (hullL l).x1 ∧ 0 < (srt (cutsL l ++ cutsL [])).length) ∧
    ((srt (cutsY l ++ cutsY []))[0]? = some (hullL l).y0 ∧ (srt (cutsY l ++ cutsY []))[(srt (cutsY l ++ cutsY [])).length - 1]? = some (hullL l).y1 ∧ 0 < (srt (cutsY l ++ cutsY [])).length) := by
  obtain ⟨⟨p0, q0, e0⟩, ⟨p1, q1, e1⟩, ⟨p2, q2, e2⟩, ⟨p3, q3, e3⟩, hb⟩ := hullL_ok hne
  have hx : cutsL l ++ cutsL [] = cutsL l := by simp [cutsL]
  have hy : cutsY l ++ cutsY [] = cutsY l := by simp [cutsY]
  rw [hx, hy]
  refine ⟨srt_ends (by rw [← e0]; exact (mem_cutsL q0).1) (by rw [← e2]; exact (mem_cutsL q2).2) fun x hx => ?_, srt_ends (by rw [← e1]; exact (mem_cutsY q1).1) (by rw [← e3]; exact (mem_cutsY q3).2) fun x hx => ?_⟩
  · obtain ⟨r, hr, hx⟩ := List.mem_flatMap.1 hx
    have h1 := hb r hr
    have h2 := hw r hr
    unfold wf4 at h2
    simp only [List.mem_cons, List.not_mem_nil, or_false] at hx
    rcases hx with rfl | rfl <;> omega
  · obtain ⟨r, hr, hx⟩ := List.mem_flatMap.1 hx
    have h1 := hb r hr
    have h2 := hw r hr
    unfold wf4 at h2
    simp only [List.mem_cons, List.not_mem_nil, or_false] at hx
    rcases hx with rfl | rfl <;> omega
theorem mv_in {x y : Int} {r : R4} (h : valid4 r) (hm : valid4 (mv x y r)) : inMv x ∧ inMv y := by
  obtain ⟨h1, h2, ⟨a, b⟩, ⟨c, d⟩, ⟨e, f⟩, ⟨g, i⟩⟩ := h
  obtain ⟨h1', h2', ⟨a', b'⟩, ⟨c', d'⟩, ⟨e', f'⟩, ⟨g', i'⟩⟩ := hm
  simp only [mv] at a' b' c' d' e' f' g' i'
  unfold inMv
  omega
theorem flip_make {l : List R4} (h : checkF l = 0) : makeF (l.map flip4) = flipF l := by
  obtain ⟨h1, h2, _⟩ := checkF_ok h
  have hf : flipF l = madeF (l.map flip4) := if_pos h
  rw [hf]
  unfold makeF
  rw [if_neg (by simp; omega)]
  have : (l.map flip4).any (fun r => !decide (valid4 r)) = false := by
    rw [List.any_eq_false]
    intro r hr
    obtain ⟨q, hq, rfl⟩ := List.mem_map.1 hr
    simp [flip_valid (h2 q hq)]
  rw [this]
  rfl
end Go.Proofs.Ytabogapiecciiaa

/- Plain law: what makes a list a region; joins of regions are regions; areas count points. -/
namespace Go.Proofs.Ytabogapiecciiaa
set_option linter.unusedVariables false
set_option linter.unusedSimpArgs false

theorem can_wf {l : List R4} (h : RCan l) : ∀ r ∈ l, wf4 r := by
  obtain ⟨S, hS, rfl⟩ := h
  intro r hr
  obtain ⟨a, ha, hr⟩ := List.mem_flatMap.1 hr
  obtain ⟨p, hp, rfl⟩ := List.mem_map.1 hr
  have := hS.all a ha
  exact ⟨this.1, this.2.2.1 p hp⟩
/-- A list whose points belong to valid rectangles has valid rectangles. -/
theorem sub_valid {l m : List R4} (hl : ∀ r ∈ l, wf4 r) (hm : ∀ r ∈ m, valid4 r) (h : ∀ x y, pmem l x y → pmem m x y) : ∀ r ∈ l, valid4 r := by
  intro r hr
  obtain ⟨w1, w2⟩ := hl r hr
  obtain ⟨s, hs, h1⟩ := h r.x0 r.y0 ⟨r, hr, by simp only [rin]; omega⟩
  obtain ⟨t, ht, h2⟩ := h (r.x1 - 1) (r.y1 - 1) ⟨r, hr, by simp only [rin]; omega⟩
  have v1 := hm s hs
  have v2 := hm t ht
  simp only [rin, valid4, fineP] at h1 h2 v1 v2 ⊢
  omega
theorem made_self {l : List R4} (hc : RCan l) : rjoin hFst l [] = l :=
  (rjoin_eq (h := hFst) rfl (can_wf hc) (by simp) hc fun x y => by simp [hFst]).symm
theorem can_check {l : List R4} (hc : RCan l) (hv : ∀ r ∈ l, valid4 r) (hn : l.length ≤ 400) : checkF l = 0 := by
  have ha : l.any (fun r => !decide (valid4 r)) = false := by
    rw [List.any_eq_false]
    intro r hr
    simp [hv r hr]
  rw [checkF_valid (by omega) ha, if_pos (made_self hc)]
theorem check_frame {l : List R4} (h : checkF l = 0) {m : Nat} (hm : 1000000 ≤ m) : ∀ r ∈ l, inFr m r := fun r hr => by
  have := (checkF_ok h).2.1 r hr
  simp only [valid4, fineP, inFr] at this ⊢
  omega
theorem join_pts {h : Bool → Bool → Bool} (h0 : h false false = false) {a b : List R4} (ha : checkF a = 0) (hb : checkF b = 0) (x y : Int) : pmem (rjoin h a b) x y ↔ h (decide (pmem a x y)) (decide (pmem b x y)) = true :=
  (rjoin_ok h0 (check_wf ha) (check_wf hb)).2 x y
theorem join_check {h : Bool → Bool → Bool} (h0 : h false false = false) {a b : List R4} (ha : checkF a = 0) (hb : checkF b = 0) (hn : (rjoin h a b).length ≤ 400) : checkF (rjoin h a b) = 0 := by
  have hc := (rjoin_ok h0 (check_wf ha) (check_wf hb)).1
  refine can_check hc (sub_valid (m := a ++ b) (can_wf hc) (fun r hr => ?_) fun x y hx => ?_) hn
  · rcases List.mem_append.1 hr with hr | hr
    · exact (checkF_ok ha).2.1 r hr
    · exact (checkF_ok hb).2.1 r hr
  · rw [join_pts h0 ha hb] at hx
    rw [pmem_append]
    by_cases p1 : pmem a x y
    · exact .inl p1
    · by_cases p2 : pmem b x y
      · exact .inr p2
      · rw [decide_eq_false p1, decide_eq_false p2, h0] at hx; cases hx
theorem joinF_ok {h : Bool → Bool → Bool} {a b : List R4} (ha : checkF a = 0) (hb : checkF b = 0) : joinF h a b = if 400 < (rjoin h a b).length then ([], 4) else (rjoin h a b, 0) := by
  have : bothF a b = 0 := by unfold bothF; rw [if_pos ha]; exact hb
  unfold joinF
  rw [if_pos this]
theorem can_eq {a b : List R4} (ha : checkF a = 0) (hb : checkF b = 0) (h : ∀ x y, pmem a x y ↔ pmem b x y) : a = b := (check_rcan ha).ext (check_rcan hb) h
theorem area_vol {l : List R4} (h : checkF l = 0) {m : Nat} (hm : 1000000 ≤ m) : areaS l = vol m (one l) := by
  have e : vol m (one l) = vol m (cntP l) := vol_congr fun x y _ _ _ _ => (cntP_ind (check_rcan h).apart x y).symm
  rw [e, vol_cntP (check_frame h hm)]
  unfold areaS
  congr 1
  refine List.map_congr_left fun r hr => ?_
  obtain ⟨w1, w2⟩ := check_wf h r hr
  unfold area4 box
  rw [Int.max_eq_right (by omega), Int.max_eq_right (by omega)]
/-- The areas of the union and of the common part. -/
theorem area_sum {a b u c : List R4} (ha : checkF a = 0) (hb : checkF b = 0) (hu : checkF u = 0) (hc : checkF c = 0) (pu : ∀ x y, pmem u x y ↔ pmem a x y ∨ pmem b x y) (pc : ∀ x y, pmem c x y ↔ pmem a x y ∧ pmem b x y) : areaS u + areaS c = areaS a + areaS b := by
  obtain ⟨m, hm⟩ : ∃ m : Nat, m = 1000000 := ⟨_, rfl⟩
  rw [area_vol ha (m := m) (by omega), area_vol hb (m := m) (by omega), area_vol hu (m := m) (by omega), area_vol hc (m := m) (by omega), ← vol_add, ← vol_add]
  refine vol_congr fun x y _ _ _ _ => ?_
  unfold one
  rw [ind_iff (pu x y), ind_iff (pc x y)]
  unfold ind
  by_cases h1 : pmem a x y <;> by_cases h2 : pmem b x y <;> simp [h1, h2]
end Go.Proofs.Ytabogapiecciiaa

/- Plain: how many points of a rectangle a canonical region has; the front of a rectangle; what is reached. -/
namespace Go.Proofs.Ytabogapiecciiaa
open Go.RowKit
set_option linter.unusedVariables false
set_option linter.unusedSimpArgs false

/-- The points next to a side. -/
def besF (r : R4) (i : Nat) : R4 := match i with
  | 0 => ⟨r.x0 - 1, r.y0, r.x0, r.y1⟩
  | 1 => ⟨r.x1, r.y0, r.x1 + 1, r.y1⟩
  | 2 => ⟨r.x0, r.y0 - 1, r.x1, r.y0⟩
  | _ => ⟨r.x0, r.y1, r.x1, r.y1 + 1⟩
def onQ (r q : R4) : Int := if 0 < min r.x1 q.x1 - max r.x0 q.x0 ∧ 0 < min r.y1 q.y1 - max r.y0 q.y0 then (min r.x1 q.x1 - max r.x0 q.x0) * (min r.y1 q.y1 - max r.y0 q.y0) else 0
def onF (r : R4) (s : List R4) : Int := (s.map (onQ r)).sum
def arQ (r : R4) : Int := (r.x1 - r.x0) * (r.y1 - r.y0)
def bitF (r : R4) (s : List R4) (i : Nat) : Bool := decide (onF (besF r i) s = arQ (besF r i))
def frF (r : R4) (s : List R4) : Int := (if bitF r s 0 = true then 1 else 0) + (if bitF r s 1 = true then 2 else 0) + (if bitF r s 2 = true then 4 else 0) + (if bitF r s 3 = true then 8 else 0)
theorem onQ_box (r q : R4) : onQ r q = box (meet4 r q) := by
  unfold onQ box meet4
  simp only
  by_cases h : 0 < min r.x1 q.x1 - max r.x0 q.x0 ∧ 0 < min r.y1 q.y1 - max r.y0 q.y0
  · rw [if_pos h, show max 0 (min r.x1 q.x1 - max r.x0 q.x0) = min r.x1 q.x1 - max r.x0 q.x0 by omega, show max 0 (min r.y1 q.y1 - max r.y0 q.y0) = min r.y1 q.y1 - max r.y0 q.y0 by omega]
  · rw [if_neg h]
    by_cases h1 : 0 < min r.x1 q.x1 - max r.x0 q.x0
    · rw [show max 0 (min r.y1 q.y1 - max r.y0 q.y0) = 0 by omega, Int.mul_zero]
    · rw [show max 0 (min r.x1 q.x1 - max r.x0 q.x0) = 0 by omega, Int.zero_mul]
theorem bes_wf {r : R4} (h : wf4 r) (i : Nat) : wf4 (besF r i) := by
  obtain ⟨h1, h2⟩ := h
  unfold besF wf4
  split <;> (simp only; omega)
theorem bes_fr {m : Nat} {r : R4} (h : inFr m r) (i : Nat) (hw : wf4 r) : inFr (m + 1) (besF r i) := by
  obtain ⟨h1, h2⟩ := hw
  unfold besF inFr at *
  split <;> (simp only; omega)
theorem onF_vol {m : Nat} {r : R4} {s : List R4} (hr : inFr m r) (hs : s.Pairwise apart4) : onF r s = vol m (fun x y => ind (rin r x y) * one s x y) := by
  have e : onF r s = (s.map fun q => box (meet4 r q)).sum := by
    unfold onF
    congr 1
    exact List.map_congr_left fun q _ => onQ_box r q
  rw [e, ← vol_rect_cnt hr]
  exact vol_congr fun x y _ _ _ _ => by rw [cntP_ind hs]; rfl
theorem arQ_box {r : R4} (h : wf4 r) : arQ r = box r := by
  unfold arQ box
  obtain ⟨h1, h2⟩ := h
  rw [Int.max_eq_right (by omega), Int.max_eq_right (by omega)]
theorem arQ_vol {m : Nat} {r : R4} (hr : inFr m r) (h : wf4 r) : arQ r = vol m (fun x y => ind (rin r x y)) := by
  obtain ⟨h1, h2, h3, h4⟩ := hr
  rw [arQ_box h, vol_rect h1 h2 h3 h4]
/-- What the reference counts. -/
theorem on_ref {m : Nat} {r : R4} {s : List R4} (hr : inFr m r) (hw : wf4 r) (hs : RCan s) (hf : ∀ q ∈ s, inFr m q) : ((rjoin hAnd [r] s).map arQ).sum = onF r s := by
  have h1 : ∀ q ∈ [r], wf4 q := fun q hq => by rw [List.mem_singleton] at hq; subst hq; exact hw
  obtain ⟨hc, hp⟩ := rjoin_ok (h := hAnd) rfl h1 (can_wf hs)
  have hin : ∀ q ∈ rjoin hAnd [r] s, inFr m q := fun q hq => by
    have hq' := can_wf hc q hq
    have a1 : pmem (rjoin hAnd [r] s) q.x0 q.y0 := ⟨q, hq, by unfold rin; unfold wf4 at hq'; omega⟩
    have a2 : pmem (rjoin hAnd [r] s) (q.x1 - 1) (q.y1 - 1) := ⟨q, hq, by unfold rin; unfold wf4 at hq'; omega⟩
    rw [hp] at a1 a2
    simp only [hAnd, Bool.and_eq_true, decide_eq_true_eq] at a1 a2
    obtain ⟨⟨p, hp1, hp2⟩, _⟩ := a1
    obtain ⟨⟨p', hp1', hp2'⟩, _⟩ := a2
    rw [List.mem_singleton] at hp1 hp1'
    subst hp1; subst hp1'
    unfold rin at hp2 hp2'
    unfold inFr at hr ⊢
    omega
  have e : ((rjoin hAnd [r] s).map arQ).sum = ((rjoin hAnd [r] s).map box).sum := by
    congr 1
    exact List.map_congr_left fun q hq => arQ_box (can_wf hc q hq)
  rw [e, ← vol_cntP hin, onF_vol hr hs.apart]
  refine vol_congr fun x y _ _ _ _ => ?_
  rw [cntP_ind hc.apart]
  unfold one
  rw [← ind_and]
  refine ind_iff ?_
  rw [hp]
  simp [hAnd, pmem]
  intro _
  exact decide_eq_true_iff
theorem sumZ_all {f : Int → Int} {lo : Int} : ∀ {n : Nat}, (∀ i, lo ≤ i → i < lo + n → 0 ≤ f i) → sumZ f lo n = 0 → ∀ i, lo ≤ i → i < lo + n → f i = 0
  | 0, _, _, i, a, b => by omega
  | n + 1, h, e, i, a, b => by
    have h0 := sumZ_nonneg (f := f) (lo := lo) (n := n) fun i a b => h i a (by omega)
    have h1 := h (lo + n) (by omega) (by omega)
    have e' : sumZ f lo n + f (lo + n) = 0 := e
    by_cases hi : i < lo + n
    · exact sumZ_all (fun i a b => h i a (by omega)) (by omega) i a hi
    · have : i = lo + n := by omega
      subst this
      omega
theorem vol_all {m : Nat} {f : Int → Int → Int} (h : ∀ x y, 0 ≤ f x y) (e : vol m f = 0) : ∀ x y, -(m : Int) ≤ x → x < m → -(m : Int) ≤ y → y < m → f x y = 0 := fun x y a b c d =>
  sumZ_all (fun j _ _ => h x j) (sumZ_all (fun i _ _ => sumZ_nonneg fun j _ _ => h i j) e x a (by omega)) y c (by omega)
/-- A rectangle is full exactly if the region has all its points. -/
theorem full_iff {m : Nat} {r : R4} {s : List R4} (hr : inFr m r) (hw : wf4 r) (hs : s.Pairwise apart4) : onF r s = arQ r ↔ ∀ x y, rin r x y → pmem s x y := by
  rw [onF_vol hr hs, arQ_vol hr hw]
  constructor
  · intro e x y hx
    have e' : vol m (fun x y => ind (rin r x y) - ind (rin r x y) * one s x y) = 0 := by rw [vol_sub, e]; omega
    have hz := vol_all (m := m) (fun x y => by
      rcases one_01 s x y with h | h <;> rcases ind_01 (rin r x y) with g | g <;> simp [h, g]) e' x y (by unfold inFr at hr; unfold rin at hx; omega) (by unfold inFr at hr; unfold rin at hx; omega) (by unfold inFr at hr; unfold rin at hx; omega) (by unfold inFr at hr; unfold rin at hx; omega)
    rw [ind_t hx] at hz
    by_cases hp : pmem s x y
    · exact hp
    · have : one s x y = 0 := ind_f hp
      rw [this] at hz
      omega
  · intro h
    refine vol_congr fun x y _ _ _ _ => ?_
    by_cases hx : rin r x y
    · have : one s x y = 1 := ind_t (h x y hx)
      rw [this, Int.mul_one]
    · rw [ind_f hx, Int.zero_mul]
theorem onQ_bd (r q : R4) (h1 : r.x1 - r.x0 ≤ 2000000) (h2 : r.y1 - r.y0 ≤ 2000000) : 0 ≤ onQ r q ∧ onQ r q ≤ 4000000000000 := by
  unfold onQ
  split
  · rename_i h
    obtain ⟨a, b⟩ := h
    refine ⟨Int.mul_nonneg (by omega) (by omega), ?_⟩
    have := Int.mul_le_mul (show min r.x1 q.x1 - max r.x0 q.x0 ≤ 2000000 by omega) (show min r.y1 q.y1 - max r.y0 q.y0 ≤ 2000000 by omega) (by omega) (by omega)
    omega
  · omega
theorem onF_bd {r : R4} (h1 : r.x1 - r.x0 ≤ 2000000) (h2 : r.y1 - r.y0 ≤ 2000000) : ∀ (s : List R4), 0 ≤ onF r s ∧ onF r s ≤ 4000000000000 * s.length
  | [] => by simp [onF]
  | q :: s => by
    have := onF_bd h1 h2 s
    have hq := onQ_bd r q h1 h2
    simp only [onF, List.map_cons, List.sum_cons, List.length_cons] at this ⊢
    omega
/-- What is reached: over the sides of a front. -/
def rchF (l : Lot5) (s : List R4) : Int := (if hasS l.f 1 = true then onF (besF l.r 0) s else 0) + (if hasS l.f 2 = true then onF (besF l.r 1) s else 0) + (if hasS l.f 4 = true then onF (besF l.r 2) s else 0) + (if hasS l.f 8 = true then onF (besF l.r 3) s else 0)
theorem bits4 : ∀ a b c d : Bool, let f : Int := (if a = true then 1 else 0) + (if b = true then 2 else 0) + (if c = true then 4 else 0) + (if d = true then 8 else 0)
    hasS f 1 = a ∧ hasS f 2 = b ∧ hasS f 4 = c ∧ hasS f 8 = d ∧ 0 ≤ f ∧ f ≤ 15 := by decide
theorem fr_has (r : R4) (s : List R4) : hasS (frF r s) 1 = bitF r s 0 ∧ hasS (frF r s) 2 = bitF r s 1 ∧ hasS (frF r s) 4 = bitF r s 2 ∧ hasS (frF r s) 8 = bitF r s 3 ∧ 0 ≤ frF r s ∧ frF r s ≤ 15 := bits4 _ _ _ _
theorem onF_take {r q : R4} {s : List R4} {m : Nat} (h : s[m]? = some q) : onF r (s.take (m + 1)) = onF r (s.take m) + onQ r q := by
  unfold onF
  rw [List.take_add_one, h, List.map_append, List.sum_append]
  simp
end Go.Proofs.Ytabogapiecciiaa

/- A list of rectangles that has just been written out is read as a list. -/
namespace Go.Proofs.Ytabogapiecciiaa
open Go.RowKit
set_option linter.unusedVariables false
set_option linter.unusedSimpArgs false

theorem rd_lit (w : World) (l : List R4) (t : TypeId) (c : Nat) : RdK encR 4 (w.alloc (.cells (l.flatMap encR).toArray t)) (w.alloc (.cells (l.flatMap encR).toArray t)).heap.size (.slice (some ⟨w.heap.size, 0, none⟩) l.length c) l := by
  refine ⟨_, c, rfl, fun _ => ⟨w.heap.size, 0, rfl, by simp, fun j x hx i u hu => ?_⟩⟩
  have := news_new w (l.flatMap encR) t w.heap.size rfl _ _ (flat_get (k := 4) (fun _ => rfl) l j x i u hx hu)
  rw [addr_add] at this
  rwa [Nat.zero_add]
theorem rd_lit_at {w : World} {B : Nat} (hB : w.heap.size = B) (l : List R4) (t : TypeId) (c : Nat) : RdK encR 4 (w.alloc (.cells (l.flatMap encR).toArray t)) (w.alloc (.cells (l.flatMap encR).toArray t)).heap.size (.slice (some ⟨B, 0, none⟩) l.length c) l := by
  subst hB
  exact rd_lit w l t c
end Go.Proofs.Ytabogapiecciiaa

/- The walks of parcel's small functions. -/
namespace Go.Proofs.Ytabogapiecciiaa
open Go.RowKit
set_option linter.unusedVariables false
set_option linter.unusedSimpArgs false

def encL (l : Lot5) : List Value := [.int .i64 l.r.x0, .int .i64 l.r.y0, .int .i64 l.r.x1, .int .i64 l.r.y1, .int .u8 l.f]
def encP (p : Pl3) : List Value := [.int .i64 p.mf, .int .i64 p.ms, .int .i64 p.ma]
set_option maxHeartbeats 1000000 in
theorem width_any (l : Lot5) (h : okR l.r) (w : World) : Calls Try.prog 71 #[.agg (encL l).toArray] w fun e w' => e = .returned (.int .i64 l.w) ∧ Below w.heap.size w w' := by
  obtain ⟨⟨x0, y0, x1, y1⟩, f⟩ := l
  simp only [okR, inR] at h
  obtain ⟨h1, h2, ⟨h3, h4⟩, ⟨h5, h6⟩, ⟨h7, h8⟩, ⟨h9, h10⟩⟩ := h
  show Calls Try.prog _ #[.agg #[.int .i64 x0, .int .i64 y0, .int .i64 x1, .int .i64 y1, .int .u8 f]] w fun e w' => e = .returned (.int .i64 (x1 - x0)) ∧ Below w.heap.size w w'
  go_enter Try.func71, Try.ntmps71
  go_wp2
  go_ret
  exact ⟨rfl, (Below.refl _ _).alloc (Nat.le_refl _) _⟩
set_option maxHeartbeats 1000000 in
theorem height_any (l : Lot5) (h : okR l.r) (w : World) : Calls Try.prog 72 #[.agg (encL l).toArray] w fun e w' => e = .returned (.int .i64 l.h) ∧ Below w.heap.size w w' := by
  obtain ⟨⟨x0, y0, x1, y1⟩, f⟩ := l
  simp only [okR, inR] at h
  obtain ⟨h1, h2, ⟨h3, h4⟩, ⟨h5, h6⟩, ⟨h7, h8⟩, ⟨h9, h10⟩⟩ := h
  show Calls Try.prog _ #[.agg #[.int .i64 x0, .int .i64 y0, .int .i64 x1, .int .i64 y1, .int .u8 f]] w fun e w' => e = .returned (.int .i64 (y1 - y0)) ∧ Below w.heap.size w w'
  go_enter Try.func72, Try.ntmps72
  go_wp2
  go_ret
  exact ⟨rfl, (Below.refl _ _).alloc (Nat.le_refl _) _⟩
theorem make_one (r : R4) : (makeF [r]).2 = if okR r then 0 else 8 := by
  by_cases h : okR r
  · rw [if_pos h]
    have hv : valid4 r := by simp only [okR, inR] at h; simp only [valid4, fineP]; exact h
    have hw : ∀ s ∈ [r], wf4 s := fun s hs => by rw [List.mem_singleton] at hs; subst hs; exact ⟨hv.1, hv.2.1⟩
    have hc : RCan [r] := ⟨[⟨r.x0, r.x1, [(r.y0, r.y1)]⟩], ⟨hv.1, by simp, by simp [SCan]; exact hv.2.1⟩, by simp [flat, flat1]⟩
    have e : rjoin hFst [r] [] = [r] := (rjoin_eq (h := hFst) rfl hw (by simp) hc fun x y => by simp [hFst]).symm
    unfold makeF madeF
    rw [e]
    simp [hv]
  · rw [if_neg h]
    have hv : ¬ valid4 r := fun g => h (by simp only [valid4, fineP] at g; simp only [okR, inR]; exact g)
    unfold makeF
    simp [hv]
set_option maxHeartbeats 2000000 in
theorem pvalid_any (l : Lot5) (hf : 0 ≤ l.f ∧ l.f ≤ 255) (w : World) : Calls Try.prog 49 #[.agg (encL l).toArray] w fun e w' => e = .returned (.bool (decide (validL l))) ∧ Below w.heap.size w w' := by
  obtain ⟨⟨x0, y0, x1, y1⟩, f⟩ := l
  obtain ⟨f1, f2⟩ := hf
  simp only at f1 f2
  have hm := fun (W : World) (v : Value) (r : RdK encR 4 W W.heap.size v [⟨x0, y0, x1, y1⟩]) => make_any r (by simp)
  have h2 := make_one ⟨x0, y0, x1, y1⟩
  generalize makeF [⟨x0, y0, x1, y1⟩] = M at *
  obtain ⟨M1, M2⟩ := M
  simp only at h2
  subst h2
  have HM := hide hm
  clear hm
  show Calls Try.prog _ #[.agg #[.int .i64 x0, .int .i64 y0, .int .i64 x1, .int .i64 y1, .int .u8 f]] w _
  by_cases hv : okR ⟨x0, y0, x1, y1⟩
  · rw [if_pos hv] at HM
    have HVL : Hid (∀ b : Bool, ((1 ≤ f ∧ f ≤ 15) ↔ b = true) → decide (validL ⟨⟨x0, y0, x1, y1⟩, f⟩) = b) := hide (fun b hb => by
      cases b with
      | true => exact decide_eq_true ⟨hv, (hb.2 rfl)⟩
      | false => exact decide_eq_false (fun h => Bool.false_ne_true (hb.1 h.2)))
    clear hv
    go_enter Try.func49, Try.ntmps49
    go_wp2_with (fail)
    obtain ⟨W, hW⟩ : ∃ x, x = (w.alloc (.cells #[.int .i64 x0, .int .i64 y0, .int .i64 x1, .int .i64 y1, .int .u8 f] 92)).alloc (.cells #[.int .i64 x0, .int .i64 y0, .int .i64 x1, .int .i64 y1] 23) := ⟨_, rfl⟩
    rw [← hW]
    have hb0 : Below w.heap.size w W := by rw [hW]; exact ((Below.refl _ _).alloc (Nat.le_refl _) _).alloc (by simp) _
    have hs0 : w.heap.size < W.heap.size := by rw [hW]; simp; omega
    have b4 : W.cell? ⟨w.heap.size, 4, none⟩ = some (.int .u8 f) := by rw [hW]; simp [go_sem]
    have hr : RdK encR 4 W W.heap.size (.slice (some ⟨w.heap.size + 1, 0, none⟩) 1 1) [⟨x0, y0, x1, y1⟩] := by
      rw [hW]
      exact rd_lit_at (by simp) [⟨x0, y0, x1, y1⟩] 23 1
    have HB0 := hide hb0
    have HS0 := hide hs0
    have HB4 := hide b4
    have HR := hide hr
    clear hW hb0 b4 hr hs0
    refine (HM.out _ _ HR.out).mono ?_
    rintro e w1 ⟨⟨A1, c1, rfl, _⟩, hb⟩
    have d4 := (hb.cell (p := ⟨w.heap.size, 4, none⟩) HS0.out).trans HB4.out
    have HB1 := hide (HB0.out.trans (hb.mono HB0.out.size))
    clear hb
    go_wp2_with (fail)
    all_goals
      go_ret
      refine ⟨ret_eq (bool_eq ?_), HB1.out⟩
      exact (HVL.out _ (by simp; omega)).symm
  · rw [if_neg hv] at HM
    have hnv : decide (validL ⟨⟨x0, y0, x1, y1⟩, f⟩) = false := decide_eq_false (fun h => hv h.1)
    have HNV := hide hnv
    clear hv hnv
    go_enter Try.func49, Try.ntmps49
    go_wp2_with (fail)
    obtain ⟨W, hW⟩ : ∃ x, x = (w.alloc (.cells #[.int .i64 x0, .int .i64 y0, .int .i64 x1, .int .i64 y1, .int .u8 f] 92)).alloc (.cells #[.int .i64 x0, .int .i64 y0, .int .i64 x1, .int .i64 y1] 23) := ⟨_, rfl⟩
    rw [← hW]
    have hb0 : Below w.heap.size w W := by rw [hW]; exact ((Below.refl _ _).alloc (Nat.le_refl _) _).alloc (by simp) _
    have hr : RdK encR 4 W W.heap.size (.slice (some ⟨w.heap.size + 1, 0, none⟩) 1 1) [⟨x0, y0, x1, y1⟩] := by
      rw [hW]
      exact rd_lit_at (by simp) [⟨x0, y0, x1, y1⟩] 23 1
    have HB0 := hide hb0
    have HR := hide hr
    clear hW hb0 hr
    refine (HM.out _ _ HR.out).mono ?_
    rintro e w1 ⟨⟨A1, c1, rfl, _⟩, hb⟩
    have HB1 := hide (HB0.out.trans (hb.mono HB0.out.size))
    clear hb
    go_wp2_with (fail)
    go_ret
    exact ⟨ret_eq (bool_eq HNV.out.symm), HB1.out⟩
end Go.Proofs.Ytabogapiecciiaa

/- The walk of parcel's longest side. -/
namespace Go.Proofs.Ytabogapiecciiaa
open Go.RowKit
set_option linter.unusedVariables false
set_option linter.unusedSimpArgs false

theorem bits_has : ∀ n ∈ List.range 16, ∀ s ∈ ([1, 2, 4, 8] : List Int), (bits .and .u8 (n : Int) s != 0) = hasS (n : Int) s := by decide
theorem bits_less : ∀ n ∈ List.range 16, ∀ s ∈ ([1, 2, 4, 8] : List Int), bits .andNot .u8 (n : Int) s = lessS (n : Int) s := by decide
theorem bit_has {f s : Int} (h : 0 ≤ f ∧ f ≤ 15) (hs : isSide s) : (bits .and .u8 f s != 0) = hasS f s := by
  obtain ⟨n, hn, rfl⟩ := f16 h
  exact bits_has n hn s (side_mem hs)
theorem bit_less {f s : Int} (h : 0 ≤ f ∧ f ≤ 15) (hs : isSide s) : bits .andNot .u8 f s = lessS f s := by
  obtain ⟨n, hn, rfl⟩ := f16 h
  exact bits_less n hn s (side_mem hs)
theorem grown_store {w wr w6 : World} {bo : Nat} (h : w.grownBy wr (some bo)) (hb : Below wr.heap.size wr w6) (v : Value) : w.grownBy (w6.setCell ⟨bo, 0, none⟩ v) (some bo) :=
  ⟨hb.os.trans h.os, hb.tape.trans h.tape, hb.output.trans h.output, by have := h.size; have := hb.size; simp [World.setCell]; omega, fun k hk hne => (Below.heap_setCell _ _ _ _ (fun e => hne (by rw [e]))).trans ((hb.block k (by have := h.size; omega)).trans (h.block k hk hne))⟩
/-- What stands in the closure's variable after so many sides. -/
def accS (h1 h2 : Bool) (n0 n : Int) : Nat → Int
  | 0 => n0
  | 1 => if h1 = true then max n0 n else n0
  | _ => if h2 = true then max (if h1 = true then max n0 n else n0) n else (if h1 = true then max n0 n else n0)
set_option maxRecDepth 100000 in
set_option maxHeartbeats 8000000 in
theorem side_any {w : World} {F bs bl bo : Nat} {s1 s2 n n0 f : Int} {c : Nat} {x0 y0 x1 y1 : Int} (h1 h2 : Bool) (hF : F = 71 ∨ F = 72)
    (hcall : ∀ W : World, Calls Try.prog F #[.agg #[.int .i64 x0, .int .i64 y0, .int .i64 x1, .int .i64 y1, .int .u8 f]] W fun e w' => e = .returned (.int .i64 n) ∧ Below W.heap.size W w')
    (b0 : w.cell? ⟨bl, 0, none⟩ = some (.int .i64 x0)) (b1 : w.cell? ⟨bl, 1, none⟩ = some (.int .i64 y0)) (b2 : w.cell? ⟨bl, 2, none⟩ = some (.int .i64 x1)) (b3 : w.cell? ⟨bl, 3, none⟩ = some (.int .i64 y1)) (b4 : w.cell? ⟨bl, 4, none⟩ = some (.int .u8 f))
    (c1 : w.cell? ⟨bs, 0, none⟩ = some (.int .u8 s1)) (c2 : w.cell? ⟨bs, 1, none⟩ = some (.int .u8 s2)) (o0 : w.cell? ⟨bo, 0, none⟩ = some (.int .i64 n0)) (o1 : w.frozen? ⟨bo, 0, none⟩ = false) (hbl : bl ≠ bo) (hbs : bs ≠ bo)
    (t1 : (bits .and .u8 f s1 != 0) = h1) (t2 : (bits .and .u8 f s2 != 0) = h2) :
    Calls Try.prog 102 #[.func (.func F) #[] #[], .slice (some ⟨bs, 0, none⟩) 2 c, .pointer (some ⟨bl, 0, none⟩), .pointer (some ⟨bo, 0, none⟩)] w fun e w' => e = .returned (.tuple #[]) ∧ w.grownBy w' (some bo) ∧ w'.cell? ⟨bo, 0, none⟩ = some (.int .i64 (accS h1 h2 n0 n 2)) ∧ w'.frozen? ⟨bo, 0, none⟩ = false := by
  have hlo := lt_of_cell o0
  have HC := hide hcall
  have HLO := hide hlo
  have HN1 := hide hbl
  have HN2 := hide hbs
  have B0 := hide b0
  have B1 := hide b1
  have B2 := hide b2
  have B3 := hide b3
  have B4 := hide b4
  have C1 := hide c1
  have C2 := hide c2
  have O0 := hide o0
  have O1 := hide o1
  have T1 := hide t1
  have T2 := hide t2
  clear hcall hlo hbl hbs b0 b1 b2 b3 b4 c1 c2 o0 o1 t1 t2
  rcases hF with rfl | rfl
  all_goals
    go_enter Try.func102, Try.ntmps102
    go_wp2
    go_loopw [10] (fun i wr => ∃ m : Nat, m ≤ 2 ∧ i = .int .i64 m ∧ Hid (w.grownBy wr (some bo)) ∧ Hid (wr.cell? ⟨bo, 0, none⟩ = some (.int .i64 (accS h1 h2 n0 n m))) ∧ Hid (wr.frozen? ⟨bo, 0, none⟩ = false)) (fun i _ => 2 - (intOf i).toNat)
    case atStart => exact ⟨0, by omega, rfl, hide ⟨rfl, rfl, rfl, Nat.le_refl _, fun _ _ _ => rfl⟩, O0, O1⟩
    case round =>
      obtain ⟨m, hm, rfl, HB, HO, HZ⟩ := hrel
      have k0 := HB.out.cell B0.out (fun e => HN1.out (by injection e))
      have k1 := HB.out.cell B1.out (fun e => HN1.out (by injection e))
      have k2 := HB.out.cell B2.out (fun e => HN1.out (by injection e))
      have k3 := HB.out.cell B3.out (fun e => HN1.out (by injection e))
      have k4 := HB.out.cell B4.out (fun e => HN1.out (by injection e))
      have j1 := HB.out.cell C1.out (fun e => HN2.out (by injection e))
      have j2 := HB.out.cell C2.out (fun e => HN2.out (by injection e))
      have hbow : bo < wr.heap.size := by have := HB.out.size; have := HLO.out; omega
      have hblw := lt_of_cell k0
      have hm3 : m = 0 ∨ m = 1 ∨ m = 2 := by omega
      rcases hm3 with rfl | rfl | rfl
      · have hacc : accS h1 h2 n0 n 1 = if h1 = true then max (accS h1 h2 n0 n 0) n else accS h1 h2 n0 n 0 := rfl
        have HACC := hide hacc
        clear hacc
        generalize accS h1 h2 n0 n 0 = q at *
        have u1 := T1.out
        have zz : ((0 : Nat) : Int) = 0 := rfl
        have o0 := HO.out
        have o1 := HZ.out
        clear j2
        cases h1 with
        | false =>
          have HO2 := hide (show wr.cell? ⟨bo, 0, none⟩ = some (.int .i64 (accS false h2 n0 n 1)) by rw [HACC.out]; exact HO.out)
          go_wp2
          go_roundw
          case rel => exact ⟨1, by omega, by go_num, HB, HO2, HZ⟩
          case measure => simp [intOf]
        | true =>
          go_wp2
          refine wp_region_mix [0, 1, 2] [3, 4, 5] (fun w' => (w'.cell? ⟨bo, 0, none⟩ = some (.int .i64 q) ∧ w'.frozen? ⟨bo, 0, none⟩ = false) ∧ (w'.cell? ⟨bl, 0, none⟩ = some (.int .i64 x0) ∧ w'.cell? ⟨bl, 1, none⟩ = some (.int .i64 y0) ∧ w'.cell? ⟨bl, 2, none⟩ = some (.int .i64 x1) ∧ w'.cell? ⟨bl, 3, none⟩ = some (.int .i64 y1) ∧ w'.cell? ⟨bl, 4, none⟩ = some (.int .u8 f))) (by kernel_rfl) (by kernel_rfl) ⟨⟨o0, o1⟩, k0, k1, k2, k3, k4⟩ ?_
          simp only [List.map_cons, List.map_nil, opAt, List.getElem?_cons_succ, List.getElem?_cons_zero, Option.getD_some]
          iterate 3
            refine ⟨?_, Or.inl ⟨by rfl, ?_⟩, ?_⟩
            rotate_left 1
            · intro w' hSw
              obtain ⟨⟨z0, z1⟩, z2, z3, z4, z5, z6⟩ := hSw
              go_simp
              first | done | with_reducible rfl
            simp only [Act.put, List.setIfInBounds_toArray, List.set_cons_zero, List.set_cons_succ]
          simp only [wpReads]
          intro K hK
          simp only [Act.put, List.setIfInBounds_toArray, List.set_cons_zero, List.set_cons_succ] at hK ⊢
          go_simp
          refine (HC.out _).mono ?_
          rintro e w6 ⟨rfl, hb'⟩
          have hb : Below wr.heap.size wr w6 := (Below.refl _ _).drew.trans hb'
          have p0 := (hb.cell (p := ⟨bl, 0, none⟩) hblw).trans k0
          have p1 := (hb.cell (p := ⟨bl, 1, none⟩) hblw).trans k1
          have p2 := (hb.cell (p := ⟨bl, 2, none⟩) hblw).trans k2
          have p3 := (hb.cell (p := ⟨bl, 3, none⟩) hblw).trans k3
          have p4 := (hb.cell (p := ⟨bl, 4, none⟩) hblw).trans k4
          have q0 := (hb.cell (p := ⟨bo, 0, none⟩) hbow).trans o0
          have q1 := (hb.frozen (p := ⟨bo, 0, none⟩) hbow).trans o1
          have HB6 := hide hb
          have hs6 := hb.size
          clear hb hb' k0 k1 k2 k3 k4 o0 o1
          refine hK _ _ (fun _ => ⟨⟨q0, q1⟩, p0, p1, p2, p3, p4⟩) ?_
          clear hK K
          intro K hK
          simp only [Act.put, List.setIfInBounds_toArray, List.set_cons_zero, List.set_cons_succ] at hK ⊢
          go_simp
          refine hK _ _ (fun _ => ⟨⟨q0, q1⟩, p0, p1, p2, p3, p4⟩) ?_
          clear hK K
          intro K hK
          simp only [Act.put, List.setIfInBounds_toArray, List.set_cons_zero, List.set_cons_succ] at hK ⊢
          go_simp
          refine hK _ _ (fun h => absurd rfl h) ?_
          clear hK K
          refine NoPanic.normal ?_
          have HB7 := hide (grown_store HB.out HB6.out (.int .i64 (max q n)))
          have HO7 := hide (show (w6.setCell ⟨bo, 0, none⟩ (.int .i64 (max q n))).cell? ⟨bo, 0, none⟩ = some (.int .i64 (accS true h2 n0 n 1)) by rw [HACC.out]; simp [go_sem, q0])
          have HZ7 := hide (show (w6.setCell ⟨bo, 0, none⟩ (.int .i64 (max q n))).frozen? ⟨bo, 0, none⟩ = false by rw [World.frozen?_setCell]; exact q1)
          clear p0 p1 p2 p3 p4 q0 q1
          go_wp2
          go_roundw
          case rel => exact ⟨1, by omega, by go_num, HB7, HO7, HZ7⟩
          case measure => simp [intOf]
      · have hacc : accS h1 h2 n0 n 2 = if h2 = true then max (accS h1 h2 n0 n 1) n else accS h1 h2 n0 n 1 := rfl
        have HACC := hide hacc
        clear hacc
        generalize accS h1 h2 n0 n 1 = q at *
        have u1 := T2.out
        have zz : ((1 : Nat) : Int) = 1 := rfl
        have o0 := HO.out
        have o1 := HZ.out
        clear j1
        cases h2 with
        | false =>
          have HO2 := hide (show wr.cell? ⟨bo, 0, none⟩ = some (.int .i64 (accS h1 false n0 n 2)) by rw [HACC.out]; exact HO.out)
          go_wp2
          go_roundw
          case rel => exact ⟨2, by omega, by go_num, HB, HO2, HZ⟩
          case measure => simp [intOf]
        | true =>
          go_wp2
          refine wp_region_mix [0, 1, 2] [3, 4, 5] (fun w' => (w'.cell? ⟨bo, 0, none⟩ = some (.int .i64 q) ∧ w'.frozen? ⟨bo, 0, none⟩ = false) ∧ (w'.cell? ⟨bl, 0, none⟩ = some (.int .i64 x0) ∧ w'.cell? ⟨bl, 1, none⟩ = some (.int .i64 y0) ∧ w'.cell? ⟨bl, 2, none⟩ = some (.int .i64 x1) ∧ w'.cell? ⟨bl, 3, none⟩ = some (.int .i64 y1) ∧ w'.cell? ⟨bl, 4, none⟩ = some (.int .u8 f))) (by kernel_rfl) (by kernel_rfl) ⟨⟨o0, o1⟩, k0, k1, k2, k3, k4⟩ ?_
          simp only [List.map_cons, List.map_nil, opAt, List.getElem?_cons_succ, List.getElem?_cons_zero, Option.getD_some]
          iterate 3
            refine ⟨?_, Or.inl ⟨by rfl, ?_⟩, ?_⟩
            rotate_left 1
            · intro w' hSw
              obtain ⟨⟨z0, z1⟩, z2, z3, z4, z5, z6⟩ := hSw
              go_simp
              first | done | with_reducible rfl
            simp only [Act.put, List.setIfInBounds_toArray, List.set_cons_zero, List.set_cons_succ]
          simp only [wpReads]
          intro K hK
          simp only [Act.put, List.setIfInBounds_toArray, List.set_cons_zero, List.set_cons_succ] at hK ⊢
          go_simp
          refine (HC.out _).mono ?_
          rintro e w6 ⟨rfl, hb'⟩
          have hb : Below wr.heap.size wr w6 := (Below.refl _ _).drew.trans hb'
          have p0 := (hb.cell (p := ⟨bl, 0, none⟩) hblw).trans k0
          have p1 := (hb.cell (p := ⟨bl, 1, none⟩) hblw).trans k1
          have p2 := (hb.cell (p := ⟨bl, 2, none⟩) hblw).trans k2
          have p3 := (hb.cell (p := ⟨bl, 3, none⟩) hblw).trans k3
          have p4 := (hb.cell (p := ⟨bl, 4, none⟩) hblw).trans k4
          have q0 := (hb.cell (p := ⟨bo, 0, none⟩) hbow).trans o0
          have q1 := (hb.frozen (p := ⟨bo, 0, none⟩) hbow).trans o1
          have HB6 := hide hb
          have hs6 := hb.size
          clear hb hb' k0 k1 k2 k3 k4 o0 o1
          refine hK _ _ (fun _ => ⟨⟨q0, q1⟩, p0, p1, p2, p3, p4⟩) ?_
          clear hK K
          intro K hK
          simp only [Act.put, List.setIfInBounds_toArray, List.set_cons_zero, List.set_cons_succ] at hK ⊢
          go_simp
          refine hK _ _ (fun _ => ⟨⟨q0, q1⟩, p0, p1, p2, p3, p4⟩) ?_
          clear hK K
          intro K hK
          simp only [Act.put, List.setIfInBounds_toArray, List.set_cons_zero, List.set_cons_succ] at hK ⊢
          go_simp
          refine hK _ _ (fun h => absurd rfl h) ?_
          clear hK K
          refine NoPanic.normal ?_
          have HB7 := hide (grown_store HB.out HB6.out (.int .i64 (max q n)))
          have HO7 := hide (show (w6.setCell ⟨bo, 0, none⟩ (.int .i64 (max q n))).cell? ⟨bo, 0, none⟩ = some (.int .i64 (accS h1 true n0 n 2)) by rw [HACC.out]; simp [go_sem, q0])
          have HZ7 := hide (show (w6.setCell ⟨bo, 0, none⟩ (.int .i64 (max q n))).frozen? ⟨bo, 0, none⟩ = false by rw [World.frozen?_setCell]; exact q1)
          clear p0 p1 p2 p3 p4 q0 q1
          go_wp2
          go_roundw
          case rel => exact ⟨2, by omega, by go_num, HB7, HO7, HZ7⟩
          case measure => simp [intOf]
      · have zz : ((2 : Nat) : Int) = 2 := rfl
        go_wp2
        go_end0
        exact ⟨rfl, HB.out, HO.out, HZ.out⟩
theorem acc_side (h1 h2 : Bool) (n0 n : Int) (h0 : 0 ≤ n0) (hn : 0 ≤ n) : accS h1 h2 n0 n 2 = max n0 (if h1 = true ∨ h2 = true then n else 0) := by
  unfold accS
  cases h1 <;> cases h2 <;> simp <;> omega
theorem acc_long {l : Lot5} (h : validL l) : accS (hasS l.f 4) (hasS l.f 8) (accS (hasS l.f 1) (hasS l.f 2) 0 l.h 2) l.w 2 = longL l := by
  have hp := valid_pos h
  have e1 := acc_side (hasS l.f 1) (hasS l.f 2) 0 l.h (by omega) (by omega)
  have h0 : 0 ≤ (if hasS l.f 1 = true ∨ hasS l.f 2 = true then l.h else 0) := by split <;> omega
  rw [acc_side (hasS l.f 4) (hasS l.f 8) _ l.w (by rw [e1]; omega) (by omega), e1]
  unfold longL
  omega
set_option maxRecDepth 100000 in
set_option maxHeartbeats 4000000 in
theorem longest_any (l : Lot5) (h : validL l) (w : World) : Calls Try.prog 86 #[.agg (encL l).toArray] w fun e w' => e = .returned (.int .i64 (longL l)) ∧ Below w.heap.size w w' := by
  have HHE := hide (fun W => height_any l h.1 W)
  have HWI := hide (fun W => width_any l h.1 W)
  have hf : 0 ≤ l.f ∧ l.f ≤ 15 := by have := h.2; omega
  have T1 := hide (bit_has hf (s := 1) (.inl rfl))
  have T2 := hide (bit_has hf (s := 2) (.inr (.inl rfl)))
  have T4 := hide (bit_has hf (s := 4) (.inr (.inr (.inl rfl))))
  have T8 := hide (bit_has hf (s := 8) (.inr (.inr (.inr rfl))))
  have HL := hide (acc_long h)
  clear h hf
  generalize longL l = L at *
  generalize l.h = hh at *
  generalize l.w = ww at *
  obtain ⟨⟨x0, y0, x1, y1⟩, f⟩ := l
  show Calls Try.prog _ #[.agg #[.int .i64 x0, .int .i64 y0, .int .i64 x1, .int .i64 y1, .int .u8 f]] w _
  go_enter Try.func86, Try.ntmps86
  go_wp2_with (fail)
  obtain ⟨W, hW⟩ : ∃ x, x = ((w.alloc (.cells #[.int .i64 x0, .int .i64 y0, .int .i64 x1, .int .i64 y1, .int .u8 f] 92)).alloc (.cells #[.int .i64 0] 3)).alloc (.cells #[.int .u8 1, .int .u8 2] 5) := ⟨_, rfl⟩
  rw [← hW]
  have hb0 : Below w.heap.size w W := by rw [hW]; exact (((Below.refl _ _).alloc (Nat.le_refl _) _).alloc (by simp) _).alloc (by simp; omega) _
  have hs0 : w.heap.size + 1 + 1 < W.heap.size := by rw [hW]; simp
  have b0 : W.cell? ⟨w.heap.size, 0, none⟩ = some (.int .i64 x0) := by rw [hW]; simp [go_sem]
  have b1 : W.cell? ⟨w.heap.size, 1, none⟩ = some (.int .i64 y0) := by rw [hW]; simp [go_sem]
  have b2 : W.cell? ⟨w.heap.size, 2, none⟩ = some (.int .i64 x1) := by rw [hW]; simp [go_sem]
  have b3 : W.cell? ⟨w.heap.size, 3, none⟩ = some (.int .i64 y1) := by rw [hW]; simp [go_sem]
  have b4 : W.cell? ⟨w.heap.size, 4, none⟩ = some (.int .u8 f) := by rw [hW]; simp [go_sem]
  have o0 : W.cell? ⟨w.heap.size + 1, 0, none⟩ = some (.int .i64 0) := by rw [hW]; simp [go_sem]
  have o1 : W.frozen? ⟨w.heap.size + 1, 0, none⟩ = false := by rw [hW]; simp [go_sem]
  have c1 : W.cell? ⟨w.heap.size + 1 + 1, 0, none⟩ = some (.int .u8 1) := by rw [hW]; simp [go_sem]
  have c2 : W.cell? ⟨w.heap.size + 1 + 1, 1, none⟩ = some (.int .u8 2) := by rw [hW]; simp [go_sem]
  have hcall := side_any (w := W) (F := 72) (bs := w.heap.size + 1 + 1) (bl := w.heap.size) (bo := w.heap.size + 1) (c := 2) _ _ (.inr rfl) HHE.out b0 b1 b2 b3 b4 c1 c2 o0 o1 (by omega) (by omega) T1.out T2.out
  have HCA := hide hcall
  have B0 := hide b0
  have B1 := hide b1
  have B2 := hide b2
  have B3 := hide b3
  have B4 := hide b4
  have K0 := hide hb0
  have HS := hide hs0
  clear hW hcall b0 b1 b2 b3 b4 c1 c2 o0 o1 hb0 hs0
  refine HCA.out.mono ?_
  rintro e w2 ⟨rfl, hg, ho, hz⟩
  have HG := hide hg
  have HO := hide ho
  have HZ := hide hz
  clear hg ho hz
  go_wp2_with (fail)
  obtain ⟨W2, hW2⟩ : ∃ x, x = w2.alloc (.cells #[.int .u8 4, .int .u8 8] 5) := ⟨_, rfl⟩
  rw [← hW2]
  have hs2 := HG.out.size
  have hs1 := HS.out
  have hk : ∀ p : Addr, p.block < w2.heap.size → W2.cell? p = w2.cell? p := fun p hp => by rw [hW2]; exact World.cell?_alloc_lt w2 _ p hp
  have ne0 : some w.heap.size ≠ some (w.heap.size + 1) := fun e => by injection e with e; omega
  have b0 := (hk ⟨w.heap.size, 0, none⟩ (by show w.heap.size < _; omega)).trans (HG.out.cell B0.out ne0)
  have b1 := (hk ⟨w.heap.size, 1, none⟩ (by show w.heap.size < _; omega)).trans (HG.out.cell B1.out ne0)
  have b2 := (hk ⟨w.heap.size, 2, none⟩ (by show w.heap.size < _; omega)).trans (HG.out.cell B2.out ne0)
  have b3 := (hk ⟨w.heap.size, 3, none⟩ (by show w.heap.size < _; omega)).trans (HG.out.cell B3.out ne0)
  have b4 := (hk ⟨w.heap.size, 4, none⟩ (by show w.heap.size < _; omega)).trans (HG.out.cell B4.out ne0)
  have o0 := (hk ⟨w.heap.size + 1, 0, none⟩ (by show w.heap.size + 1 < _; omega)).trans HO.out
  have o1 : W2.frozen? ⟨w.heap.size + 1, 0, none⟩ = false := by rw [hW2]; exact (((Below.refl w2.heap.size w2).alloc (Nat.le_refl _) _).frozen (p := ⟨w.heap.size + 1, 0, none⟩) (by show w.heap.size + 1 < _; omega)).trans HZ.out
  have c1 : W2.cell? ⟨w2.heap.size, 0, none⟩ = some (.int .u8 4) := by rw [hW2]; simp [go_sem]
  have c2 : W2.cell? ⟨w2.heap.size, 1, none⟩ = some (.int .u8 8) := by rw [hW2]; simp [go_sem]
  have hcall := side_any (w := W2) (F := 71) (bs := w2.heap.size) (bl := w.heap.size) (bo := w.heap.size + 1) (c := 2) _ _ (.inl rfl) HWI.out b0 b1 b2 b3 b4 c1 c2 o0 o1 (by omega) (by omega) T4.out T8.out
  have HCB := hide hcall
  have K2 : Hid (Below w.heap.size w W2) := hide (by
    rw [hW2]
    exact (K0.out.grown HG.out (by omega) (fun q hq => by injection hq with hq; omega)).alloc (by omega) _)
  have hsW : w2.heap.size < W2.heap.size := by rw [hW2]; simp
  have HSW := hide hsW
  clear hW2 hcall hk ne0 b0 b1 b2 b3 b4 c1 c2 o0 o1 hsW
  refine HCB.out.mono ?_
  rintro e w3 ⟨rfl, hg, ho, hz⟩
  rw [HL.out] at ho
  have K3 : Hid (Below w.heap.size w w3) := hide (K2.out.grown hg (by have := HSW.out; omega) (fun q hq => by injection hq with hq; omega))
  clear hg hz hs1 hs2
  go_wp2_with (fail)
  go_ret
  exact ⟨rfl, K3.out⟩
end Go.Proofs.Ytabogapiecciiaa

/- The walks of parcel.good, Check, Good and Front. -/
namespace Go.Proofs.Ytabogapiecciiaa
open Go.RowKit
set_option linter.unusedVariables false
set_option linter.unusedSimpArgs false

set_option maxRecDepth 100000 in
set_option maxHeartbeats 4000000 in
theorem good_any (l : Lot5) (p : Pl3) (hf : 0 ≤ l.f ∧ l.f ≤ 255) (w : World) : Calls Try.prog 73 #[.agg (encL l).toArray, .agg (encP p).toArray] w fun e w' => e = .returned (.bool (decide (goodL p l))) ∧ Below w.heap.size w w' := by
  have hpv := fun W => pvalid_any l hf W
  by_cases hv : validL l
  · rw [decide_eq_true hv] at hpv
    have HPV := hide hpv
    have HLO := hide (fun W => longest_any l hv W)
    have HHE := hide (fun W => height_any l hv.1 W)
    have HWI := hide (fun W => width_any l hv.1 W)
    have HG : Hid (∀ b : Bool, ((p.mf ≤ longL l ∧ p.ms ≤ min l.w l.h) ↔ b = true) → decide (goodL p l) = b) := hide (fun b hb => by
      have e : goodL p l ↔ b = true := by
        rw [← hb]
        unfold goodL
        constructor
        · rintro ⟨_, h1, h2, h3⟩; exact ⟨h1, by omega⟩
        · rintro ⟨h1, h2⟩; exact ⟨hv, h1, by omega, by omega⟩
      cases b with
      | true => exact decide_eq_true (e.2 rfl)
      | false => exact decide_eq_false (fun h => Bool.false_ne_true (e.1 h)))
    generalize longL l = L at *
    generalize l.h = hh at *
    generalize l.w = ww at *
    generalize decide (goodL p l) = G at *
    clear hpv hv hf
    obtain ⟨⟨x0, y0, x1, y1⟩, f⟩ := l
    obtain ⟨mf, ms, ma⟩ := p
    show Calls Try.prog _ #[.agg #[.int .i64 x0, .int .i64 y0, .int .i64 x1, .int .i64 y1, .int .u8 f], .agg #[.int .i64 mf, .int .i64 ms, .int .i64 ma]] w _
    simp only [encL] at HPV HLO HHE HWI
    simp only at HG
    by_cases h1 : mf ≤ L
    · have d1 : decide (mf ≤ L) = true := decide_eq_true h1
      by_cases h2 : ms ≤ min ww hh
      · have d2 : decide (ms ≤ min ww hh) = true := decide_eq_true h2
        have HGG := hide (HG.out true ⟨fun _ => rfl, fun _ => ⟨h1, h2⟩⟩)
        clear HG h1 h2
        go_enter Try.func73, Try.ntmps73
        go_wp2
        refine wp_hab fun hab => ?_
        refine wp_region_above (by kernel_rfl) (by kernel_rfl) ?_
        repeat (go_big_quiet_step (((first | (go_at_call 49; exact above_of (HPV.out _)) | (go_at_call 86; exact above_of (HLO.out _)) | (go_at_call 71; exact above_of (HWI.out _)) | (go_at_call 72; exact above_of (HHE.out _))))))
        refine wpQuiet_nil ?_
        refine above_ends fun w3 hb3 => ?_
        clear hab
        have HB := hide ((((Below.refl w.heap.size w).alloc (Nat.le_refl _) (.cells #[.int .i64 x0, .int .i64 y0, .int .i64 x1, .int .i64 y1, .int .u8 f] 92)).alloc (by simp) (.cells #[.int .i64 mf, .int .i64 ms, .int .i64 ma] 50)).trans (hb3.mono (by simp; omega)))
        clear hb3
        go_wp2_with (fail)
        go_ret
        exact ⟨ret_eq (bool_eq HGG.out.symm), HB.out⟩
      · have d2 : decide (ms ≤ min ww hh) = false := decide_eq_false h2
        have HGG := hide (HG.out false ⟨fun h => absurd h.2 h2, fun h => by cases h⟩)
        clear HG h1 h2
        go_enter Try.func73, Try.ntmps73
        go_wp2
        refine wp_hab fun hab => ?_
        refine wp_region_above (by kernel_rfl) (by kernel_rfl) ?_
        repeat (go_big_quiet_step (((first | (go_at_call 49; exact above_of (HPV.out _)) | (go_at_call 86; exact above_of (HLO.out _)) | (go_at_call 71; exact above_of (HWI.out _)) | (go_at_call 72; exact above_of (HHE.out _))))))
        refine wpQuiet_nil ?_
        refine above_ends fun w3 hb3 => ?_
        clear hab
        have HB := hide ((((Below.refl w.heap.size w).alloc (Nat.le_refl _) (.cells #[.int .i64 x0, .int .i64 y0, .int .i64 x1, .int .i64 y1, .int .u8 f] 92)).alloc (by simp) (.cells #[.int .i64 mf, .int .i64 ms, .int .i64 ma] 50)).trans (hb3.mono (by simp; omega)))
        clear hb3
        go_wp2_with (fail)
        go_ret
        exact ⟨ret_eq (bool_eq HGG.out.symm), HB.out⟩
    · have d1 : decide (mf ≤ L) = false := decide_eq_false h1
      have HGG := hide (HG.out false ⟨fun h => absurd h.1 h1, fun h => by cases h⟩)
      clear HG h1
      go_enter Try.func73, Try.ntmps73
      go_wp2
      refine wp_hab fun hab => ?_
      refine wp_region_above (by kernel_rfl) (by kernel_rfl) ?_
      repeat (go_big_quiet_step (((first | (go_at_call 49; exact above_of (HPV.out _)) | (go_at_call 86; exact above_of (HLO.out _)) | (go_at_call 71; exact above_of (HWI.out _)) | (go_at_call 72; exact above_of (HHE.out _))))))
      refine wpQuiet_nil ?_
      refine above_ends fun w3 hb3 => ?_
      clear hab
      have HB := hide ((((Below.refl w.heap.size w).alloc (Nat.le_refl _) (.cells #[.int .i64 x0, .int .i64 y0, .int .i64 x1, .int .i64 y1, .int .u8 f] 92)).alloc (by simp) (.cells #[.int .i64 mf, .int .i64 ms, .int .i64 ma] 50)).trans (hb3.mono (by simp; omega)))
      clear hb3
      go_wp2_with (fail)
      go_ret
      exact ⟨ret_eq (bool_eq HGG.out.symm), HB.out⟩
  · rw [decide_eq_false hv] at hpv
    have HPV := hide hpv
    have HGG := hide (decide_eq_false (fun h => hv h.1) : decide (goodL p l) = false)
    generalize decide (goodL p l) = G at *
    clear hpv hv hf
    obtain ⟨⟨x0, y0, x1, y1⟩, f⟩ := l
    obtain ⟨mf, ms, ma⟩ := p
    show Calls Try.prog _ #[.agg #[.int .i64 x0, .int .i64 y0, .int .i64 x1, .int .i64 y1, .int .u8 f], .agg #[.int .i64 mf, .int .i64 ms, .int .i64 ma]] w _
    simp only [encL] at HPV
    go_enter Try.func73, Try.ntmps73
    go_wp2
    refine wp_hab fun hab => ?_
    refine wp_region_above (by kernel_rfl) (by kernel_rfl) ?_
    repeat (go_big_quiet_step (((go_at_call 49; exact above_of (HPV.out _)))))
    refine wpQuiet_nil ?_
    refine above_ends fun w3 hb3 => ?_
    clear hab
    have HB := hide ((((Below.refl w.heap.size w).alloc (Nat.le_refl _) (.cells #[.int .i64 x0, .int .i64 y0, .int .i64 x1, .int .i64 y1, .int .u8 f] 92)).alloc (by simp) (.cells #[.int .i64 mf, .int .i64 ms, .int .i64 ma] 50)).trans (hb3.mono (by simp; omega)))
    clear hb3
    go_wp2_with (fail)
    go_ret
    exact ⟨ret_eq (bool_eq HGG.out.symm), HB.out⟩

def okP (p : Pl3) : Prop := 1 ≤ p.mf ∧ p.mf ≤ 1000000 ∧ 1 ≤ p.ms ∧ p.ms ≤ 1000000 ∧ 1 ≤ p.ma ∧ p.ma ≤ 1000000000000
instance (p : Pl3) : Decidable (okP p) := by unfold okP; infer_instance
def checkL (l : Lot5) (p : Pl3) : Int := if validL l then (if okP p then 0 else 2) else 8
set_option maxRecDepth 100000 in
set_option maxHeartbeats 4000000 in
theorem checkL_any (l : Lot5) (p : Pl3) (hf : 0 ≤ l.f ∧ l.f ≤ 255) (w : World) : Calls Try.prog 29 #[.agg (encL l).toArray, .agg (encP p).toArray] w fun e w' => e = .returned (.int .i64 (checkL l p)) ∧ Below w.heap.size w w' := by
  have hpv := fun W => pvalid_any l hf W
  by_cases hv : validL l
  · rw [decide_eq_true hv] at hpv
    have HPV := hide hpv
    have HC : Hid (∀ b : Int, ((okP p → b = 0) ∧ (¬ okP p → b = 2)) → checkL l p = b) := hide (fun b hb => by
      unfold checkL
      rw [if_pos hv]
      by_cases h : okP p
      · rw [if_pos h, hb.1 h]
      · rw [if_neg h, hb.2 h])
    generalize checkL l p = C at *
    clear hpv hv hf
    obtain ⟨⟨x0, y0, x1, y1⟩, f⟩ := l
    obtain ⟨mf, ms, ma⟩ := p
    show Calls Try.prog _ #[.agg #[.int .i64 x0, .int .i64 y0, .int .i64 x1, .int .i64 y1, .int .u8 f], .agg #[.int .i64 mf, .int .i64 ms, .int .i64 ma]] w _
    simp only [encL] at HPV
    simp only [okP] at HC
    go_enter Try.func29, Try.ntmps29
    go_wp2_with (fail)
    obtain ⟨W, hW⟩ : ∃ x, x = (w.alloc (.cells #[.int .i64 x0, .int .i64 y0, .int .i64 x1, .int .i64 y1, .int .u8 f] 25)).alloc (.cells #[.int .i64 mf, .int .i64 ms, .int .i64 ma] 50) := ⟨_, rfl⟩
    rw [← hW]
    have hb0 : Below w.heap.size w W := by rw [hW]; exact ((Below.refl _ _).alloc (Nat.le_refl _) _).alloc (by simp) _
    have hs0 : w.heap.size + 1 < W.heap.size := by rw [hW]; simp
    have b0 : W.cell? ⟨w.heap.size + 1, 0, none⟩ = some (.int .i64 mf) := by rw [hW]; simp [go_sem]
    have b1 : W.cell? ⟨w.heap.size + 1, 1, none⟩ = some (.int .i64 ms) := by rw [hW]; simp [go_sem]
    have b2 : W.cell? ⟨w.heap.size + 1, 2, none⟩ = some (.int .i64 ma) := by rw [hW]; simp [go_sem]
    have HS := hide hs0
    have B0 := hide b0
    have B1 := hide b1
    have B2 := hide b2
    have K0 := hide hb0
    clear hW hb0 hs0 b0 b1 b2
    refine (HPV.out _).mono ?_
    rintro e w1 ⟨rfl, hb⟩
    have d0 := (hb.cell (p := ⟨w.heap.size + 1, 0, none⟩) HS.out).trans B0.out
    have d1 := (hb.cell (p := ⟨w.heap.size + 1, 1, none⟩) HS.out).trans B1.out
    have d2 := (hb.cell (p := ⟨w.heap.size + 1, 2, none⟩) HS.out).trans B2.out
    have K1 := hide (K0.out.trans (hb.mono K0.out.size))
    clear hb
    go_wp2_with (fail)
    all_goals
      go_ret
      refine ⟨ret_eq (int_eq (HC.out _ ?_).symm), K1.out⟩
      first
        | exact ⟨fun _ => rfl, fun h => absurd (by omega) h⟩
        | exact ⟨fun h => absurd h (by omega), fun _ => rfl⟩
  · rw [decide_eq_false hv] at hpv
    have HPV := hide hpv
    have hc8 : checkL l p = 8 := if_neg hv
    have HC := hide hc8
    clear hc8
    generalize checkL l p = C at *
    clear hpv hv hf
    obtain ⟨⟨x0, y0, x1, y1⟩, f⟩ := l
    obtain ⟨mf, ms, ma⟩ := p
    show Calls Try.prog _ #[.agg #[.int .i64 x0, .int .i64 y0, .int .i64 x1, .int .i64 y1, .int .u8 f], .agg #[.int .i64 mf, .int .i64 ms, .int .i64 ma]] w _
    simp only [encL] at HPV
    go_enter Try.func29, Try.ntmps29
    go_wp2_with (fail)
    refine (HPV.out _).mono ?_
    rintro e w1 ⟨rfl, hb⟩
    have K1 := hide ((((Below.refl w.heap.size w).alloc (Nat.le_refl _) (.cells #[.int .i64 x0, .int .i64 y0, .int .i64 x1, .int .i64 y1, .int .u8 f] 25)).alloc (by simp) (.cells #[.int .i64 mf, .int .i64 ms, .int .i64 ma] 50)).trans (hb.mono (by simp; omega)))
    clear hb
    go_wp2_with (fail)
    go_ret
    exact ⟨ret_eq (int_eq HC.out.symm), K1.out⟩
end Go.Proofs.Ytabogapiecciiaa

/- The walks of parcel.Good and Front. -/
namespace Go.Proofs.Ytabogapiecciiaa
open Go.RowKit
set_option linter.unusedVariables false
set_option linter.unusedSimpArgs false

def goodR (l : Lot5) (p : Pl3) : Bool × Int := if checkL l p = 0 then (decide (goodL p l), 0) else (false, checkL l p)
def frontR (l : Lot5) : Int × Int := if validL l then (longL l, 0) else (0, 8)
end Go.Proofs.Ytabogapiecciiaa

/- The walk of the closure of parcel.cut. -/
namespace Go.Proofs.Ytabogapiecciiaa
open Go.RowKit
set_option linter.unusedVariables false
set_option linter.unusedSimpArgs false

theorem exit_name {Q : Exit → Act → World → Prop} {e : Exit} {a : Act} {W : World} (h : ∀ w, w = W → Q e a w) : Q e a W := h W rfl
theorem calls_name {P : Program} {F : Nat} {A : Array Value} {W : World} {Q : Ending → World → Prop} (h : ∀ w, w = W → Calls P F A w Q) : Calls P F A W Q := h W rfl
theorem upd_drew {o : Nat} {row : Option Nat} {a b : World} (h : Upd o row a b) : Upd o row a b.drew := ⟨h.os, h.tape, h.output, h.size, h.block⟩
/-- A box of five cells, and none of them frozen. -/
structure Box5 (w : World) (b : Nat) (v0 v1 v2 v3 v4 : Value) : Prop where
  c0 : w.cell? ⟨b, 0, none⟩ = some v0
  c1 : w.cell? ⟨b, 1, none⟩ = some v1
  c2 : w.cell? ⟨b, 2, none⟩ = some v2
  c3 : w.cell? ⟨b, 3, none⟩ = some v3
  c4 : w.cell? ⟨b, 4, none⟩ = some v4
  z0 : w.frozen? ⟨b, 0, none⟩ = false
  z1 : w.frozen? ⟨b, 1, none⟩ = false
  z2 : w.frozen? ⟨b, 2, none⟩ = false
  z3 : w.frozen? ⟨b, 3, none⟩ = false
  z4 : w.frozen? ⟨b, 4, none⟩ = false
theorem Box5.below {w w' : World} {b : Nat} {v0 v1 v2 v3 v4 : Value} (h : Box5 w b v0 v1 v2 v3 v4) (hb : Below w.heap.size w w') : Box5 w' b v0 v1 v2 v3 v4 := by
  have hs := lt_of_cell h.c0
  exact ⟨(hb.cell (p := ⟨b, 0, none⟩) hs).trans h.c0, (hb.cell (p := ⟨b, 1, none⟩) hs).trans h.c1, (hb.cell (p := ⟨b, 2, none⟩) hs).trans h.c2, (hb.cell (p := ⟨b, 3, none⟩) hs).trans h.c3, (hb.cell (p := ⟨b, 4, none⟩) hs).trans h.c4, (hb.frozen (p := ⟨b, 0, none⟩) hs).trans h.z0, (hb.frozen (p := ⟨b, 1, none⟩) hs).trans h.z1, (hb.frozen (p := ⟨b, 2, none⟩) hs).trans h.z2, (hb.frozen (p := ⟨b, 3, none⟩) hs).trans h.z3, (hb.frozen (p := ⟨b, 4, none⟩) hs).trans h.z4⟩
set_option maxRecDepth 100000 in
set_option maxHeartbeats 4000000 in
theorem try_true {w : World} {bl ba bb bw bh bp : Nat} {x0 y0 x1 y1 f mf ms ma wd hg m fa fb : Int} {g1 g2 : Bool} {A0 A1 A2 A3 A4 B0 B1 B2 B3 B4 : Value}
    (l0 : w.cell? ⟨bl, 0, none⟩ = some (.int .i64 x0)) (l1 : w.cell? ⟨bl, 1, none⟩ = some (.int .i64 y0)) (l2 : w.cell? ⟨bl, 2, none⟩ = some (.int .i64 x1)) (l3 : w.cell? ⟨bl, 3, none⟩ = some (.int .i64 y1)) (l4 : w.cell? ⟨bl, 4, none⟩ = some (.int .u8 f))
    (p0 : w.cell? ⟨bp, 0, none⟩ = some (.int .i64 mf)) (p1 : w.cell? ⟨bp, 1, none⟩ = some (.int .i64 ms)) (p2 : w.cell? ⟨bp, 2, none⟩ = some (.int .i64 ma))
    (w0 : w.cell? ⟨bw, 0, none⟩ = some (.int .i64 wd)) (h0 : w.cell? ⟨bh, 0, none⟩ = some (.int .i64 hg))
    (ha : Box5 w ba A0 A1 A2 A3 A4) (hb : Box5 w bb B0 B1 B2 B3 B4)
    (d1 : bl ≠ ba) (d2 : bl ≠ bb) (d3 : ba ≠ bb) (d4 : bw ≠ ba) (d5 : bw ≠ bb) (d6 : bh ≠ ba) (d7 : bh ≠ bb) (d8 : bp ≠ ba) (d9 : bp ≠ bb)
    (hm : wrap64 (x0 + wrap64 (wd.tdiv 2)) = m) (hfa : bits .andNot .u8 f 2 = fa) (hfb : bits .andNot .u8 f 1 = fb)
    (hg1 : ∀ W : World, Calls Try.prog 73 #[.agg #[.int .i64 x0, .int .i64 y0, .int .i64 m, .int .i64 y1, .int .u8 fa], .agg #[.int .i64 mf, .int .i64 ms, .int .i64 ma]] W fun e w' => e = .returned (.bool g1) ∧ Below W.heap.size W w')
    (hg2 : ∀ W : World, Calls Try.prog 73 #[.agg #[.int .i64 m, .int .i64 y0, .int .i64 x1, .int .i64 y1, .int .u8 fb], .agg #[.int .i64 mf, .int .i64 ms, .int .i64 ma]] W fun e w' => e = .returned (.bool g2) ∧ Below W.heap.size W w') :
    Calls Try.prog 74 #[.bool true, .pointer (some ⟨bl, 0, none⟩), .pointer (some ⟨ba, 0, none⟩), .pointer (some ⟨bb, 0, none⟩), .pointer (some ⟨bw, 0, none⟩), .pointer (some ⟨bh, 0, none⟩), .pointer (some ⟨bp, 0, none⟩)] w fun e w' => e = .returned (.bool (g1 && g2)) ∧ Upd ba (some bb) w w' ∧ Box5 w' ba (.int .i64 x0) (.int .i64 y0) (.int .i64 m) (.int .i64 y1) (.int .u8 fa) ∧ Box5 w' bb (.int .i64 m) (.int .i64 y0) (.int .i64 x1) (.int .i64 y1) (.int .u8 fb) := by
  obtain ⟨a0, a1, a2, a3, a4, af0, af1, af2, af3, af4⟩ := ha
  obtain ⟨b0, b1, b2, b3, b4, bf0, bf1, bf2, bf3, bf4⟩ := hb
  have HG1 := hide hg1
  have HG2 := hide hg2
  have HM := hide hm
  have HFA := hide hfa
  have HFB := hide hfb
  clear hg1 hg2 hm hfa hfb
  go_enter Try.func74, Try.ntmps74
  go_wp2
  go_region
  refine exit_name fun W hW => ?_
  have U1 : Upd ba (some bb) w W := by
    rw [hW]
    exact upd_drew (Upd.refl ba (some bb) w |>.setCell 0 _ |>.setCell 1 _ |>.setCell 2 _ |>.setCell 3 _ |>.setCell 4 _ |>.setRow 0 _ |>.setRow 1 _ |>.setRow 2 _ |>.setRow 3 _ |>.setRow 4 _)
  have A0 : W.cell? ⟨ba, 0, none⟩ = some (.int .i64 x0) := by rw [hW]; simp [go_sem, d1, d2, d3, d1.symm, d2.symm, d3.symm, d8, d9, d8.symm, d9.symm, a0, a1, a2, a3, a4]
  have A1 : W.cell? ⟨ba, 1, none⟩ = some (.int .i64 y0) := by rw [hW]; simp [go_sem, d1, d2, d3, d1.symm, d2.symm, d3.symm, d8, d9, d8.symm, d9.symm, a0, a1, a2, a3, a4]
  have A2 : W.cell? ⟨ba, 2, none⟩ = some (.int .i64 x1) := by rw [hW]; simp [go_sem, d1, d2, d3, d1.symm, d2.symm, d3.symm, d8, d9, d8.symm, d9.symm, a0, a1, a2, a3, a4]
  have A3 : W.cell? ⟨ba, 3, none⟩ = some (.int .i64 y1) := by rw [hW]; simp [go_sem, d1, d2, d3, d1.symm, d2.symm, d3.symm, d8, d9, d8.symm, d9.symm, a0, a1, a2, a3, a4]
  have A4 : W.cell? ⟨ba, 4, none⟩ = some (.int .u8 f) := by rw [hW]; simp [go_sem, d1, d2, d3, d1.symm, d2.symm, d3.symm, d8, d9, d8.symm, d9.symm, a0, a1, a2, a3, a4]
  have B0 : W.cell? ⟨bb, 0, none⟩ = some (.int .i64 x0) := by rw [hW]; simp [go_sem, d1, d2, d3, d1.symm, d2.symm, d3.symm, d8, d9, d8.symm, d9.symm, b0, b1, b2, b3, b4]
  have B1 : W.cell? ⟨bb, 1, none⟩ = some (.int .i64 y0) := by rw [hW]; simp [go_sem, d1, d2, d3, d1.symm, d2.symm, d3.symm, d8, d9, d8.symm, d9.symm, b0, b1, b2, b3, b4]
  have B2 : W.cell? ⟨bb, 2, none⟩ = some (.int .i64 x1) := by rw [hW]; simp [go_sem, d1, d2, d3, d1.symm, d2.symm, d3.symm, d8, d9, d8.symm, d9.symm, b0, b1, b2, b3, b4]
  have B3 : W.cell? ⟨bb, 3, none⟩ = some (.int .i64 y1) := by rw [hW]; simp [go_sem, d1, d2, d3, d1.symm, d2.symm, d3.symm, d8, d9, d8.symm, d9.symm, b0, b1, b2, b3, b4]
  have B4 : W.cell? ⟨bb, 4, none⟩ = some (.int .u8 f) := by rw [hW]; simp [go_sem, d1, d2, d3, d1.symm, d2.symm, d3.symm, d8, d9, d8.symm, d9.symm, b0, b1, b2, b3, b4]
  have AF0 : W.frozen? ⟨ba, 0, none⟩ = false := by rw [hW]; simp [go_sem, af0]
  have AF1 : W.frozen? ⟨ba, 1, none⟩ = false := by rw [hW]; simp [go_sem, af1]
  have AF2 : W.frozen? ⟨ba, 2, none⟩ = false := by rw [hW]; simp [go_sem, af2]
  have AF3 : W.frozen? ⟨ba, 3, none⟩ = false := by rw [hW]; simp [go_sem, af3]
  have AF4 : W.frozen? ⟨ba, 4, none⟩ = false := by rw [hW]; simp [go_sem, af4]
  have BF0 : W.frozen? ⟨bb, 0, none⟩ = false := by rw [hW]; simp [go_sem, bf0]
  have BF1 : W.frozen? ⟨bb, 1, none⟩ = false := by rw [hW]; simp [go_sem, bf1]
  have BF2 : W.frozen? ⟨bb, 2, none⟩ = false := by rw [hW]; simp [go_sem, bf2]
  have BF3 : W.frozen? ⟨bb, 3, none⟩ = false := by rw [hW]; simp [go_sem, bf3]
  have BF4 : W.frozen? ⟨bb, 4, none⟩ = false := by rw [hW]; simp [go_sem, bf4]
  have L0 := (U1.cell (off := 0) (lt_of_cell l0) d1 (fun e => d2 (by injection e with e; exact e.symm))).trans l0
  have L1 := (U1.cell (off := 1) (lt_of_cell l1) d1 (fun e => d2 (by injection e with e; exact e.symm))).trans l1
  have L2 := (U1.cell (off := 2) (lt_of_cell l2) d1 (fun e => d2 (by injection e with e; exact e.symm))).trans l2
  have L3 := (U1.cell (off := 3) (lt_of_cell l3) d1 (fun e => d2 (by injection e with e; exact e.symm))).trans l3
  have L4 := (U1.cell (off := 4) (lt_of_cell l4) d1 (fun e => d2 (by injection e with e; exact e.symm))).trans l4
  have P0 := (U1.cell (off := 0) (lt_of_cell p0) d8 (fun e => d9 (by injection e with e; exact e.symm))).trans p0
  have P1 := (U1.cell (off := 1) (lt_of_cell p1) d8 (fun e => d9 (by injection e with e; exact e.symm))).trans p1
  have P2 := (U1.cell (off := 2) (lt_of_cell p2) d8 (fun e => d9 (by injection e with e; exact e.symm))).trans p2
  have W0 := (U1.cell (off := 0) (lt_of_cell w0) d4 (fun e => d5 (by injection e with e; exact e.symm))).trans w0
  have H0 := (U1.cell (off := 0) (lt_of_cell h0) d6 (fun e => d7 (by injection e with e; exact e.symm))).trans h0
  have HW1 := hide U1
  clear U1 hW a0 a1 a2 a3 a4 b0 b1 b2 b3 b4 l0 l1 l2 l3 l4 p0 p1 p2 w0 h0 af0 af1 af2 af3 af4 bf0 bf1 bf2 bf3 bf4
  go_wp2_with (fail)
  simp only [HM.out, HFA.out, HFB.out]
  refine calls_name fun V hV => ?_
  have U2 : Upd ba (some bb) w V := by
    rw [hV]
    exact HW1.out |>.setCell _ _ |>.setRow _ _ |>.setCell _ _ |>.setRow _ _
  have HA : Box5 V ba (.int .i64 x0) (.int .i64 y0) (.int .i64 m) (.int .i64 y1) (.int .u8 fa) := by
    rw [hV]
    refine ⟨?_, ?_, ?_, ?_, ?_, ?_, ?_, ?_, ?_, ?_⟩ <;> simp [go_sem, d1, d2, d3, d1.symm, d2.symm, d3.symm, d8, d9, d8.symm, d9.symm, A0, A1, A2, A3, A4, AF0, AF1, AF2, AF3, AF4]
  have HB : Box5 V bb (.int .i64 m) (.int .i64 y0) (.int .i64 x1) (.int .i64 y1) (.int .u8 fb) := by
    rw [hV]
    refine ⟨?_, ?_, ?_, ?_, ?_, ?_, ?_, ?_, ?_, ?_⟩ <;> simp [go_sem, d1, d2, d3, d1.symm, d2.symm, d3.symm, d8, d9, d8.symm, d9.symm, B0, B1, B2, B3, B4, BF0, BF1, BF2, BF3, BF4]
  have p0 : V.cell? ⟨bp, 0, none⟩ = some (.int .i64 mf) := by rw [hV]; simp [go_sem, d1, d2, d3, d1.symm, d2.symm, d3.symm, d8, d9, d8.symm, d9.symm, P0]
  have p1 : V.cell? ⟨bp, 1, none⟩ = some (.int .i64 ms) := by rw [hV]; simp [go_sem, d1, d2, d3, d1.symm, d2.symm, d3.symm, d8, d9, d8.symm, d9.symm, P1]
  have p2 : V.cell? ⟨bp, 2, none⟩ = some (.int .i64 ma) := by rw [hV]; simp [go_sem, d1, d2, d3, d1.symm, d2.symm, d3.symm, d8, d9, d8.symm, d9.symm, P2]
  have HU := hide U2
  have hs0 := lt_of_cell p0
  have HS := hide hs0
  clear hV U2 A0 A1 A2 A3 A4 B0 B1 B2 B3 B4 L0 L1 L2 L3 L4 P0 P1 P2 W0 H0 AF0 AF1 AF2 AF3 AF4 BF0 BF1 BF2 BF3 BF4 hs0
  refine (HG1.out _).mono ?_
  rintro e w1 ⟨rfl, hb⟩
  have K1 := hide (HU.out.trans (Upd.of_below hb))
  have HA1 := HA.below hb
  have HB1 := HB.below hb
  have q0 := (hb.cell (p := ⟨bp, 0, none⟩) HS.out).trans p0
  have q1 := (hb.cell (p := ⟨bp, 1, none⟩) HS.out).trans p1
  have q2 := (hb.cell (p := ⟨bp, 2, none⟩) HS.out).trans p2
  clear hb p0 p1 p2 HA HB
  cases g1 with
  | false =>
    go_wp2_with (fail)
    go_ret
    exact ⟨rfl, K1.out, HA1, HB1⟩
  | true =>
    obtain ⟨b0, b1, b2, b3, b4, bf0, bf1, bf2, bf3, bf4⟩ := id HB1
    have HB2 := hide HB1
    have HA2 := hide HA1
    clear HA1 HB1 bf0 bf1 bf2 bf3 bf4
    go_wp2_with (fail)
    refine (HG2.out _).mono ?_
    rintro e w2 ⟨rfl, hb⟩
    have K2 := hide (K1.out.trans (Upd.of_below hb))
    have HA3 := hide (HA2.out.below hb)
    have HB3 := hide (HB2.out.below hb)
    clear hb b0 b1 b2 b3 b4 q0 q1 q2
    go_wp2_with (fail)
    go_ret
    exact ⟨rfl, K2.out, HA3.out, HB3.out⟩
set_option maxRecDepth 100000 in
set_option maxHeartbeats 4000000 in
theorem try_false {w : World} {bl ba bb bw bh bp : Nat} {x0 y0 x1 y1 f mf ms ma wd hg m fa fb : Int} {g1 g2 : Bool} {A0 A1 A2 A3 A4 B0 B1 B2 B3 B4 : Value}
    (l0 : w.cell? ⟨bl, 0, none⟩ = some (.int .i64 x0)) (l1 : w.cell? ⟨bl, 1, none⟩ = some (.int .i64 y0)) (l2 : w.cell? ⟨bl, 2, none⟩ = some (.int .i64 x1)) (l3 : w.cell? ⟨bl, 3, none⟩ = some (.int .i64 y1)) (l4 : w.cell? ⟨bl, 4, none⟩ = some (.int .u8 f))
    (p0 : w.cell? ⟨bp, 0, none⟩ = some (.int .i64 mf)) (p1 : w.cell? ⟨bp, 1, none⟩ = some (.int .i64 ms)) (p2 : w.cell? ⟨bp, 2, none⟩ = some (.int .i64 ma))
    (w0 : w.cell? ⟨bw, 0, none⟩ = some (.int .i64 wd)) (h0 : w.cell? ⟨bh, 0, none⟩ = some (.int .i64 hg))
    (ha : Box5 w ba A0 A1 A2 A3 A4) (hb : Box5 w bb B0 B1 B2 B3 B4)
    (d1 : bl ≠ ba) (d2 : bl ≠ bb) (d3 : ba ≠ bb) (d4 : bw ≠ ba) (d5 : bw ≠ bb) (d6 : bh ≠ ba) (d7 : bh ≠ bb) (d8 : bp ≠ ba) (d9 : bp ≠ bb)
    (hm : wrap64 (y0 + wrap64 (hg.tdiv 2)) = m) (hfa : bits .andNot .u8 f 8 = fa) (hfb : bits .andNot .u8 f 4 = fb)
    (hg1 : ∀ W : World, Calls Try.prog 73 #[.agg #[.int .i64 x0, .int .i64 y0, .int .i64 x1, .int .i64 m, .int .u8 fa], .agg #[.int .i64 mf, .int .i64 ms, .int .i64 ma]] W fun e w' => e = .returned (.bool g1) ∧ Below W.heap.size W w')
    (hg2 : ∀ W : World, Calls Try.prog 73 #[.agg #[.int .i64 x0, .int .i64 m, .int .i64 x1, .int .i64 y1, .int .u8 fb], .agg #[.int .i64 mf, .int .i64 ms, .int .i64 ma]] W fun e w' => e = .returned (.bool g2) ∧ Below W.heap.size W w') :
    Calls Try.prog 74 #[.bool false, .pointer (some ⟨bl, 0, none⟩), .pointer (some ⟨ba, 0, none⟩), .pointer (some ⟨bb, 0, none⟩), .pointer (some ⟨bw, 0, none⟩), .pointer (some ⟨bh, 0, none⟩), .pointer (some ⟨bp, 0, none⟩)] w fun e w' => e = .returned (.bool (g1 && g2)) ∧ Upd ba (some bb) w w' ∧ Box5 w' ba (.int .i64 x0) (.int .i64 y0) (.int .i64 x1) (.int .i64 m) (.int .u8 fa) ∧ Box5 w' bb (.int .i64 x0) (.int .i64 m) (.int .i64 x1) (.int .i64 y1) (.int .u8 fb) := by
  obtain ⟨a0, a1, a2, a3, a4, af0, af1, af2, af3, af4⟩ := ha
  obtain ⟨b0, b1, b2, b3, b4, bf0, bf1, bf2, bf3, bf4⟩ := hb
  have HG1 := hide hg1
  have HG2 := hide hg2
  have HM := hide hm
  have HFA := hide hfa
  have HFB := hide hfb
  clear hg1 hg2 hm hfa hfb
  go_enter Try.func74, Try.ntmps74
  go_wp2
  go_region
  refine exit_name fun W hW => ?_
  have U1 : Upd ba (some bb) w W := by
    rw [hW]
    exact upd_drew (Upd.refl ba (some bb) w |>.setCell 0 _ |>.setCell 1 _ |>.setCell 2 _ |>.setCell 3 _ |>.setCell 4 _ |>.setRow 0 _ |>.setRow 1 _ |>.setRow 2 _ |>.setRow 3 _ |>.setRow 4 _)
  have A0 : W.cell? ⟨ba, 0, none⟩ = some (.int .i64 x0) := by rw [hW]; simp [go_sem, d1, d2, d3, d1.symm, d2.symm, d3.symm, d8, d9, d8.symm, d9.symm, a0, a1, a2, a3, a4]
  have A1 : W.cell? ⟨ba, 1, none⟩ = some (.int .i64 y0) := by rw [hW]; simp [go_sem, d1, d2, d3, d1.symm, d2.symm, d3.symm, d8, d9, d8.symm, d9.symm, a0, a1, a2, a3, a4]
  have A2 : W.cell? ⟨ba, 2, none⟩ = some (.int .i64 x1) := by rw [hW]; simp [go_sem, d1, d2, d3, d1.symm, d2.symm, d3.symm, d8, d9, d8.symm, d9.symm, a0, a1, a2, a3, a4]
  have A3 : W.cell? ⟨ba, 3, none⟩ = some (.int .i64 y1) := by rw [hW]; simp [go_sem, d1, d2, d3, d1.symm, d2.symm, d3.symm, d8, d9, d8.symm, d9.symm, a0, a1, a2, a3, a4]
  have A4 : W.cell? ⟨ba, 4, none⟩ = some (.int .u8 f) := by rw [hW]; simp [go_sem, d1, d2, d3, d1.symm, d2.symm, d3.symm, d8, d9, d8.symm, d9.symm, a0, a1, a2, a3, a4]
  have B0 : W.cell? ⟨bb, 0, none⟩ = some (.int .i64 x0) := by rw [hW]; simp [go_sem, d1, d2, d3, d1.symm, d2.symm, d3.symm, d8, d9, d8.symm, d9.symm, b0, b1, b2, b3, b4]
  have B1 : W.cell? ⟨bb, 1, none⟩ = some (.int .i64 y0) := by rw [hW]; simp [go_sem, d1, d2, d3, d1.symm, d2.symm, d3.symm, d8, d9, d8.symm, d9.symm, b0, b1, b2, b3, b4]
  have B2 : W.cell? ⟨bb, 2, none⟩ = some (.int .i64 x1) := by rw [hW]; simp [go_sem, d1, d2, d3, d1.symm, d2.symm, d3.symm, d8, d9, d8.symm, d9.symm, b0, b1, b2, b3, b4]
  have B3 : W.cell? ⟨bb, 3, none⟩ = some (.int .i64 y1) := by rw [hW]; simp [go_sem, d1, d2, d3, d1.symm, d2.symm, d3.symm, d8, d9, d8.symm, d9.symm, b0, b1, b2, b3, b4]
  have B4 : W.cell? ⟨bb, 4, none⟩ = some (.int .u8 f) := by rw [hW]; simp [go_sem, d1, d2, d3, d1.symm, d2.symm, d3.symm, d8, d9, d8.symm, d9.symm, b0, b1, b2, b3, b4]
  have AF0 : W.frozen? ⟨ba, 0, none⟩ = false := by rw [hW]; simp [go_sem, af0]
  have AF1 : W.frozen? ⟨ba, 1, none⟩ = false := by rw [hW]; simp [go_sem, af1]
  have AF2 : W.frozen? ⟨ba, 2, none⟩ = false := by rw [hW]; simp [go_sem, af2]
  have AF3 : W.frozen? ⟨ba, 3, none⟩ = false := by rw [hW]; simp [go_sem, af3]
  have AF4 : W.frozen? ⟨ba, 4, none⟩ = false := by rw [hW]; simp [go_sem, af4]
  have BF0 : W.frozen? ⟨bb, 0, none⟩ = false := by rw [hW]; simp [go_sem, bf0]
  have BF1 : W.frozen? ⟨bb, 1, none⟩ = false := by rw [hW]; simp [go_sem, bf1]
  have BF2 : W.frozen? ⟨bb, 2, none⟩ = false := by rw [hW]; simp [go_sem, bf2]
  have BF3 : W.frozen? ⟨bb, 3, none⟩ = false := by rw [hW]; simp [go_sem, bf3]
  have BF4 : W.frozen? ⟨bb, 4, none⟩ = false := by rw [hW]; simp [go_sem, bf4]
  have L0 := (U1.cell (off := 0) (lt_of_cell l0) d1 (fun e => d2 (by injection e with e; exact e.symm))).trans l0
  have L1 := (U1.cell (off := 1) (lt_of_cell l1) d1 (fun e => d2 (by injection e with e; exact e.symm))).trans l1
  have L2 := (U1.cell (off := 2) (lt_of_cell l2) d1 (fun e => d2 (by injection e with e; exact e.symm))).trans l2
  have L3 := (U1.cell (off := 3) (lt_of_cell l3) d1 (fun e => d2 (by injection e with e; exact e.symm))).trans l3
  have L4 := (U1.cell (off := 4) (lt_of_cell l4) d1 (fun e => d2 (by injection e with e; exact e.symm))).trans l4
  have P0 := (U1.cell (off := 0) (lt_of_cell p0) d8 (fun e => d9 (by injection e with e; exact e.symm))).trans p0
  have P1 := (U1.cell (off := 1) (lt_of_cell p1) d8 (fun e => d9 (by injection e with e; exact e.symm))).trans p1
  have P2 := (U1.cell (off := 2) (lt_of_cell p2) d8 (fun e => d9 (by injection e with e; exact e.symm))).trans p2
  have W0 := (U1.cell (off := 0) (lt_of_cell w0) d4 (fun e => d5 (by injection e with e; exact e.symm))).trans w0
  have H0 := (U1.cell (off := 0) (lt_of_cell h0) d6 (fun e => d7 (by injection e with e; exact e.symm))).trans h0
  have HW1 := hide U1
  clear U1 hW a0 a1 a2 a3 a4 b0 b1 b2 b3 b4 l0 l1 l2 l3 l4 p0 p1 p2 w0 h0 af0 af1 af2 af3 af4 bf0 bf1 bf2 bf3 bf4
  go_wp2_with (fail)
  simp only [HM.out, HFA.out, HFB.out]
  refine calls_name fun V hV => ?_
  have U2 : Upd ba (some bb) w V := by
    rw [hV]
    exact HW1.out |>.setCell _ _ |>.setRow _ _ |>.setCell _ _ |>.setRow _ _
  have HA : Box5 V ba (.int .i64 x0) (.int .i64 y0) (.int .i64 x1) (.int .i64 m) (.int .u8 fa) := by
    rw [hV]
    refine ⟨?_, ?_, ?_, ?_, ?_, ?_, ?_, ?_, ?_, ?_⟩ <;> simp [go_sem, d1, d2, d3, d1.symm, d2.symm, d3.symm, d8, d9, d8.symm, d9.symm, A0, A1, A2, A3, A4, AF0, AF1, AF2, AF3, AF4]
  have HB : Box5 V bb (.int .i64 x0) (.int .i64 m) (.int .i64 x1) (.int .i64 y1) (.int .u8 fb) := by
    rw [hV]
    refine ⟨?_, ?_, ?_, ?_, ?_, ?_, ?_, ?_, ?_, ?_⟩ <;> simp [go_sem, d1, d2, d3, d1.symm, d2.symm, d3.symm, d8, d9, d8.symm, d9.symm, B0, B1, B2, B3, B4, BF0, BF1, BF2, BF3, BF4]
  have p0 : V.cell? ⟨bp, 0, none⟩ = some (.int .i64 mf) := by rw [hV]; simp [go_sem, d1, d2, d3, d1.symm, d2.symm, d3.symm, d8, d9, d8.symm, d9.symm, P0]
  have p1 : V.cell? ⟨bp, 1, none⟩ = some (.int .i64 ms) := by rw [hV]; simp [go_sem, d1, d2, d3, d1.symm, d2.symm, d3.symm, d8, d9, d8.symm, d9.symm, P1]
  have p2 : V.cell? ⟨bp, 2, none⟩ = some (.int .i64 ma) := by rw [hV]; simp [go_sem, d1, d2, d3, d1.symm, d2.symm, d3.symm, d8, d9, d8.symm, d9.symm, P2]
  have HU := hide U2
  have hs0 := lt_of_cell p0
  have HS := hide hs0
  clear hV U2 A0 A1 A2 A3 A4 B0 B1 B2 B3 B4 L0 L1 L2 L3 L4 P0 P1 P2 W0 H0 AF0 AF1 AF2 AF3 AF4 BF0 BF1 BF2 BF3 BF4 hs0
  refine (HG1.out _).mono ?_
  rintro e w1 ⟨rfl, hb⟩
  have K1 := hide (HU.out.trans (Upd.of_below hb))
  have HA1 := HA.below hb
  have HB1 := HB.below hb
  have q0 := (hb.cell (p := ⟨bp, 0, none⟩) HS.out).trans p0
  have q1 := (hb.cell (p := ⟨bp, 1, none⟩) HS.out).trans p1
  have q2 := (hb.cell (p := ⟨bp, 2, none⟩) HS.out).trans p2
  clear hb p0 p1 p2 HA HB
  cases g1 with
  | false =>
    go_wp2_with (fail)
    go_ret
    exact ⟨rfl, K1.out, HA1, HB1⟩
  | true =>
    obtain ⟨b0, b1, b2, b3, b4, bf0, bf1, bf2, bf3, bf4⟩ := id HB1
    have HB2 := hide HB1
    have HA2 := hide HA1
    clear HA1 HB1 bf0 bf1 bf2 bf3 bf4
    go_wp2_with (fail)
    refine (HG2.out _).mono ?_
    rintro e w2 ⟨rfl, hb⟩
    have K2 := hide (K1.out.trans (Upd.of_below hb))
    have HA3 := hide (HA2.out.below hb)
    have HB3 := hide (HB2.out.below hb)
    clear hb b0 b1 b2 b3 b4 q0 q1 q2
    go_wp2_with (fail)
    go_ret
    exact ⟨rfl, K2.out, HA3.out, HB3.out⟩
def Box5L (w : World) (b : Nat) (l : Lot5) : Prop := Box5 w b (.int .i64 l.r.x0) (.int .i64 l.r.y0) (.int .i64 l.r.x1) (.int .i64 l.r.y1) (.int .u8 l.f)
theorem less_range {f s : Int} (h : 1 ≤ f ∧ f ≤ 15) (hs : isSide s) : 0 ≤ lessS f s ∧ lessS f s ≤ 255 := by
  have h16 : 0 ≤ f ∧ f ≤ 15 := by omega
  obtain ⟨n, hn, rfl⟩ := f16 h16
  have key : ∀ n ∈ List.range 16, ∀ s ∈ ([1, 2, 4, 8] : List Int), 0 ≤ lessS (n : Int) s ∧ lessS (n : Int) s ≤ 255 := by decide
  exact key n hn s (side_mem hs)
theorem half_wrap {x d : Int} (hx : inR x) (hd : 0 < d ∧ d ≤ 2000000) : wrap64 (x + wrap64 (d.tdiv 2)) = x + d / 2 := by
  unfold inR at hx
  rw [Int.tdiv_eq_ediv_of_nonneg (by omega), show wrap64 (d / 2) = d / 2 from by unfold wrap64; omega]
  unfold wrap64; omega
theorem try_any (d : Bool) (l : Lot5) (p : Pl3) (hv : validL l) {w : World} {bl ba bb bw bh bp : Nat} {A0 A1 A2 A3 A4 B0 B1 B2 B3 B4 : Value}
    (l0 : w.cell? ⟨bl, 0, none⟩ = some (.int .i64 l.r.x0)) (l1 : w.cell? ⟨bl, 1, none⟩ = some (.int .i64 l.r.y0)) (l2 : w.cell? ⟨bl, 2, none⟩ = some (.int .i64 l.r.x1)) (l3 : w.cell? ⟨bl, 3, none⟩ = some (.int .i64 l.r.y1)) (l4 : w.cell? ⟨bl, 4, none⟩ = some (.int .u8 l.f))
    (p0 : w.cell? ⟨bp, 0, none⟩ = some (.int .i64 p.mf)) (p1 : w.cell? ⟨bp, 1, none⟩ = some (.int .i64 p.ms)) (p2 : w.cell? ⟨bp, 2, none⟩ = some (.int .i64 p.ma))
    (w0 : w.cell? ⟨bw, 0, none⟩ = some (.int .i64 l.w)) (h0 : w.cell? ⟨bh, 0, none⟩ = some (.int .i64 l.h))
    (ha : Box5 w ba A0 A1 A2 A3 A4) (hb : Box5 w bb B0 B1 B2 B3 B4)
    (d1 : bl ≠ ba) (d2 : bl ≠ bb) (d3 : ba ≠ bb) (d4 : bw ≠ ba) (d5 : bw ≠ bb) (d6 : bh ≠ ba) (d7 : bh ≠ bb) (d8 : bp ≠ ba) (d9 : bp ≠ bb) :
    Calls Try.prog 74 #[.bool d, .pointer (some ⟨bl, 0, none⟩), .pointer (some ⟨ba, 0, none⟩), .pointer (some ⟨bb, 0, none⟩), .pointer (some ⟨bw, 0, none⟩), .pointer (some ⟨bh, 0, none⟩), .pointer (some ⟨bp, 0, none⟩)] w fun e w' => e = .returned (.bool (bothG p (wayL d l))) ∧ Upd ba (some bb) w w' ∧ Box5L w' ba (wayL d l).1 ∧ Box5L w' bb (wayL d l).2 := by
  have hf : 0 ≤ l.f ∧ l.f ≤ 15 := by have := hv.2; omega
  have hp := valid_pos hv
  have s1 : isSide 1 := by unfold isSide; omega
  have s2 : isSide 2 := by unfold isSide; omega
  have s4 : isSide 4 := by unfold isSide; omega
  have s8 : isSide 8 := by unfold isSide; omega
  cases d with
  | true => exact try_true l0 l1 l2 l3 l4 p0 p1 p2 w0 h0 ha hb d1 d2 d3 d4 d5 d6 d7 d8 d9 (half_wrap hv.1.2.2.1 ⟨hp.1, hp.2.2.1⟩) (bit_less hf s2) (bit_less hf s1) (fun W => good_any (wideL l).1 p (less_range hv.2 s2) W) (fun W => good_any (wideL l).2 p (less_range hv.2 s1) W)
  | false => exact try_false l0 l1 l2 l3 l4 p0 p1 p2 w0 h0 ha hb d1 d2 d3 d4 d5 d6 d7 d8 d9 (half_wrap hv.1.2.2.2.2.1 ⟨hp.2.1, hp.2.2.2⟩) (bit_less hf s8) (bit_less hf s4) (fun W => good_any (highL l).1 p (less_range hv.2 s8) W) (fun W => good_any (highL l).2 p (less_range hv.2 s4) W)
end Go.Proofs.Ytabogapiecciiaa
