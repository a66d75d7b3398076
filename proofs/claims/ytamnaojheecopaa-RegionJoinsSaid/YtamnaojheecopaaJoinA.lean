/- span.Check at a canonical set; span.checked; span.Union, Meet, Minus; region.both and the reference's Both and Join. -/
import Derived.Test.YtamnaojheecopaaRefK
import Derived.Test.YtamnaojheecopaaLookA
namespace Go.Proofs.Ytamnaojheecopaa
open Go.RowKit
set_option linter.unusedVariables false
set_option linter.unusedSimpArgs false

set_option maxRecDepth 100000 in
set_option maxHeartbeats 2000000 in
theorem spCheck_can {w : World} {v : Value} {s : List Sp} (hr : RdK encS 2 w w.heap.size v s) (hl : s.length ≤ 400) (hc : SCan s) (hv : ∀ p ∈ s, validS p) :
    Calls Try.prog 86 #[v] w fun e w' => e = .returned (.int .i64 0) ∧ Below w.heap.size w w' := by
  obtain ⟨A, c, rfl, hrd⟩ := hr
  have HR := hide hrd
  have HC := hide hc
  have HV := hide hv
  have lz : (s.length : Int) ≤ 400 := by omega
  clear hrd hc hv
  go_enter Try.func86, Try.ntmps86
  go_wp2
  go_loopw [10] (fun i wr => ∃ m : Nat, m ≤ s.length ∧ i = .int .i64 m ∧ Hid (Below w.heap.size w wr)) (fun i _ => s.length - (intOf i).toNat)
  case atStart => exact ⟨0, Nat.zero_le _, rfl, hide (Below.refl _ _)⟩
  case round =>
    obtain ⟨m, hm, rfl, HB⟩ := hrel
    by_cases hlt : m < s.length
    · obtain ⟨⟨x, y⟩, hp⟩ : ∃ p, s[m]? = some p := ⟨_, List.getElem?_eq_getElem hlt⟩
      obtain ⟨b, o, rfl, hbl, k⟩ := HR.out (by intro e; rw [e] at hlt; simp at hlt)
      have d0 : wr.cell? ⟨b, o + m * 2, none⟩ = some (.int .i64 x) := (HB.out.cell (p := ⟨b, _, none⟩) hbl).trans (k m _ hp 0 _ rfl)
      have d1 : wr.cell? ⟨b, o + m * 2 + 1, none⟩ = some (.int .i64 y) := (HB.out.cell (p := ⟨b, _, none⟩) hbl).trans (k m _ hp 1 _ rfl)
      have mz : (m : Int) < (s.length : Int) := by omega
      have hsz := HB.out.size
      have hbw : b < wr.heap.size := by omega
      have HVA : Hid (∀ W, Calls Try.prog 81 #[.agg #[.int .i64 x, .int .i64 y]] W fun e w' => e = .returned (.bool true) ∧ Below W.heap.size W w') := hide (fun W => by
        have := validS_any (x, y) W
        rw [decide_eq_true (HV.out _ (List.mem_of_getElem? hp))] at this
        exact this)
      have HP := hide hp
      clear hp
      rcases Nat.eq_zero_or_pos m with rfl | hmp
      · clear k
        simp only [Nat.zero_mul, Nat.add_zero] at d0 d1
        rw [show ((0 : Nat) : Int) = 0 from rfl] at *
        go_wp2
        refine wp_hab fun hab => ?_
        refine wp_region_above (by kernel_rfl) (by kernel_rfl) ?_
        repeat (go_big_quiet_step ((go_at_call 81; exact above_of (HVA.out _))))
        refine wpQuiet_nil ?_
        refine above_ends fun w3 hb3 => ?_
        clear hab
        have HB3 := hide ((HB.out.alloc hsz _).trans (hb3.mono (by simp; omega)))
        clear hb3
        go_wp2
        go_roundw
        case rel => exact ⟨0 + 1, by omega, by go_num, HB3⟩
        case measure => simp [intOf]; omega
      · obtain ⟨j, rfl⟩ : ∃ j, m = j + 1 := ⟨m - 1, by omega⟩
        obtain ⟨⟨p, q⟩, hq⟩ : ∃ p, s[j]? = some p := ⟨_, List.getElem?_eq_getElem (by omega)⟩
        have d2 : wr.cell? ⟨b, o + j * 2 + 1, none⟩ = some (.int .i64 q) := (HB.out.cell (p := ⟨b, _, none⟩) hbl).trans (k j _ hq 1 _ rfl)
        have hqx : q < x := by
          obtain ⟨i1, e1⟩ := List.getElem?_eq_some_iff.1 hq
          obtain ⟨i2, e2⟩ := List.getElem?_eq_some_iff.1 HP.out
          have := List.pairwise_iff_getElem.1 HC.out.2 j (j + 1) i1 i2 (by omega)
          rw [e1, e2] at this
          exact this
        have hge : decide (x ≤ q) = false := decide_eq_false (by omega)
        have q1 : (0 : Int) < (j : Int) + 1 := by omega
        have q2 : (j : Int) < (s.length : Int) := by omega
        have q3 : IntKind.i64.wrap ((j : Int) + 1 - 1) = j := by simp [IntKind.wrap, IntKind.bits, IntKind.signed]; omega
        have q5 : IntKind.i64.wrap (j : Int) = j := by simp [IntKind.wrap, IntKind.bits, IntKind.signed]; omega
        have q4 : (0 : Int) ≤ (j : Int) := by omega
        have q6 : decide ((0 : Int) < (j : Int) + 1) = true := decide_eq_true q1
        clear k hq hmp
        rw [show ((j + 1 : Nat) : Int) = (j : Int) + 1 from rfl] at *
        go_wp2
        refine wp_hab fun hab => ?_
        refine wp_region_above (by kernel_rfl) (by kernel_rfl) ?_
        repeat (go_big_quiet_step ((go_at_call 81; exact above_of (HVA.out _))))
        refine wpQuiet_nil ?_
        refine above_ends fun w3 hb3 => ?_
        clear hab
        have HB3 := hide ((HB.out.alloc hsz _).trans (hb3.mono (by simp; omega)))
        clear hb3 q3 q5
        go_wp2
        go_roundw
        case rel => exact ⟨j + 1 + 1, by omega, by go_num, HB3⟩
        case measure => simp [intOf]; omega
    · have mz : ¬ (m : Int) < (s.length : Int) := by omega
      go_wp2
      go_ret
      exact ⟨rfl, HB.out⟩

/-- What span.checked returns for canonical sets. -/
def sjF (h : Bool → Bool → Bool) (a b : List Sp) : List Sp × Int := if 400 < (sjoin h a b).length then ([], 4) else (sjoin h a b, 0)
set_option maxHeartbeats 2000000 in
theorem checked_any (a b : List Sp) (va vb : Value) (w : World) (g : Nat) (h : Bool → Bool → Bool) (h0 : h false false = false) (eg : ∀ args w, (callFunc g args).run Try.prog w = .ok (.enter g args) w)
    (hg : ∀ (x y : Bool) (W : World), Calls Try.prog g #[.bool x, .bool y] W fun e w' => e = .returned (.bool (h x y)) ∧ W = w')
    (ra : RdK encS 2 w w.heap.size va a) (rb : RdK encS 2 w w.heap.size vb b) (na : a.length ≤ 400) (nb : b.length ≤ 400) (ca : SCan a) (cb : SCan b) (ba : ∀ p ∈ a, validS p) (bb : ∀ p ∈ b, validS p) :
    Calls Try.prog 72 #[va, vb, .func (.func g) #[] #[]] w fun e w' => SpnRet w.heap.size (sjF h a b) e w' ∧ Below w.heap.size w w' := by
  have hcA := spCheck_can ra na ca ba
  have hcB := fun (W : World) (hW : Below w.heap.size w W) => spCheck_can (w := W) ((rb.below hW).mono hW.size) nb cb bb
  have hj := fun (W : World) (hW : Below w.heap.size w W) => sjoin_any a b va vb W g h h0 eg hg ((ra.below hW).mono hW.size) ((rb.below hW).mono hW.size) (by omega) (by omega) ba bb
  obtain ⟨A1, c1, hva, _⟩ := ra
  obtain ⟨A2, c2, hvb, _⟩ := rb
  subst hva; subst hvb
  have HCA := hide hcA
  have HCB := hide hcB
  have HJ := hide hj
  have hsl := sjoin_len h a b
  have hF : sjF h a b = if 400 < (sjoin h a b).length then ([], 4) else (sjoin h a b, 0) := rfl
  have HF := hide hF
  clear hcA hcB hj ca cb ba bb hg hF
  generalize sjoin h a b = s at *
  by_cases h4 : 400 < s.length
  · have hz : (400 : Int) < (s.length : Int) := by omega
    have HF2 : Hid (sjF h a b = ([], 4)) := hide (by rw [HF.out, if_pos h4])
    go_enter Try.func72, Try.ntmps72
    go_wp2_with (fail)
    refine HCA.out.mono ?_
    rintro e w1 ⟨rfl, hb1⟩
    have HB1 := hide hb1
    clear hb1
    go_wp2_with (fail)
    refine (HCB.out _ HB1.out).mono ?_
    rintro e w2 ⟨rfl, hb2⟩
    have HB2 := hide (HB1.out.trans (hb2.mono HB1.out.size))
    clear hb2
    go_wp2_with (fail)
    refine (HJ.out _ HB2.out).mono ?_
    rintro e w3 ⟨A3, c3, rfl, ho3, hb3⟩
    have HO3 := hide ho3
    have HB3 := hide (HB2.out.trans (hb3.mono HB2.out.size))
    clear hb3 ho3
    go_wp2_with (fail)
    go_ret2
    exact ⟨⟨none, 0, by rw [HF2.out]; rfl, by rw [HF2.out]; exact World.ownsRow_nil _ _ _ _⟩, HB3.out⟩
  · have hz : (s.length : Int) ≤ 400 := by omega
    have HF2 : Hid (sjF h a b = (s, 0)) := hide (by rw [HF.out, if_neg h4])
    go_enter Try.func72, Try.ntmps72
    go_wp2_with (fail)
    refine HCA.out.mono ?_
    rintro e w1 ⟨rfl, hb1⟩
    have HB1 := hide hb1
    clear hb1
    go_wp2_with (fail)
    refine (HCB.out _ HB1.out).mono ?_
    rintro e w2 ⟨rfl, hb2⟩
    have HB2 := hide (HB1.out.trans (hb2.mono HB1.out.size))
    clear hb2
    go_wp2_with (fail)
    refine (HJ.out _ HB2.out).mono ?_
    rintro e w3 ⟨A3, c3, rfl, ho3, hb3⟩
    have HO3 := hide (own_base (base := w.heap.size) ho3 HB2.out.size)
    have HB3 := hide (HB2.out.trans (hb3.mono HB2.out.size))
    clear hb3 ho3
    go_wp2_with (fail)
    go_ret2
    exact ⟨⟨A3, c3, by rw [HF2.out]; rfl, by rw [HF2.out]; exact HO3.out⟩, HB3.out⟩

theorem clOr_any (x y : Bool) (W : World) : Calls Try.prog 73 #[.bool x, .bool y] W fun e w' => e = .returned (.bool (hOr x y)) ∧ W = w' := by
  cases x <;> cases y
  all_goals
    go_enter Try.func73, Try.ntmps73
    go_wp2
    go_ret
    exact ⟨rfl, rfl⟩
theorem clAnd_any (x y : Bool) (W : World) : Calls Try.prog 74 #[.bool x, .bool y] W fun e w' => e = .returned (.bool (hAnd x y)) ∧ W = w' := by
  cases x <;> cases y
  all_goals
    go_enter Try.func74, Try.ntmps74
    go_wp2
    go_ret
    exact ⟨rfl, rfl⟩
theorem clSub_any (x y : Bool) (W : World) : Calls Try.prog 75 #[.bool x, .bool y] W fun e w' => e = .returned (.bool (hSub x y)) ∧ W = w' := by
  cases x <;> cases y
  all_goals
    go_enter Try.func75, Try.ntmps75
    go_wp2
    go_ret
    exact ⟨rfl, rfl⟩
theorem enter_clOr : ∀ args w, (callFunc 73 args).run Try.prog w = .ok (.enter 73 args) w := enters_of Try.func73 (by kernel_rfl) rfl
theorem enter_clAnd : ∀ args w, (callFunc 74 args).run Try.prog w = .ok (.enter 74 args) w := enters_of Try.func74 (by kernel_rfl) rfl
theorem enter_clSub : ∀ args w, (callFunc 75 args).run Try.prog w = .ok (.enter 75 args) w := enters_of Try.func75 (by kernel_rfl) rfl
theorem enter_spOr : ∀ args w, (callFunc 59 args).run Try.prog w = .ok (.enter 59 args) w := enters_of Try.func59 (by kernel_rfl) rfl
theorem enter_spAnd : ∀ args w, (callFunc 60 args).run Try.prog w = .ok (.enter 60 args) w := enters_of Try.func60 (by kernel_rfl) rfl
theorem enter_spSub : ∀ args w, (callFunc 61 args).run Try.prog w = .ok (.enter 61 args) w := enters_of Try.func61 (by kernel_rfl) rfl
/-- The contract of a joining function: at canonical sets. -/
def SpJoin (f : Nat) (h : Bool → Bool → Bool) : Prop := ∀ (a b : List Sp) (va vb : Value) (w : World), RdK encS 2 w w.heap.size va a → RdK encS 2 w w.heap.size vb b → a.length ≤ 400 → b.length ≤ 400 → SCan a → SCan b → (∀ p ∈ a, validS p) → (∀ p ∈ b, validS p) →
  Calls Try.prog f #[va, vb] w fun e w' => SpnRet w.heap.size (sjF h a b) e w' ∧ Below w.heap.size w w'
set_option maxHeartbeats 1000000 in
theorem spOr_any : SpJoin 59 hOr := by
  intro a b va vb w ra rb na nb ca cb ba bb
  have hc := checked_any a b va vb w 73 hOr rfl enter_clOr clOr_any ra rb na nb ca cb ba bb
  obtain ⟨A1, c1, hva, _⟩ := ra
  obtain ⟨A2, c2, hvb, _⟩ := rb
  subst hva; subst hvb
  have HC := hide hc
  clear hc ca cb ba bb
  generalize sjF hOr a b = R at *
  obtain ⟨R1, R2⟩ := R
  go_enter Try.func59, Try.ntmps59
  go_wp2_with (fail)
  refine HC.out.mono ?_
  rintro e w1 ⟨⟨A3, c3, rfl, ho⟩, hb⟩
  have HO := hide ho
  clear ho
  go_wp2_with (fail)
  go_ret2
  exact ⟨⟨A3, c3, rfl, HO.out⟩, hb⟩
set_option maxHeartbeats 1000000 in
theorem spAnd_any : SpJoin 60 hAnd := by
  intro a b va vb w ra rb na nb ca cb ba bb
  have hc := checked_any a b va vb w 74 hAnd rfl enter_clAnd clAnd_any ra rb na nb ca cb ba bb
  obtain ⟨A1, c1, hva, _⟩ := ra
  obtain ⟨A2, c2, hvb, _⟩ := rb
  subst hva; subst hvb
  have HC := hide hc
  clear hc ca cb ba bb
  generalize sjF hAnd a b = R at *
  obtain ⟨R1, R2⟩ := R
  go_enter Try.func60, Try.ntmps60
  go_wp2_with (fail)
  refine HC.out.mono ?_
  rintro e w1 ⟨⟨A3, c3, rfl, ho⟩, hb⟩
  have HO := hide ho
  clear ho
  go_wp2_with (fail)
  go_ret2
  exact ⟨⟨A3, c3, rfl, HO.out⟩, hb⟩
set_option maxHeartbeats 1000000 in
theorem spSub_any : SpJoin 61 hSub := by
  intro a b va vb w ra rb na nb ca cb ba bb
  have hc := checked_any a b va vb w 75 hSub rfl enter_clSub clSub_any ra rb na nb ca cb ba bb
  obtain ⟨A1, c1, hva, _⟩ := ra
  obtain ⟨A2, c2, hvb, _⟩ := rb
  subst hva; subst hvb
  have HC := hide hc
  clear hc ca cb ba bb
  generalize sjF hSub a b = R at *
  obtain ⟨R1, R2⟩ := R
  go_enter Try.func61, Try.ntmps61
  go_wp2_with (fail)
  refine HC.out.mono ?_
  rintro e w1 ⟨⟨A3, c3, rfl, ho⟩, hb⟩
  have HO := hide ho
  clear ho
  go_wp2_with (fail)
  go_ret2
  exact ⟨⟨A3, c3, rfl, HO.out⟩, hb⟩
/-- The error of two regions. -/
def bothF (a b : List R4) : Int := if checkF a = 0 then checkF b else checkF a
set_option maxHeartbeats 1000000 in
theorem both_any {w : World} {va vb : Value} {a b : List R4} (ra : RdK encR 4 w w.heap.size va a) (rb : RdK encR 4 w w.heap.size vb b) (na : a.length ≤ 100000000) (nb : b.length ≤ 100000000) :
    Calls Try.prog 53 #[va, vb] w fun e w' => e = .returned (.int .i64 (bothF a b)) ∧ Below w.heap.size w w' := by
  have hA := check_any ra na
  have hB := fun (W : World) (hW : Below w.heap.size w W) => check_any (w := W) ((rb.below hW).mono hW.size) nb
  obtain ⟨A1, c1, hva, _⟩ := ra
  obtain ⟨A2, c2, hvb, _⟩ := rb
  subst hva; subst hvb
  have HA := hide hA
  have HB := hide hB
  clear hA hB
  by_cases h0 : checkF a = 0
  · have HF : Hid (bothF a b = checkF b) := hide (if_pos h0)
    rw [h0] at HA
    clear h0
    go_enter Try.func53, Try.ntmps53
    go_wp2_with (fail)
    refine HA.out.mono ?_
    rintro e w1 ⟨rfl, hb1⟩
    have HB1 := hide hb1
    clear hb1
    go_wp2_with (fail)
    refine (HB.out _ HB1.out).mono ?_
    rintro e w2 ⟨rfl, hb2⟩
    go_wp2_with (fail)
    go_ret
    exact ⟨ret_eq (int_eq HF.out.symm), HB1.out.trans (hb2.mono HB1.out.size)⟩
  · have HF : Hid (bothF a b = checkF a) := hide (if_neg h0)
    generalize checkF a = ck at *
    have hne : (ck != 0) = true := by simpa using h0
    clear h0
    go_enter Try.func53, Try.ntmps53
    go_wp2_with (fail)
    refine HA.out.mono ?_
    rintro e w1 ⟨rfl, hb1⟩
    go_wp2_with (fail)
    go_ret
    exact ⟨ret_eq (int_eq HF.out.symm), hb1⟩
set_option maxHeartbeats 1000000 in
theorem rBoth_any {w : World} {va vb : Value} {a b : List R4} (ra : RdK encR 4 w w.heap.size va a) (rb : RdK encR 4 w w.heap.size vb b) (na : a.length ≤ 100000000) (nb : b.length ≤ 100000000) :
    Calls Try.prog 55 #[va, vb] w fun e w' => e = .returned (.int .i64 (bothF a b)) ∧ Below w.heap.size w w' := by
  have hA := fun (W : World) (hW : Below w.heap.size w W) => rCheck_any (w := W) ((ra.below hW).mono hW.size) na
  have hB := fun (W : World) (hW : Below w.heap.size w W) => rCheck_any (w := W) ((rb.below hW).mono hW.size) nb
  obtain ⟨A1, c1, hva, _⟩ := ra
  obtain ⟨A2, c2, hvb, _⟩ := rb
  subst hva; subst hvb
  have HA := hide hA
  have HB := hide hB
  clear hA hB
  by_cases h0 : checkF a = 0
  · have HF : Hid (bothF a b = checkF b) := hide (if_pos h0)
    rw [h0] at HA
    clear h0
    go_enter Try.func55, Try.ntmps55
    go_wp2_with (fail)
    refine (HA.out _ (Below.refl _ _)).mono ?_
    rintro e w1 ⟨rfl, hb1⟩
    have HB1 := hide hb1
    clear hb1
    go_wp2_with (fail)
    refine (HB.out _ HB1.out).mono ?_
    rintro e w2 ⟨rfl, hb2⟩
    go_wp2_with (fail)
    go_ret
    exact ⟨ret_eq (int_eq HF.out.symm), HB1.out.trans (hb2.mono HB1.out.size)⟩
  · have HF : Hid (bothF a b = checkF a) := hide (if_neg h0)
    generalize checkF a = ck at *
    have hne : (ck != 0) = true := by simpa using h0
    clear h0
    go_enter Try.func55, Try.ntmps55
    go_wp2_with (fail)
    refine (HA.out _ (Below.refl _ _)).mono ?_
    rintro e w1 ⟨rfl, hb1⟩
    have HB1 := hide hb1
    clear hb1
    go_wp2_with (fail)
    refine (HA.out _ HB1.out).mono ?_
    rintro e w2 ⟨rfl, hb2⟩
    go_wp2_with (fail)
    go_ret
    exact ⟨ret_eq (int_eq HF.out.symm), HB1.out.trans (hb2.mono HB1.out.size)⟩
def joinF (h : Bool → Bool → Bool) (a b : List R4) : List R4 × Int := if bothF a b = 0 then (if 400 < (rjoin h a b).length then ([], 4) else (rjoin h a b, 0)) else ([], bothF a b)
theorem bothF_ok {a b : List R4} (h : bothF a b = 0) : checkF a = 0 ∧ checkF b = 0 := by
  unfold bothF at h
  by_cases h0 : checkF a = 0
  · rw [if_pos h0] at h; exact ⟨h0, h⟩
  · rw [if_neg h0] at h; exact absurd h h0
theorem check_wf {l : List R4} (h : checkF l = 0) : ∀ r ∈ l, wf4 r := fun r hr => ⟨((checkF_ok h).2.1 r hr).1, ((checkF_ok h).2.1 r hr).2.1⟩
theorem rjoin_len2 (h : Bool → Bool → Bool) (a b : List R4) (ha : a.length ≤ 400) (hb : b.length ≤ 400) : (rjoin h a b).length ≤ 100000000 := by
  have h1 := swp_len (fun c => sjoin h (crossL a c) (crossL b c)) 1600 (fun c => by
    have h1 := sjoin_len h (crossL a c) (crossL b c)
    have h2 := crossL_len a c
    have h3 := crossL_len b c
    omega) (prs (isortI (cutsL a ++ cutsL b)))
  rw [swp_sweep] at h1
  have h2 := prs_len (isortI (cutsL a ++ cutsL b))
  have h3 := isortI_len (cutsL a ++ cutsL b)
  rw [List.length_append, cutsL_len, cutsL_len] at h3
  unfold rjoin
  have h4 : (prs (isortI (cutsL a ++ cutsL b))).length ≤ 1600 := by omega
  have h5 := Nat.mul_le_mul_right 1600 h4
  omega
set_option maxRecDepth 100000 in
set_option maxHeartbeats 2000000 in
/-- The reference's Join, the kind being 1, 2 or 3. -/
theorem rJoin_any (kd : Int) (hkd : kd = 1 ∨ kd = 2 ∨ kd = 3) {w : World} {va vb : Value} {a b : List R4} (ra : RdK encR 4 w w.heap.size va a) (rb : RdK encR 4 w w.heap.size vb b) (na : a.length ≤ 100000000) (nb : b.length ≤ 100000000) :
    Calls Try.prog 34 #[.int .i64 kd, va, vb] w fun e w' => RegRet w.heap.size (joinF (hk kd) a b) e w' ∧ Below w.heap.size w w' := by
  have hA := fun (W : World) (hW : Below w.heap.size w W) => rBoth_any (w := W) ((ra.below hW).mono hW.size) ((rb.below hW).mono hW.size) na nb
  have hk0 : hk kd false false = false := by rcases hkd with rfl | rfl | rfl <;> rfl
  have hJ := fun (W : World) (hW : Below w.heap.size w W) (h1 : a.length ≤ 2500) (h2 : b.length ≤ 2500) => rJoined_any kd hkd (w := W) (ra.below hW) (rb.below hW) hW.size h1 h2
  obtain ⟨A1, c1, hva, _⟩ := ra
  obtain ⟨A2, c2, hvb, _⟩ := rb
  subst hva; subst hvb
  have HA := hide hA
  by_cases h0 : bothF a b = 0
  · obtain ⟨ca, cb⟩ := bothF_ok h0
    have la := (checkF_ok ca).1
    have lb := (checkF_ok cb).1
    have hJ2 := fun W hW => hJ W hW (by omega) (by omega)
    rw [ref_join hk0 (check_wf ca) (check_wf cb)] at hJ2
    have HJ := hide hJ2
    have hF : joinF (hk kd) a b = if 400 < (rjoin (hk kd) a b).length then ([], 4) else (rjoin (hk kd) a b, 0) := if_pos h0
    have HF := hide hF
    have hl := rjoin_len2 (hk kd) a b la lb
    rw [h0] at HA
    clear hA hJ hJ2 hF h0 ca cb hkd
    generalize rjoin (hk kd) a b = R at *
    by_cases h4 : 400 < R.length
    · have hz : (400 : Int) < (R.length : Int) := by omega
      have HF2 : Hid (joinF (hk kd) a b = ([], 4)) := hide (by rw [HF.out, if_pos h4])
      go_enter Try.func34, Try.ntmps34
      go_wp2_with (fail)
      refine (HA.out _ (Below.refl _ _)).mono ?_
      rintro e w1 ⟨rfl, hb1⟩
      have HB1 := hide hb1
      clear hb1
      go_wp2_with (fail)
      refine (HJ.out _ HB1.out).mono ?_
      rintro e w2 ⟨vo, rfl, ho, hb2⟩
      obtain ⟨Ao, co, hvo⟩ := own_form ho
      subst hvo
      have HB2 := hide (HB1.out.trans (hb2.mono HB1.out.size))
      clear ho hb2
      go_wp2_with (fail)
      go_ret2
      exact ⟨⟨none, 0, by rw [HF2.out]; rfl, by rw [HF2.out]; exact World.ownsRow_nil _ _ _ _⟩, HB2.out⟩
    · have hz : (R.length : Int) ≤ 400 := by omega
      have HF2 : Hid (joinF (hk kd) a b = (R, 0)) := hide (by rw [HF.out, if_neg h4])
      go_enter Try.func34, Try.ntmps34
      go_wp2_with (fail)
      refine (HA.out _ (Below.refl _ _)).mono ?_
      rintro e w1 ⟨rfl, hb1⟩
      have HB1 := hide hb1
      clear hb1
      go_wp2_with (fail)
      refine (HJ.out _ HB1.out).mono ?_
      rintro e w2 ⟨vo, rfl, ho, hb2⟩
      obtain ⟨Ao, co, hvo⟩ := own_form ho
      subst hvo
      have HB2 := hide (HB1.out.trans (hb2.mono HB1.out.size))
      have HO := hide (own_base (base := w.heap.size) ho HB1.out.size)
      clear ho hb2
      go_wp2_with (fail)
      go_ret2
      exact ⟨⟨Ao, co, by rw [HF2.out]; rfl, by rw [HF2.out]; exact HO.out⟩, HB2.out⟩
  · have HF : Hid (joinF (hk kd) a b = ([], bothF a b)) := hide (if_neg h0)
    generalize bothF a b = ck at *
    have hne : (ck != 0) = true := by simpa using h0
    clear h0 hA hJ hkd
    go_enter Try.func34, Try.ntmps34
    go_wp2_with (fail)
    refine (HA.out _ (Below.refl _ _)).mono ?_
    rintro e w1 ⟨rfl, hb1⟩
    have HB1 := hide hb1
    clear hb1
    go_wp2_with (fail)
    refine (HA.out _ HB1.out).mono ?_
    rintro e w2 ⟨rfl, hb2⟩
    go_wp2_with (fail)
    go_ret2
    exact ⟨⟨none, 0, by rw [HF.out]; rfl, by rw [HF.out]; exact World.ownsRow_nil _ _ _ _⟩, HB1.out.trans (hb2.mono HB1.out.size)⟩
end Go.Proofs.Ytamnaojheecopaa
