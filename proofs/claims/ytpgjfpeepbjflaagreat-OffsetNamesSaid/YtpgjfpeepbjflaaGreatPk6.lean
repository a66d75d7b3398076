/- Texts laid together: JoinA, MLook, MAlg, MLots, MRoof, MOff, MOffB, MOffC. Lemmas for the statements of this seat; no condition. -/
import Derived.Test.YtpgjfpeepbjflaaGreatPk5
import Derived.Test.YtpgjfpeepbjflaaGreatPk1
import Derived.Test.YtpgjfpeepbjflaaGreatPk3
import Derived.Test.YtpgjfpeepbjflaaGreatPk2

/- span.Check at a canonical set; span.checked; span.Union, Meet, Minus; region.both and the reference's Both and Join. -/
namespace Go.Proofs.YtpgjfpeepbjflaaGreat
open Go.RowKit
set_option linter.unusedVariables false
set_option linter.unusedSimpArgs false

set_option maxRecDepth 100000 in
set_option maxHeartbeats 2000000 in
theorem spCheck_can {w : World} {v : Value} {s : List Sp} (hr : RdK encS 2 w w.heap.size v s) (hl : s.length ≤ 400) (hc : SCan s) (hv : ∀ p ∈ s, validS p) :
    Calls Tryz.prog 93 #[v] w fun e w' => e = .returned (.int .i64 0) ∧ Below w.heap.size w w' := by
  obtain ⟨A, c, rfl, hrd⟩ := hr
  have HR := hide hrd
  have HC := hide hc
  have HV := hide hv
  have lz : (s.length : Int) ≤ 400 := by omega
  clear hrd hc hv
  go_enter Tryz.func93, Tryz.ntmps93
  go_wp2
  go_loopw [10] (fun i wr => ∃ m : Nat, m ≤ s.length ∧ i = .int .i64 m ∧ Hid (Below w.heap.size w wr)) (fun i _ => s.length - (intOf i).toNat)
  case atStart => exact ⟨0, Nat.zero_le _, rfl, hide (Below.refl _ _)⟩
  case round =>
    obtain ⟨m, hm, rfl, HB⟩ := hrel
    by_cases hlt : m < s.length
    · obtain ⟨⟨x, y⟩, hp⟩ : ∃ p, s[m]? = some p := ⟨_, List.getElem?_eq_getElem hlt⟩
      obtain ⟨b, o, rfl, hbl, k⟩ := HR.out (by intro e; rw [e] at hlt; simp at hlt)
      have d0 : wr.cell? ⟨b, o + m * 2, none⟩ = some (.int .i64 x) := (HB.out.cell (p := ⟨b, _, none⟩) hbl).trans (k m _ hp 0 _ rfl)
      have d1 : wr.cell? ⟨b, o + m * 2 + 1, none⟩ = some (.int .i64 y) := (HB.out.cell (p := ⟨b, _, none⟩) hbl).trans (k m _ hp 1 _ rfl)
      have mz : (m : Int) < (s.length : Int) := by omega
      have hsz := HB.out.size
      have hbw : b < wr.heap.size := by omega
      have HVA : Hid (∀ W, Calls Tryz.prog 102 #[.agg #[.int .i64 x, .int .i64 y]] W fun e w' => e = .returned (.bool true) ∧ Below W.heap.size W w') := hide (fun W => by
        have := validS_any (x, y) W
        rw [decide_eq_true (HV.out _ (List.mem_of_getElem? hp))] at this
        exact this)
      have HP := hide hp
      clear hp
      rcases Nat.eq_zero_or_pos m with rfl | hmp
      · clear k
        simp only [Nat.zero_mul, Nat.add_zero] at d0 d1
        rw [show ((0 : Nat) : Int) = 0 from rfl] at *
        go_wp2
        refine wp_hab fun hab => ?_
        refine wp_region_above (by kernel_rfl) (by kernel_rfl) ?_
        repeat (go_big_quiet_step ((go_at_call 102; exact above_of (HVA.out _))))
        refine wpQuiet_nil ?_
        refine above_ends fun w3 hb3 => ?_
        clear hab
        have HB3 := hide ((HB.out.alloc hsz _).trans (hb3.mono (by simp; omega)))
        clear hb3
        go_wp2
        go_roundw
        case rel => exact ⟨0 + 1, by omega, by go_num, HB3⟩
        case measure => simp [intOf]; omega
      · obtain ⟨j, rfl⟩ : ∃ j, m = j + 1 := ⟨m - 1, by omega⟩
        obtain ⟨⟨p, q⟩, hq⟩ : ∃ p, s[j]? = some p := ⟨_, List.getElem?_eq_getElem (by omega)⟩
        have d2 : wr.cell? ⟨b, o + j * 2 + 1, none⟩ = some (.int .i64 q) := (HB.out.cell (p := ⟨b, _, none⟩) hbl).trans (k j _ hq 1 _ rfl)
        have hqx : q < x := by
          obtain ⟨i1, e1⟩ := List.getElem?_eq_some_iff.1 hq
          obtain ⟨i2, e2⟩ := List.getElem?_eq_some_iff.1 HP.out
          have := List.pairwise_iff_getElem.1 HC.out.2 j (j + 1) i1 i2 (by omega)
          rw [e1, e2] at this
          exact this
        have hge : decide (x ≤ q) = false := decide_eq_false (by omega)
        have q1 : (0 : Int) < (j : Int) + 1 := by omega
        have q2 : (j : Int) < (s.length : Int) := by omega
        have q3 : IntKind.i64.wrap ((j : Int) + 1 - 1) = j := by simp [IntKind.wrap, IntKind.bits, IntKind.signed]; omega
        have q5 : IntKind.i64.wrap (j : Int) = j := by simp [IntKind.wrap, IntKind.bits, IntKind.signed]; omega
        have q4 : (0 : Int) ≤ (j : Int) := by omega
        have q6 : decide ((0 : Int) < (j : Int) + 1) = true := decide_eq_true q1
        clear k hq hmp
        rw [show ((j + 1 : Nat) : Int) = (j : Int) + 1 from rfl] at *
        go_wp2
        refine wp_hab fun hab => ?_
        refine wp_region_above (by kernel_rfl) (by kernel_rfl) ?_
        repeat (go_big_quiet_step ((go_at_call 102; exact above_of (HVA.out _))))
        refine wpQuiet_nil ?_
        refine above_ends fun w3 hb3 => ?_
        clear hab
        have HB3 := hide ((HB.out.alloc hsz _).trans (hb3.mono (by simp; omega)))
        clear hb3 q3 q5
        go_wp2
        go_roundw
        case rel => exact ⟨j + 1 + 1, by omega, by go_num, HB3⟩
        case measure => simp [intOf]; omega
    · have mz : ¬ (m : Int) < (s.length : Int) := by omega
      go_wp2
      go_ret
      exact ⟨rfl, HB.out⟩

/-- What span.checked returns for canonical sets. -/
def sjF (h : Bool → Bool → Bool) (a b : List Sp) : List Sp × Int := if 400 < (sjoin h a b).length then ([], 4) else (sjoin h a b, 0)
set_option maxHeartbeats 2000000 in
theorem checked_any (a b : List Sp) (va vb : Value) (w : World) (g : Nat) (h : Bool → Bool → Bool) (h0 : h false false = false) (eg : ∀ args w, (callFunc g args).run Tryz.prog w = .ok (.enter g args) w)
    (hg : ∀ (x y : Bool) (W : World), Calls Tryz.prog g #[.bool x, .bool y] W fun e w' => e = .returned (.bool (h x y)) ∧ W = w')
    (ra : RdK encS 2 w w.heap.size va a) (rb : RdK encS 2 w w.heap.size vb b) (na : a.length ≤ 400) (nb : b.length ≤ 400) (ca : SCan a) (cb : SCan b) (ba : ∀ p ∈ a, validS p) (bb : ∀ p ∈ b, validS p) :
    Calls Tryz.prog 80 #[va, vb, .func (.func g) #[] #[]] w fun e w' => SpnRet w.heap.size (sjF h a b) e w' ∧ Below w.heap.size w w' := by
  have hcA := spCheck_can ra na ca ba
  have hcB := fun (W : World) (hW : Below w.heap.size w W) => spCheck_can (w := W) ((rb.below hW).mono hW.size) nb cb bb
  have hj := fun (W : World) (hW : Below w.heap.size w W) => sjoin_any a b va vb W g h h0 eg hg ((ra.below hW).mono hW.size) ((rb.below hW).mono hW.size) (by omega) (by omega) ba bb
  obtain ⟨A1, c1, hva, _⟩ := ra
  obtain ⟨A2, c2, hvb, _⟩ := rb
  subst hva; subst hvb
  have HCA := hide hcA
  have HCB := hide hcB
  have HJ := hide hj
  have hsl := sjoin_len h a b
  have hF : sjF h a b = if 400 < (sjoin h a b).length then ([], 4) else (sjoin h a b, 0) := rfl
  have HF := hide hF
  clear hcA hcB hj ca cb ba bb hg hF
  generalize sjoin h a b = s at *
  by_cases h4 : 400 < s.length
  · have hz : (400 : Int) < (s.length : Int) := by omega
    have HF2 : Hid (sjF h a b = ([], 4)) := hide (by rw [HF.out, if_pos h4])
    go_enter Tryz.func80, Tryz.ntmps80
    go_wp2_with (fail)
    refine HCA.out.mono ?_
    rintro e w1 ⟨rfl, hb1⟩
    have HB1 := hide hb1
    clear hb1
    go_wp2_with (fail)
    refine (HCB.out _ HB1.out).mono ?_
    rintro e w2 ⟨rfl, hb2⟩
    have HB2 := hide (HB1.out.trans (hb2.mono HB1.out.size))
    clear hb2
    go_wp2_with (fail)
    refine (HJ.out _ HB2.out).mono ?_
    rintro e w3 ⟨A3, c3, rfl, ho3, hb3⟩
    have HO3 := hide ho3
    have HB3 := hide (HB2.out.trans (hb3.mono HB2.out.size))
    clear hb3 ho3
    go_wp2_with (fail)
    go_ret2
    exact ⟨⟨none, 0, by rw [HF2.out]; rfl, by rw [HF2.out]; exact World.ownsRow_nil _ _ _ _⟩, HB3.out⟩
  · have hz : (s.length : Int) ≤ 400 := by omega
    have HF2 : Hid (sjF h a b = (s, 0)) := hide (by rw [HF.out, if_neg h4])
    go_enter Tryz.func80, Tryz.ntmps80
    go_wp2_with (fail)
    refine HCA.out.mono ?_
    rintro e w1 ⟨rfl, hb1⟩
    have HB1 := hide hb1
    clear hb1
    go_wp2_with (fail)
    refine (HCB.out _ HB1.out).mono ?_
    rintro e w2 ⟨rfl, hb2⟩
    have HB2 := hide (HB1.out.trans (hb2.mono HB1.out.size))
    clear hb2
    go_wp2_with (fail)
    refine (HJ.out _ HB2.out).mono ?_
    rintro e w3 ⟨A3, c3, rfl, ho3, hb3⟩
    have HO3 := hide (own_base (base := w.heap.size) ho3 HB2.out.size)
    have HB3 := hide (HB2.out.trans (hb3.mono HB2.out.size))
    clear hb3 ho3
    go_wp2_with (fail)
    go_ret2
    exact ⟨⟨A3, c3, by rw [HF2.out]; rfl, by rw [HF2.out]; exact HO3.out⟩, HB3.out⟩

theorem clOr_any (x y : Bool) (W : World) : Calls Tryz.prog 81 #[.bool x, .bool y] W fun e w' => e = .returned (.bool (hOr x y)) ∧ W = w' := by
  cases x <;> cases y
  all_goals
    go_enter Tryz.func81, Tryz.ntmps81
    go_wp2
    go_ret
    exact ⟨rfl, rfl⟩
theorem clAnd_any (x y : Bool) (W : World) : Calls Tryz.prog 82 #[.bool x, .bool y] W fun e w' => e = .returned (.bool (hAnd x y)) ∧ W = w' := by
  cases x <;> cases y
  all_goals
    go_enter Tryz.func82, Tryz.ntmps82
    go_wp2
    go_ret
    exact ⟨rfl, rfl⟩
theorem clSub_any (x y : Bool) (W : World) : Calls Tryz.prog 91 #[.bool x, .bool y] W fun e w' => e = .returned (.bool (hSub x y)) ∧ W = w' := by
  cases x <;> cases y
  all_goals
    go_enter Tryz.func91, Tryz.ntmps91
    go_wp2
    go_ret
    exact ⟨rfl, rfl⟩
theorem enter_clOr : ∀ args w, (callFunc 81 args).run Tryz.prog w = .ok (.enter 81 args) w := enters_of Tryz.func81 (by kernel_rfl) rfl
theorem enter_clAnd : ∀ args w, (callFunc 82 args).run Tryz.prog w = .ok (.enter 82 args) w := enters_of Tryz.func82 (by kernel_rfl) rfl
theorem enter_clSub : ∀ args w, (callFunc 91 args).run Tryz.prog w = .ok (.enter 91 args) w := enters_of Tryz.func91 (by kernel_rfl) rfl
theorem enter_spOr : ∀ args w, (callFunc 55 args).run Tryz.prog w = .ok (.enter 55 args) w := enters_of Tryz.func55 (by kernel_rfl) rfl
theorem enter_spAnd : ∀ args w, (callFunc 56 args).run Tryz.prog w = .ok (.enter 56 args) w := enters_of Tryz.func56 (by kernel_rfl) rfl
theorem enter_spSub : ∀ args w, (callFunc 71 args).run Tryz.prog w = .ok (.enter 71 args) w := enters_of Tryz.func71 (by kernel_rfl) rfl
/-- The contract of a joining function: at canonical sets. -/
def SpJoin (f : Nat) (h : Bool → Bool → Bool) : Prop := ∀ (a b : List Sp) (va vb : Value) (w : World), RdK encS 2 w w.heap.size va a → RdK encS 2 w w.heap.size vb b → a.length ≤ 400 → b.length ≤ 400 → SCan a → SCan b → (∀ p ∈ a, validS p) → (∀ p ∈ b, validS p) →
  Calls Tryz.prog f #[va, vb] w fun e w' => SpnRet w.heap.size (sjF h a b) e w' ∧ Below w.heap.size w w'
set_option maxHeartbeats 1000000 in
theorem spOr_any : SpJoin 55 hOr := by
  intro a b va vb w ra rb na nb ca cb ba bb
  have hc := checked_any a b va vb w 81 hOr rfl enter_clOr clOr_any ra rb na nb ca cb ba bb
  obtain ⟨A1, c1, hva, _⟩ := ra
  obtain ⟨A2, c2, hvb, _⟩ := rb
  subst hva; subst hvb
  have HC := hide hc
  clear hc ca cb ba bb
  generalize sjF hOr a b = R at *
  obtain ⟨R1, R2⟩ := R
  go_enter Tryz.func55, Tryz.ntmps55
  go_wp2_with (fail)
  refine HC.out.mono ?_
  rintro e w1 ⟨⟨A3, c3, rfl, ho⟩, hb⟩
  have HO := hide ho
  clear ho
  go_wp2_with (fail)
  go_ret2
  exact ⟨⟨A3, c3, rfl, HO.out⟩, hb⟩
set_option maxHeartbeats 1000000 in
theorem spAnd_any : SpJoin 56 hAnd := by
  intro a b va vb w ra rb na nb ca cb ba bb
  have hc := checked_any a b va vb w 82 hAnd rfl enter_clAnd clAnd_any ra rb na nb ca cb ba bb
  obtain ⟨A1, c1, hva, _⟩ := ra
  obtain ⟨A2, c2, hvb, _⟩ := rb
  subst hva; subst hvb
  have HC := hide hc
  clear hc ca cb ba bb
  generalize sjF hAnd a b = R at *
  obtain ⟨R1, R2⟩ := R
  go_enter Tryz.func56, Tryz.ntmps56
  go_wp2_with (fail)
  refine HC.out.mono ?_
  rintro e w1 ⟨⟨A3, c3, rfl, ho⟩, hb⟩
  have HO := hide ho
  clear ho
  go_wp2_with (fail)
  go_ret2
  exact ⟨⟨A3, c3, rfl, HO.out⟩, hb⟩
set_option maxHeartbeats 1000000 in
theorem spSub_any : SpJoin 71 hSub := by
  intro a b va vb w ra rb na nb ca cb ba bb
  have hc := checked_any a b va vb w 91 hSub rfl enter_clSub clSub_any ra rb na nb ca cb ba bb
  obtain ⟨A1, c1, hva, _⟩ := ra
  obtain ⟨A2, c2, hvb, _⟩ := rb
  subst hva; subst hvb
  have HC := hide hc
  clear hc ca cb ba bb
  generalize sjF hSub a b = R at *
  obtain ⟨R1, R2⟩ := R
  go_enter Tryz.func71, Tryz.ntmps71
  go_wp2_with (fail)
  refine HC.out.mono ?_
  rintro e w1 ⟨⟨A3, c3, rfl, ho⟩, hb⟩
  have HO := hide ho
  clear ho
  go_wp2_with (fail)
  go_ret2
  exact ⟨⟨A3, c3, rfl, HO.out⟩, hb⟩
/-- The error of two regions. -/
def bothF (a b : List R4) : Int := if checkF a = 0 then checkF b else checkF a
set_option maxHeartbeats 1000000 in
theorem both_any {w : World} {va vb : Value} {a b : List R4} (ra : RdK encR 4 w w.heap.size va a) (rb : RdK encR 4 w w.heap.size vb b) (na : a.length ≤ 100000000) (nb : b.length ≤ 100000000) :
    Calls Tryz.prog 76 #[va, vb] w fun e w' => e = .returned (.int .i64 (bothF a b)) ∧ Below w.heap.size w w' := by
  have hA := check_any ra na
  have hB := fun (W : World) (hW : Below w.heap.size w W) => check_any (w := W) ((rb.below hW).mono hW.size) nb
  obtain ⟨A1, c1, hva, _⟩ := ra
  obtain ⟨A2, c2, hvb, _⟩ := rb
  subst hva; subst hvb
  have HA := hide hA
  have HB := hide hB
  clear hA hB
  by_cases h0 : checkF a = 0
  · have HF : Hid (bothF a b = checkF b) := hide (if_pos h0)
    rw [h0] at HA
    clear h0
    go_enter Tryz.func76, Tryz.ntmps76
    go_wp2_with (fail)
    refine HA.out.mono ?_
    rintro e w1 ⟨rfl, hb1⟩
    have HB1 := hide hb1
    clear hb1
    go_wp2_with (fail)
    refine (HB.out _ HB1.out).mono ?_
    rintro e w2 ⟨rfl, hb2⟩
    go_wp2_with (fail)
    go_ret
    exact ⟨ret_eq (int_eq HF.out.symm), HB1.out.trans (hb2.mono HB1.out.size)⟩
  · have HF : Hid (bothF a b = checkF a) := hide (if_neg h0)
    generalize checkF a = ck at *
    have hne : (ck != 0) = true := by simpa using h0
    clear h0
    go_enter Tryz.func76, Tryz.ntmps76
    go_wp2_with (fail)
    refine HA.out.mono ?_
    rintro e w1 ⟨rfl, hb1⟩
    go_wp2_with (fail)
    go_ret
    exact ⟨ret_eq (int_eq HF.out.symm), hb1⟩
set_option maxHeartbeats 1000000 in
theorem rBoth_any {w : World} {va vb : Value} {a b : List R4} (ra : RdK encR 4 w w.heap.size va a) (rb : RdK encR 4 w w.heap.size vb b) (na : a.length ≤ 100000000) (nb : b.length ≤ 100000000) :
    Calls Tryz.prog 72 #[va, vb] w fun e w' => e = .returned (.int .i64 (bothF a b)) ∧ Below w.heap.size w w' := by
  have hA := fun (W : World) (hW : Below w.heap.size w W) => rCheck_any (w := W) ((ra.below hW).mono hW.size) na
  have hB := fun (W : World) (hW : Below w.heap.size w W) => rCheck_any (w := W) ((rb.below hW).mono hW.size) nb
  obtain ⟨A1, c1, hva, _⟩ := ra
  obtain ⟨A2, c2, hvb, _⟩ := rb
  subst hva; subst hvb
  have HA := hide hA
  have HB := hide hB
  clear hA hB
  by_cases h0 : checkF a = 0
  · have HF : Hid (bothF a b = checkF b) := hide (if_pos h0)
    rw [h0] at HA
    clear h0
    go_enter Tryz.func72, Tryz.ntmps72
    go_wp2_with (fail)
    refine (HA.out _ (Below.refl _ _)).mono ?_
    rintro e w1 ⟨rfl, hb1⟩
    have HB1 := hide hb1
    clear hb1
    go_wp2_with (fail)
    refine (HB.out _ HB1.out).mono ?_
    rintro e w2 ⟨rfl, hb2⟩
    go_wp2_with (fail)
    go_ret
    exact ⟨ret_eq (int_eq HF.out.symm), HB1.out.trans (hb2.mono HB1.out.size)⟩
  · have HF : Hid (bothF a b = checkF a) := hide (if_neg h0)
    generalize checkF a = ck at *
    have hne : (ck != 0) = true := by simpa using h0
    clear h0
    go_enter Tryz.func72, Tryz.ntmps72
    go_wp2_with (fail)
    refine (HA.out _ (Below.refl _ _)).mono ?_
    rintro e w1 ⟨rfl, hb1⟩
    have HB1 := hide hb1
    clear hb1
    go_wp2_with (fail)
    refine (HA.out _ HB1.out).mono ?_
    rintro e w2 ⟨rfl, hb2⟩
    go_wp2_with (fail)
    go_ret
    exact ⟨ret_eq (int_eq HF.out.symm), HB1.out.trans (hb2.mono HB1.out.size)⟩
def joinF (h : Bool → Bool → Bool) (a b : List R4) : List R4 × Int := if bothF a b = 0 then (if 400 < (rjoin h a b).length then ([], 4) else (rjoin h a b, 0)) else ([], bothF a b)
theorem bothF_ok {a b : List R4} (h : bothF a b = 0) : checkF a = 0 ∧ checkF b = 0 := by
  unfold bothF at h
  by_cases h0 : checkF a = 0
  · rw [if_pos h0] at h; exact ⟨h0, h⟩
  · rw [if_neg h0] at h; exact absurd h h0
theorem check_wf {l : List R4} (h : checkF l = 0) : ∀ r ∈ l, wf4 r := fun r hr => ⟨((checkF_ok h).2.1 r hr).1, ((checkF_ok h).2.1 r hr).2.1⟩
theorem rjoin_len2 (h : Bool → Bool → Bool) (a b : List R4) (ha : a.length ≤ 400) (hb : b.length ≤ 400) : (rjoin h a b).length ≤ 100000000 := by
  have h1 := swp_len (fun c => sjoin h (crossL a c) (crossL b c)) 1600 (fun c => by
    have h1 := sjoin_len h (crossL a c) (crossL b c)
    have h2 := crossL_len a c
    have h3 := crossL_len b c
    omega) (prs (isortI (cutsL a ++ cutsL b)))
  rw [swp_sweep] at h1
  have h2 := prs_len (isortI (cutsL a ++ cutsL b))
  have h3 := isortI_len (cutsL a ++ cutsL b)
  rw [List.length_append, cutsL_len, cutsL_len] at h3
  unfold rjoin
  have h4 : (prs (isortI (cutsL a ++ cutsL b))).length ≤ 1600 := by omega
  have h5 := Nat.mul_le_mul_right 1600 h4
  omega
set_option maxRecDepth 100000 in
set_option maxHeartbeats 2000000 in
/-- The reference's Join, the kind being 1, 2 or 3. -/
theorem rJoin_any (kd : Int) (hkd : kd = 1 ∨ kd = 2 ∨ kd = 3) {w : World} {va vb : Value} {a b : List R4} (ra : RdK encR 4 w w.heap.size va a) (rb : RdK encR 4 w w.heap.size vb b) (na : a.length ≤ 100000000) (nb : b.length ≤ 100000000) :
    Calls Tryz.prog 51 #[.int .i64 kd, va, vb] w fun e w' => RegRet w.heap.size (joinF (hk kd) a b) e w' ∧ Below w.heap.size w w' := by
  have hA := fun (W : World) (hW : Below w.heap.size w W) => rBoth_any (w := W) ((ra.below hW).mono hW.size) ((rb.below hW).mono hW.size) na nb
  have hk0 : hk kd false false = false := by rcases hkd with rfl | rfl | rfl <;> rfl
  have hJ := fun (W : World) (hW : Below w.heap.size w W) (h1 : a.length ≤ 2500) (h2 : b.length ≤ 2500) => rJoined_any kd hkd (w := W) (ra.below hW) (rb.below hW) hW.size h1 h2
  obtain ⟨A1, c1, hva, _⟩ := ra
  obtain ⟨A2, c2, hvb, _⟩ := rb
  subst hva; subst hvb
  have HA := hide hA
  by_cases h0 : bothF a b = 0
  · obtain ⟨ca, cb⟩ := bothF_ok h0
    have la := (checkF_ok ca).1
    have lb := (checkF_ok cb).1
    have hJ2 := fun W hW => hJ W hW (by omega) (by omega)
    rw [ref_join hk0 (check_wf ca) (check_wf cb)] at hJ2
    have HJ := hide hJ2
    have hF : joinF (hk kd) a b = if 400 < (rjoin (hk kd) a b).length then ([], 4) else (rjoin (hk kd) a b, 0) := if_pos h0
    have HF := hide hF
    have hl := rjoin_len2 (hk kd) a b la lb
    rw [h0] at HA
    clear hA hJ hJ2 hF h0 ca cb hkd
    generalize rjoin (hk kd) a b = R at *
    by_cases h4 : 400 < R.length
    · have hz : (400 : Int) < (R.length : Int) := by omega
      have HF2 : Hid (joinF (hk kd) a b = ([], 4)) := hide (by rw [HF.out, if_pos h4])
      go_enter Tryz.func51, Tryz.ntmps51
      go_wp2_with (fail)
      refine (HA.out _ (Below.refl _ _)).mono ?_
      rintro e w1 ⟨rfl, hb1⟩
      have HB1 := hide hb1
      clear hb1
      go_wp2_with (fail)
      refine (HJ.out _ HB1.out).mono ?_
      rintro e w2 ⟨vo, rfl, ho, hb2⟩
      obtain ⟨Ao, co, hvo⟩ := own_form ho
      subst hvo
      have HB2 := hide (HB1.out.trans (hb2.mono HB1.out.size))
      clear ho hb2
      go_wp2_with (fail)
      go_ret2
      exact ⟨⟨none, 0, by rw [HF2.out]; rfl, by rw [HF2.out]; exact World.ownsRow_nil _ _ _ _⟩, HB2.out⟩
    · have hz : (R.length : Int) ≤ 400 := by omega
      have HF2 : Hid (joinF (hk kd) a b = (R, 0)) := hide (by rw [HF.out, if_neg h4])
      go_enter Tryz.func51, Tryz.ntmps51
      go_wp2_with (fail)
      refine (HA.out _ (Below.refl _ _)).mono ?_
      rintro e w1 ⟨rfl, hb1⟩
      have HB1 := hide hb1
      clear hb1
      go_wp2_with (fail)
      refine (HJ.out _ HB1.out).mono ?_
      rintro e w2 ⟨vo, rfl, ho, hb2⟩
      obtain ⟨Ao, co, hvo⟩ := own_form ho
      subst hvo
      have HB2 := hide (HB1.out.trans (hb2.mono HB1.out.size))
      have HO := hide (own_base (base := w.heap.size) ho HB1.out.size)
      clear ho hb2
      go_wp2_with (fail)
      go_ret2
      exact ⟨⟨Ao, co, by rw [HF2.out]; rfl, by rw [HF2.out]; exact HO.out⟩, HB2.out⟩
  · have HF : Hid (joinF (hk kd) a b = ([], bothF a b)) := hide (if_neg h0)
    generalize bothF a b = ck at *
    have hne : (ck != 0) = true := by simpa using h0
    clear h0 hA hJ hkd
    go_enter Tryz.func51, Tryz.ntmps51
    go_wp2_with (fail)
    refine (HA.out _ (Below.refl _ _)).mono ?_
    rintro e w1 ⟨rfl, hb1⟩
    have HB1 := hide hb1
    clear hb1
    go_wp2_with (fail)
    refine (HA.out _ HB1.out).mono ?_
    rintro e w2 ⟨rfl, hb2⟩
    go_wp2_with (fail)
    go_ret2
    exact ⟨⟨none, 0, by rw [HF.out]; rfl, by rw [HF.out]; exact World.ownsRow_nil _ _ _ _⟩, HB1.out.trans (hb2.mono HB1.out.size)⟩
end Go.Proofs.YtpgjfpeepbjflaaGreat

/- Plain law: cross-sections of a canonical region; hulls; moved regions. -/
namespace Go.Proofs.YtpgjfpeepbjflaaGreat
set_option linter.unusedVariables false
set_option linter.unusedSimpArgs false

theorem crossL_append (a b : List R4) (x : Int) : crossL (a ++ b) x = crossL a x ++ crossL b x := by simp [crossL]
theorem crossL_flat1 (a : Slab) (x : Int) : crossL (flat1 a) x = if a.f ≤ x ∧ x < a.t then a.s else [] := by
  unfold crossL flat1
  rw [List.filter_map, List.map_map]
  by_cases hx : a.f ≤ x ∧ x < a.t
  · rw [if_pos hx]
    have : (fun p : Sp => decide (a.f ≤ x) && decide (x < a.t)) = fun _ => true := by funext p; simp [hx.1, hx.2]
    show List.map _ (List.filter (fun p : Sp => decide (a.f ≤ x) && decide (x < a.t)) a.s) = _
    rw [this, List.filter_eq_self.2 (fun _ _ => rfl)]
    show List.map (fun p : Sp => (p.1, p.2)) a.s = a.s
    simp
  · rw [if_neg hx]
    have : (fun p : Sp => decide (a.f ≤ x) && decide (x < a.t)) = fun _ => false := by
      funext p
      by_cases h1 : a.f ≤ x
      · have h2 : ¬ x < a.t := fun h => hx ⟨h1, h⟩
        simp [h2]
      · simp [h1]
    show List.map _ (List.filter (fun p : Sp => decide (a.f ≤ x) && decide (x < a.t)) a.s) = _
    rw [this, List.filter_eq_nil_iff.2 (by simp)]
    rfl
theorem crossL_flat : ∀ {S : List Slab} (x : Int), SOK S → crossL (flat S) x = cr S x
  | [], x, _ => rfl
  | a :: S, x, h => by
    have e : flat (a :: S) = flat1 a ++ flat S := by simp [flat]
    rw [e, crossL_append, crossL_flat1, crossL_flat x h.tail]
    simp only [cr]
    by_cases hx : a.f ≤ x ∧ x < a.t
    · rw [if_pos hx, if_pos hx, cr_far (S := S) (fun b hb => .inl (by have := h.after b hb; omega)), List.append_nil]
    · rw [if_neg hx, if_neg hx, List.nil_append]
theorem check_rcan {l : List R4} (h : checkF l = 0) : RCan l := by
  obtain ⟨h1, h2, h3⟩ := checkF_ok h
  have hr : rjoin hFst l [] = l := by
    unfold madeF at h3
    split at h3
    · simp at h3
    · exact (Prod.mk.inj h3).1
  rw [← hr]
  exact (rjoin_ok (h := hFst) rfl (fun r hr => ⟨(h2 r hr).1, (h2 r hr).2.1⟩) (by simp)).1
theorem crossL_can {l : List R4} (h : RCan l) (x : Int) : SCan (crossL l x) := by
  obtain ⟨S, hS, rfl⟩ := h
  rw [crossL_flat x hS]
  exact cr_can x hS
/-- The reference's cross-section of a canonical region. -/
theorem ref_cross {l : List R4} (h : RCan l) (x : Int) {ys : List Int} (hs : ys.Pairwise (· < ·)) (hy : ∀ c ∈ cutsY l, c ∈ ys) : canF ys (ys.map fun y => decide (pmem l x y)) = crossL l x := by
  obtain ⟨h1, h2⟩ := refG_ok (h := hFst) rfl hs hy (b := []) (by simp [cutsY]) x
  refine h1.ext (crossL_can h x) fun y => ?_
  rw [smem_crossL]
  exact (h2 y).trans (by simp [hFst])

/-! ### Hulls -/
def hullS (h r : R4) : R4 := ⟨min h.x0 r.x0, min h.y0 r.y0, max h.x1 r.x1, max h.y1 r.y1⟩
def hullL : List R4 → R4
  | [] => ⟨0, 0, 0, 0⟩
  | r :: l => (r :: l).foldl hullS r
/-- h is the hull of the rectangles. -/
structure IsHull (l : List R4) (h : R4) : Prop where
  a0 : ∃ r ∈ l, r.x0 = h.x0
  a1 : ∃ r ∈ l, r.y0 = h.y0
  a2 : ∃ r ∈ l, r.x1 = h.x1
  a3 : ∃ r ∈ l, r.y1 = h.y1
  b : ∀ r ∈ l, h.x0 ≤ r.x0 ∧ h.y0 ≤ r.y0 ∧ r.x1 ≤ h.x1 ∧ r.y1 ≤ h.y1
theorem IsHull.step {l : List R4} {h r : R4} (hh : IsHull l h) : IsHull (l ++ [r]) (hullS h r) := by
  obtain ⟨⟨p0, q0, e0⟩, ⟨p1, q1, e1⟩, ⟨p2, q2, e2⟩, ⟨p3, q3, e3⟩, hb⟩ := hh
  refine ⟨?_, ?_, ?_, ?_, ?_⟩
  · by_cases c : h.x0 ≤ r.x0
    · exact ⟨p0, by simp [q0], by simp only [hullS]; omega⟩
    · exact ⟨r, by simp, by simp only [hullS]; omega⟩
  · by_cases c : h.y0 ≤ r.y0
    · exact ⟨p1, by simp [q1], by simp only [hullS]; omega⟩
    · exact ⟨r, by simp, by simp only [hullS]; omega⟩
  · by_cases c : r.x1 ≤ h.x1
    · exact ⟨p2, by simp [q2], by simp only [hullS]; omega⟩
    · exact ⟨r, by simp, by simp only [hullS]; omega⟩
  · by_cases c : r.y1 ≤ h.y1
    · exact ⟨p3, by simp [q3], by simp only [hullS]; omega⟩
    · exact ⟨r, by simp, by simp only [hullS]; omega⟩
  · intro q hq
    rcases List.mem_append.1 hq with hq | hq
    · have := hb q hq
      simp only [hullS]; omega
    · rw [List.mem_singleton] at hq
      subst hq
      simp only [hullS]; omega
theorem IsHull.one (r : R4) : IsHull [r] r := ⟨⟨r, by simp, rfl⟩, ⟨r, by simp, rfl⟩, ⟨r, by simp, rfl⟩, ⟨r, by simp, rfl⟩, by simp⟩
theorem hullS_self (r : R4) : hullS r r = r := by simp [hullS]
theorem hull_from : ∀ (l pre : List R4) (h : R4), IsHull pre h → IsHull (pre ++ l) (l.foldl hullS h)
  | [], pre, h, hh => by simpa using hh
  | r :: l, pre, h, hh => by
    have := hull_from l (pre ++ [r]) (hullS h r) hh.step
    simpa using this
theorem hullL_ok {l : List R4} (h : l ≠ []) : IsHull l (hullL l) := by
  cases l with
  | nil => exact absurd rfl h
  | cons r l =>
    show IsHull _ (l.foldl hullS (hullS r r))
    rw [hullS_self]
    exact hull_from l [r] r (IsHull.one r)
/-- Behind m rectangles; ahead of all, the first one. -/
def hullP (l : List R4) (m : Nat) : R4 := (l.take m).foldl hullS (l.headD ⟨0, 0, 0, 0⟩)
theorem hullP_step {l : List R4} {m : Nat} {r : R4} (h : l[m]? = some r) : hullP l (m + 1) = hullS (hullP l m) r := by
  obtain ⟨hm, hp⟩ := List.getElem?_eq_some_iff.1 h
  unfold hullP
  rw [List.take_succ_eq_append_getElem hm, hp, List.foldl_append]
  rfl
theorem hullP_all {l : List R4} {m : Nat} (hm : l.length ≤ m) : hullP l m = hullL l := by
  unfold hullP
  rw [List.take_of_length_le hm]
  cases l <;> rfl
def hullF (l : List R4) : R4 × Int := if checkF l = 0 then (if l = [] then (⟨0, 0, 0, 0⟩, 6) else (hullL l, 0)) else (⟨0, 0, 0, 0⟩, checkF l)
/-- The least and the greatest cut. -/
theorem srt_ends {l : List Int} {a b : Int} (ha : a ∈ l) (hb : b ∈ l) (h : ∀ x ∈ l, a ≤ x ∧ x ≤ b) : (srt l)[0]? = some a ∧ (srt l)[(srt l).length - 1]? = some b ∧ 0 < (srt l).length := by
  obtain ⟨h1, h2⟩ := srt_ok l
  have ha' := (h2 a).2 ha
  have hb' := (h2 b).2 hb
  have hm : ∀ x ∈ srt l, a ≤ x ∧ x ≤ b := fun x hx => h x ((h2 x).1 hx)
  generalize srt l = s at *
  have hl : 0 < s.length := List.length_pos_of_mem ha'
  have key : ∀ i (hi : i < s.length), (i = 0 → s[i] = a) ∧ (i = s.length - 1 → s[i] = b) := by
    intro i hi
    have hmi := hm s[i] (List.getElem_mem hi)
    obtain ⟨j, hj, ej⟩ := List.getElem_of_mem ha'
    obtain ⟨k, hk, ek⟩ := List.getElem_of_mem hb'
    constructor
    · intro h0
      rcases Nat.lt_trichotomy i j with g | g | g
      · have := List.pairwise_iff_getElem.1 h1 i j hi hj g; omega
      · subst g; exact ej
      · omega
    · intro h0
      rcases Nat.lt_trichotomy i k with g | g | g
      · omega
      · subst g; exact ek
      · have := List.pairwise_iff_getElem.1 h1 k i hk hi g; omega
  exact ⟨by rw [List.getElem?_eq_getElem hl, (key 0 hl).1 rfl], by rw [List.getElem?_eq_getElem (by omega), (key _ (by omega)).2 rfl], hl⟩
theorem hull_cuts {l : List R4} (hne : l ≠ []) (hw : ∀ r ∈ l, wf4 r) : ((srt (cutsL l ++ cutsL []))[0]? = some (hullL l).x0 ∧ (srt (cutsL l ++ cutsL []))[(srt (cutsL l ++ cutsL [])).length - 1]? = some (hullL l).x1 ∧ 0 < (srt (cutsL l ++ cutsL [])).length) ∧
    ((srt (cutsY l ++ cutsY []))[0]? = some (hullL l).y0 ∧ (srt (cutsY l ++ cutsY []))[(srt (cutsY l ++ cutsY [])).length - 1]? = some (hullL l).y1 ∧ 0 < (srt (cutsY l ++ cutsY [])).length) := by
  obtain ⟨⟨p0, q0, e0⟩, ⟨p1, q1, e1⟩, ⟨p2, q2, e2⟩, ⟨p3, q3, e3⟩, hb⟩ := hullL_ok hne
  have hx : cutsL l ++ cutsL [] = cutsL l := by simp [cutsL]
  have hy : cutsY l ++ cutsY [] = cutsY l := by simp [cutsY]
  rw [hx, hy]
  refine ⟨srt_ends (by rw [← e0]; exact (mem_cutsL q0).1) (by rw [← e2]; exact (mem_cutsL q2).2) fun x hx => ?_, srt_ends (by rw [← e1]; exact (mem_cutsY q1).1) (by rw [← e3]; exact (mem_cutsY q3).2) fun x hx => ?_⟩
  · obtain ⟨r, hr, hx⟩ := List.mem_flatMap.1 hx
    have h1 := hb r hr
    have h2 := hw r hr
    unfold wf4 at h2
    simp only [List.mem_cons, List.not_mem_nil, or_false] at hx
    rcases hx with rfl | rfl <;> omega
  · obtain ⟨r, hr, hx⟩ := List.mem_flatMap.1 hx
    have h1 := hb r hr
    have h2 := hw r hr
    unfold wf4 at h2
    simp only [List.mem_cons, List.not_mem_nil, or_false] at hx
    rcases hx with rfl | rfl <;> omega
theorem mv_in {x y : Int} {r : R4} (h : valid4 r) (hm : valid4 (mv x y r)) : inMv x ∧ inMv y := by
  obtain ⟨h1, h2, ⟨a, b⟩, ⟨c, d⟩, ⟨e, f⟩, ⟨g, i⟩⟩ := h
  obtain ⟨h1', h2', ⟨a', b'⟩, ⟨c', d'⟩, ⟨e', f'⟩, ⟨g', i'⟩⟩ := hm
  simp only [mv] at a' b' c' d' e' f' g' i'
  unfold inMv
  omega
theorem flip_make {l : List R4} (h : checkF l = 0) : makeF (l.map flip4) = flipF l := by
  obtain ⟨h1, h2, _⟩ := checkF_ok h
  have hf : flipF l = madeF (l.map flip4) := if_pos h
  rw [hf]
  unfold makeF
  rw [if_neg (by simp; omega)]
  have : (l.map flip4).any (fun r => !decide (valid4 r)) = false := by
    rw [List.any_eq_false]
    intro r hr
    obtain ⟨q, hq, rfl⟩ := List.mem_map.1 hr
    simp [flip_valid (h2 q hq)]
  rw [this]
  rfl
end Go.Proofs.YtpgjfpeepbjflaaGreat

/- Plain law: what makes a list a region; joins of regions are regions; areas count points. -/
namespace Go.Proofs.YtpgjfpeepbjflaaGreat
set_option linter.unusedVariables false
set_option linter.unusedSimpArgs false

theorem can_wf {l : List R4} (h : RCan l) : ∀ r ∈ l, wf4 r := by
  obtain ⟨S, hS, rfl⟩ := h
  intro r hr
  obtain ⟨a, ha, hr⟩ := List.mem_flatMap.1 hr
  obtain ⟨p, hp, rfl⟩ := List.mem_map.1 hr
  have := hS.all a ha
  exact ⟨this.1, this.2.2.1 p hp⟩
/-- A list whose points belong to valid rectangles has valid rectangles. -/
theorem sub_valid {l m : List R4} (hl : ∀ r ∈ l, wf4 r) (hm : ∀ r ∈ m, valid4 r) (h : ∀ x y, pmem l x y → pmem m x y) : ∀ r ∈ l, valid4 r := by
  intro r hr
  obtain ⟨w1, w2⟩ := hl r hr
  obtain ⟨s, hs, h1⟩ := h r.x0 r.y0 ⟨r, hr, by simp only [rin]; omega⟩
  obtain ⟨t, ht, h2⟩ := h (r.x1 - 1) (r.y1 - 1) ⟨r, hr, by simp only [rin]; omega⟩
  have v1 := hm s hs
  have v2 := hm t ht
  simp only [rin, valid4, fineP] at h1 h2 v1 v2 ⊢
  omega
theorem made_self {l : List R4} (hc : RCan l) : rjoin hFst l [] = l :=
  (rjoin_eq (h := hFst) rfl (can_wf hc) (by simp) hc fun x y => by simp [hFst]).symm
theorem can_check {l : List R4} (hc : RCan l) (hv : ∀ r ∈ l, valid4 r) (hn : l.length ≤ 400) : checkF l = 0 := by
  have ha : l.any (fun r => !decide (valid4 r)) = false := by
    rw [List.any_eq_false]
    intro r hr
    simp [hv r hr]
  rw [checkF_valid (by omega) ha, if_pos (made_self hc)]
theorem check_frame {l : List R4} (h : checkF l = 0) {m : Nat} (hm : 1000000 ≤ m) : ∀ r ∈ l, inFr m r := fun r hr => by
  have := (checkF_ok h).2.1 r hr
  simp only [valid4, fineP, inFr] at this ⊢
  omega
theorem join_pts {h : Bool → Bool → Bool} (h0 : h false false = false) {a b : List R4} (ha : checkF a = 0) (hb : checkF b = 0) (x y : Int) : pmem (rjoin h a b) x y ↔ h (decide (pmem a x y)) (decide (pmem b x y)) = true :=
  (rjoin_ok h0 (check_wf ha) (check_wf hb)).2 x y
theorem join_check {h : Bool → Bool → Bool} (h0 : h false false = false) {a b : List R4} (ha : checkF a = 0) (hb : checkF b = 0) (hn : (rjoin h a b).length ≤ 400) : checkF (rjoin h a b) = 0 := by
  have hc := (rjoin_ok h0 (check_wf ha) (check_wf hb)).1
  refine can_check hc (sub_valid (m := a ++ b) (can_wf hc) (fun r hr => ?_) fun x y hx => ?_) hn
  · rcases List.mem_append.1 hr with hr | hr
    · exact (checkF_ok ha).2.1 r hr
    · exact (checkF_ok hb).2.1 r hr
  · rw [join_pts h0 ha hb] at hx
    rw [pmem_append]
    by_cases p1 : pmem a x y
    · exact .inl p1
    · by_cases p2 : pmem b x y
      · exact .inr p2
      · rw [decide_eq_false p1, decide_eq_false p2, h0] at hx; cases hx
theorem joinF_ok {h : Bool → Bool → Bool} {a b : List R4} (ha : checkF a = 0) (hb : checkF b = 0) : joinF h a b = if 400 < (rjoin h a b).length then ([], 4) else (rjoin h a b, 0) := by
  have : bothF a b = 0 := by unfold bothF; rw [if_pos ha]; exact hb
  unfold joinF
  rw [if_pos this]
theorem can_eq {a b : List R4} (ha : checkF a = 0) (hb : checkF b = 0) (h : ∀ x y, pmem a x y ↔ pmem b x y) : a = b := (check_rcan ha).ext (check_rcan hb) h
theorem area_vol {l : List R4} (h : checkF l = 0) {m : Nat} (hm : 1000000 ≤ m) : areaS l = vol m (one l) := by
  have e : vol m (one l) = vol m (cntP l) := vol_congr fun x y _ _ _ _ => (cntP_ind (check_rcan h).apart x y).symm
  rw [e, vol_cntP (check_frame h hm)]
  unfold areaS
  congr 1
  refine List.map_congr_left fun r hr => ?_
  obtain ⟨w1, w2⟩ := check_wf h r hr
  unfold area4 box
  rw [Int.max_eq_right (by omega), Int.max_eq_right (by omega)]
/-- The areas of the union and of the common part. -/
theorem area_sum {a b u c : List R4} (ha : checkF a = 0) (hb : checkF b = 0) (hu : checkF u = 0) (hc : checkF c = 0) (pu : ∀ x y, pmem u x y ↔ pmem a x y ∨ pmem b x y) (pc : ∀ x y, pmem c x y ↔ pmem a x y ∧ pmem b x y) : areaS u + areaS c = areaS a + areaS b := by
  obtain ⟨m, hm⟩ : ∃ m : Nat, m = 1000000 := ⟨_, rfl⟩
  rw [area_vol ha (m := m) (by omega), area_vol hb (m := m) (by omega), area_vol hu (m := m) (by omega), area_vol hc (m := m) (by omega), ← vol_add, ← vol_add]
  refine vol_congr fun x y _ _ _ _ => ?_
  unfold one
  rw [ind_iff (pu x y), ind_iff (pc x y)]
  unfold ind
  by_cases h1 : pmem a x y <;> by_cases h2 : pmem b x y <;> simp [h1, h2]
end Go.Proofs.YtpgjfpeepbjflaaGreat

/- Plain: how many points of a rectangle a canonical region has; the front of a rectangle; what is reached. -/
namespace Go.Proofs.YtpgjfpeepbjflaaGreat
open Go.RowKit
set_option linter.unusedVariables false
set_option linter.unusedSimpArgs false

/-- The points next to a side. -/
def besF (r : R4) (i : Nat) : R4 := match i with
  | 0 => ⟨r.x0 - 1, r.y0, r.x0, r.y1⟩
  | 1 => ⟨r.x1, r.y0, r.x1 + 1, r.y1⟩
  | 2 => ⟨r.x0, r.y0 - 1, r.x1, r.y0⟩
  | _ => ⟨r.x0, r.y1, r.x1, r.y1 + 1⟩
def onQ (r q : R4) : Int := if 0 < min r.x1 q.x1 - max r.x0 q.x0 ∧ 0 < min r.y1 q.y1 - max r.y0 q.y0 then (min r.x1 q.x1 - max r.x0 q.x0) * (min r.y1 q.y1 - max r.y0 q.y0) else 0
def onF (r : R4) (s : List R4) : Int := (s.map (onQ r)).sum
def arQ (r : R4) : Int := (r.x1 - r.x0) * (r.y1 - r.y0)
def bitF (r : R4) (s : List R4) (i : Nat) : Bool := decide (onF (besF r i) s = arQ (besF r i))
def frF (r : R4) (s : List R4) : Int := (if bitF r s 0 = true then 1 else 0) + (if bitF r s 1 = true then 2 else 0) + (if bitF r s 2 = true then 4 else 0) + (if bitF r s 3 = true then 8 else 0)
theorem onQ_box (r q : R4) : onQ r q = box (meet4 r q) := by
  unfold onQ box meet4
  simp only
  by_cases h : 0 < min r.x1 q.x1 - max r.x0 q.x0 ∧ 0 < min r.y1 q.y1 - max r.y0 q.y0
  · rw [if_pos h, show max 0 (min r.x1 q.x1 - max r.x0 q.x0) = min r.x1 q.x1 - max r.x0 q.x0 by omega, show max 0 (min r.y1 q.y1 - max r.y0 q.y0) = min r.y1 q.y1 - max r.y0 q.y0 by omega]
  · rw [if_neg h]
    by_cases h1 : 0 < min r.x1 q.x1 - max r.x0 q.x0
    · rw [show max 0 (min r.y1 q.y1 - max r.y0 q.y0) = 0 by omega, Int.mul_zero]
    · rw [show max 0 (min r.x1 q.x1 - max r.x0 q.x0) = 0 by omega, Int.zero_mul]
theorem bes_wf {r : R4} (h : wf4 r) (i : Nat) : wf4 (besF r i) := by
  obtain ⟨h1, h2⟩ := h
  unfold besF wf4
  split <;> (simp only; omega)
theorem bes_fr {m : Nat} {r : R4} (h : inFr m r) (i : Nat) (hw : wf4 r) : inFr (m + 1) (besF r i) := by
  obtain ⟨h1, h2⟩ := hw
  unfold besF inFr at *
  split <;> (simp only; omega)
theorem onF_vol {m : Nat} {r : R4} {s : List R4} (hr : inFr m r) (hs : s.Pairwise apart4) : onF r s = vol m (fun x y => ind (rin r x y) * one s x y) := by
  have e : onF r s = (s.map fun q => box (meet4 r q)).sum := by
    unfold onF
    congr 1
    exact List.map_congr_left fun q _ => onQ_box r q
  rw [e, ← vol_rect_cnt hr]
  exact vol_congr fun x y _ _ _ _ => by rw [cntP_ind hs]; rfl
theorem arQ_box {r : R4} (h : wf4 r) : arQ r = box r := by
  unfold arQ box
  obtain ⟨h1, h2⟩ := h
  rw [Int.max_eq_right (by omega), Int.max_eq_right (by omega)]
theorem arQ_vol {m : Nat} {r : R4} (hr : inFr m r) (h : wf4 r) : arQ r = vol m (fun x y => ind (rin r x y)) := by
  obtain ⟨h1, h2, h3, h4⟩ := hr
  rw [arQ_box h, vol_rect h1 h2 h3 h4]
/-- What the reference counts. -/
theorem on_ref {m : Nat} {r : R4} {s : List R4} (hr : inFr m r) (hw : wf4 r) (hs : RCan s) (hf : ∀ q ∈ s, inFr m q) : ((rjoin hAnd [r] s).map arQ).sum = onF r s := by
  have h1 : ∀ q ∈ [r], wf4 q := fun q hq => by rw [List.mem_singleton] at hq; subst hq; exact hw
  obtain ⟨hc, hp⟩ := rjoin_ok (h := hAnd) rfl h1 (can_wf hs)
  have hin : ∀ q ∈ rjoin hAnd [r] s, inFr m q := fun q hq => by
    have hq' := can_wf hc q hq
    have a1 : pmem (rjoin hAnd [r] s) q.x0 q.y0 := ⟨q, hq, by unfold rin; unfold wf4 at hq'; omega⟩
    have a2 : pmem (rjoin hAnd [r] s) (q.x1 - 1) (q.y1 - 1) := ⟨q, hq, by unfold rin; unfold wf4 at hq'; omega⟩
    rw [hp] at a1 a2
    simp only [hAnd, Bool.and_eq_true, decide_eq_true_eq] at a1 a2
    obtain ⟨⟨p, hp1, hp2⟩, _⟩ := a1
    obtain ⟨⟨p', hp1', hp2'⟩, _⟩ := a2
    rw [List.mem_singleton] at hp1 hp1'
    subst hp1; subst hp1'
    unfold rin at hp2 hp2'
    unfold inFr at hr ⊢
    omega
  have e : ((rjoin hAnd [r] s).map arQ).sum = ((rjoin hAnd [r] s).map box).sum := by
    congr 1
    exact List.map_congr_left fun q hq => arQ_box (can_wf hc q hq)
  rw [e, ← vol_cntP hin, onF_vol hr hs.apart]
  refine vol_congr fun x y _ _ _ _ => ?_
  rw [cntP_ind hc.apart]
  unfold one
  rw [← ind_and]
  refine ind_iff ?_
  rw [hp]
  simp [hAnd, pmem]
  intro _
  exact decide_eq_true_iff
theorem sumZ_all {f : Int → Int} {lo : Int} : ∀ {n : Nat}, (∀ i, lo ≤ i → i < lo + n → 0 ≤ f i) → sumZ f lo n = 0 → ∀ i, lo ≤ i → i < lo + n → f i = 0
  | 0, _, _, i, a, b => by omega
  | n + 1, h, e, i, a, b => by
    have h0 := sumZ_nonneg (f := f) (lo := lo) (n := n) fun i a b => h i a (by omega)
    have h1 := h (lo + n) (by omega) (by omega)
    have e' : sumZ f lo n + f (lo + n) = 0 := e
    by_cases hi : i < lo + n
    · exact sumZ_all (fun i a b => h i a (by omega)) (by omega) i a hi
    · have : i = lo + n := by omega
      subst this
      omega
theorem vol_all {m : Nat} {f : Int → Int → Int} (h : ∀ x y, 0 ≤ f x y) (e : vol m f = 0) : ∀ x y, -(m : Int) ≤ x → x < m → -(m : Int) ≤ y → y < m → f x y = 0 := fun x y a b c d =>
  sumZ_all (fun j _ _ => h x j) (sumZ_all (fun i _ _ => sumZ_nonneg fun j _ _ => h i j) e x a (by omega)) y c (by omega)
/-- A rectangle is full exactly if the region has all its points. -/
theorem full_iff {m : Nat} {r : R4} {s : List R4} (hr : inFr m r) (hw : wf4 r) (hs : s.Pairwise apart4) : onF r s = arQ r ↔ ∀ x y, rin r x y → pmem s x y := by
  rw [onF_vol hr hs, arQ_vol hr hw]
  constructor
  · intro e x y hx
    have e' : vol m (fun x y => ind (rin r x y) - ind (rin r x y) * one s x y) = 0 := by rw [vol_sub, e]; omega
    have hz := vol_all (m := m) (fun x y => by
      rcases one_01 s x y with h | h <;> rcases ind_01 (rin r x y) with g | g <;> simp [h, g]) e' x y (by unfold inFr at hr; unfold rin at hx; omega) (by unfold inFr at hr; unfold rin at hx; omega) (by unfold inFr at hr; unfold rin at hx; omega) (by unfold inFr at hr; unfold rin at hx; omega)
    rw [ind_t hx] at hz
    by_cases hp : pmem s x y
    · exact hp
    · have : one s x y = 0 := ind_f hp
      rw [this] at hz
      omega
  · intro h
    refine vol_congr fun x y _ _ _ _ => ?_
    by_cases hx : rin r x y
    · have : one s x y = 1 := ind_t (h x y hx)
      rw [this, Int.mul_one]
    · rw [ind_f hx, Int.zero_mul]
theorem onQ_bd (r q : R4) (h1 : r.x1 - r.x0 ≤ 2000000) (h2 : r.y1 - r.y0 ≤ 2000000) : 0 ≤ onQ r q ∧ onQ r q ≤ 4000000000000 := by
  unfold onQ
  split
  · rename_i h
    obtain ⟨a, b⟩ := h
    refine ⟨Int.mul_nonneg (by omega) (by omega), ?_⟩
    have := Int.mul_le_mul (show min r.x1 q.x1 - max r.x0 q.x0 ≤ 2000000 by omega) (show min r.y1 q.y1 - max r.y0 q.y0 ≤ 2000000 by omega) (by omega) (by omega)
    omega
  · omega
theorem onF_bd {r : R4} (h1 : r.x1 - r.x0 ≤ 2000000) (h2 : r.y1 - r.y0 ≤ 2000000) : ∀ (s : List R4), 0 ≤ onF r s ∧ onF r s ≤ 4000000000000 * s.length
  | [] => by simp [onF]
  | q :: s => by
    have := onF_bd h1 h2 s
    have hq := onQ_bd r q h1 h2
    simp only [onF, List.map_cons, List.sum_cons, List.length_cons] at this ⊢
    omega
/-- What is reached: over the sides of a front. -/
def rchF (l : Lot5) (s : List R4) : Int := (if hasS l.f 1 = true then onF (besF l.r 0) s else 0) + (if hasS l.f 2 = true then onF (besF l.r 1) s else 0) + (if hasS l.f 4 = true then onF (besF l.r 2) s else 0) + (if hasS l.f 8 = true then onF (besF l.r 3) s else 0)
theorem bits4 : ∀ a b c d : Bool, let f : Int := (if a = true then 1 else 0) + (if b = true then 2 else 0) + (if c = true then 4 else 0) + (if d = true then 8 else 0)
    hasS f 1 = a ∧ hasS f 2 = b ∧ hasS f 4 = c ∧ hasS f 8 = d ∧ 0 ≤ f ∧ f ≤ 15 := by decide
theorem fr_has (r : R4) (s : List R4) : hasS (frF r s) 1 = bitF r s 0 ∧ hasS (frF r s) 2 = bitF r s 1 ∧ hasS (frF r s) 4 = bitF r s 2 ∧ hasS (frF r s) 8 = bitF r s 3 ∧ 0 ≤ frF r s ∧ frF r s ≤ 15 := bits4 _ _ _ _
theorem onF_take {r q : R4} {s : List R4} {m : Nat} (h : s[m]? = some q) : onF r (s.take (m + 1)) = onF r (s.take m) + onQ r q := by
  unfold onF
  rw [List.take_add_one, h, List.map_append, List.sum_append]
  simp
end Go.Proofs.YtpgjfpeepbjflaaGreat

/- Plain: the height of a roof: the square that fits, and the distance from what is missing. -/
namespace Go.Proofs.YtpgjfpeepbjflaaGreat
open Go.RowKit
set_option linter.unusedVariables false
set_option linter.unusedSimpArgs false

def dbl (r : R4) : R4 := ⟨2 * r.x0, 2 * r.y0, 2 * r.x1, 2 * r.y1⟩
def sqr (x y d : Int) : R4 := ⟨x - d, y - d, x + d, y + d⟩
/-- The covered area, by twice the coordinates. -/
def covF (l : List R4) (x y d : Int) : Int := onF (sqr x y d) (l.map dbl)
def notF (l : List R4) (x y : Int) (i : Nat) : Bool := decide (covF l x y ((i : Int) + 1) < 2 * ((i : Int) + 1) * (2 * ((i : Int) + 1)))
def heightF (l : List R4) (x y : Int) : Nat := (List.range 2000001).countP fun i => !notF l x y i
def cellM (l : List R4) (p q : Int × Int) : Option R4 := if pmem l p.1 q.1 then none else some ⟨p.1, q.1, p.2, q.2⟩
def colM (l : List R4) (ys : List Int) (p : Int × Int) : List R4 := (prs ys).filterMap (cellM l p)
def ringM (a b c d : Int) : List R4 := [⟨-4000000, -4000000, a, 4000000⟩, ⟨c, -4000000, 4000000, 4000000⟩, ⟨-4000000, -4000000, 4000000, b⟩, ⟨-4000000, d, 4000000, 4000000⟩]
def missG (l : List R4) (xs ys : List Int) : List R4 := if xs.length = 0 then [⟨-4000000, -4000000, 4000000, 4000000⟩] else
  (prs xs).flatMap (colM l ys) ++ ringM (xs.getD 0 0) (ys.getD 0 0) (xs.getD (xs.length - 1) 0) (ys.getD (ys.length - 1) 0)
def missF (l : List R4) : List R4 := missG l (srt (cutsL l)) (srt (cutsY l))
def highQ (m : R4) (x y : Int) : Int := max (max (max (max 0 (2 * m.x0 - x)) (x - 2 * m.x1)) (2 * m.y0 - y)) (y - 2 * m.y1)
def highF (ms : List R4) (x y : Int) : Int := ms.foldl (fun b m => min b (highQ m x y)) 8000000
theorem high_from (x y d : Int) : ∀ (ms : List R4) (b : Int), ms.foldl (fun b m => min b (highQ m x y)) b ≤ d ↔ b ≤ d ∨ ∃ m ∈ ms, highQ m x y ≤ d
  | [], b => by simp
  | m :: ms, b => by
    rw [List.foldl_cons, high_from x y d ms]
    simp only [List.mem_cons]
    constructor
    · rintro (h | ⟨q, hq, h⟩)
      · by_cases hb : b ≤ d
        · exact .inl hb
        · exact .inr ⟨m, .inl rfl, by omega⟩
      · exact .inr ⟨q, .inr hq, h⟩
    · rintro (h | ⟨q, rfl | hq, h⟩)
      · exact .inl (by omega)
      · exact .inl (by omega)
      · exact .inr ⟨q, hq, h⟩
theorem high_le {ms : List R4} {x y d : Int} (hd : d < 8000000) : highF ms x y ≤ d ↔ ∃ m ∈ ms, highQ m x y ≤ d := by
  unfold highF
  rw [high_from]
  constructor
  · rintro (h | h)
    · omega
    · exact h
  · exact .inr
theorem high_nn (x y : Int) : ∀ (ms : List R4) (b : Int), 0 ≤ b → 0 ≤ ms.foldl (fun b m => min b (highQ m x y)) b
  | [], b, h => h
  | m :: ms, b, h => by
    rw [List.foldl_cons]
    refine high_nn x y ms _ ?_
    have : 0 ≤ highQ m x y := by unfold highQ; omega
    omega
theorem high_bd (x y : Int) : ∀ (ms : List R4) (b : Int), ms.foldl (fun b m => min b (highQ m x y)) b ≤ b
  | [], b => Int.le_refl _
  | m :: ms, b => by
    rw [List.foldl_cons]
    have := high_bd x y ms (min b (highQ m x y))
    omega
/-- A strictly ordered list's pairs hold every number between its ends. -/
theorem prs_at : ∀ (cs : List Int), cs.Pairwise (· < ·) → ∀ x : Int, 0 < cs.length → cs.getD 0 0 ≤ x → x < cs.getD (cs.length - 1) 0 → ∃ p ∈ prs cs, p.1 ≤ x ∧ x < p.2
  | [], _, _, h, _, _ => absurd h (by simp)
  | [a], _, x, _, h1, h2 => by simp at h1 h2; omega
  | a :: b :: cs, hs, x, _, h1, h2 => by
    by_cases hb : x < b
    · exact ⟨(a, b), by simp [prs], by simpa using h1, hb⟩
    · obtain ⟨p, hp, h⟩ := prs_at (b :: cs) (List.pairwise_cons.1 hs).2 x (by simp) (by simp; omega) (by simpa using h2)
      exact ⟨p, by simp only [prs, List.mem_cons]; exact .inr hp, h⟩
theorem prs_gap2 : ∀ {cs : List Int}, cs.Pairwise (· < ·) → ∀ p ∈ prs cs, p.1 < p.2 ∧ p.1 ∈ cs ∧ p.2 ∈ cs ∧ ∀ e ∈ cs, e ≤ p.1 ∨ p.2 ≤ e
  | [], _, p, hp => by simp [prs] at hp
  | [a], _, p, hp => by simp [prs] at hp
  | a :: b :: cs, hs, p, hp => by
    obtain ⟨h1, h2⟩ := List.pairwise_cons.1 hs
    simp only [prs, List.mem_cons] at hp
    rcases hp with rfl | hp
    · refine ⟨h1 b (by simp), by simp, by simp, fun e he => ?_⟩
      rcases List.mem_cons.1 he with rfl | he
      · exact .inl (Int.le_refl _)
      · right
        rcases List.mem_cons.1 he with rfl | he
        · exact Int.le_refl _
        · exact Int.le_of_lt ((List.pairwise_cons.1 h2).1 e he)
    · obtain ⟨g1, g2, g3, g4⟩ := prs_gap2 h2 p (by simpa [prs] using hp)
      refine ⟨g1, List.mem_cons_of_mem _ g2, List.mem_cons_of_mem _ g3, fun e he => ?_⟩
      rcases List.mem_cons.1 he with rfl | he
      · exact .inl (Int.le_of_lt (h1 p.1 g2))
      · exact g4 e he
theorem pmem_sameX {l : List R4} {cs : List Int} (hcs : ∀ c ∈ cutsL l, c ∈ cs) {c d x y : Int} (hgap : ∀ e ∈ cs, e ≤ c ∨ d ≤ e) (h1 : c ≤ x) (h2 : x < d) : pmem l x y ↔ pmem l c y := by
  unfold pmem
  refine exists_congr fun r => and_congr_right fun hr => ?_
  obtain ⟨m1, m2⟩ := mem_cutsL hr
  have := hgap _ (hcs _ m1)
  have := hgap _ (hcs _ m2)
  unfold rin
  omega
theorem srt_get {l : List Int} {x : Int} (h : x ∈ l) : 0 < (srt l).length ∧ (srt l).getD 0 0 ≤ x ∧ x ≤ (srt l).getD ((srt l).length - 1) 0 := by
  obtain ⟨h1, h2⟩ := srt_ok l
  have hm := (h2 x).2 h
  obtain ⟨i, hi, rfl⟩ := List.getElem_of_mem hm
  have hs := List.pairwise_iff_getElem.1 h1
  refine ⟨by omega, ?_, ?_⟩
  · rw [List.getD_eq_getElem?_getD, List.getElem?_eq_getElem (by omega), Option.getD_some]
    rcases Nat.eq_zero_or_pos i with e | e
    · subst e; exact Int.le_refl _
    · exact Int.le_of_lt (hs 0 i (by omega) hi e)
  · rw [List.getD_eq_getElem?_getD, List.getElem?_eq_getElem (by omega), Option.getD_some]
    rcases Nat.lt_or_ge i ((srt l).length - 1) with e | e
    · exact Int.le_of_lt (hs i _ hi (by omega) e)
    · have : i = (srt l).length - 1 := by omega
      subst this
      exact Int.le_refl _
theorem srt_rim {l : List Int} (h : 0 < (srt l).length) : (srt l).getD 0 0 ∈ l ∧ (srt l).getD ((srt l).length - 1) 0 ∈ l := by
  have h2 := (srt_ok l).2
  refine ⟨(h2 _).1 ?_, (h2 _).1 ?_⟩
  · rw [List.getD_eq_getElem?_getD, List.getElem?_eq_getElem h, Option.getD_some]; exact List.getElem_mem _
  · rw [List.getD_eq_getElem?_getD, List.getElem?_eq_getElem (by omega), Option.getD_some]; exact List.getElem_mem _
theorem cut_bd {l : List R4} (hv : ∀ r ∈ l, valid4 r) : (∀ c ∈ cutsL l, -1000000 ≤ c ∧ c ≤ 1000000) ∧ (∀ c ∈ cutsY l, -1000000 ≤ c ∧ c ≤ 1000000) := by
  constructor
  · intro c hc
    obtain ⟨r, hr, hm⟩ := List.mem_flatMap.1 hc
    obtain ⟨_, _, h1, h2, h3, h4⟩ := hv r hr
    simp only [fineP] at h1 h2 h3 h4
    simp only [List.mem_cons, List.not_mem_nil, or_false] at hm
    rcases hm with rfl | rfl <;> omega
  · intro c hc
    obtain ⟨r, hr, hm⟩ := List.mem_flatMap.1 hc
    obtain ⟨_, _, h1, h2, h3, h4⟩ := hv r hr
    simp only [fineP] at h1 h2 h3 h4
    simp only [List.mem_cons, List.not_mem_nil, or_false] at hm
    rcases hm with rfl | rfl <;> omega
theorem len_cuts {l : List R4} (h : l ≠ []) : 0 < (srt (cutsL l)).length ∧ 0 < (srt (cutsY l)).length := by
  obtain ⟨r, hr⟩ := List.exists_mem_of_ne_nil l h
  exact ⟨(srt_get (mem_cutsL hr).1).1, (srt_get (mem_cutsY hr).1).1⟩
/-- What is missing has exactly the points that the region has not. -/
theorem cover_miss {l : List R4} (hv : ∀ r ∈ l, valid4 r) {X Y : Int} (hX : -4000000 ≤ X ∧ X < 4000000) (hY : -4000000 ≤ Y ∧ Y < 4000000) : pmem (missF l) X Y ↔ ¬ pmem l X Y := by
  unfold missF missG
  by_cases hl : l = []
  · subst hl
    have e : (srt (cutsL [])).length = 0 := by decide
    rw [if_pos e]
    refine ⟨fun _ => pmem_nil, fun _ => ⟨_, List.mem_singleton.2 rfl, ?_⟩⟩
    unfold rin
    simp only
    omega
  · obtain ⟨nx, ny⟩ := len_cuts hl
    rw [if_neg (by omega)]
    obtain ⟨sx, mx⟩ := srt_ok (cutsL l)
    obtain ⟨sy, my⟩ := srt_ok (cutsY l)
    obtain ⟨bx, bY⟩ := cut_bd hv
    constructor
    · rintro ⟨m, hm, hin⟩ hp
      rw [List.mem_append] at hm
      rcases hm with hm | hm
      · obtain ⟨p, hp1, hm⟩ := List.mem_flatMap.1 hm
        obtain ⟨q, hq1, hm⟩ := List.mem_filterMap.1 hm
        obtain ⟨_, _, _, g1⟩ := prs_gap2 sx p hp1
        obtain ⟨_, _, _, g2⟩ := prs_gap2 sy q hq1
        unfold cellM at hm
        split at hm
        · cases hm
        · rename_i hno
          simp only [Option.some.injEq] at hm
          subst hm
          unfold rin at hin
          simp only at hin
          rw [pmem_sameX (fun c hc => (mx c).2 hc) g1 hin.1 hin.2.1, pmem_sameY (fun c hc => (my c).2 hc) g2 hin.2.2.1 hin.2.2.2] at hp
          exact hno hp
      · obtain ⟨r, hr, hp⟩ := hp
        obtain ⟨a1, a2⟩ := mem_cutsL hr
        obtain ⟨a3, a4⟩ := mem_cutsY hr
        have b1 := srt_get a1
        have b2 := srt_get a2
        have b3 := srt_get a3
        have b4 := srt_get a4
        unfold ringM at hm
        simp only [List.mem_cons, List.not_mem_nil, or_false] at hm
        unfold rin at hin hp
        rcases hm with rfl | rfl | rfl | rfl <;> simp only at hin <;> omega
    · intro hno
      by_cases h1 : X < (srt (cutsL l)).getD 0 0
      · exact ⟨_, List.mem_append.2 (.inr (by unfold ringM; exact List.mem_cons_self)), by unfold rin; simp only; omega⟩
      by_cases h2 : (srt (cutsL l)).getD ((srt (cutsL l)).length - 1) 0 ≤ X
      · exact ⟨_, List.mem_append.2 (.inr (by unfold ringM; exact List.mem_cons_of_mem _ List.mem_cons_self)), by unfold rin; simp only; omega⟩
      by_cases h3 : Y < (srt (cutsY l)).getD 0 0
      · exact ⟨_, List.mem_append.2 (.inr (by unfold ringM; exact List.mem_cons_of_mem _ (List.mem_cons_of_mem _ List.mem_cons_self))), by unfold rin; simp only; omega⟩
      by_cases h4 : (srt (cutsY l)).getD ((srt (cutsY l)).length - 1) 0 ≤ Y
      · exact ⟨_, List.mem_append.2 (.inr (by unfold ringM; exact List.mem_cons_of_mem _ (List.mem_cons_of_mem _ (List.mem_cons_of_mem _ List.mem_cons_self)))), by unfold rin; simp only; omega⟩
      obtain ⟨p, hp, p1, p2⟩ := prs_at _ sx X nx (by omega) (by omega)
      obtain ⟨q, hq, q1, q2⟩ := prs_at _ sy Y ny (by omega) (by omega)
      obtain ⟨_, _, _, g1⟩ := prs_gap2 sx p hp
      obtain ⟨_, _, _, g2⟩ := prs_gap2 sy q hq
      rw [pmem_sameX (fun c hc => (mx c).2 hc) g1 p1 p2, pmem_sameY (fun c hc => (my c).2 hc) g2 q1 q2] at hno
      refine ⟨⟨p.1, q.1, p.2, q.2⟩, List.mem_append.2 (.inl (List.mem_flatMap.2 ⟨p, hp, List.mem_filterMap.2 ⟨q, hq, ?_⟩⟩)), ⟨p1, p2, q1, q2⟩⟩
      unfold cellM
      rw [if_neg hno]
theorem wf_miss {l : List R4} (hv : ∀ r ∈ l, valid4 r) : ∀ m ∈ missF l, (m.x0 < m.x1 ∧ m.y0 < m.y1) ∧ -4000000 ≤ m.x0 ∧ m.x1 ≤ 4000000 ∧ -4000000 ≤ m.y0 ∧ m.y1 ≤ 4000000 := by
  intro m hm
  unfold missF missG at hm
  by_cases hl : l = []
  · subst hl
    have e : (srt (cutsL [])).length = 0 := by decide
    rw [if_pos e, List.mem_singleton] at hm
    subst hm
    simp
  · obtain ⟨nx, ny⟩ := len_cuts hl
    rw [if_neg (by omega), List.mem_append] at hm
    obtain ⟨bx, bY⟩ := cut_bd hv
    rcases hm with hm | hm
    · obtain ⟨p, hp1, hm⟩ := List.mem_flatMap.1 hm
      obtain ⟨q, hq1, hm⟩ := List.mem_filterMap.1 hm
      obtain ⟨sx, mx⟩ := srt_ok (cutsL l)
      obtain ⟨sy, my⟩ := srt_ok (cutsY l)
      obtain ⟨a1, a2, a3, _⟩ := prs_gap2 sx p hp1
      obtain ⟨b1, b2, b3, _⟩ := prs_gap2 sy q hq1
      have := bx _ ((mx _).1 a2)
      have := bx _ ((mx _).1 a3)
      have := bY _ ((my _).1 b2)
      have := bY _ ((my _).1 b3)
      unfold cellM at hm
      split at hm
      · cases hm
      · simp only [Option.some.injEq] at hm
        subst hm
        simp only
        omega
    · obtain ⟨e1, e2⟩ := srt_rim nx
      obtain ⟨e3, e4⟩ := srt_rim ny
      have := bx _ e1
      have := bx _ e2
      have := bY _ e3
      have := bY _ e4
      unfold ringM at hm
      simp only [List.mem_cons, List.not_mem_nil, or_false] at hm
      rcases hm with rfl | rfl | rfl | rfl <;> simp only <;> omega
theorem rin_dbl (r : R4) (X Y : Int) : rin (dbl r) X Y ↔ rin r (X / 2) (Y / 2) := by
  unfold rin dbl
  simp only
  omega
theorem pmem_dbl (l : List R4) (X Y : Int) : pmem (l.map dbl) X Y ↔ pmem l (X / 2) (Y / 2) := by
  unfold pmem
  constructor
  · rintro ⟨z, hz, h⟩
    obtain ⟨r, hr, rfl⟩ := List.mem_map.1 hz
    exact ⟨r, hr, (rin_dbl r X Y).1 h⟩
  · rintro ⟨r, hr, h⟩
    exact ⟨dbl r, List.mem_map_of_mem hr, (rin_dbl r X Y).2 h⟩
theorem apart_dbl {l : List R4} (h : l.Pairwise apart4) : (l.map dbl).Pairwise apart4 := by
  rw [List.pairwise_map]
  refine h.imp fun {a b} hab X Y hh => hab (X / 2) (Y / 2) ⟨(rin_dbl a X Y).1 hh.1, (rin_dbl b X Y).1 hh.2⟩
theorem onF_le {m : Nat} {r : R4} {s : List R4} (hr : inFr m r) (hw : wf4 r) (hs : s.Pairwise apart4) : onF r s ≤ arQ r := by
  have e1 := onF_vol hr hs
  have e2 := arQ_vol hr hw
  have e3 : 0 ≤ vol m (fun x y => ind (rin r x y) - ind (rin r x y) * one s x y) := sumZ_nonneg fun i _ _ => sumZ_nonneg fun j _ _ => by
    rcases one_01 s i j with h | h <;> rcases ind_01 (rin r i j) with g | g <;> simp [h, g]
  rw [vol_sub] at e3
  omega
theorem not_iff {l : List R4} (hv : ∀ r ∈ l, valid4 r) (hs : l.Pairwise apart4) {x y : Int} (hx : -2000001 ≤ x ∧ x ≤ 2000001) (hy : -2000001 ≤ y ∧ y ≤ 2000001) {d : Nat} (hd : d ≤ 2000000) :
    notF l x y d = true ↔ ∃ m ∈ missF l, highQ m x y ≤ d := by
  have hw : wf4 (sqr x y ((d : Int) + 1)) := by unfold wf4 sqr; simp only; omega
  have hf : inFr 5000000 (sqr x y ((d : Int) + 1)) := by unfold inFr sqr; simp only; omega
  have ha : arQ (sqr x y ((d : Int) + 1)) = 2 * ((d : Int) + 1) * (2 * ((d : Int) + 1)) := by
    unfold arQ sqr
    simp only
    rw [show x + ((d : Int) + 1) - (x - ((d : Int) + 1)) = 2 * ((d : Int) + 1) by omega, show y + ((d : Int) + 1) - (y - ((d : Int) + 1)) = 2 * ((d : Int) + 1) by omega]
  have hle := onF_le hf hw (apart_dbl hs)
  have hfull := full_iff hf hw (apart_dbl hs)
  unfold notF covF
  rw [decide_eq_true_eq, ← ha]
  constructor
  · intro hlt
    have hne : ¬ ∀ X Y, rin (sqr x y ((d : Int) + 1)) X Y → pmem (l.map dbl) X Y := fun h => by
      have := hfull.2 h
      omega
    rw [Classical.not_forall] at hne
    obtain ⟨X, hne⟩ := hne
    rw [Classical.not_forall] at hne
    obtain ⟨Y, hne⟩ := hne
    rw [Classical.not_imp] at hne
    obtain ⟨hin, hno⟩ := hne
    rw [pmem_dbl] at hno
    unfold rin sqr at hin
    simp only at hin
    obtain ⟨m, hm, hmin⟩ := (cover_miss hv (X := X / 2) (Y := Y / 2) (by omega) (by omega)).2 hno
    refine ⟨m, hm, ?_⟩
    unfold rin at hmin
    unfold highQ
    omega
  · rintro ⟨m, hm, hq⟩
    obtain ⟨⟨w1, w2⟩, w3, w4, w5, w6⟩ := wf_miss hv m hm
    unfold highQ at hq
    have hno : ¬ ∀ X Y, rin (sqr x y ((d : Int) + 1)) X Y → pmem (l.map dbl) X Y := fun h => by
      have hp := h (max (2 * m.x0) (x - d - 1)) (max (2 * m.y0) (y - d - 1)) (by unfold rin sqr; simp only; omega)
      rw [pmem_dbl] at hp
      exact (cover_miss hv (by omega) (by omega)).1 ⟨m, hm, by unfold rin; omega⟩ hp
    rw [← hfull] at hno
    omega
theorem count_lt (K : Nat) : ∀ N, (List.range N).countP (fun i => decide (i < K)) = min N K
  | 0 => by simp
  | N + 1 => by
    rw [List.range_succ, List.countP_append, count_lt K N, List.countP_singleton]
    by_cases h : N < K
    · rw [decide_eq_true h]; simp; omega
    · rw [decide_eq_false h]; simp; omega
theorem high_top {l : List R4} (hv : ∀ r ∈ l, valid4 r) {x y : Int} (hx : -2000001 ≤ x ∧ x ≤ 2000001) (hy : -2000001 ≤ y ∧ y ≤ 2000001) : highF (missF l) x y ≤ 2000000 := by
  rw [high_le (by omega)]
  unfold missF missG
  by_cases hl : l = []
  · subst hl
    have e : (srt (cutsL [])).length = 0 := by decide
    rw [if_pos e]
    exact ⟨_, List.mem_singleton.2 rfl, by unfold highQ; simp only; omega⟩
  · obtain ⟨nx, ny⟩ := len_cuts hl
    rw [if_neg (by omega)]
    obtain ⟨bx, bY⟩ := cut_bd hv
    obtain ⟨e1, e2⟩ := srt_rim nx
    have b1 := bx _ e1
    have b2 := bx _ e2
    have b3 := (srt_get e2).2.1
    by_cases h : x ≤ (srt (cutsL l)).getD 0 0 + (srt (cutsL l)).getD ((srt (cutsL l)).length - 1) 0
    · exact ⟨_, List.mem_append.2 (.inr (by unfold ringM; exact List.mem_cons_self)), by unfold highQ; simp only; omega⟩
    · exact ⟨_, List.mem_append.2 (.inr (by unfold ringM; exact List.mem_cons_of_mem _ List.mem_cons_self)), by unfold highQ; simp only; omega⟩
/-- The height of the square that fits is the distance from what is missing. -/
theorem height_eq {l : List R4} (hc : checkF l = 0) {x y : Int} (hx : -2000001 ≤ x ∧ x ≤ 2000001) (hy : -2000001 ≤ y ∧ y ≤ 2000001) : ((heightF l x y : Nat) : Int) = highF (missF l) x y := by
  have hv := (checkF_ok hc).2.1
  have hs := (check_rcan hc).apart
  have htop := high_top hv hx hy
  have hnn : 0 ≤ highF (missF l) x y := high_nn x y _ _ (by omega)
  have e : (List.range 2000001).countP (fun i => !notF l x y i) = (List.range 2000001).countP (fun i => decide (i < (highF (missF l) x y).toNat)) := by
    refine List.countP_congr fun i hi => ?_
    have hi' : i < 2000001 := List.mem_range.1 hi
    have := not_iff hv hs hx hy (d := i) (by omega)
    rw [← high_le (by omega)] at this
    cases hn : notF l x y i
    · rw [hn] at this
      simp only [Bool.false_eq_true, false_iff] at this
      simp
      omega
    · rw [hn] at this
      simp only [true_iff] at this
      simp
      omega
  unfold heightF
  rw [e, count_lt]
  omega
theorem not_mono {l : List R4} (hc : checkF l = 0) {x y : Int} (hx : -2000001 ≤ x ∧ x ≤ 2000001) (hy : -2000001 ≤ y ∧ y ≤ 2000001) : ∀ a b, a ≤ b → b < 2000001 → notF l x y a = true → notF l x y b = true := by
  have hv := (checkF_ok hc).2.1
  have hs := (check_rcan hc).apart
  intro a b hab hb h
  obtain ⟨m, hm, h⟩ := (not_iff hv hs hx hy (by omega)).1 h
  exact (not_iff hv hs hx hy (by omega)).2 ⟨m, hm, by omega⟩
end Go.Proofs.YtpgjfpeepbjflaaGreat

/- Plain: growing and shrinking of regions. -/
namespace Go.Proofs.YtpgjfpeepbjflaaGreat
set_option linter.unusedVariables false
set_option linter.unusedSimpArgs false

def growR (d : Int) (r : R4) : R4 := ⟨r.x0 - d, r.y0 - d, r.x1 + d, r.y1 + d⟩
/-- All points of the square of a point. -/
def full (l : List R4) (d x y : Int) : Prop := ∀ u v, x - d ≤ u → u ≤ x + d → y - d ≤ v → v ≤ y + d → pmem l u v
def near (l : List R4) (d x y : Int) : Prop := ∃ u v, x - d ≤ u ∧ u ≤ x + d ∧ y - d ≤ v ∧ v ≤ y + d ∧ pmem l u v
theorem rin_grow {r : R4} (hw : wf4 r) {d : Int} (hd : 0 ≤ d) (x y : Int) : rin (growR d r) x y ↔ ∃ u v, x - d ≤ u ∧ u ≤ x + d ∧ y - d ≤ v ∧ v ≤ y + d ∧ rin r u v := by
  obtain ⟨h1, h2⟩ := hw
  unfold rin growR
  constructor
  · rintro ⟨a, b, c, e⟩
    simp only at a b c e
    exact ⟨max r.x0 (min x (r.x1 - 1)), max r.y0 (min y (r.y1 - 1)), by omega, by omega, by omega, by omega, by omega, by omega, by omega, by omega⟩
  · rintro ⟨u, v, a, b, c, e, f, g, i, j⟩
    simp only
    omega
theorem near_grow {l : List R4} (hw : ∀ r ∈ l, wf4 r) {d : Int} (hd : 0 ≤ d) (x y : Int) : near l d x y ↔ pmem (l.map (growR d)) x y := by
  unfold near pmem
  constructor
  · rintro ⟨u, v, a, b, c, e, r, hr, h⟩
    exact ⟨growR d r, List.mem_map_of_mem hr, (rin_grow (hw r hr) hd x y).2 ⟨u, v, a, b, c, e, h⟩⟩
  · rintro ⟨z, hz, h⟩
    obtain ⟨r, hr, rfl⟩ := List.mem_map.1 hz
    obtain ⟨u, v, a, b, c, e, h⟩ := (rin_grow (hw r hr) hd x y).1 h
    exact ⟨u, v, a, b, c, e, r, hr, h⟩
theorem grow_wf {r : R4} (h : wf4 r) {d : Int} (hd : 0 ≤ d) : wf4 (growR d r) := by
  unfold wf4 growR at *
  simp only
  omega
/-! ### The rectangles of the hull that a region does not have -/
def Nx (p q : R4) : Prop := (p.x0 = q.x0 ∧ p.x1 = q.x1 ∧ p.y1 < q.y0) ∨ p.x1 ≤ q.x0
def CHN : List R4 → Prop
  | [] => True
  | [_] => True
  | a :: b :: r => Nx a b ∧ CHN (b :: r)
theorem CHN.tail {a : R4} : ∀ {l : List R4}, CHN (a :: l) → CHN l
  | [], _ => trivial
  | _ :: _, h => h.2
theorem CHN.append : ∀ {A B : List R4}, CHN A → CHN B → (∀ a b, A.getLast? = some a → B.head? = some b → Nx a b) → CHN (A ++ B)
  | [], B, _, hB, _ => hB
  | [a], [], _, _, _ => trivial
  | [a], b :: B, _, hB, h => ⟨h a b rfl rfl, hB⟩
  | a :: c :: A, B, hA, hB, h => ⟨hA.1, CHN.append (A := c :: A) hA.2 hB fun x y hx hy => h x y (by simpa using hx) hy⟩
theorem chn_flat1 {f t : Int} : ∀ {s : List Sp}, SCan s → CHN (s.map fun p => (⟨f, p.1, t, p.2⟩ : R4))
  | [], _ => trivial
  | [_], _ => trivial
  | p :: q :: s, h => ⟨.inl ⟨rfl, rfl, (List.pairwise_cons.1 h.2).1 q (by simp)⟩, chn_flat1 h.tail⟩
theorem chn_flat : ∀ {S : List Slab}, SOK S → CHN (flat S)
  | [], _ => trivial
  | a :: S, h => by
    have e : flat (a :: S) = flat1 a ++ flat S := by simp [flat]
    rw [e]
    refine CHN.append (chn_flat1 h.head.2.2) (chn_flat h.tail) fun p q hp hq => .inr ?_
    have hp' := List.mem_of_getLast? hp
    have hq' : q ∈ flat S := by
      cases hS : flat S with
      | nil => rw [hS] at hq; cases hq
      | cons z l => rw [hS] at hq; simp at hq; subst hq; simp
    unfold flat1 at hp'
    obtain ⟨u, _, rfl⟩ := List.mem_map.1 hp'
    unfold flat at hq'
    obtain ⟨b, hb, hq2⟩ := List.mem_flatMap.1 hq'
    unfold flat1 at hq2
    obtain ⟨v, _, rfl⟩ := List.mem_map.1 hq2
    exact h.after b hb
theorem chn_can {l : List R4} (h : RCan l) : CHN l := by
  obtain ⟨S, hS, rfl⟩ := h
  exact chn_flat hS
/-- A rectangle, unless it is empty. -/
def nz (z : R4) : List R4 := if z.x0 < z.x1 ∧ z.y0 < z.y1 then [z] else []
theorem pmem_nz (z : R4) (x y : Int) : pmem (nz z) x y ↔ rin z x y := by
  unfold nz
  split
  · simp [pmem]
  · rename_i h
    unfold pmem rin
    simp
    omega
def gapX (h : R4) : Option R4 → R4 → List R4
  | none, _ => []
  | some p, x => if p.x0 = x.x0 then [] else nz ⟨p.x1, h.y0, x.x0, h.y1⟩
def lowY (h : R4) : Option R4 → R4 → Int
  | none, _ => h.y0
  | some p, x => if p.x0 = x.x0 then p.y1 else h.y0
def topY (h : R4) (x : R4) : Option R4 → List R4
  | none => nz ⟨x.x0, x.y1, x.x1, h.y1⟩
  | some q => if q.x0 = x.x0 then [] else nz ⟨x.x0, x.y1, x.x1, h.y1⟩
def missAt (h : R4) (p : Option R4) (x : R4) (q : Option R4) : List R4 := gapX h p x ++ (nz ⟨x.x0, lowY h p x, x.x1, x.y0⟩ ++ topY h x q)
def missL (h : R4) : Option R4 → List R4 → List R4
  | _, [] => []
  | p, x :: r => missAt h p x r.head? ++ missL h (some x) r
/-- Where the points behind a rectangle lie. -/
theorem chn_behind {q : R4} : ∀ {r : List R4}, CHN (q :: r) → (∀ z ∈ q :: r, wf4 z) → ∀ {x y : Int}, pmem r x y → (q.x0 ≤ x ∧ x < q.x1 ∧ q.y1 < y ∧ ∃ z, r.head? = some z ∧ z.x0 = q.x0) ∨ q.x1 ≤ x
  | [], _, _, x, y, h => (pmem_nil h).elim
  | z :: r, hc, hw, x, y, h => by
    have hz := hw z (by simp)
    have hq := hw q (by simp)
    unfold wf4 at hz hq
    have hn := hc.1
    unfold Nx at hn
    rcases pmem_cons.1 h with h | h
    · unfold rin at h
      rcases hn with hn | hn
      · exact .inl ⟨by omega, by omega, by omega, z, rfl, by omega⟩
      · exact .inr (by omega)
    · rcases chn_behind hc.tail (fun w hw' => hw w (List.mem_cons_of_mem _ hw')) h with ⟨a, b, c, _⟩ | a
      · rcases hn with hn | hn
        · exact .inl ⟨by omega, by omega, by omega, z, rfl, by omega⟩
        · exact .inr (by omega)
      · rcases hn with hn | hn
        · exact .inr (by omega)
        · exact .inr (by omega)
/-- What is missing behind a rectangle. -/
theorem miss_behind {h : R4} : ∀ {r : List R4} {p : R4}, CHN (p :: r) → (∀ z ∈ p :: r, wf4 z) → (∀ z ∈ p :: r, h.y0 ≤ z.y0 ∧ z.y1 ≤ h.y1) → ∀ x y : Int,
    (pmem (missL h (some p) r) x y ↔ h.y0 ≤ y ∧ y < h.y1 ∧ ¬ pmem r x y ∧ (∃ z ∈ r, x < z.x1) ∧ ((p.x0 ≤ x ∧ x < p.x1 ∧ p.y1 ≤ y ∧ ∃ z, r.head? = some z ∧ z.x0 = p.x0) ∨ p.x1 ≤ x))
  | [], p, _, _, _, x, y => by simp [missL, pmem]
  | q :: r, p, hc, hw, hh, x, y => by
    have ih := miss_behind (h := h) (r := r) (p := q) hc.tail (fun z hz => hw z (List.mem_cons_of_mem _ hz)) (fun z hz => hh z (List.mem_cons_of_mem _ hz)) x y
    have hb : pmem r x y → _ := chn_behind hc.tail (fun z hz => hw z (List.mem_cons_of_mem _ hz)) (x := x) (y := y)
    have hp := hw p (by simp)
    have hq := hw q (by simp)
    have hq2 := hh q (by simp)
    have hp2 := hh p (by simp)
    have hn := hc.1
    unfold Nx at hn
    unfold wf4 at hp hq
    show pmem (missAt h (some p) q r.head? ++ missL h (some q) r) x y ↔ _
    unfold missAt
    rw [pmem_append, pmem_append, pmem_append, pmem_nz, ih]
    have e1 : (∃ z ∈ q :: r, x < z.x1) ↔ x < q.x1 ∨ ∃ z ∈ r, x < z.x1 := by simp
    have e2 : pmem (q :: r) x y ↔ rin q x y ∨ pmem r x y := pmem_cons
    have e3 : (∃ z, (q :: r).head? = some z ∧ z.x0 = p.x0) ↔ q.x0 = p.x0 := by simp
    rw [e1, e2, e3]
    have g1 : pmem (gapX h (some p) q) x y ↔ p.x0 ≠ q.x0 ∧ p.x1 ≤ x ∧ x < q.x0 ∧ h.y0 ≤ y ∧ y < h.y1 := by
      show pmem (if p.x0 = q.x0 then [] else nz ⟨p.x1, h.y0, q.x0, h.y1⟩) x y ↔ _
      split
      · rename_i e; simp [pmem, e]
      · rename_i e; rw [pmem_nz]; unfold rin; simp only; omega
    have g2 : lowY h (some p) q = if p.x0 = q.x0 then p.y1 else h.y0 := rfl
    have g3 : pmem (topY h q r.head?) x y ↔ (¬ ∃ z, r.head? = some z ∧ z.x0 = q.x0) ∧ q.x0 ≤ x ∧ x < q.x1 ∧ q.y1 ≤ y ∧ y < h.y1 := by
      cases hr : r.head? with
      | none => unfold topY; rw [pmem_nz]; unfold rin; simp
      | some z =>
        unfold topY
        simp only
        split
        · rename_i e; simp [pmem, e]
        · rename_i e; rw [pmem_nz]; unfold rin; simp [e]
    rw [g1, g2, g3]
    have hend : (∃ z, r.head? = some z ∧ z.x0 = q.x0) → ∃ z ∈ r, x < q.x1 → x < z.x1 := by
      rintro ⟨z, hz, hzx⟩
      cases r with
      | nil => cases hz
      | cons w r =>
        simp at hz
        subst hz
        have := hc.2.1
        unfold Nx at this
        have hw' := hw w (by simp)
        unfold wf4 at hw'
        exact ⟨w, by simp, fun _ => by omega⟩
    generalize (∃ z, r.head? = some z ∧ z.x0 = q.x0) = S at *
    generalize hE : (∃ z ∈ r, x < z.x1) = E at *
    have hend2 : S → x < q.x1 → E := fun s hx => by
      obtain ⟨z, hz, hzx⟩ := hend s
      rw [← hE]
      exact ⟨z, hz, hzx hx⟩
    generalize pmem r x y = M at *
    unfold rin
    simp only
    clear ih e1 e2 e3 g1 g2 g3 hend hE hc hw hh
    by_cases hS : S <;> by_cases hEE : E <;> by_cases hM : M <;> by_cases hpq : p.x0 = q.x0 <;> simp only [hS, hEE, hM, hpq, if_true, if_false, not_true, not_false_iff, true_and, and_true, false_and, and_false, or_false, false_or, true_or, or_true, ne_eq, true_implies, false_implies, iff_false, imp_false, implies_true] at hb hend2 ⊢ <;> omega
/-- **The hull's missing rectangles have just the hull's points that the region does not have.** -/
theorem miss_cover {l : List R4} (hc : RCan l) (hne : l ≠ []) {h : R4} (hh : IsHull l h) (x y : Int) : pmem (missL h none l) x y ↔ rin h x y ∧ ¬ pmem l x y := by
  cases l with
  | nil => exact absurd rfl hne
  | cons q r =>
    have hch := chn_can hc
    have hw := can_wf hc
    have hb : pmem r x y → _ := chn_behind hch hw (x := x) (y := y)
    have ih := miss_behind (h := h) hch hw (fun z hz => ⟨(hh.b z hz).2.1, (hh.b z hz).2.2.2⟩) x y
    have hq := hw q (by simp)
    have hq2 := hh.b q (by simp)
    unfold wf4 at hq
    have hx0 : h.x0 = q.x0 := by
      obtain ⟨z, hz, e⟩ := hh.a0
      have h1 := hq2.1
      have h2 : q.x0 ≤ z.x0 := by
        rcases List.mem_cons.1 hz with rfl | hz'
        · exact Int.le_refl _
        · have hzw := hw z hz
          unfold wf4 at hzw
          have := chn_behind hch hw (x := z.x0) (y := z.y0) ⟨z, hz', by unfold rin; omega⟩
          rcases this with ⟨a, _⟩ | a <;> omega
      omega
    have hx1 : x < h.x1 ↔ x < q.x1 ∨ ∃ z ∈ r, x < z.x1 := by
      constructor
      · intro hx
        obtain ⟨z, hz, e⟩ := hh.a2
        rcases List.mem_cons.1 hz with rfl | hz'
        · exact .inl (by omega)
        · exact .inr ⟨z, hz', by omega⟩
      · rintro (hx | ⟨z, hz, hx⟩)
        · omega
        · have := hh.b z (List.mem_cons_of_mem _ hz); omega
    have hend : (∃ z, r.head? = some z ∧ z.x0 = q.x0) → ∃ z ∈ r, x < q.x1 → x < z.x1 := by
      rintro ⟨z, hz, hzx⟩
      cases r with
      | nil => cases hz
      | cons w r =>
        simp at hz
        subst hz
        have := hch.1
        unfold Nx at this
        have hw' := hw w (by simp)
        unfold wf4 at hw'
        exact ⟨w, by simp, fun _ => by omega⟩
    show pmem (missAt h none q r.head? ++ missL h (some q) r) x y ↔ _
    unfold missAt
    rw [pmem_append, pmem_append, pmem_append, pmem_nz, ih]
    have e2 : pmem (q :: r) x y ↔ rin q x y ∨ pmem r x y := pmem_cons
    have g1 : pmem (gapX h none q) x y ↔ False := by simp [gapX, pmem]
    have g2 : lowY h none q = h.y0 := rfl
    have g3 : pmem (topY h q r.head?) x y ↔ (¬ ∃ z, r.head? = some z ∧ z.x0 = q.x0) ∧ q.x0 ≤ x ∧ x < q.x1 ∧ q.y1 ≤ y ∧ y < h.y1 := by
      cases hr : r.head? with
      | none => unfold topY; rw [pmem_nz]; unfold rin; simp
      | some z =>
        unfold topY
        simp only
        split
        · rename_i e; simp [pmem, e]
        · rename_i e; rw [pmem_nz]; unfold rin; simp [e]
    rw [e2, g1, g2, g3]
    have e4 : rin h x y ↔ h.x0 ≤ x ∧ (x < q.x1 ∨ ∃ z ∈ r, x < z.x1) ∧ h.y0 ≤ y ∧ y < h.y1 := by unfold rin; rw [hx1]
    rw [e4]
    generalize (∃ z, r.head? = some z ∧ z.x0 = q.x0) = S at *
    generalize hE : (∃ z ∈ r, x < z.x1) = E at *
    have hend2 : S → x < q.x1 → E := fun s hx => by
      obtain ⟨z, hz, hzx⟩ := hend s
      rw [← hE]
      exact ⟨z, hz, hzx hx⟩
    generalize pmem r x y = M at *
    unfold rin
    simp only
    clear ih e2 g1 g2 g3 e4 hend hE hch hw hh hx1 hne hc
    by_cases hS : S <;> by_cases hEE : E <;> by_cases hM : M <;> simp only [hS, hEE, hM, not_true, not_false_iff, true_and, and_true, false_and, and_false, or_false, false_or, true_or, or_true, true_implies, false_implies, iff_false, imp_false, implies_true] at hb hend2 ⊢ <;> omega
end Go.Proofs.YtpgjfpeepbjflaaGreat

/- Plain: what growing and shrinking give, in the code's way and in the reference's. -/
namespace Go.Proofs.YtpgjfpeepbjflaaGreat
set_option linter.unusedVariables false
set_option linter.unusedSimpArgs false

theorem nz_ok {z w : R4} (h : w ∈ nz z) : w = z ∧ wf4 z := by
  unfold nz at h
  split at h
  · rename_i g
    rw [List.mem_singleton] at h
    exact ⟨h, g⟩
  · cases h
theorem miss_all {h : R4} {C D : List Int} (h0 : h.y0 ∈ D) (h1 : h.y1 ∈ D) : ∀ {l : List R4} {p : Option R4}, (∀ q, p = some q → q.x1 ∈ C ∧ q.y1 ∈ D) → (∀ z ∈ l, z.x0 ∈ C ∧ z.x1 ∈ C ∧ z.y0 ∈ D ∧ z.y1 ∈ D) →
    ∀ z ∈ missL h p l, wf4 z ∧ z.x0 ∈ C ∧ z.x1 ∈ C ∧ z.y0 ∈ D ∧ z.y1 ∈ D
  | [], p, _, _, z, hz => by cases hz
  | x :: l, p, hp, hl, z, hz => by
    obtain ⟨a, b, c, e⟩ := hl x (by simp)
    have hz' : z ∈ missAt h p x l.head? ++ missL h (some x) l := hz
    rcases List.mem_append.1 hz' with hz | hz
    · unfold missAt at hz
      rcases List.mem_append.1 hz with hz | hz
      · cases p with
        | none => cases hz
        | some q =>
          obtain ⟨q1, q2⟩ := hp q rfl
          have hz2 : z ∈ if q.x0 = x.x0 then [] else nz ⟨q.x1, h.y0, x.x0, h.y1⟩ := hz
          split at hz2
          · cases hz2
          · obtain ⟨rfl, hw⟩ := nz_ok hz2
            exact ⟨hw, q1, a, h0, h1⟩
      · rcases List.mem_append.1 hz with hz | hz
        · obtain ⟨rfl, hw⟩ := nz_ok hz
          refine ⟨hw, a, b, ?_, c⟩
          show lowY h p x ∈ D
          cases p with
          | none => exact h0
          | some q =>
            show (if q.x0 = x.x0 then q.y1 else h.y0) ∈ D
            split
            · exact (hp q rfl).2
            · exact h0
        · have k : z ∈ nz ⟨x.x0, x.y1, x.x1, h.y1⟩ → wf4 z ∧ z.x0 ∈ C ∧ z.x1 ∈ C ∧ z.y0 ∈ D ∧ z.y1 ∈ D := fun hz => by
            obtain ⟨rfl, hw⟩ := nz_ok hz
            exact ⟨hw, a, b, e, h1⟩
          cases hq : l.head? with
          | none => rw [hq] at hz; exact k hz
          | some q =>
            rw [hq] at hz
            have hz2 : z ∈ if q.x0 = x.x0 then [] else nz ⟨x.x0, x.y1, x.x1, h.y1⟩ := hz
            split at hz2
            · cases hz2
            · exact k hz2
    · exact miss_all h0 h1 (fun q hq => by cases hq; exact ⟨b, e⟩) (fun w hw => hl w (List.mem_cons_of_mem _ hw)) z hz
theorem miss_ok {l : List R4} {h : R4} (hh : IsHull l h) : ∀ z ∈ missL h none l, wf4 z ∧ z.x0 ∈ cutsL l ∧ z.x1 ∈ cutsL l ∧ z.y0 ∈ cutsY l ∧ z.y1 ∈ cutsY l := by
  obtain ⟨r1, m1, e1⟩ := hh.a1
  obtain ⟨r3, m3, e3⟩ := hh.a3
  exact miss_all (e1 ▸ (mem_cutsY m1).1) (e3 ▸ (mem_cutsY m3).2) (fun q hq => by cases hq) fun z hz => ⟨(mem_cutsL hz).1, (mem_cutsL hz).2, (mem_cutsY hz).1, (mem_cutsY hz).2⟩
/-- **All points of the square belong to a region exactly if it lies in the hull and no missing rectangle is near.** -/
theorem full_miss {l : List R4} (hc : RCan l) (hne : l ≠ []) {h : R4} (hh : IsHull l h) {d : Int} (hd : 0 ≤ d) (x y : Int) : full l d x y ↔ rin (growR (-d) h) x y ∧ ¬ pmem ((missL h none l).map (growR d)) x y := by
  have hm := miss_cover hc hne hh
  have hin : ∀ u v, pmem l u v → rin h u v := fun u v ⟨r, hr, hin⟩ => by
    have := hh.b r hr
    unfold rin at *
    omega
  rw [← near_grow (fun z hz => (miss_ok hh z hz).1) hd]
  constructor
  · intro hf
    have a := hin _ _ (hf (x - d) (y - d) (by omega) (by omega) (by omega) (by omega))
    have b := hin _ _ (hf (x + d) (y + d) (by omega) (by omega) (by omega) (by omega))
    refine ⟨by unfold rin growR at *; simp only at *; omega, ?_⟩
    rintro ⟨u, v, h1, h2, h3, h4, hp⟩
    exact ((hm u v).1 hp).2 (hf u v h1 h2 h3 h4)
  · rintro ⟨a, b⟩ u v h1 h2 h3 h4
    by_cases hp : pmem l u v
    · exact hp
    · exact absurd ⟨u, v, h1, h2, h3, h4, (hm u v).2 ⟨by unfold rin growR at *; simp only at *; omega, hp⟩⟩ b
def growL (l : List R4) (d : Int) : List R4 := rjoin hSub (l.map (growR d)) []
theorem grow_ok {l : List R4} (hw : ∀ r ∈ l, wf4 r) {d : Int} (hd : 0 ≤ d) : RCan (growL l d) ∧ ∀ x y, pmem (growL l d) x y ↔ near l d x y := by
  have hg : ∀ r ∈ l.map (growR d), wf4 r := fun r hr => by
    obtain ⟨q, hq, rfl⟩ := List.mem_map.1 hr
    exact grow_wf (hw q hq) hd
  obtain ⟨h1, h2⟩ := rjoin_ok (h := hSub) rfl hg (b := []) (by simp)
  refine ⟨h1, fun x y => ?_⟩
  rw [growL, h2, near_grow hw hd]
  simp only [hSub, Bool.and_eq_true, Bool.not_eq_true', decide_eq_true_eq, decide_eq_false_iff_not]
  exact ⟨fun h => h.1, fun h => ⟨h, pmem_nil⟩⟩
/-- The holes, cut to the frame in x. -/
def outX (k z : R4) : Bool := decide (z.x1 ≤ k.x0) || decide (k.x1 ≤ z.x0)
def clip1 (k z : R4) : R4 := ⟨max z.x0 k.x0, z.y0, min z.x1 k.x1, z.y1⟩
def clipH (k : R4) (L : List R4) : List R4 := (L.filter fun z => !outX k z).map (clip1 k)
theorem clip_wf {k : R4} (hk : k.x0 < k.x1) {L : List R4} (hL : ∀ z ∈ L, wf4 z) : ∀ z ∈ clipH k L, wf4 z := fun z hz => by
  unfold clipH at hz
  obtain ⟨q, hq, rfl⟩ := List.mem_map.1 hz
  obtain ⟨h1, h2⟩ := List.mem_filter.1 hq
  have := hL q h1
  unfold outX at h2
  simp at h2
  unfold wf4 clip1 at *
  simp only
  omega
theorem clip_in {k : R4} {L : List R4} {x y : Int} (h : rin k x y) : pmem (clipH k L) x y ↔ pmem L x y := by
  unfold pmem clipH
  constructor
  · rintro ⟨z, hz, hr⟩
    obtain ⟨q, hq, rfl⟩ := List.mem_map.1 hz
    obtain ⟨h1, h2⟩ := List.mem_filter.1 hq
    refine ⟨q, h1, ?_⟩
    unfold rin clip1 at *
    simp only at hr
    omega
  · rintro ⟨q, hq, hr⟩
    refine ⟨clip1 k q, List.mem_map_of_mem (List.mem_filter.2 ⟨hq, ?_⟩), ?_⟩
    · unfold rin at *
      unfold outX
      simp
      omega
    · unfold rin clip1 at *
      simp only
      omega
def shrR (l : List R4) (d : Int) : List R4 := if l = [] then [] else if (growR (-d) (hullL l)).x1 ≤ (growR (-d) (hullL l)).x0 ∨ (growR (-d) (hullL l)).y1 ≤ (growR (-d) (hullL l)).y0 then []
  else rjoin hSub [growR (-d) (hullL l)] (clipH (growR (-d) (hullL l)) ((missL (hullL l) none l).map (growR d)))
theorem shr_ok {l : List R4} (hc : RCan l) {d : Int} (hd : 0 ≤ d) : RCan (shrR l d) ∧ ∀ x y, pmem (shrR l d) x y ↔ full l d x y := by
  unfold shrR
  split
  · rename_i hl
    subst hl
    refine ⟨RCan.nil, fun x y => ⟨fun h => (pmem_nil h).elim, fun h => ?_⟩⟩
    exact h x y (by omega) (by omega) (by omega) (by omega)
  · rename_i hne
    have hh := hullL_ok hne
    generalize hullL l = h at *
    have hf := full_miss hc hne hh hd
    split
    · rename_i he
      refine ⟨RCan.nil, fun x y => ⟨fun h => (pmem_nil h).elim, fun h => ?_⟩⟩
      have := ((hf x y).1 h).1
      unfold rin at this
      omega
    · rename_i he
      have hk : ∀ z ∈ [growR (-d) h], wf4 z := fun z hz => by
        rw [List.mem_singleton] at hz
        subst hz
        unfold wf4
        omega
      have hcl := clip_wf (k := growR (-d) h) (by omega) (L := (missL h none l).map (growR d)) fun z hz => by
        obtain ⟨q, hq, rfl⟩ := List.mem_map.1 hz
        exact grow_wf (miss_ok hh q hq).1 hd
      obtain ⟨h1, h2⟩ := rjoin_ok (h := hSub) rfl hk hcl
      refine ⟨h1, fun x y => ?_⟩
      rw [h2, hf]
      have e : pmem [growR (-d) h] x y ↔ rin (growR (-d) h) x y := by simp [pmem]
      simp only [hSub, Bool.and_eq_true, Bool.not_eq_true', decide_eq_true_eq, decide_eq_false_iff_not, e]
      constructor
      · rintro ⟨a, b⟩
        exact ⟨a, fun g => b ((clip_in a).2 g)⟩
      · rintro ⟨a, b⟩
        exact ⟨a, fun g => b ((clip_in a).1 g)⟩
/-! ### The reference's grid -/
def arnd (cs : List Int) (d : Int) : List Int := cs.flatMap fun c => [c - d, c + d]
theorem mem_arnd {cs : List Int} {c d : Int} (h : c ∈ cs) : c - d ∈ arnd cs d ∧ c + d ∈ arnd cs d := by
  unfold arnd
  exact ⟨List.mem_flatMap.2 ⟨c, h, by simp⟩, List.mem_flatMap.2 ⟨c, h, by simp⟩⟩
def colG (ys : List Int) (p : Int → Int → Bool) (q : Int × Int) : List R4 := (canF ys (ys.map (p q.1))).map fun s => ⟨q.1, s.1, q.2, s.2⟩
def gridL (xs ys : List Int) (p : Int → Int → Bool) : List R4 := (prs xs).flatMap (colG ys p)
theorem grid_ok {H : Int → Int → Prop} {p : Int → Int → Bool} {xs ys : List Int} (hx : xs.Pairwise (· < ·)) (hy : ys.Pairwise (· < ·)) (hp : ∀ x y, p x y = true ↔ H x y)
    (hX : ∀ c d x y, (∀ e ∈ xs, e ≤ c ∨ d ≤ e) → c ≤ x → x < d → (H x y ↔ H c y)) (hY : ∀ c d x y, (∀ e ∈ ys, e ≤ c ∨ d ≤ e) → c ≤ y → y < d → (H x y ↔ H x c))
    (hXo : ∀ x y, (∀ c ∈ xs, c ≤ x) ∨ (∀ c ∈ xs, x < c) → ¬ H x y) (hYo : ∀ x y, (∀ c ∈ ys, c ≤ y) ∨ (∀ c ∈ ys, y < c) → ¬ H x y) :
    (∀ r ∈ gridL xs ys p, wf4 r) ∧ ∀ x y, pmem (gridL xs ys p) x y ↔ H x y := by
  have hc : ∀ x, SCan (canF ys (ys.map (p x))) ∧ ∀ y, smem (canF ys (ys.map (p x))) y ↔ H x y := fun x =>
    canF_ok (H := H x) hy (fun c d y _ _ _ hg h1 h2 => by rw [hp]; exact hY c d x y hg h1 h2) (fun y h => hYo x y (.inl h)) (fun y h => hYo x y (.inr h))
  constructor
  · intro r hr
    obtain ⟨q, hq, hr⟩ := List.mem_flatMap.1 hr
    unfold colG at hr
    obtain ⟨s, hs, rfl⟩ := List.mem_map.1 hr
    exact ⟨(prs_gap2 hx q hq).1, (hc q.1).1.1 s hs⟩
  · intro x y
    constructor
    · rintro ⟨r, hr, hin⟩
      obtain ⟨q, hq, hr⟩ := List.mem_flatMap.1 hr
      unfold colG at hr
      obtain ⟨s, hs, rfl⟩ := List.mem_map.1 hr
      obtain ⟨g1, _, _, g4⟩ := prs_gap2 hx q hq
      unfold rin at hin
      simp only at hin
      rw [hX q.1 q.2 x y g4 hin.1 hin.2.1, ← (hc q.1).2]
      exact ⟨s, hs, hin.2.2.1, hin.2.2.2⟩
    · intro h
      have h1 : ¬ ((∀ c ∈ xs, c ≤ x) ∨ (∀ c ∈ xs, x < c)) := fun g => hXo x y g h
      have hlen : 0 < xs.length := by
        rcases Nat.eq_zero_or_pos xs.length with e | e
        · have := List.eq_nil_of_length_eq_zero e
          subst this
          exact absurd (.inl (by simp)) h1
        · exact e
      have hlo : xs.getD 0 0 ≤ x := by
        refine Classical.byContradiction fun g => h1 (.inr fun c hcm => ?_)
        cases xs with
        | nil => cases hcm
        | cons a r =>
          simp at g
          rcases List.mem_cons.1 hcm with rfl | hcm
          · exact g
          · have := (List.pairwise_cons.1 hx).1 c hcm; omega
      have hhi : x < xs.getD (xs.length - 1) 0 := by
        refine Classical.byContradiction fun g => h1 (.inl fun c hcm => ?_)
        obtain ⟨i, hi, rfl⟩ := List.getElem_of_mem hcm
        rw [List.getD_eq_getElem?_getD, List.getElem?_eq_getElem (by omega)] at g
        simp at g
        rcases Nat.lt_or_ge i (xs.length - 1) with hlt | hge
        · have := (List.pairwise_iff_getElem.1 hx) i (xs.length - 1) hi (by omega) hlt
          omega
        · have : i = xs.length - 1 := by omega
          subst this
          omega
      obtain ⟨q, hq, q1, q2⟩ := prs_at xs hx x hlen hlo hhi
      obtain ⟨g1, _, _, g4⟩ := prs_gap2 hx q hq
      have := (hX q.1 q.2 x y g4 q1 q2).1 h
      rw [← (hc q.1).2] at this
      obtain ⟨s, hs, s1, s2⟩ := this
      exact ⟨⟨q.1, s.1, q.2, s.2⟩, List.mem_flatMap.2 ⟨q, hq, List.mem_map_of_mem hs⟩, q1, q2, s1, s2⟩
/-! ### Points counted in squares -/
def sqP (x y d : Int) : R4 := ⟨x - d, y - d, x + d + 1, y + d + 1⟩
def cntF (l : List R4) (x y d : Int) : Int := onF (sqP x y d) l
def areaD (d : Int) : Int := (2 * d + 1) * (2 * d + 1)
theorem sqP_fr (x y : Int) {d : Int} (hd : 0 ≤ d) : inFr (x.natAbs + y.natAbs + d.toNat + 1) (sqP x y d) ∧ wf4 (sqP x y d) := by
  unfold inFr wf4 sqP
  simp only
  omega
theorem sqP_in (x y d u v : Int) : rin (sqP x y d) u v ↔ x - d ≤ u ∧ u ≤ x + d ∧ y - d ≤ v ∧ v ≤ y + d := by
  unfold rin sqP
  simp only
  omega
theorem sqP_area (x y d : Int) : arQ (sqP x y d) = areaD d := by
  unfold arQ sqP areaD
  simp only
  rw [show x + d + 1 - (x - d) = 2 * d + 1 by omega, show y + d + 1 - (y - d) = 2 * d + 1 by omega]
theorem cnt_full {l : List R4} (hs : l.Pairwise apart4) {d : Int} (hd : 0 ≤ d) (x y : Int) : cntF l x y d = areaD d ↔ full l d x y := by
  obtain ⟨h1, h2⟩ := sqP_fr x y hd
  rw [← sqP_area x y d, cntF, full_iff h1 h2 hs]
  unfold full
  constructor
  · intro h u v a b c e
    exact h u v ((sqP_in x y d u v).2 ⟨a, b, c, e⟩)
  · intro h u v g
    obtain ⟨a, b, c, e⟩ := (sqP_in x y d u v).1 g
    exact h u v a b c e
theorem cnt_bd {l : List R4} (hs : l.Pairwise apart4) {d : Int} (hd : 0 ≤ d) (x y : Int) : 0 ≤ cntF l x y d ∧ cntF l x y d ≤ areaD d := by
  obtain ⟨h1, h2⟩ := sqP_fr x y hd
  refine ⟨?_, by rw [← sqP_area x y d]; exact onF_le h1 h2 hs⟩
  rw [cntF, onF_vol h1 hs]
  refine sumZ_nonneg fun i _ _ => sumZ_nonneg fun j _ _ => ?_
  rcases one_01 l i j with h | h <;> rcases ind_01 (rin (sqP x y d) i j) with g | g <;> simp [h, g]
theorem cnt_nearP {l : List R4} (hs : l.Pairwise apart4) {d : Int} (hd : 0 ≤ d) (x y : Int) : 1 ≤ cntF l x y d ↔ near l d x y := by
  obtain ⟨h1, h2⟩ := sqP_fr x y hd
  have hb := (cnt_bd hs hd x y).1
  have hnn : ∀ i j, 0 ≤ ind (rin (sqP x y d) i j) * one l i j := fun i j => by
    rcases one_01 l i j with h | h <;> rcases ind_01 (rin (sqP x y d) i j) with g | g <;> simp [h, g]
  have hv : cntF l x y d = vol _ (fun i j => ind (rin (sqP x y d) i j) * one l i j) := onF_vol h1 hs
  unfold near
  constructor
  · intro h
    refine Classical.byContradiction fun hn => ?_
    have : vol (x.natAbs + y.natAbs + d.toNat + 1) (fun i j => ind (rin (sqP x y d) i j) * one l i j) = 0 := by
      have e : vol (x.natAbs + y.natAbs + d.toNat + 1) (fun i j => ind (rin (sqP x y d) i j) * one l i j) = vol (x.natAbs + y.natAbs + d.toNat + 1) (fun _ _ => ind False) := by
        refine vol_congr fun i j _ _ _ _ => ?_
        by_cases hr : rin (sqP x y d) i j
        · have : one l i j = 0 := ind_f (fun hp => hn (by
            obtain ⟨a, b, c, e⟩ := (sqP_in x y d i j).1 hr
            exact ⟨i, j, a, b, c, e, hp⟩))
          rw [this, Int.mul_zero, ind_f (fun h => h)]
        · rw [ind_f hr, Int.zero_mul, ind_f (fun h => h)]
      rw [e]
      have e2 : vol (x.natAbs + y.natAbs + d.toNat + 1) (fun _ _ => ind False) = vol (x.natAbs + y.natAbs + d.toNat + 1) (fun _ _ => ind False - ind False) := vol_congr fun _ _ _ _ _ _ => by rw [ind_f (fun h => h)]; rfl
      rw [e2, vol_sub]
      omega
    omega
  · rintro ⟨u, v, a, b, c, e, hp⟩
    refine Classical.byContradiction fun hn => ?_
    have h0 : cntF l x y d = 0 := by omega
    rw [hv] at h0
    have hr : rin (sqP x y d) u v := (sqP_in x y d u v).2 ⟨a, b, c, e⟩
    have := vol_all hnn h0 u v (by unfold inFr at h1; unfold rin at hr; omega) (by unfold inFr at h1; unfold rin at hr; omega) (by unfold inFr at h1; unfold rin at hr; omega) (by unfold inFr at h1; unfold rin at hr; omega)
    rw [ind_t hr, show one l u v = 1 from ind_t hp] at this
    omega
/-- The reference's region. -/
def refGrid (l : List R4) (d low high : Int) : List R4 :=
  gridL (srt (arnd (srt (cutsL l ++ cutsL [])) d)) (srt (arnd (srt (cutsY l ++ cutsY [])) d)) fun x y => decide (low ≤ cntF l x y d) && decide (cntF l x y d ≤ high)
theorem in_arnd {C : List Int} {c d : Int} (h : c ∈ C) : c - d ∈ srt (arnd (srt (C ++ [])) d) ∧ c + d ∈ srt (arnd (srt (C ++ [])) d) := by
  have h1 : c ∈ srt (C ++ []) := ((srt_ok _).2 c).2 (by simpa using h)
  obtain ⟨a, b⟩ := mem_arnd (d := d) h1
  exact ⟨((srt_ok _).2 _).2 a, ((srt_ok _).2 _).2 b⟩
theorem refGrow_ok {l : List R4} (hc : RCan l) {d : Int} (hd : 0 ≤ d) : (∀ r ∈ refGrid l d 1 (areaD d), wf4 r) ∧ rjoin hFst (refGrid l d 1 (areaD d)) [] = growL l d := by
  have hs := hc.apart
  have hw := can_wf hc
  have cX : ∀ c ∈ cutsL (l.map (growR d)), c ∈ srt (arnd (srt (cutsL l ++ cutsL [])) d) := fun c h => by
    unfold cutsL at h
    obtain ⟨z, hz, h⟩ := List.mem_flatMap.1 h
    obtain ⟨r, hr, rfl⟩ := List.mem_map.1 hz
    simp only [List.mem_cons, List.not_mem_nil, or_false] at h
    rcases h with rfl | rfl
    · exact (in_arnd (mem_cutsL hr).1).1
    · exact (in_arnd (mem_cutsL hr).2).2
  have cY : ∀ c ∈ cutsY (l.map (growR d)), c ∈ srt (arnd (srt (cutsY l ++ cutsY [])) d) := fun c h => by
    unfold cutsY at h
    obtain ⟨z, hz, h⟩ := List.mem_flatMap.1 h
    obtain ⟨r, hr, rfl⟩ := List.mem_map.1 hz
    simp only [List.mem_cons, List.not_mem_nil, or_false] at h
    rcases h with rfl | rfl
    · exact (in_arnd (mem_cutsY hr).1).1
    · exact (in_arnd (mem_cutsY hr).2).2
  obtain ⟨g1, g2⟩ := grid_ok (H := fun x y => pmem (l.map (growR d)) x y) (p := fun x y => decide (1 ≤ cntF l x y d) && decide (cntF l x y d ≤ areaD d)) (srt_ok _).1 (srt_ok _).1
    (fun x y => by
      have := (cnt_bd hs hd x y).2
      simp only [Bool.and_eq_true, decide_eq_true_eq]
      rw [cnt_nearP hs hd, near_grow hw hd]
      exact ⟨fun h => h.1, fun h => ⟨h, this⟩⟩)
    (fun c e x y hg h1 h2 => pmem_sameX cX hg h1 h2) (fun c e x y hg h1 h2 => pmem_sameY cY hg h1 h2)
    (fun x y h => by rcases h with h | h; · exact crossL_hi cX h
                     · exact crossL_lo cX h)
    (fun x y h => by rcases h with h | h; · exact pmem_hiY cY h
                     · exact pmem_loY cY h)
  refine ⟨g1, ?_⟩
  obtain ⟨k1, k2⟩ := rjoin_ok (h := hFst) rfl g1 (b := []) (by simp)
  obtain ⟨m1, m2⟩ := grow_ok hw hd
  refine k1.ext m1 fun x y => ?_
  rw [k2, m2, near_grow hw hd]
  simp only [hFst, decide_eq_true_eq]
  exact g2 x y
theorem refShrink_ok {l : List R4} (hc : RCan l) {d : Int} (hd : 0 ≤ d) : (∀ r ∈ refGrid l d (areaD d) (areaD d), wf4 r) ∧ rjoin hFst (refGrid l d (areaD d) (areaD d)) [] = shrR l d := by
  have hs := hc.apart
  have hP : ∀ x y, (decide (areaD d ≤ cntF l x y d) && decide (cntF l x y d ≤ areaD d)) = true ↔ full l d x y := fun x y => by
    rw [← cnt_full hs hd]
    simp only [Bool.and_eq_true, decide_eq_true_eq]
    omega
  have main : (∀ r ∈ refGrid l d (areaD d) (areaD d), wf4 r) ∧ ∀ x y, pmem (refGrid l d (areaD d) (areaD d)) x y ↔ full l d x y := by
    by_cases hne : l = []
    · subst hne
      refine ⟨fun r hr => by simp [refGrid, gridL, cutsL, cutsY, srt, arnd, prs] at hr, fun x y => ?_⟩
      constructor
      · rintro ⟨r, hr, _⟩
        simp [refGrid, gridL, cutsL, cutsY, srt, arnd, prs] at hr
      · intro h
        exact (pmem_nil (h x y (by omega) (by omega) (by omega) (by omega))).elim
    · have hh := hullL_ok hne
      generalize hullL l = h at *
      have hf := full_miss hc hne hh hd
      have hm := miss_ok hh
      have cX : ∀ c ∈ cutsL ((missL h none l).map (growR d)), c ∈ srt (arnd (srt (cutsL l ++ cutsL [])) d) := fun c hcm => by
        unfold cutsL at hcm
        obtain ⟨z, hz, hcm⟩ := List.mem_flatMap.1 hcm
        obtain ⟨r, hr, rfl⟩ := List.mem_map.1 hz
        simp only [List.mem_cons, List.not_mem_nil, or_false] at hcm
        rcases hcm with rfl | rfl
        · exact (in_arnd (hm r hr).2.1).1
        · exact (in_arnd (hm r hr).2.2.1).2
      have cY : ∀ c ∈ cutsY ((missL h none l).map (growR d)), c ∈ srt (arnd (srt (cutsY l ++ cutsY [])) d) := fun c hcm => by
        unfold cutsY at hcm
        obtain ⟨z, hz, hcm⟩ := List.mem_flatMap.1 hcm
        obtain ⟨r, hr, rfl⟩ := List.mem_map.1 hz
        simp only [List.mem_cons, List.not_mem_nil, or_false] at hcm
        rcases hcm with rfl | rfl
        · exact (in_arnd (hm r hr).2.2.2.1).1
        · exact (in_arnd (hm r hr).2.2.2.2).2
      have kX : ∀ c ∈ cutsL [growR (-d) h], c ∈ srt (arnd (srt (cutsL l ++ cutsL [])) d) := fun c hcm => by
        simp only [cutsL, List.flatMap_cons, List.flatMap_nil, List.append_nil, List.mem_cons, List.not_mem_nil, or_false] at hcm
        obtain ⟨r0, m0, e0⟩ := hh.a0
        obtain ⟨r2, m2, e2⟩ := hh.a2
        rcases hcm with rfl | rfl
        · have := (in_arnd (d := d) (mem_cutsL m0).1).2
          show h.x0 - -d ∈ _
          rw [← e0, Int.sub_neg]; exact this
        · have := (in_arnd (d := d) (mem_cutsL m2).2).1
          show h.x1 + -d ∈ _
          rw [← e2]; exact this
      have kY : ∀ c ∈ cutsY [growR (-d) h], c ∈ srt (arnd (srt (cutsY l ++ cutsY [])) d) := fun c hcm => by
        simp only [cutsY, List.flatMap_cons, List.flatMap_nil, List.append_nil, List.mem_cons, List.not_mem_nil, or_false] at hcm
        obtain ⟨r0, m0, e0⟩ := hh.a1
        obtain ⟨r2, m2, e2⟩ := hh.a3
        rcases hcm with rfl | rfl
        · have := (in_arnd (d := d) (mem_cutsY m0).1).2
          show h.y0 - -d ∈ _
          rw [← e0, Int.sub_neg]; exact this
        · have := (in_arnd (d := d) (mem_cutsY m2).2).1
          show h.y1 + -d ∈ _
          rw [← e2]; exact this
      have e1 : ∀ x y, rin (growR (-d) h) x y ↔ pmem [growR (-d) h] x y := fun x y => by simp [pmem]
      exact grid_ok (H := full l d) (srt_ok _).1 (srt_ok _).1 hP
        (fun c e x y hg h1 h2 => by rw [hf, hf, e1, e1, pmem_sameX kX hg h1 h2, pmem_sameX cX hg h1 h2])
        (fun c e x y hg h1 h2 => by rw [hf, hf, e1, e1, pmem_sameY kY hg h1 h2, pmem_sameY cY hg h1 h2])
        (fun x y g => by
          rw [hf, e1]
          rintro ⟨a, _⟩
          rcases g with g | g
          · exact crossL_hi kX g a
          · exact crossL_lo kX g a)
        (fun x y g => by
          rw [hf, e1]
          rintro ⟨a, _⟩
          rcases g with g | g
          · exact pmem_hiY kY g a
          · exact pmem_loY kY g a)
  refine ⟨main.1, ?_⟩
  obtain ⟨k1, k2⟩ := rjoin_ok (h := hFst) rfl main.1 (b := []) (by simp)
  obtain ⟨m1, m2⟩ := shr_ok hc hd
  refine k1.ext m1 fun x y => ?_
  rw [k2, m2]
  simp only [hFst, decide_eq_true_eq]
  exact main.2 x y
/-! ### Depths -/
def dist1 (x y : Int) (g : R4) : Int := max (max (max (g.x0 - x) (x - g.x1 + 1)) (g.y0 - y)) (y - g.y1 + 1) - 1
def depB (h : R4) (x y : Int) : Int := min (min (min (x - h.x0) (h.x1 - 1 - x)) (y - h.y0)) (h.y1 - 1 - y)
def depP (h : R4) (L : List R4) (x y : Int) : Int := L.foldl (fun b g => min b (dist1 x y g)) (depB h x y)
theorem dep_from (x y d : Int) : ∀ (L : List R4) (b : Int), d ≤ L.foldl (fun b g => min b (dist1 x y g)) b ↔ d ≤ b ∧ ∀ g ∈ L, d ≤ dist1 x y g
  | [], b => by simp
  | g :: L, b => by
    rw [List.foldl_cons, dep_from x y d L]
    simp only [List.mem_cons, forall_eq_or_imp]
    constructor
    · rintro ⟨h1, h2⟩
      exact ⟨by omega, by omega, h2⟩
    · rintro ⟨h1, h2, h3⟩
      exact ⟨by omega, h3⟩
theorem dep_iff {l : List R4} (hc : RCan l) (hne : l ≠ []) {d : Int} (hd : 0 ≤ d) (x y : Int) : d ≤ depP (hullL l) (missL (hullL l) none l) x y ↔ full l d x y := by
  have hh := hullL_ok hne
  generalize hullL l = h at *
  rw [depP, dep_from, full_miss hc hne hh hd]
  have e1 : d ≤ depB h x y ↔ rin (growR (-d) h) x y := by
    unfold depB rin growR
    simp only
    omega
  rw [e1]
  refine and_congr_right fun _ => ?_
  unfold pmem
  constructor
  · rintro hg ⟨z, hz, hr⟩
    obtain ⟨q, hq, rfl⟩ := List.mem_map.1 hz
    have := hg q hq
    unfold dist1 at this
    unfold rin growR at hr
    simp only at hr
    omega
  · intro hn g hg
    have : ¬ rin (growR d g) x y := fun hr => hn ⟨growR d g, List.mem_map_of_mem hg, hr⟩
    unfold rin growR at this
    simp only at this
    unfold dist1
    omega
theorem full_zero {l : List R4} (x y : Int) : full l 0 x y ↔ pmem l x y := by
  unfold full
  constructor
  · intro h
    exact h x y (by omega) (by omega) (by omega) (by omega)
  · intro h u v a b c e
    obtain rfl : u = x := by omega
    obtain rfl : v = y := by omega
    exact h
theorem full_far {l : List R4} (hv : ∀ r ∈ l, valid4 r) {d : Int} (hd : 1000000 ≤ d) (x y : Int) : ¬ full l d x y := fun h => by
  obtain ⟨r, hr, h1⟩ := h (x - d) y (by omega) (by omega) (by omega) (by omega)
  obtain ⟨q, hq, h2⟩ := h (x + d) y (by omega) (by omega) (by omega) (by omega)
  have v1 := hv r hr
  have v2 := hv q hq
  unfold valid4 fineP at v1 v2
  unfold rin at h1 h2
  omega
end Go.Proofs.YtpgjfpeepbjflaaGreat

/- Plain: the sweep over the ends of spans that are kept and of holes, as the code does it. -/
namespace Go.Proofs.YtpgjfpeepbjflaaGreat
set_option linter.unusedVariables false
set_option linter.unusedSimpArgs false

def by0 (e : En) : Int := if e.2.1 = 0 then e.2.2 else 0
def by1 (e : En) : Int := if e.2.1 = 1 then e.2.2 else 0
def kz (x : Int) (e : En) : Int := if e.2.1 = 1 then (if e.1 < x then e.2.2 else if e.1 = x then min e.2.2 0 else 0) else 0
theorem sum_perm {α : Type} {f : α → Int} {A B : List α} (h : A.Perm B) : (A.map f).sum = (B.map f).sum := by
  induction h with
  | nil => rfl
  | cons a _ ih => simp [ih]
  | swap a b l => simp; omega
  | trans _ _ h1 h2 => rw [h1, h2]
theorem kz_evs0 (x : Int) : ∀ s : List Sp, ((evs 0 s).map (kz x)).sum = 0
  | [] => rfl
  | p :: s => by simp [evs, kz, kz_evs0 x s]
theorem kz_evs1 (x : Int) : ∀ s : List Sp, (∀ p ∈ s, p.1 < p.2) → 0 ≤ ((evs 1 s).map (kz x)).sum
  | [], _ => by simp [evs]
  | p :: s, h => by
    have ih := kz_evs1 x s fun q hq => h q (by simp [hq])
    have hp := h p (by simp)
    simp only [evs, List.map_cons, List.sum_cons, kz, if_true]
    repeat' split
    all_goals omega
theorem sum_le {α : Type} {f g : α → Int} : ∀ {L : List α}, (∀ x ∈ L, f x ≤ g x) → (L.map f).sum ≤ (L.map g).sum
  | [], _ => by simp
  | a :: L, h => by
    have h1 := h a (by simp)
    have h2 := sum_le (f := f) (g := g) (L := L) fun x hx => h x (by simp [hx])
    simp only [List.map_cons, List.sum_cons]
    omega
/-- **Behind any first part of the ends, in order, as many holes have begun as have ended, or more.** -/
theorem prefix_nn {a b : List Sp} (hb : ∀ p ∈ b, p.1 < p.2) {E P R : List En} (hp : E.Perm (evs 0 a ++ evs 1 b)) (hs : E.Pairwise (fun a b => a.1 ≤ b.1)) (hE : E = P ++ R) : 0 ≤ (P.map by1).sum := by
  rcases List.eq_nil_or_concat P with h | ⟨P', q, h⟩
  · subst h; simp
  · rw [List.concat_eq_append] at h
    have hs' := hs
    rw [hE, List.pairwise_append] at hs'
    have h1 : ∀ e ∈ P, e.1 ≤ q.1 := fun e he => by
      rw [h] at he hs'
      rcases List.mem_append.1 he with g | g
      · exact (List.pairwise_append.1 hs'.1).2.2 e g q (by simp)
      · simp at g; subst g; exact Int.le_refl _
    have h2 : ∀ e ∈ R, q.1 ≤ e.1 := fun e he => hs'.2.2 q (by rw [h]; simp) e he
    have e1 : (E.map (kz q.1)).sum = ((evs 0 a).map (kz q.1)).sum + ((evs 1 b).map (kz q.1)).sum := by rw [sum_perm hp, List.map_append, List.sum_append]
    have e2 : (E.map (kz q.1)).sum = (P.map (kz q.1)).sum + (R.map (kz q.1)).sum := by rw [hE, List.map_append, List.sum_append]
    have e3 := kz_evs0 q.1 a
    have e4 := kz_evs1 q.1 b hb
    have e5 : (P.map (kz q.1)).sum ≤ (P.map by1).sum := sum_le fun e he => by
      have := h1 e he
      unfold kz by1
      repeat' split
      all_goals omega
    have e6 : (R.map (kz q.1)).sum ≤ (R.map (fun _ => (0 : Int))).sum := sum_le fun e he => by
      have := h2 e he
      unfold kz
      repeat' split
      all_goals omega
    have e7 : ∀ L : List En, (L.map (fun _ => (0 : Int))).sum = 0 := fun L => by
      induction L with
      | nil => rfl
      | cons a L ih => simp [ih]
    rw [e7] at e6
    omega
theorem jf_counts (h : Bool → Bool → Bool) : ∀ (P : List En) (st : JS), (P.foldl (jstep h) st).o0 = st.o0 + (P.map by0).sum ∧ (P.foldl (jstep h) st).o1 = st.o1 + (P.map by1).sum
  | [], st => by simp
  | e :: P, st => by
    rw [List.foldl_cons]
    obtain ⟨h1, h2⟩ := jf_counts h P (jstep h st e)
    rw [h1, h2]
    simp only [jstep, List.map_cons, List.sum_cons, by0, by1]
    constructor <;> split <;> omega
theorem jf_at (h : Bool → Bool → Bool) {E : List En} {k : Nat} {e : En} (he : E[k]? = some e) : jfold h (E.take (k + 1)) = jstep h (jfold h (E.take k)) e := by
  unfold jfold
  rw [List.take_add_one, he, List.foldl_append]
  rfl
theorem by_bd : ∀ {P : List En}, (∀ e ∈ P, e.2.2 = 1 ∨ e.2.2 = -1) → -(P.length : Int) ≤ (P.map by0).sum ∧ (P.map by0).sum ≤ P.length ∧ -(P.length : Int) ≤ (P.map by1).sum ∧ (P.map by1).sum ≤ P.length
  | [], _ => by simp
  | e :: P, h => by
    have h1 := h e (by simp)
    have h2 := by_bd (P := P) fun x hx => h x (by simp [hx])
    simp only [List.map_cons, List.sum_cons, List.length_cons, by0, by1]
    repeat' split
    all_goals omega
theorem evs_by (i : Int) : ∀ (s : List Sp), ∀ e ∈ evs i s, (e.2.1 = i ∧ (e.2.2 = 1 ∨ e.2.2 = -1)) ∧ ∃ p ∈ s, e.1 = p.1 ∨ e.1 = p.2
  | [], e, he => by cases he
  | p :: s, e, he => by
    simp only [evs, List.mem_cons] at he
    rcases he with rfl | rfl | he
    · exact ⟨⟨rfl, .inl rfl⟩, p, by simp, .inl rfl⟩
    · exact ⟨⟨rfl, .inr rfl⟩, p, by simp, .inr rfl⟩
    · obtain ⟨h1, q, hq, h2⟩ := evs_by i s e he
      exact ⟨h1, q, by simp [hq], h2⟩
/-- What the walk's loop is told of the ends. -/
structure EvOk (E : List En) : Prop where
  sorted : E.Pairwise (fun a b => a.1 ≤ b.1)
  by1 : ∀ e ∈ E, e.2.2 = 1 ∨ e.2.2 = -1
  kind : ∀ e ∈ E, e.2.1 = 0 ∨ e.2.1 = 1
  nn : ∀ k, 0 ≤ (jfold hSub (E.take k)).o1
theorem ev_ok {a b : List Sp} (hb : ∀ p ∈ b, p.1 < p.2) {E : List En} (hp : E.Perm (evs 0 a ++ evs 1 b)) (hs : E.Pairwise (fun a b => a.1 ≤ b.1)) : EvOk E := by
  have hm : ∀ e ∈ E, (e.2.2 = 1 ∨ e.2.2 = -1) ∧ (e.2.1 = 0 ∨ e.2.1 = 1) := fun e he => by
    rcases List.mem_append.1 (hp.mem_iff.1 he) with h | h
    · have := (evs_by 0 a e h).1; exact ⟨this.2, .inl this.1⟩
    · have := (evs_by 1 b e h).1; exact ⟨this.2, .inr this.1⟩
  refine ⟨hs, fun e he => (hm e he).1, fun e he => (hm e he).2, fun k => ?_⟩
  unfold jfold
  rw [(jf_counts hSub (E.take k) js0).2]
  have := prefix_nn hb hp hs (List.take_append_drop k E).symm
  show 0 ≤ 0 + _
  omega
theorem ev_bd {E : List En} (h : EvOk E) (k : Nat) : -(E.length : Int) ≤ (jfold hSub (E.take k)).o0 ∧ (jfold hSub (E.take k)).o0 ≤ E.length ∧ (jfold hSub (E.take k)).o1 ≤ E.length := by
  have hb := by_bd (P := E.take k) fun e he => h.by1 e (List.mem_of_mem_take he)
  have hl : (E.take k).length ≤ E.length := by rw [List.length_take]; exact Nat.min_le_right _ _
  unfold jfold
  rw [(jf_counts hSub (E.take k) js0).1, (jf_counts hSub (E.take k) js0).2]
  show _ ≤ 0 + _ ∧ 0 + _ ≤ _ ∧ 0 + _ ≤ _
  omega
theorem ev_last {E : List En} (h : EvOk E) {k : Nat} {e : En} (he : E[k]? = some e) : (jfold hSub (E.take k)).inn = true → (jfold hSub (E.take k)).last ≤ e.1 := by
  cases k with
  | zero => intro hi; simp [jfold, js0] at hi
  | succ k =>
    intro _
    have hk : k + 1 < E.length := (List.getElem?_eq_some_iff.1 he).1
    obtain ⟨q, hq⟩ : ∃ q, E[k]? = some q := ⟨_, List.getElem?_eq_getElem (by omega)⟩
    rw [jf_at hSub hq]
    show q.1 ≤ e.1
    obtain ⟨h1, rfl⟩ := List.getElem?_eq_some_iff.1 he
    obtain ⟨h2, rfl⟩ := List.getElem?_eq_some_iff.1 hq
    exact List.pairwise_iff_getElem.1 h.sorted k (k + 1) h2 h1 (by omega)
/-- One end more. -/
theorem ev_step {E : List En} (h : EvOk E) {k : Nat} {e : En} (he : E[k]? = some e) :
    (jfold hSub (E.take (k + 1))).out = (if (jfold hSub (E.take k)).inn = true ∧ (jfold hSub (E.take k)).last < e.1 then sext (jfold hSub (E.take k)).out (jfold hSub (E.take k)).last e.1 else (jfold hSub (E.take k)).out) ∧
    (jfold hSub (E.take (k + 1))).last = e.1 ∧ (jfold hSub (E.take (k + 1))).o0 = (if e.2.1 = 0 then (jfold hSub (E.take k)).o0 + e.2.2 else (jfold hSub (E.take k)).o0) ∧ (jfold hSub (E.take (k + 1))).o1 = (if e.2.1 = 1 then (jfold hSub (E.take k)).o1 + e.2.2 else (jfold hSub (E.take k)).o1) ∧
    (jfold hSub (E.take (k + 1))).inn = (decide (0 < (jfold hSub (E.take (k + 1))).o0) && ((jfold hSub (E.take (k + 1))).o1 == 0)) := by
  have hn := h.nn (k + 1)
  have hl := ev_last h he
  rw [jf_at hSub he] at *
  generalize jfold hSub (E.take k) = st at *
  refine ⟨?_, rfl, rfl, rfl, ?_⟩
  · show jclose st e.1 = _
    unfold jclose
    by_cases hi : st.inn = true
    · have := hl hi
      by_cases hlt : st.last < e.1
      · rw [if_pos ⟨hi, by omega⟩, if_pos ⟨hi, hlt⟩]
      · rw [if_neg (fun g => g.2 (by omega)), if_neg (fun g => hlt g.2)]
    · rw [if_neg (fun g => hi g.1), if_neg (fun g => hi g.1)]
  · show hSub (decide (0 < (jstep hSub st e).o0)) (decide (0 < (jstep hSub st e).o1)) = _
    generalize (jstep hSub st e).o0 = p at *
    generalize (jstep hSub st e).o1 = q at *
    unfold hSub
    congr 1
    by_cases hq : q = 0
    · subst hq; rfl
    · rw [decide_eq_true (by omega : 0 < q)]
      have : (q == 0) = false := by simpa using hq
      rw [this]; rfl
end Go.Proofs.YtpgjfpeepbjflaaGreat
