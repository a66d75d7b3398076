/- OffsetWorks' walk. -/
import Derived.Test.YtpgjfpeepbjflaaGreatPk11
namespace Go.Proofs.YtpgjfpeepbjflaaGreat
open Go.RowKit
set_option linter.unusedVariables false
set_option linter.unusedSimpArgs false

def greatO (n : Nat) : Prop := 12 < n ∧ n ≤ 400 ∨ 420 < n
instance (n : Nat) : Decidable (greatO n) := by unfold greatO; infer_instance
theorem not_greatO {n : Nat} (h : ¬ greatO n) : n ≤ 420 := by unfold greatO at h; omega
set_option maxHeartbeats 1000000 in
theorem greatO0_any {w : World} (A : Option Addr) (n c : Nat) (hn : n ≤ maxLen) : Calls Tryz.prog 11 #[.slice A n c] w fun e w' => e = .returned (.bool (decide (12 < n ∧ n ≤ 400 ∨ 420 < n))) ∧ w = w' := by
  unfold maxLen at hn
  have e1 : ∀ k : Nat, decide ((k : Int) < (n : Int)) = decide (k < n) := fun k => decide_eq_decide.2 (by omega)
  have e2 : ∀ k : Nat, decide ((n : Int) ≤ (k : Int)) = decide (n ≤ k) := fun k => decide_eq_decide.2 (by omega)
  have E1 := hide (e1 12)
  have E2 := hide (e2 400)
  have E3 := hide (e1 420)
  clear e1 e2
  go_enter Tryz.func11, Tryz.ntmps11
  go_wp2
  all_goals
    go_ret
    refine ⟨?_, rfl⟩
    show Ending.returned (Value.bool _) = _
    refine ret_eq (bool_eq ?_)
    rw [Bool.eq_iff_iff]
    simp
    try omega
theorem greatO_any {w : World} (A : Option Addr) (n c : Nat) (hn : n ≤ maxLen) : Calls Tryz.prog 11 #[.slice A n c] w fun e w' => e = .returned (.bool (decide (greatO n))) ∧ w = w' := by
  rw [show decide (greatO n) = decide (12 < n ∧ n ≤ 400 ∨ 420 < n) from decide_eq_decide.2 Iff.rfl]
  exact greatO0_any A n c hn
set_option maxRecDepth 100000 in
set_option maxHeartbeats 4000000 in
theorem oworks_walk {w : World} {va : Value} {l : List R4} (hra : RdK encR 4 w w.heap.size va l) (la : l.length ≤ maxLen) (d x y : Int) :
    Calls Tryz.prog 3 #[va, .int .i64 d, .int .i64 x, .int .i64 y] w fun e w' => e = .returned (.bool true) ∧ Below w.heap.size w w' := by
  have hA := hide hra
  obtain ⟨A1, c1, hva, _⟩ := hra
  subst hva
  have G1 := hide (fun W => greatO_any (w := W) A1 l.length c1 la)
  by_cases h1 : greatO l.length
  · rw [decide_eq_true h1] at G1
    go_enter Tryz.func3, Tryz.ntmps3
    go_wp2_with (fail)
    refine (G1.out _).mono ?_
    rintro e wp ⟨rfl, rfl⟩
    go_wp2_with (fail)
    go_ret
    exact ⟨rfl, Below.refl _ _⟩
  rw [decide_eq_false h1] at G1
  have n1 := not_greatO h1
  have n2 := growF_len l d
  have n3 := shrF_len l d
  have HG : Hid (∀ (W : World) (v : Value), RdK encR 4 W W.heap.size v l → (Calls Tryz.prog 13 #[v, .int .i64 d] W fun e w' => RegRet W.heap.size (growF l d) e w' ∧ Below W.heap.size W w') ∧ Calls Tryz.prog 14 #[v, .int .i64 d] W fun e w' => RegRet W.heap.size (growF l d) e w' ∧ Below W.heap.size W w') := hide (fun W v h => ⟨oGrow_any h (by omega) d, rGrow_any h (by omega) d⟩)
  have HS : Hid (∀ (W : World) (v : Value), RdK encR 4 W W.heap.size v l → (Calls Tryz.prog 15 #[v, .int .i64 d] W fun e w' => RegRet W.heap.size (shrF l d) e w' ∧ Below W.heap.size W w') ∧ Calls Tryz.prog 16 #[v, .int .i64 d] W fun e w' => RegRet W.heap.size (shrF l d) e w' ∧ Below W.heap.size W w') := hide (fun W v h => ⟨oShrink_any h (by omega) d, rShrink_any h (by omega) d⟩)
  have HD : Hid (∀ (W : World) (v : Value), RdK encR 4 W W.heap.size v l → (Calls Tryz.prog 17 #[v, .int .i64 x, .int .i64 y] W fun e w' => e = .returned (.tuple #[.int .i64 (depF l x y).1, .int .i64 (depF l x y).2]) ∧ Below W.heap.size W w') ∧ Calls Tryz.prog 18 #[v, .int .i64 x, .int .i64 y] W fun e w' => e = .returned (.tuple #[.int .i64 (depF l x y).1, .int .i64 (depF l x y).2]) ∧ Below W.heap.size W w') := hide (fun W v h => ⟨oDepth_any h (by omega) x y, rDepth_any h (by omega) x y⟩)
  clear h1 la
  generalize growF l d = PG at *
  generalize shrF l d = PS at *
  generalize depF l x y = PD at *
  obtain ⟨RG, eg⟩ := PG
  obtain ⟨RS, es⟩ := PS
  obtain ⟨dn, de⟩ := PD
  simp only at n2 n3
  go_enter Tryz.func3, Tryz.ntmps3
  go_wp2_with (fail)
  refine (G1.out _).mono ?_
  rintro e wp ⟨rfl, rfl⟩
  have K0_0 := hide (Below.refl w.heap.size w)
  go_wp2_with (fail)
  refine (rTwin_any hA.out (by omega)).mono ?_
  rintro e w1 ⟨vo, rfl, ho, hb⟩
  have K0_1 := hide (K0_0.out.trans (hb.mono K0_0.out.size))
  have K1_1 := hide (Below.refl w1.heap.size w1)
  clear hb
  have hT := hide (own_rd ho (fun _ => rfl))
  obtain ⟨Ao, co, hvo⟩ := own_form ho
  subst hvo
  clear ho
  go_wp2_with (fail)
  refine ((HG.out _ _ hT.out).1).mono ?_
  rintro e w2 ⟨⟨A1a, c1a, rfl, ho⟩, hb⟩
  have K0_2 := hide (K0_1.out.trans (hb.mono K0_1.out.size))
  have K1_2 := hide (K1_1.out.trans (hb.mono K1_1.out.size))
  have K2_2 := hide (Below.refl w2.heap.size w2)
  clear hb
  have hG1 := hide (own_rd ho (fun _ => rfl))
  clear ho
  go_wp2_with (fail)
  refine ((HG.out _ _ ((hA.out.below K0_2.out).mono K0_2.out.size)).2).mono ?_
  rintro e w3 ⟨⟨A2b, c2b, rfl, ho⟩, hb⟩
  have K0_3 := hide (K0_2.out.trans (hb.mono K0_2.out.size))
  have K1_3 := hide (K1_2.out.trans (hb.mono K1_2.out.size))
  have K2_3 := hide (K2_2.out.trans (hb.mono K2_2.out.size))
  have K3_3 := hide (Below.refl w3.heap.size w3)
  clear hb
  have hG2 := hide (own_rd ho (fun _ => rfl))
  clear ho
  go_wp2_with (fail)
  refine ((HS.out _ _ ((hT.out.below K1_3.out).mono K1_3.out.size)).1).mono ?_
  rintro e w4 ⟨⟨A3a, c3a, rfl, ho⟩, hb⟩
  have K0_4 := hide (K0_3.out.trans (hb.mono K0_3.out.size))
  have K1_4 := hide (K1_3.out.trans (hb.mono K1_3.out.size))
  have K2_4 := hide (K2_3.out.trans (hb.mono K2_3.out.size))
  have K3_4 := hide (K3_3.out.trans (hb.mono K3_3.out.size))
  have K4_4 := hide (Below.refl w4.heap.size w4)
  clear hb
  have hS1 := hide (own_rd ho (fun _ => rfl))
  clear ho
  go_wp2_with (fail)
  refine ((HS.out _ _ ((hA.out.below K0_4.out).mono K0_4.out.size)).2).mono ?_
  rintro e w5 ⟨⟨A4b, c4b, rfl, ho⟩, hb⟩
  have K0_5 := hide (K0_4.out.trans (hb.mono K0_4.out.size))
  have K1_5 := hide (K1_4.out.trans (hb.mono K1_4.out.size))
  have K2_5 := hide (K2_4.out.trans (hb.mono K2_4.out.size))
  have K3_5 := hide (K3_4.out.trans (hb.mono K3_4.out.size))
  have K4_5 := hide (K4_4.out.trans (hb.mono K4_4.out.size))
  have K5_5 := hide (Below.refl w5.heap.size w5)
  clear hb
  have hS2 := hide (own_rd ho (fun _ => rfl))
  clear ho
  go_wp2_with (fail)
  refine ((HD.out _ _ ((hT.out.below K1_5.out).mono K1_5.out.size)).1).mono ?_
  rintro e w6 ⟨rfl, hb⟩
  have K0_6 := hide (K0_5.out.trans (hb.mono K0_5.out.size))
  have K1_6 := hide (K1_5.out.trans (hb.mono K1_5.out.size))
  have K2_6 := hide (K2_5.out.trans (hb.mono K2_5.out.size))
  have K3_6 := hide (K3_5.out.trans (hb.mono K3_5.out.size))
  have K4_6 := hide (K4_5.out.trans (hb.mono K4_5.out.size))
  have K5_6 := hide (K5_5.out.trans (hb.mono K5_5.out.size))
  clear hb
  go_wp2_with (fail)
  refine ((HD.out _ _ ((hA.out.below K0_6.out).mono K0_6.out.size)).2).mono ?_
  rintro e w7 ⟨rfl, hb⟩
  have K0_7 := hide (K0_6.out.trans (hb.mono K0_6.out.size))
  have K1_7 := hide (K1_6.out.trans (hb.mono K1_6.out.size))
  have K2_7 := hide (K2_6.out.trans (hb.mono K2_6.out.size))
  have K3_7 := hide (K3_6.out.trans (hb.mono K3_6.out.size))
  have K4_7 := hide (K4_6.out.trans (hb.mono K4_6.out.size))
  have K5_7 := hide (K5_6.out.trans (hb.mono K5_6.out.size))
  clear hb
  go_wp2_with (fail)
  refine (rSameSelf ((hG1.out.below K2_7.out).mono K2_7.out.size) ((hG2.out.below K3_7.out).mono K3_7.out.size) (by omega)).mono ?_
  rintro e w8 ⟨rfl, hb⟩
  have K0_8 := hide (K0_7.out.trans (hb.mono K0_7.out.size))
  have K1_8 := hide (K1_7.out.trans (hb.mono K1_7.out.size))
  have K2_8 := hide (K2_7.out.trans (hb.mono K2_7.out.size))
  have K3_8 := hide (K3_7.out.trans (hb.mono K3_7.out.size))
  have K4_8 := hide (K4_7.out.trans (hb.mono K4_7.out.size))
  have K5_8 := hide (K5_7.out.trans (hb.mono K5_7.out.size))
  clear hb
  go_wp2_with (fail)
  refine (rSameSelf ((hS1.out.below K4_8.out).mono K4_8.out.size) ((hS2.out.below K5_8.out).mono K5_8.out.size) (by omega)).mono ?_
  rintro e w9 ⟨rfl, hb⟩
  have K0_9 := hide (K0_8.out.trans (hb.mono K0_8.out.size))
  have K1_9 := hide (K1_8.out.trans (hb.mono K1_8.out.size))
  have K2_9 := hide (K2_8.out.trans (hb.mono K2_8.out.size))
  have K3_9 := hide (K3_8.out.trans (hb.mono K3_8.out.size))
  have K4_9 := hide (K4_8.out.trans (hb.mono K4_8.out.size))
  have K5_9 := hide (K5_8.out.trans (hb.mono K5_8.out.size))
  clear hb
  go_wp2_with (fail)
  refine (rSameSelf ((hT.out.below K1_9.out).mono K1_9.out.size) ((hA.out.below K0_9.out).mono K0_9.out.size) (by omega)).mono ?_
  rintro e w10 ⟨rfl, hb⟩
  have K0_10 := hide (K0_9.out.trans (hb.mono K0_9.out.size))
  have K1_10 := hide (K1_9.out.trans (hb.mono K1_9.out.size))
  have K2_10 := hide (K2_9.out.trans (hb.mono K2_9.out.size))
  have K3_10 := hide (K3_9.out.trans (hb.mono K3_9.out.size))
  have K4_10 := hide (K4_9.out.trans (hb.mono K4_9.out.size))
  have K5_10 := hide (K5_9.out.trans (hb.mono K5_9.out.size))
  clear hb
  go_wp2_with (fail)
  go_ret
  exact ⟨rfl, K0_10.out⟩
end Go.Proofs.YtpgjfpeepbjflaaGreat
