/- The walks of the two functions that reckon a greatest common divisor, and of the two that make a ratio, at 0 ≤ num < den ≤ 1000. -/
import Derived.Test.YtgpalakanjckkaaKit
import Derived.Laws.StructEq
namespace Go.Proofs.Ytgpalakanjckkaa
open Go.RowKit
set_option linter.unusedVariables false
set_option linter.unusedSimpArgs false

set_option maxHeartbeats 400000 in
theorem gcd_any (a b : Nat) (w : World) (ha : a ≤ 1000000) (hb : b ≤ 1000000) :
    Calls Try.prog 23 #[.int .u64 a, .int .u64 b] w fun e w' => e = .returned (.int .u64 (Nat.gcd a b : Nat)) ∧ Below w.heap.size w w' := by
  obtain ⟨g, hg⟩ : ∃ g, Nat.gcd a b = g := ⟨_, rfl⟩
  rw [hg]
  have HG := hide hg
  clear hg
  go_enter Try.func23, Try.ntmps23
  go_wp2
  go_loopw [0, 1] (fun s0 s1 wr => ∃ x y : Nat, s0 = .int .u64 (x : Int) ∧ s1 = .int .u64 (y : Int) ∧ x ≤ 1000000 ∧ y ≤ 1000000 ∧ Hid (Nat.gcd x y = g) ∧ Below w.heap.size w wr) (fun _ s1 _ => (intOf s1).toNat)
  case atStart => exact ⟨a, b, rfl, rfl, ha, hb, HG, Below.refl _ _⟩
  case round =>
    obtain ⟨x, y, rfl, rfl, hx, hy, HX, hB⟩ := hrel
    by_cases h0 : y = 0
    · subst h0
      go_wp2
      go_ret
      have := HX.out
      rw [Nat.gcd_zero_right] at this
      exact ⟨ret_eq (int_eq (by rw [this])), hB⟩
    · have h0' : ((y : Int) != 0) = true := by simpa using h0
      have h1 : 1 ≤ (y : Int) := by omega
      have hm : x % y < y := Nat.mod_lt _ (by omega)
      clear h0
      go_wp2
      go_quiet (fail)
      go_wp2
      go_roundw
      case rel =>
        refine ⟨y, x % y, rfl, by rw [Int.natCast_emod], hy, by omega, ?_, below_drewN hB _⟩
        have := HX.out
        rw [Nat.gcd_comm, Nat.gcd_rec, Nat.gcd_comm] at this
        exact hide (by rw [Nat.gcd_comm]; rw [← this]; rw [Nat.gcd_comm])
      case measure => simp [intOf]; omega

set_option maxHeartbeats 400000 in
theorem common_any (a b : Nat) (w : World) (ha : a ≤ 1000000) (hb : b ≤ 1000000) :
    Calls Try.prog 24 #[.int .i64 a, .int .i64 b] w fun e w' => e = .returned (.int .i64 (Nat.gcd a b : Nat)) ∧ Below w.heap.size w w' := by
  obtain ⟨g, hg⟩ : ∃ g, Nat.gcd a b = g := ⟨_, rfl⟩
  rw [hg]
  have HG := hide hg
  clear hg
  go_enter Try.func24, Try.ntmps24
  go_wp2
  go_loopw [0, 1] (fun s0 s1 wr => ∃ x y : Nat, s0 = .int .i64 (x : Int) ∧ s1 = .int .i64 (y : Int) ∧ x ≤ 1000000 ∧ y ≤ 1000000 ∧ Hid (Nat.gcd x y = g) ∧ Below w.heap.size w wr) (fun _ s1 _ => (intOf s1).toNat)
  case atStart => exact ⟨a, b, rfl, rfl, ha, hb, HG, Below.refl _ _⟩
  case round =>
    obtain ⟨x, y, rfl, rfl, hx, hy, HX, hB⟩ := hrel
    by_cases h0 : y = 0
    · subst h0
      go_wp2
      go_ret
      have := HX.out
      rw [Nat.gcd_zero_right] at this
      exact ⟨ret_eq (int_eq (by rw [this])), hB⟩
    · have h0' : ((y : Int) != 0) = true := by simpa using h0
      have h1 : 1 ≤ (y : Int) := by omega
      have hm : x % y < y := Nat.mod_lt _ (by omega)
      clear h0
      go_wp2
      go_quiet (fail)
      go_wp2
      go_roundw
      case rel =>
        refine ⟨y, x % y, rfl, by rw [Int.natCast_emod], hy, by omega, ?_, below_drewN hB _⟩
        have := HX.out
        rw [Nat.gcd_comm, Nat.gcd_rec, Nat.gcd_comm] at this
        exact hide (by rw [Nat.gcd_comm]; rw [← this]; rw [Nat.gcd_comm])
      case measure => simp [intOf]; omega

theorem size_any (a : Int) (w : World) (h1 : 0 ≤ a) (h2 : a ≤ 1000000) : Calls Try.prog 22 #[.int .i64 a] w fun e w' => e = .returned (.int .u64 a) ∧ w = w' := by
  go_enter Try.func22, Try.ntmps22
  go_wp2
  go_ret
  exact ⟨rfl, rfl⟩

theorem div_bd (a g : Nat) (hg : 1 ≤ g) (ha : a ≤ 1000000) : 0 ≤ (a : Int) / (g : Int) ∧ (a : Int) / (g : Int) ≤ 1000000 := by
  have h := Nat.div_le_self a g
  have e : (a : Int) / (g : Int) = ((a / g : Nat) : Int) := by rw [Int.natCast_ediv]
  rw [e]
  exact ⟨Int.natCast_nonneg _, Int.ofNat_le.2 (Nat.le_trans h ha)⟩

set_option maxHeartbeats 1000000 in
theorem make_any (a n g : Nat) (w : World) (ha : a ≤ 1000000) (hn : n ≤ 1000000) (h1 : 1 ≤ n) (hg : Hid (Nat.gcd a n = g)) :
    Calls Try.prog 19 #[.int .i64 a, .int .i64 n] w fun e w' => e = .returned (.tuple #[.agg #[.int .i64 ((a : Int) / (g : Int)), .int .i64 ((n : Int) / (g : Int))], .int .i64 0]) ∧ Below w.heap.size w w' := by
  have hg1 : 1 ≤ g := by have := hg.out; have := Nat.gcd_pos_of_pos_right a (n := n) (by omega); omega
  have hgi : 1 ≤ (g : Int) := by omega
  obtain ⟨d1, d1'⟩ := div_bd a g hg1 ha
  obtain ⟨d2, d2'⟩ := div_bd n g hg1 hn
  have hgl : g ≤ n := by have := hg.out; have := Nat.gcd_le_right (m := a) (n := n) (by omega); omega
  have hs1 := fun w => size_any a w (by omega) (by omega)
  have hs2 := fun w => size_any n w (by omega) (by omega)
  have hgc := fun w => (gcd_any a n w ha hn).mono (R' := fun e w' => e = .returned (.int .u64 g) ∧ Below w.heap.size w w') fun e w' h => by rw [hg.out] at h; exact h
  have hni : ((n : Int) == 0) = false := by simp; omega
  have hna : decide ((a : Int) < 0) = false := by simp
  have hnn : decide ((n : Int) < 0) = false := by simp
  clear hg
  go_enter Try.func19, Try.ntmps19
  go_wp2_with (first
    | (go_at_call_of 22 (Value.int .i64 (a : Int)); refine (hs1 _).mono ?_; rintro e w' ⟨rfl, rfl⟩)
    | (go_at_call_of 22 (Value.int .i64 (n : Int)); refine (hs2 _).mono ?_; rintro e w' ⟨rfl, rfl⟩)
    | (go_at_call 23; refine (hgc _).mono ?_; rintro e w1 ⟨rfl, hb1⟩; obtain ⟨hc1, hf1⟩ := bcell hb1; have hz1 : w.heap.size < w1.heap.size := by have := hb1.size; simp at this; omega))
  refine wp_hab fun hab => ?_
  refine wp_region_above (by kernel_rfl) (by kernel_rfl) ?_
  repeat (go_big_quiet_step (fail))
  refine wpQuiet_nil ?_
  refine above_ends fun w2 hb2 => ?_
  clear hab
  obtain ⟨hc2, hf2⟩ := bcell hb2
  have hz2 : w.heap.size < w2.heap.size := by have := hb2.size; omega
  go_wp2
  refine bodyPost_ret (v := .tuple #[.agg #[.int .i64 ((a : Int) / (g : Int)), .int .i64 ((n : Int) / (g : Int))], .int .i64 0]) (by simp [results, Try.results19, go_sem, hc1, hc2, hz1, hz2]) rfl ⟨rfl, ?_⟩
  have b2 := (((Below.refl _ _).alloc (Nat.le_refl _) _).trans (hb1.mono (by simp))).trans (hb2.mono (by omega))
  exact ((b2.setCell (by simp) _).setCell (by simp) _).alloc (by simp; omega) _

theorem coprime_div (a n g : Nat) (h1 : 1 ≤ n) (hg : Nat.gcd a n = g) : Nat.gcd (a / g) (n / g) = 1 := by
  subst hg
  rw [Nat.gcd_div (Nat.gcd_dvd_left a n) (Nat.gcd_dvd_right a n), Nat.div_self (Nat.gcd_pos_of_pos_right a (by omega))]

set_option maxHeartbeats 1000000 in
theorem rcheck01_any (x y : Nat) (w : World) (hx : x ≤ 1000000) (hy : y ≤ 1000000) (h1 : 1 ≤ y) (hc : Nat.gcd x y = 1) :
    Calls Try.prog 25 #[.agg #[.int .i64 x, .int .i64 y]] w fun e w' => e = .returned (.int .i64 0) ∧ Below w.heap.size w w' := by
  have hgc := fun w => (common_any x y w hx hy).mono (R' := fun e w' => e = .returned (.int .i64 1) ∧ Below w.heap.size w w') fun e w' h => by rw [hc] at h; exact h
  clear hc
  go_enter Try.func25, Try.ntmps25
  go_wp2_with (go_at_call 24; refine (hgc _).mono ?_; rintro e w1 ⟨rfl, hb1⟩)
  go_ret
  exact ⟨rfl, ((Below.refl _ _).alloc (Nat.le_refl _) _).trans (hb1.mono (by simp))⟩

set_option maxHeartbeats 1000000 in
theorem rmake_any (a n g : Nat) (w : World) (ha : a ≤ 1000000) (hn : n ≤ 1000000) (h1 : 1 ≤ n) (hg : Hid (Nat.gcd a n = g)) :
    Calls Try.prog 20 #[.int .i64 a, .int .i64 n] w fun e w' => e = .returned (.tuple #[.agg #[.int .i64 ((a : Int) / (g : Int)), .int .i64 ((n : Int) / (g : Int))], .int .i64 0]) ∧ Below w.heap.size w w' := by
  have hg1 : 1 ≤ g := by have := hg.out; have := Nat.gcd_pos_of_pos_right a (n := n) (by omega); omega
  have hgi : 1 ≤ (g : Int) := by omega
  obtain ⟨d1, d1'⟩ := div_bd a g hg1 ha
  obtain ⟨d2, d2'⟩ := div_bd n g hg1 hn
  have hgl : g ≤ n := by have := hg.out; have := Nat.gcd_le_right (m := a) (n := n) (by omega); omega
  have hgc := fun w => (common_any a n w ha hn).mono (R' := fun e w' => e = .returned (.int .i64 g) ∧ Below w.heap.size w w') fun e w' h => by rw [hg.out] at h; exact h
  have hch := fun w => (rcheck01_any (a / g) (n / g) w (Nat.le_trans (Nat.div_le_self _ _) ha) (Nat.le_trans (Nat.div_le_self _ _) hn) (Nat.div_pos hgl hg1) (coprime_div a n g h1 hg.out))
  simp only [Int.natCast_ediv] at hch
  have hni : ((n : Int) == 0) = false := by simp; omega
  have hnn : decide ((n : Int) < 0) = false := by simp
  have hm1 : ((a : Int) == -9223372036854775808) = false := by simp
  have hm2 : ((n : Int) == -9223372036854775808) = false := by simp
  clear hg
  go_enter Try.func20, Try.ntmps20
  go_wp2_with (first
    | (go_at_call 24; refine (hgc _).mono ?_; rintro e w1 ⟨rfl, hb1⟩; obtain ⟨hc1, hf1⟩ := bcell hb1; have hz1 : w.heap.size < w1.heap.size := by have := hb1.size; simp at this; omega)
    | (go_at_call 25; refine (hch _).mono ?_; rintro e w2 ⟨rfl, hb2⟩; obtain ⟨hc2, hf2⟩ := bcell hb2; have hz2 : w1.heap.size < w2.heap.size := by have := hb2.size; simp at this; omega))
  go_region
  go_wp2_with (go_at_call 25; refine (hch _).mono ?_; rintro e w2 ⟨rfl, hb2⟩; obtain ⟨hc2, hf2⟩ := bcell hb2; have hz2 : w1.heap.size < w2.heap.size := by have := hb2.size; simp at this; omega)
  refine bodyPost_ret (v := .tuple #[.agg #[.int .i64 ((a : Int) / (g : Int)), .int .i64 ((n : Int) / (g : Int))], .int .i64 0]) (by simp [results, Try.results20, go_sem, hc1, hc2, hz1, hz2, Nat.lt_succ_of_lt hz1]) rfl ⟨rfl, ?_⟩
  have b2 := ((((Below.refl _ _).alloc (Nat.le_refl _) _).trans (hb1.mono (by simp))).alloc (by omega) _).drew.trans (hb2.mono (by simp; omega))
  exact (b2.setCell (by simp) _).setCell (by simp) _
end Go.Proofs.Ytgpalakanjckkaa
