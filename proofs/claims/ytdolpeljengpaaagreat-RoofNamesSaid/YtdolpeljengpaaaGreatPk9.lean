/- Texts laid together: RoofS, RoofF, RoofR, RoofK, RoofQ, RoofU, Row, Open, Regs, RegsB, App, LawMakes, LawRLev. Lemmas for the statements of this seat; no condition. -/
import Derived.Test.YtdolpeljengpaaaGreatPk4
import Derived.Deep.LoopGhost
import Derived.Shelf.Abstract
import Derived.Test.YtdolpeljengpaaaGreatPk8
import Derived.Test.YtdolpeljengpaaaGreatPk1
import Derived.Laws.StructEq
import Derived.ProofKit
import Derived.Lib.SmallJoins
import Derived.Deep.Slices
import Derived.Deep.Fields
import Derived.ChangeSame
import Derived.Test.YtdolpeljengpaaaGreatPk3
import Derived.Maps.AppendAt
import Derived.Laws.AppendOwnNone

/- sort.Search, of a closure that may lay blocks. -/
namespace Go.Proofs.YtdolpeljengpaaaGreat
open Go.RowKit Go.Shelf
set_option linter.unusedVariables false
set_option linter.unusedSimpArgs false

set_option maxHeartbeats 2000000 in
theorem search_any {w : World} (g : Nat) (cb : Array Value) (n : Nat) (p : Nat → Bool) (eg : ∀ args w, (callFunc g args).run Tryz.prog w = .ok (.enter g args) w) (hsz : n ≤ 4000000)
    (hf : ∀ (W : World) (i : Nat), i < n → Below w.heap.size w W → Calls Tryz.prog g (#[.int .i64 i] ++ cb) W fun e w' => e = .returned (.bool (p i)) ∧ Below W.heap.size W w')
    (hmono : ∀ a b, a ≤ b → b < n → p a = true → p b = true) :
    Calls Tryz.prog 75 #[.int .i64 n, .func (.func g) #[] cb] w fun e w' => e = .returned (.int .i64 ((List.range n).countP (fun i => !p i) : Nat)) ∧ Below w.heap.size w w' := by
  have HF := hide hf
  have HM := hide hmono
  clear hf hmono
  have HC : Hid (∀ lo, lo ≤ n → (∀ t, t < lo → p t = false) → (∀ t, lo ≤ t → t < n → p t = true) → (List.range n).countP (fun i => !p i) = lo) := hide (fun lo hlo h1 h2 => by
    have : (List.range n).countP (fun i => !p i) = (List.range n).countP (fun i => decide (i < lo)) := by
      refine List.countP_congr fun i hi => ?_
      have hi' : i < n := List.mem_range.1 hi
      by_cases h : i < lo
      · rw [h1 i h, decide_eq_true h]; rfl
      · rw [h2 i (by omega) hi', decide_eq_false h]; rfl
    rw [this, count_lt]
    omega)
  generalize (List.range n).countP (fun i => !p i) = cnt at *
  go_enter Tryz.func75, Tryz.ntmps75
  go_wp2
  go_loopg [5, 6] n (fun kx s5 s6 wr => ∃ (lo hi : Nat), s5 = .int .i64 lo ∧ s6 = .int .i64 hi ∧ lo ≤ hi ∧ hi ≤ n ∧ hi - lo ≤ kx ∧ Hid (Below w.heap.size w wr) ∧ Hid ((∀ t, t < lo → p t = false) ∧ (∀ t, hi ≤ t → t < n → p t = true)))
  case atStart => exact ⟨0, n, rfl, rfl, Nat.zero_le _, Nat.le_refl _, by omega, hide (Below.refl _ _), hide ⟨fun t ht => absurd ht (Nat.not_lt_zero _), fun t h1 h2 => by omega⟩⟩
  case round =>
    obtain ⟨lo, hi, rfl, rfl, hlh, hin, hg, HB, HI⟩ := hrel
    by_cases hlt : lo < hi
    · have hc := HF.out wr ((lo + hi) / 2) (by omega) HB.out
      rw [show (((lo + hi) / 2 : Nat) : Int) = ((lo : Int) + (hi : Int)) / 2 by omega] at hc
      cases hp : p ((lo + hi) / 2) <;> rw [hp] at hc
      · have HP := hide hp
        clear hp
        go_wp2_with (go_at_fn g; refine hc.mono ?_; rintro e w' ⟨rfl, hb⟩)
        go_roundg (hi - ((lo + hi) / 2 + 1))
        case measure => omega
        case rel =>
          exact ⟨(lo + hi) / 2 + 1, hi, by rw [show ((lo : Int) + (hi : Int)) / 2 + 1 = (((lo + hi) / 2 + 1 : Nat) : Int) by omega], rfl, by omega, hin, Nat.le_refl _, hide (HB.out.trans (hb.mono HB.out.size)), hide ⟨fun t ht => (by
            cases h : p t with
            | false => rfl
            | true => have := HM.out t ((lo + hi) / 2) (by omega) (by omega) h; rw [HP.out] at this; cases this), HI.out.2⟩⟩
      · have HP := hide hp
        clear hp
        go_wp2_with (go_at_fn g; refine hc.mono ?_; rintro e w' ⟨rfl, hb⟩)
        go_roundg ((lo + hi) / 2 - lo)
        case measure => omega
        case rel =>
          exact ⟨lo, (lo + hi) / 2, rfl, by rw [show ((lo : Int) + (hi : Int)) / 2 = (((lo + hi) / 2 : Nat) : Int) by omega], by omega, by omega, Nat.le_refl _, hide (HB.out.trans (hb.mono HB.out.size)), hide ⟨HI.out.1, fun t ht htn => HM.out ((lo + hi) / 2) t ht htn HP.out⟩⟩
    · obtain rfl : hi = lo := by omega
      have ecnt := HC.out hi hin HI.out.1 HI.out.2
      subst ecnt
      clear HC HF HM
      go_wp2
      go_ret
      exact ⟨rfl, HB.out⟩
end Go.Proofs.YtdolpeljengpaaaGreat

/- The walks of roof.fits and of roof.Peak, with their closures. -/
namespace Go.Proofs.YtdolpeljengpaaaGreat
open Go.RowKit Go.Sort
set_option linter.unusedVariables false
set_option linter.unusedSimpArgs false

theorem cov_eq (l : List R4) (x y s : Int) : (covF l (2 * x + s) (2 * y + s) s == 2 * s * (2 * s)) = covE l x y s := rfl
set_option maxRecDepth 100000 in
set_option maxHeartbeats 8000000 in
theorem fitsB_any {w : World} {v : Value} {l : List R4} {B ga gr gs : Nat} (hr : RdK encR 4 w B v l) (hB : B ≤ w.heap.size) (hl : l.length ≤ 400) (hv : ∀ r ∈ l, valid4 r) (a0 a1 a2 a3 b0 b1 b2 b3 s : Int) (hs : 1 ≤ s ∧ s ≤ 2000001)
    (h0 : -1000000 ≤ a0 ∧ a0 ≤ 1000000) (h2 : -1000000 ≤ a2 ∧ a2 ≤ 1000000) (k1 : -1000000 ≤ b1 ∧ b1 ≤ 1000000) (k3 : -1000000 ≤ b3 ∧ b3 ≤ 1000000)
    (ca0 : w.cell? ⟨ga, 0, none⟩ = some (.int .i64 a0)) (ca2 : w.cell? ⟨ga, 2, none⟩ = some (.int .i64 a2)) (cr : w.cell? ⟨gr, 0, none⟩ = some v) (cs : w.cell? ⟨gs, 0, none⟩ = some (.int .i64 s)) :
    Calls Tryz.prog 127 #[.agg #[.int .i64 b0, .int .i64 b1, .int .i64 b2, .int .i64 b3], .pointer (some ⟨ga, 0, none⟩), .pointer (some ⟨gr, 0, none⟩), .pointer (some ⟨gs, 0, none⟩)] w fun e w' => e = .returned (.bool (fitsQ l s ⟨a0, a1, a2, a3⟩ ⟨b0, b1, b2, b3⟩)) ∧ Below w.heap.size w w' := by
  have HCV : Hid (∀ x y : Int, -1000000 ≤ x ∧ x ≤ 1000000 → -1000000 ≤ y ∧ y ≤ 1000000 → ∀ W : World, Below w.heap.size w W → Calls Tryz.prog 128 #[v, .int .i64 (2 * x + s), .int .i64 (2 * y + s), .int .i64 s] W fun e w' => e = .returned (.int .i64 (covF l (2 * x + s) (2 * y + s) s)) ∧ Below W.heap.size W w') := hide (fun x y g1 g2 W hW =>
    (covered_any (((hr.mono hB).below hW).mono hW.size) hl hv (2 * x + s) (2 * y + s) s (by omega) (by omega) (by omega)).mono fun e w' ⟨he, os, hg⟩ => ⟨he, by rw [hg]; exact below_grown_sl W.heap.size W 0 os (Nat.le_refl _)⟩)
  have HQ : Hid (fitsQ l s ⟨a0, a1, a2, a3⟩ ⟨b0, b1, b2, b3⟩ = (covE l a0 b1 s || covE l a0 b3 s || covE l a2 b1 s || covE l a2 b3 s)) := hide rfl
  have hs2 : IntKind.i64.wrap (2 * s * (2 * s)) = 2 * s * (2 * s) := IntWalk.i64_in _ (by have := sq_bd hs; omega)
  obtain ⟨s1, s2⟩ := hs
  obtain ⟨h01, h02⟩ := h0
  obtain ⟨h21, h22⟩ := h2
  obtain ⟨k11, k12⟩ := k1
  obtain ⟨k31, k32⟩ := k3
  clear hr hB hl hv
  generalize fitsQ l s ⟨a0, a1, a2, a3⟩ ⟨b0, b1, b2, b3⟩ = FQ at *
  have la := lt_of_cell ca0
  have lr := lt_of_cell cr
  have ls := lt_of_cell cs
  go_enter Tryz.func127, Tryz.ntmps127
  go_upto_region 1 with fail
  refine wp_name fun Z hZ => ?_
  have hbz : Below w.heap.size w Z := by rw [hZ]; exact (Below.refl _ _).alloc (Nat.le_refl _) _
  have z1 : Z.cell? ⟨w.heap.size, 1, none⟩ = some (.int .i64 b1) := by rw [hZ]; simp [go_sem]
  have z3 : Z.cell? ⟨w.heap.size, 3, none⟩ = some (.int .i64 b3) := by rw [hZ]; simp [go_sem]
  have lz : w.heap.size < Z.heap.size := by rw [hZ]; simp
  have y0 := (hbz.cell (p := ⟨ga, 0, none⟩) la).trans ca0
  have y2 := (hbz.cell (p := ⟨ga, 2, none⟩) la).trans ca2
  have yr := (hbz.cell (p := ⟨gr, 0, none⟩) lr).trans cr
  have ys := (hbz.cell (p := ⟨gs, 0, none⟩) ls).trans cs
  have lr2 := lt_of_cell yr
  have ls2 := lt_of_cell ys
  have HBZ := hide hbz
  have HZ : Hid (∀ W, Below Z.heap.size Z W → W.cell? ⟨w.heap.size, 1, none⟩ = some (.int .i64 b1) ∧ W.cell? ⟨w.heap.size, 3, none⟩ = some (.int .i64 b3) ∧ W.cell? ⟨gr, 0, none⟩ = some v ∧ W.cell? ⟨gs, 0, none⟩ = some (.int .i64 s)) := hide (fun W hW =>
    ⟨(hW.cell (p := ⟨_, 1, none⟩) lz).trans z1, (hW.cell (p := ⟨_, 3, none⟩) lz).trans z3, (hW.cell (p := ⟨gr, 0, none⟩) lr2).trans yr, (hW.cell (p := ⟨gs, 0, none⟩) ls2).trans ys⟩)
  clear hZ hbz ca0 ca2 cr cs la lr ls z1 z3 yr ys lr2 ls2
  go_upto_region 2 with fail
  clear y0 y2
  go_loopw [15] (fun p wr => ∃ i : Nat, i ≤ 2 ∧ p = .int .i64 i ∧ Hid ((1 ≤ i → covE l a0 b1 s = false ∧ covE l a0 b3 s = false) ∧ (2 ≤ i → covE l a2 b1 s = false ∧ covE l a2 b3 s = false)) ∧ Hid (Below Z.heap.size Z wr)) (fun p _ => 2 - (intOf p).toNat)
  case atStart => exact ⟨0, Nat.zero_le _, rfl, hide ⟨fun h => by omega, fun h => by omega⟩, hide (Below.refl _ _)⟩
  case round =>
    obtain ⟨i, hi, rfl, HI, HB⟩ := hrel
    have hi3 : i = 0 ∨ i = 1 ∨ i = 2 := by omega
    rcases hi3 with rfl | rfl | rfl
    · obtain ⟨y1, y3, yr, ys⟩ := HZ.out _ HB.out
      have hidx : ∀ w : World, (Instr.index 158 (.agg #[.int .i64 a0, .int .i64 a2]) (.int .i64 0)).run Tryz.prog w = .ok (.int .i64 a0) w := fun _ => by kernel_rfl
      go_upto_region 5 with fail
      clear hidx
      clear y1 y3 yr ys
      go_loopw [23] (fun p wr => ∃ j : Nat, j ≤ 2 ∧ p = .int .i64 j ∧ Hid ((1 ≤ j → covE l a0 b1 s = false) ∧ (2 ≤ j → covE l a0 b3 s = false)) ∧ Hid (Below Z.heap.size Z wr)) (fun p _ => 2 - (intOf p).toNat)
      case atStart => exact ⟨0, Nat.zero_le _, rfl, hide ⟨fun h => by omega, fun h => by omega⟩, HB⟩
      case round =>
        clear HB
        obtain ⟨j, hj, rfl, HJ, HB⟩ := hrel
        have hj3 : j = 0 ∨ j = 1 ∨ j = 2 := by omega
        rcases hj3 with rfl | rfl | rfl
        · obtain ⟨y1, y3, yr, ys⟩ := HZ.out _ HB.out
          have lr := lt_of_cell yr
          have ls := lt_of_cell ys
          have hidx : ∀ w : World, (Instr.index 158 (.agg #[.int .i64 b1, .int .i64 b3]) (.int .i64 0)).run Tryz.prog w = .ok (.int .i64 b1) w := fun _ => by kernel_rfl
          have HC := hide (fun (x : Above wr) => HCV.out a0 b1 (by omega) (by omega) x.get (HBZ.out.trans ((HB.out.trans (x.keeps.mono HB.out.size)).mono (Nat.le_of_lt lz))))
          by_cases ht : covE l a0 b1 s = true
          · have t := (cov_eq l a0 b1 s).trans ht
            have HR : Hid (FQ = true) := hide (by rw [HQ.out, ht]; simp)
            generalize covF l (2 * a0 + s) (2 * b1 + s) s = C at *
            clear HQ HCV HI HJ HZ ht
            go_upto_region 7 with fail
            refine wp_hab fun hab => ?_
            refine wp_region_above (by kernel_rfl) (by kernel_rfl) ?_
            repeat (go_big_quiet_step ((go_at_call 128; exact above_of (HC.out _))))
            refine wpQuiet_nil ?_
            refine above_ends fun w5 hb => ?_
            have HB5 := hide (HBZ.out.trans ((HB.out.trans (hb.mono HB.out.size)).mono (Nat.le_of_lt lz)))
            clear hab hb y1 y3 yr ys
            go_wp2_with (fail)
            go_ret
            exact ⟨by rw [HR.out]; rfl, HB5.out⟩
          · have ht' : covE l a0 b1 s = false := by simpa using ht
            have t := (cov_eq l a0 b1 s).trans ht'
            have HT := hide ht'
            clear ht ht'
            generalize covF l (2 * a0 + s) (2 * b1 + s) s = C at *
            go_upto_region 7 with fail
            refine wp_hab fun hab => ?_
            refine wp_region_above (by kernel_rfl) (by kernel_rfl) ?_
            repeat (go_big_quiet_step ((go_at_call 128; exact above_of (HC.out _))))
            refine wpQuiet_nil ?_
            refine above_ends fun w5 hb => ?_
            have HB5 := hide (HB.out.trans (hb.mono HB.out.size))
            clear hab hb y1 y3 yr ys t
            go_wp2_with (fail)
            go_roundw
            case rel => exact ⟨1, by omega, rfl, hide ⟨fun _ => HT.out, fun h => absurd h (by omega)⟩, HB5⟩
            case measure => simp [intOf]
        · obtain ⟨y1, y3, yr, ys⟩ := HZ.out _ HB.out
          have lr := lt_of_cell yr
          have ls := lt_of_cell ys
          have hidx : ∀ w : World, (Instr.index 158 (.agg #[.int .i64 b1, .int .i64 b3]) (.int .i64 1)).run Tryz.prog w = .ok (.int .i64 b3) w := fun _ => by kernel_rfl
          have HC := hide (fun (x : Above wr) => HCV.out a0 b3 (by omega) (by omega) x.get (HBZ.out.trans ((HB.out.trans (x.keeps.mono HB.out.size)).mono (Nat.le_of_lt lz))))
          by_cases ht : covE l a0 b3 s = true
          · have t := (cov_eq l a0 b3 s).trans ht
            have HR : Hid (FQ = true) := hide (by rw [HQ.out, ht]; simp)
            generalize covF l (2 * a0 + s) (2 * b3 + s) s = C at *
            clear HQ HCV HI HJ HZ ht
            go_upto_region 7 with fail
            refine wp_hab fun hab => ?_
            refine wp_region_above (by kernel_rfl) (by kernel_rfl) ?_
            repeat (go_big_quiet_step ((go_at_call 128; exact above_of (HC.out _))))
            refine wpQuiet_nil ?_
            refine above_ends fun w5 hb => ?_
            have HB5 := hide (HBZ.out.trans ((HB.out.trans (hb.mono HB.out.size)).mono (Nat.le_of_lt lz)))
            clear hab hb y1 y3 yr ys
            go_wp2_with (fail)
            go_ret
            exact ⟨by rw [HR.out]; rfl, HB5.out⟩
          · have ht' : covE l a0 b3 s = false := by simpa using ht
            have t := (cov_eq l a0 b3 s).trans ht'
            have HT := hide ht'
            clear ht ht'
            generalize covF l (2 * a0 + s) (2 * b3 + s) s = C at *
            go_upto_region 7 with fail
            refine wp_hab fun hab => ?_
            refine wp_region_above (by kernel_rfl) (by kernel_rfl) ?_
            repeat (go_big_quiet_step ((go_at_call 128; exact above_of (HC.out _))))
            refine wpQuiet_nil ?_
            refine above_ends fun w5 hb => ?_
            have HB5 := hide (HB.out.trans (hb.mono HB.out.size))
            clear hab hb y1 y3 yr ys t
            go_wp2_with (fail)
            go_roundw
            case rel => exact ⟨2, by omega, rfl, hide ⟨fun _ => HJ.out.1 (by omega), fun h => HT.out⟩, HB5⟩
            case measure => simp [intOf]
        · clear HI
          go_wp2_with (fail)
          go_roundw
          case rel => exact ⟨1, by omega, rfl, hide ⟨fun _ => ⟨HJ.out.1 (by omega), HJ.out.2 (by omega)⟩, fun h => absurd h (by omega)⟩, HB⟩
          case measure => simp [intOf]
    · obtain ⟨y1, y3, yr, ys⟩ := HZ.out _ HB.out
      have hidx : ∀ w : World, (Instr.index 158 (.agg #[.int .i64 a0, .int .i64 a2]) (.int .i64 1)).run Tryz.prog w = .ok (.int .i64 a2) w := fun _ => by kernel_rfl
      go_upto_region 5 with fail
      clear hidx
      clear y1 y3 yr ys
      go_loopw [23] (fun p wr => ∃ j : Nat, j ≤ 2 ∧ p = .int .i64 j ∧ Hid ((1 ≤ j → covE l a2 b1 s = false) ∧ (2 ≤ j → covE l a2 b3 s = false)) ∧ Hid (Below Z.heap.size Z wr)) (fun p _ => 2 - (intOf p).toNat)
      case atStart => exact ⟨0, Nat.zero_le _, rfl, hide ⟨fun h => by omega, fun h => by omega⟩, HB⟩
      case round =>
        clear HB
        obtain ⟨j, hj, rfl, HJ, HB⟩ := hrel
        have hj3 : j = 0 ∨ j = 1 ∨ j = 2 := by omega
        rcases hj3 with rfl | rfl | rfl
        · obtain ⟨y1, y3, yr, ys⟩ := HZ.out _ HB.out
          have lr := lt_of_cell yr
          have ls := lt_of_cell ys
          have hidx : ∀ w : World, (Instr.index 158 (.agg #[.int .i64 b1, .int .i64 b3]) (.int .i64 0)).run Tryz.prog w = .ok (.int .i64 b1) w := fun _ => by kernel_rfl
          have HC := hide (fun (x : Above wr) => HCV.out a2 b1 (by omega) (by omega) x.get (HBZ.out.trans ((HB.out.trans (x.keeps.mono HB.out.size)).mono (Nat.le_of_lt lz))))
          by_cases ht : covE l a2 b1 s = true
          · have t := (cov_eq l a2 b1 s).trans ht
            have HR : Hid (FQ = true) := hide (by rw [HQ.out, ht]; simp)
            generalize covF l (2 * a2 + s) (2 * b1 + s) s = C at *
            clear HQ HCV HI HJ HZ ht
            go_upto_region 7 with fail
            refine wp_hab fun hab => ?_
            refine wp_region_above (by kernel_rfl) (by kernel_rfl) ?_
            repeat (go_big_quiet_step ((go_at_call 128; exact above_of (HC.out _))))
            refine wpQuiet_nil ?_
            refine above_ends fun w5 hb => ?_
            have HB5 := hide (HBZ.out.trans ((HB.out.trans (hb.mono HB.out.size)).mono (Nat.le_of_lt lz)))
            clear hab hb y1 y3 yr ys
            go_wp2_with (fail)
            go_ret
            exact ⟨by rw [HR.out]; rfl, HB5.out⟩
          · have ht' : covE l a2 b1 s = false := by simpa using ht
            have t := (cov_eq l a2 b1 s).trans ht'
            have HT := hide ht'
            clear ht ht'
            generalize covF l (2 * a2 + s) (2 * b1 + s) s = C at *
            go_upto_region 7 with fail
            refine wp_hab fun hab => ?_
            refine wp_region_above (by kernel_rfl) (by kernel_rfl) ?_
            repeat (go_big_quiet_step ((go_at_call 128; exact above_of (HC.out _))))
            refine wpQuiet_nil ?_
            refine above_ends fun w5 hb => ?_
            have HB5 := hide (HB.out.trans (hb.mono HB.out.size))
            clear hab hb y1 y3 yr ys t
            go_wp2_with (fail)
            go_roundw
            case rel => exact ⟨1, by omega, rfl, hide ⟨fun _ => HT.out, fun h => absurd h (by omega)⟩, HB5⟩
            case measure => simp [intOf]
        · obtain ⟨y1, y3, yr, ys⟩ := HZ.out _ HB.out
          have lr := lt_of_cell yr
          have ls := lt_of_cell ys
          have hidx : ∀ w : World, (Instr.index 158 (.agg #[.int .i64 b1, .int .i64 b3]) (.int .i64 1)).run Tryz.prog w = .ok (.int .i64 b3) w := fun _ => by kernel_rfl
          have HC := hide (fun (x : Above wr) => HCV.out a2 b3 (by omega) (by omega) x.get (HBZ.out.trans ((HB.out.trans (x.keeps.mono HB.out.size)).mono (Nat.le_of_lt lz))))
          by_cases ht : covE l a2 b3 s = true
          · have t := (cov_eq l a2 b3 s).trans ht
            have HR : Hid (FQ = true) := hide (by rw [HQ.out, ht]; simp)
            generalize covF l (2 * a2 + s) (2 * b3 + s) s = C at *
            clear HQ HCV HI HJ HZ ht
            go_upto_region 7 with fail
            refine wp_hab fun hab => ?_
            refine wp_region_above (by kernel_rfl) (by kernel_rfl) ?_
            repeat (go_big_quiet_step ((go_at_call 128; exact above_of (HC.out _))))
            refine wpQuiet_nil ?_
            refine above_ends fun w5 hb => ?_
            have HB5 := hide (HBZ.out.trans ((HB.out.trans (hb.mono HB.out.size)).mono (Nat.le_of_lt lz)))
            clear hab hb y1 y3 yr ys
            go_wp2_with (fail)
            go_ret
            exact ⟨by rw [HR.out]; rfl, HB5.out⟩
          · have ht' : covE l a2 b3 s = false := by simpa using ht
            have t := (cov_eq l a2 b3 s).trans ht'
            have HT := hide ht'
            clear ht ht'
            generalize covF l (2 * a2 + s) (2 * b3 + s) s = C at *
            go_upto_region 7 with fail
            refine wp_hab fun hab => ?_
            refine wp_region_above (by kernel_rfl) (by kernel_rfl) ?_
            repeat (go_big_quiet_step ((go_at_call 128; exact above_of (HC.out _))))
            refine wpQuiet_nil ?_
            refine above_ends fun w5 hb => ?_
            have HB5 := hide (HB.out.trans (hb.mono HB.out.size))
            clear hab hb y1 y3 yr ys t
            go_wp2_with (fail)
            go_roundw
            case rel => exact ⟨2, by omega, rfl, hide ⟨fun _ => HJ.out.1 (by omega), fun h => HT.out⟩, HB5⟩
            case measure => simp [intOf]
        · have HI0 := hide (HI.out.1 (by omega))
          clear HI
          go_wp2_with (fail)
          go_roundw
          case rel => exact ⟨2, by omega, rfl, hide ⟨fun _ => HI0.out, fun h => ⟨HJ.out.1 (by omega), HJ.out.2 (by omega)⟩⟩, HB⟩
          case measure => simp [intOf]
    · have HR : Hid (FQ = false) := hide (by
        obtain ⟨e1, e2⟩ := HI.out
        obtain ⟨f1, f2⟩ := e1 (by omega)
        obtain ⟨f3, f4⟩ := e2 (by omega)
        rw [HQ.out, f1, f2, f3, f4]
        rfl)
      clear HQ HI HCV
      have HB5 := hide (HBZ.out.trans (HB.out.mono (Nat.le_of_lt lz)))
      go_wp2_with (fail)
      go_ret
      exact ⟨by rw [HR.out]; rfl, HB5.out⟩
theorem enter_fitsB : ∀ args w, (callFunc 127 args).run Tryz.prog w = .ok (.enter 127 args) w := enters_of Tryz.func127 (by kernel_rfl) rfl
set_option maxHeartbeats 4000000 in
theorem fitsA_any {w : World} {A : Option Addr} {c : Nat} {l : List R4} {B gr gs : Nat} (hr : RdK encR 4 w B (.slice A l.length c) l) (hB : B ≤ w.heap.size) (hl : l.length ≤ 400) (hv : ∀ r ∈ l, valid4 r) (a : R4) (ha : valid4 a) (s : Int) (hs : 1 ≤ s ∧ s ≤ 2000001)
    (cr : w.cell? ⟨gr, 0, none⟩ = some (.slice A l.length c)) (cs : w.cell? ⟨gs, 0, none⟩ = some (.int .i64 s)) :
    Calls Tryz.prog 126 #[.agg (encR a).toArray, .pointer (some ⟨gr, 0, none⟩), .pointer (some ⟨gs, 0, none⟩)] w fun e w' => e = .returned (.bool (l.any fun b => fitsQ l s a b)) ∧ Below w.heap.size w w' := by
  obtain ⟨a0, a1, a2, a3⟩ := a
  show Calls Tryz.prog 126 #[.agg #[.int .i64 a0, .int .i64 a1, .int .i64 a2, .int .i64 a3], .pointer (some ⟨gr, 0, none⟩), .pointer (some ⟨gs, 0, none⟩)] w _
  have lr := lt_of_cell cr
  have ls := lt_of_cell cs
  obtain ⟨Z, hZ⟩ : ∃ Z, Z = w.alloc (.cells #[.int .i64 a0, .int .i64 a1, .int .i64 a2, .int .i64 a3] 69) := ⟨_, rfl⟩
  have hbz : Below w.heap.size w Z := by rw [hZ]; exact (Below.refl _ _).alloc (Nat.le_refl _) _
  have z0 : Z.cell? ⟨w.heap.size, 0, none⟩ = some (.int .i64 a0) := by rw [hZ]; simp [go_sem]
  have z2 : Z.cell? ⟨w.heap.size, 2, none⟩ = some (.int .i64 a2) := by rw [hZ]; simp [go_sem]
  have lz : w.heap.size < Z.heap.size := by rw [hZ]; simp
  have yr := (hbz.cell (p := ⟨gr, 0, none⟩) lr).trans cr
  have ys := (hbz.cell (p := ⟨gs, 0, none⟩) ls).trans cs
  have lr2 := lt_of_cell yr
  have ls2 := lt_of_cell ys
  have h := cfReg_any (w := Z) (((hr.mono hB).below hbz).mono hbz.size) (by omega) 127 #[.pointer (some ⟨w.heap.size, 0, none⟩), .pointer (some ⟨gr, 0, none⟩), .pointer (some ⟨gs, 0, none⟩)] (fun b => fitsQ l s ⟨a0, a1, a2, a3⟩ b) enter_fitsB
    (fun W b hb hW => by
      obtain ⟨u1, u2, ⟨u3, u4⟩, ⟨u5, u6⟩, ⟨u7, u8⟩, u9, u10⟩ := ha
      obtain ⟨t1, t2, ⟨t3, t4⟩, ⟨t5, t6⟩, ⟨t7, t8⟩, t9, t10⟩ := hv b hb
      obtain ⟨b0, b1, b2, b3⟩ := b
      exact fitsB_any ((((hr.mono hB).below hbz).mono hbz.size).below hW) hW.size hl hv a0 a1 a2 a3 b0 b1 b2 b3 s hs ⟨u3, u4⟩ ⟨u5, u6⟩ ⟨t7, t8⟩ ⟨t9, t10⟩
        ((hW.cell (p := ⟨_, 0, none⟩) lz).trans z0) ((hW.cell (p := ⟨_, 2, none⟩) lz).trans z2) ((hW.cell (p := ⟨gr, 0, none⟩) lr2).trans yr) ((hW.cell (p := ⟨gs, 0, none⟩) ls2).trans ys))
  have HB := hide hbz
  have H := hide h
  clear h hbz hr hv ha z0 z2 lr2 ls2 hB hs
  generalize (l.any fun b => fitsQ l s ⟨a0, a1, a2, a3⟩ b) = R at *
  clear ys
  have nr : gr ≠ w.heap.size := by omega
  go_enter Tryz.func126, Tryz.ntmps126
  go_upto_region 1 with fail
  rw [← hZ]
  clear hZ
  go_wp2_with (go_at_call 113; refine H.out.mono ?_; rintro e w1 ⟨rfl, hb⟩)
  go_ret
  exact ⟨rfl, HB.out.trans (hb.mono HB.out.size)⟩
theorem enter_fitsA : ∀ args w, (callFunc 126 args).run Tryz.prog w = .ok (.enter 126 args) w := enters_of Tryz.func126 (by kernel_rfl) rfl
set_option maxHeartbeats 4000000 in
theorem fits15_any {w : World} {v : Value} {l : List R4} (hr : RdK encR 4 w w.heap.size v l) (hl : l.length ≤ 400) (hv : ∀ r ∈ l, valid4 r) (s : Int) (hs : 1 ≤ s ∧ s ≤ 2000001) :
    Calls Tryz.prog 77 #[v, .int .i64 s] w fun e w' => e = .returned (.bool (fitsF l s)) ∧ Below w.heap.size w w' := by
  obtain ⟨A, c, rfl, _⟩ := id hr
  obtain ⟨Z, hZ⟩ : ∃ Z, Z = (w.alloc (.cells #[.slice A l.length c] 27)).alloc (.cells #[.int .i64 s] 3) := ⟨_, rfl⟩
  have hbz : Below w.heap.size w Z := by rw [hZ]; exact ((Below.refl _ _).alloc (Nat.le_refl _) _).alloc (by simp) _
  have z0 : Z.cell? ⟨w.heap.size, 0, none⟩ = some (.slice A l.length c) := by rw [hZ]; simp [go_sem]
  have z1 : Z.cell? ⟨w.heap.size + 1, 0, none⟩ = some (.int .i64 s) := by rw [hZ]; simp [go_sem]
  have lz : w.heap.size + 1 < Z.heap.size := by rw [hZ]; simp
  have h := cfReg_any (w := Z) ((hr.below hbz).mono hbz.size) (by omega) 126 #[.pointer (some ⟨w.heap.size, 0, none⟩), .pointer (some ⟨w.heap.size + 1, 0, none⟩)] (fun a => l.any fun b => fitsQ l s a b) enter_fitsA
    (fun W a ha hW => fitsA_any (((hr.below hbz).mono hbz.size).below hW) hW.size hl hv a (hv a ha) s hs ((hW.cell (p := ⟨_, 0, none⟩) (by show w.heap.size < Z.heap.size; omega)).trans z0) ((hW.cell (p := ⟨_, 0, none⟩) lz).trans z1))
  have HB := hide hbz
  have HF : Hid ((l.any fun a => l.any fun b => fitsQ l s a b) = fitsF l s) := hide rfl
  have H := hide h
  clear h hbz hr hv z1 hs
  generalize (l.any fun a => l.any fun b => fitsQ l s a b) = R at *
  go_enter Tryz.func77, Tryz.ntmps77
  go_upto_region 1 with fail
  rw [← hZ]
  clear hZ
  go_wp2_with (go_at_call 113; refine H.out.mono ?_; rintro e w1 ⟨rfl, hb⟩)
  go_ret
  exact ⟨by rw [HF.out]; rfl, HB.out.trans (hb.mono HB.out.size)⟩
/-- The closure that sort.Search asks. -/
theorem peakC_any {w : World} {v : Value} {l : List R4} {B g : Nat} (hr : RdK encR 4 w B v l) (hB : B ≤ w.heap.size) (hl : l.length ≤ 400) (hv : ∀ r ∈ l, valid4 r) (c0 : w.cell? ⟨g, 0, none⟩ = some v) (i : Nat) (hi : i < 2000001) :
    Calls Tryz.prog 76 #[.int .i64 i, .pointer (some ⟨g, 0, none⟩)] w fun e w' => e = .returned (.bool (!fitsF l ((i : Int) + 1))) ∧ Below w.heap.size w w' := by
  have HC := hide (fits15_any (hr.mono hB) hl hv ((i : Int) + 1) (by omega))
  have hiz : (i : Int) < 2000001 := by omega
  clear hr hl hv
  generalize fitsF l ((i : Int) + 1) = C at *
  go_enter Tryz.func76, Tryz.ntmps76
  go_wp2_with (fail)
  refine HC.out.mono ?_
  rintro e w' ⟨rfl, hg⟩
  have HG := hide hg
  clear hg
  go_wp2_with (fail)
  go_ret
  exact ⟨rfl, HG.out⟩
theorem enter_peakC : ∀ args w, (callFunc 76 args).run Tryz.prog w = .ok (.enter 76 args) w := enters_of Tryz.func76 (by kernel_rfl) rfl
def peakR (l : List R4) : Int × Int := if checkF l = 0 then (peakF l, 0) else (0, checkF l)
set_option maxHeartbeats 4000000 in
theorem oPeak_any {w : World} {v : Value} {l : List R4} (hr : RdK encR 4 w w.heap.size v l) (hl : l.length ≤ 100000000) :
    Calls Tryz.prog 35 #[v] w fun e w' => e = .returned (.tuple #[.int .i64 (peakR l).1, .int .i64 (peakR l).2]) ∧ Below w.heap.size w w' := by
  obtain ⟨A, c, rfl, _⟩ := id hr
  obtain ⟨Z, hZ⟩ : ∃ Z, Z = w.alloc (.cells #[.slice A l.length c] 27) := ⟨_, rfl⟩
  have hbz : Below w.heap.size w Z := by rw [hZ]; exact (Below.refl _ _).alloc (Nat.le_refl _) _
  have z0 : Z.cell? ⟨w.heap.size, 0, none⟩ = some (.slice A l.length c) := by rw [hZ]; simp [go_sem]
  have lz : w.heap.size < Z.heap.size := by rw [hZ]; simp
  have HCK := hide (check_any ((hr.below hbz).mono hbz.size) hl)
  have HZ0 : Hid (∀ W, Below Z.heap.size Z W → W.cell? ⟨w.heap.size, 0, none⟩ = some (.slice A l.length c)) := hide (fun W hW => (hW.cell (p := ⟨_, 0, none⟩) lz).trans z0)
  have HB := hide hbz
  by_cases hc : checkF l = 0
  · have hv := (checkF_ok hc).2.1
    have hs := (check_rcan hc).apart
    have hn := (checkF_ok hc).1
    have HS : Hid (∀ W, Below Z.heap.size Z W → Calls Tryz.prog 75 #[.int .i64 2000001, .func (.func 76) #[] #[.pointer (some ⟨w.heap.size, 0, none⟩)]] W fun e w' => e = .returned (.int .i64 (peakF l)) ∧ Below W.heap.size W w') := hide (fun W hW => by
      have h := search_any (w := W) 76 #[.pointer (some ⟨w.heap.size, 0, none⟩)] 2000001 (fun i => !fitsF l ((i : Int) + 1)) enter_peakC (by omega)
        (fun W2 i hi hW2 => peakC_any (((((hr.below hbz).mono hbz.size).below hW).mono hW.size).below hW2) hW2.size hn hv ((hW2.cell (p := ⟨_, 0, none⟩) (by have := hW.size; show w.heap.size < W.heap.size; omega)).trans (HZ0.out W hW)) i hi) (fits_mono hv hs)
      simp only [Bool.not_not] at h
      exact h)
    have HF : Hid (peakR l = (((peakF l : Nat) : Int), 0)) := hide (by unfold peakR; rw [if_pos hc])
    rw [hc] at HCK
    clear hc hv hs hn hr hl hbz
    generalize peakF l = F at *
    go_enter Tryz.func35, Tryz.ntmps35
    go_upto_region 1 with fail
    rw [← hZ]
    clear hZ
    go_wp2_with (fail)
    refine HCK.out.mono ?_
    rintro e w1 ⟨rfl, hb⟩
    have HB1 := hide hb
    clear hb HCK z0
    go_wp2_with (fail)
    refine (HS.out _ HB1.out).mono ?_
    rintro e w2 ⟨rfl, hb⟩
    have HB2 := hide (HB.out.trans ((HB1.out.trans (hb.mono HB1.out.size)).mono HB.out.size))
    clear hb HB1 HS
    go_wp2_with (fail)
    go_ret2
    exact ⟨by rw [HF.out]; rfl, HB2.out⟩
  · have HF : Hid (peakR l = (0, checkF l)) := hide (if_neg hc)
    have hne : (checkF l != 0) = true := by simpa using hc
    clear hc hr hl hbz
    generalize checkF l = ck at *
    go_enter Tryz.func35, Tryz.ntmps35
    go_upto_region 1 with fail
    rw [← hZ]
    clear hZ
    go_wp2_with (fail)
    refine HCK.out.mono ?_
    rintro e w1 ⟨rfl, hb⟩
    have HB1 := hide (HB.out.trans (hb.mono HB.out.size))
    clear hb HCK z0
    go_wp2_with (fail)
    go_ret2
    exact ⟨by rw [HF.out]; rfl, HB1.out⟩
end Go.Proofs.YtdolpeljengpaaaGreat

/- The walks of the two functions that reckon a greatest common divisor, and of the two that make a ratio, up to 1000000000. -/
namespace Go.Proofs.YtdolpeljengpaaaGreat
open Go.RowKit
set_option linter.unusedVariables false
set_option linter.unusedSimpArgs false

set_option maxHeartbeats 400000 in
theorem gcd_any (a b : Nat) (w : World) (ha : a ≤ 1000000000) (hb : b ≤ 1000000000) :
    Calls Tryz.prog 136 #[.int .u64 a, .int .u64 b] w fun e w' => e = .returned (.int .u64 (Nat.gcd a b : Nat)) ∧ Below w.heap.size w w' := by
  obtain ⟨g, hg⟩ : ∃ g, Nat.gcd a b = g := ⟨_, rfl⟩
  rw [hg]
  have HG := hide hg
  clear hg
  go_enter Tryz.func136, Tryz.ntmps136
  go_wp2
  go_loopw [0, 1] (fun s0 s1 wr => ∃ x y : Nat, s0 = .int .u64 (x : Int) ∧ s1 = .int .u64 (y : Int) ∧ x ≤ 1000000000 ∧ y ≤ 1000000000 ∧ Hid (Nat.gcd x y = g) ∧ Below w.heap.size w wr) (fun _ s1 _ => (intOf s1).toNat)
  case atStart => exact ⟨a, b, rfl, rfl, ha, hb, HG, Below.refl _ _⟩
  case round =>
    obtain ⟨x, y, rfl, rfl, hx, hy, HX, hB⟩ := hrel
    by_cases h0 : y = 0
    · subst h0
      go_wp2
      go_ret
      have := HX.out
      rw [Nat.gcd_zero_right] at this
      exact ⟨ret_eq (int_eq (by rw [this])), hB⟩
    · have h0' : ((y : Int) != 0) = true := by simpa using h0
      have h1 : 1 ≤ (y : Int) := by omega
      have hm : x % y < y := Nat.mod_lt _ (by omega)
      clear h0
      go_wp2
      go_quiet (fail)
      go_wp2
      go_roundw
      case rel =>
        refine ⟨y, x % y, rfl, by rw [Int.natCast_emod], hy, by omega, ?_, below_drewN hB _⟩
        have := HX.out
        rw [Nat.gcd_comm, Nat.gcd_rec, Nat.gcd_comm] at this
        exact hide (by rw [Nat.gcd_comm]; rw [← this]; rw [Nat.gcd_comm])
      case measure => simp [intOf]; omega

theorem size_any (a : Int) (w : World) (h1 : 0 ≤ a) (h2 : a ≤ 1000000000) : Calls Tryz.prog 135 #[.int .i64 a] w fun e w' => e = .returned (.int .u64 a) ∧ w = w' := by
  go_enter Tryz.func135, Tryz.ntmps135
  go_wp2
  go_ret
  exact ⟨rfl, rfl⟩

theorem div_bd (a g : Nat) (hg : 1 ≤ g) (ha : a ≤ 1000000000) : 0 ≤ (a : Int) / (g : Int) ∧ (a : Int) / (g : Int) ≤ 1000000000 := by
  have h := Nat.div_le_self a g
  have e : (a : Int) / (g : Int) = ((a / g : Nat) : Int) := by rw [Int.natCast_ediv]
  rw [e]
  exact ⟨Int.natCast_nonneg _, Int.ofNat_le.2 (Nat.le_trans h ha)⟩

set_option maxHeartbeats 1000000 in
theorem ratMk_any (a n g : Nat) (w : World) (ha : a ≤ 1000000000) (hn : n ≤ 1000000000) (h1 : 1 ≤ n) (hg : Hid (Nat.gcd a n = g)) :
    Calls Tryz.prog 86 #[.int .i64 a, .int .i64 n] w fun e w' => e = .returned (.tuple #[.agg #[.int .i64 ((a : Int) / (g : Int)), .int .i64 ((n : Int) / (g : Int))], .int .i64 0]) ∧ Below w.heap.size w w' := by
  have hg1 : 1 ≤ g := by have := hg.out; have := Nat.gcd_pos_of_pos_right a (n := n) (by omega); omega
  have hgi : 1 ≤ (g : Int) := by omega
  obtain ⟨d1, d1'⟩ := div_bd a g hg1 ha
  obtain ⟨d2, d2'⟩ := div_bd n g hg1 hn
  have hgl : g ≤ n := by have := hg.out; have := Nat.gcd_le_right (m := a) (n := n) (by omega); omega
  have hs1 := fun w => size_any a w (by omega) (by omega)
  have hs2 := fun w => size_any n w (by omega) (by omega)
  have hgc := fun w => (gcd_any a n w ha hn).mono (R' := fun e w' => e = .returned (.int .u64 g) ∧ Below w.heap.size w w') fun e w' h => by rw [hg.out] at h; exact h
  have hni : ((n : Int) == 0) = false := by simp; omega
  have hna : decide ((a : Int) < 0) = false := by simp
  have hnn : decide ((n : Int) < 0) = false := by simp
  clear hg
  go_enter Tryz.func86, Tryz.ntmps86
  go_wp2_with (first
    | (go_at_call_of 135 (Value.int .i64 (a : Int)); refine (hs1 _).mono ?_; rintro e w' ⟨rfl, rfl⟩)
    | (go_at_call_of 135 (Value.int .i64 (n : Int)); refine (hs2 _).mono ?_; rintro e w' ⟨rfl, rfl⟩)
    | (go_at_call 136; refine (hgc _).mono ?_; rintro e w1 ⟨rfl, hb1⟩; obtain ⟨hc1, hf1⟩ := bcell hb1; have hz1 : w.heap.size < w1.heap.size := by have := hb1.size; simp at this; omega))
  refine wp_hab fun hab => ?_
  refine wp_region_above (by kernel_rfl) (by kernel_rfl) ?_
  repeat (go_big_quiet_step (fail))
  refine wpQuiet_nil ?_
  refine above_ends fun w2 hb2 => ?_
  clear hab
  obtain ⟨hc2, hf2⟩ := bcell hb2
  have hz2 : w.heap.size < w2.heap.size := by have := hb2.size; omega
  go_wp2
  refine bodyPost_ret (v := .tuple #[.agg #[.int .i64 ((a : Int) / (g : Int)), .int .i64 ((n : Int) / (g : Int))], .int .i64 0]) (by simp [results, Tryz.results86, go_sem, hc1, hc2, hz1, hz2]) rfl ⟨rfl, ?_⟩
  have b2 := (((Below.refl _ _).alloc (Nat.le_refl _) _).trans (hb1.mono (by simp))).trans (hb2.mono (by omega))
  exact ((b2.setCell (by simp) _).setCell (by simp) _).alloc (by simp; omega) _

end Go.Proofs.YtdolpeljengpaaaGreat

/- The reference's Peak and Volume. -/
namespace Go.Proofs.YtdolpeljengpaaaGreat
open Go.RowKit
set_option linter.unusedVariables false
set_option linter.unusedSimpArgs false

theorem peak_nil : peakF [] = 0 := by
  unfold peakF
  exact List.countP_eq_zero.2 fun i _ => by simp [fitsF]
/-- b is the greatest height of the half points looked at: all of the first i columns, and j of the next one. -/
structure Bst (H : Int → Int → Int) (P a c n : Int) (i j : Nat) (b : Int) : Prop where
  lo : 0 ≤ b
  hi : b ≤ P
  cols : ∀ i' j' : Nat, i' < i → (j' : Int) ≤ n → H (a + i') (c + j') ≤ b
  col : ∀ j' : Nat, j' < j → H (a + i) (c + j') ≤ b
theorem Bst.start {H : Int → Int → Int} {P a c n : Int} (hP : 0 ≤ P) : Bst H P a c n 0 0 0 := ⟨Int.le_refl _, hP, fun _ _ h => absurd h (Nat.not_lt_zero _), fun _ h => absurd h (Nat.not_lt_zero _)⟩
theorem Bst.row {H : Int → Int → Int} {P a c n : Int} {i j : Nat} {b z : Int} (h : Bst H P a c n i j b) (hz : z = H (a + i) (c + j)) (hp : z ≤ P) : Bst H P a c n i (j + 1) (max b z) := by
  have h1 := h.lo
  have h2 := h.hi
  refine ⟨by omega, by omega, fun i' j' a c => by have := h.cols i' j' a c; omega, fun j' hj => ?_⟩
  by_cases e : j' = j
  · subst e; rw [← hz]; omega
  · have := h.col j' (by omega); omega
theorem Bst.done {H : Int → Int → Int} {P a c n m : Int} {i : Nat} {b : Int} (hpk : 0 < P → ∃ x y, (a ≤ x ∧ x ≤ a + m) ∧ (c ≤ y ∧ y ≤ c + n) ∧ P ≤ H x y) (h : Bst H P a c n i 0 b) (hi : m < i) : b = P := by
  have h1 := h.lo
  have h2 := h.hi
  by_cases hp : 0 < P
  · obtain ⟨x, y, ⟨x1, x2⟩, ⟨y1, y2⟩, hle⟩ := hpk hp
    have := h.cols (x - a).toNat (y - c).toNat (by omega) (by omega)
    rw [show a + ((x - a).toNat : Int) = x by omega, show c + ((y - c).toNat : Int) = y by omega] at this
    omega
  · omega
theorem hull_in {l : List R4} (hc : checkF l = 0) (hne : l ≠ []) : (-1000000 ≤ (hullL l).x0 ∧ (hullL l).x0 < (hullL l).x1 ∧ (hullL l).x1 ≤ 1000000) ∧ (-1000000 ≤ (hullL l).y0 ∧ (hullL l).y0 < (hullL l).y1 ∧ (hullL l).y1 ≤ 1000000) := by
  have hv := (checkF_ok hc).2.1
  obtain ⟨⟨a, ha, ea⟩, ⟨b, hb2, eb⟩, ⟨c, hc2, ec⟩, ⟨d, hd, ed⟩, hall⟩ := hullL_ok hne
  obtain ⟨v1, v2, ⟨v3, v4⟩, ⟨v5, v6⟩, ⟨v7, v8⟩, v9, v10⟩ := hv a ha
  obtain ⟨u1, u2, ⟨u3, u4⟩, ⟨u5, u6⟩, ⟨u7, u8⟩, u9, u10⟩ := hv b hb2
  obtain ⟨w1, w2, ⟨w3, w4⟩, ⟨w5, w6⟩, ⟨w7, w8⟩, w9, w10⟩ := hv c hc2
  obtain ⟨x1, x2, ⟨x3, x4⟩, ⟨x5, x6⟩, ⟨x7, x8⟩, x9, x10⟩ := hv d hd
  have k1 := hall a ha
  have k2 := hall b hb2
  omega

end Go.Proofs.YtdolpeljengpaaaGreat

/- The reference's Volume. -/
namespace Go.Proofs.YtdolpeljengpaaaGreat
open Go.RowKit
set_option linter.unusedVariables false
set_option linter.unusedSimpArgs false

end Go.Proofs.YtdolpeljengpaaaGreat

/- roof.Volume. -/
namespace Go.Proofs.YtdolpeljengpaaaGreat
open Go.RowKit
set_option linter.unusedVariables false
set_option linter.unusedSimpArgs false
attribute [local go_sem] Oper.semAt_some

set_option maxHeartbeats 4000000 in
theorem quad1_any (a b c d : Int) (ha : -1000000 ≤ a ∧ a ≤ 1000000) (hb : -1000000 ≤ b ∧ b ≤ 1000000) (hc : -1000000 ≤ c ∧ c ≤ 1000000) (hd : -1000000 ≤ d ∧ d ≤ 1000000) (w : World) :
    Calls Tryz.prog 85 #[.agg #[.int .i64 a, .int .i64 b, .int .i64 c, .int .i64 d]] w fun e w' => e = .returned (.agg #[.int .i64 (4 * a), .int .i64 (4 * b), .int .i64 (4 * c), .int .i64 (4 * d)]) ∧ Below w.heap.size w w' := by
  obtain ⟨a1, a2⟩ := ha
  obtain ⟨b1, b2⟩ := hb
  obtain ⟨c1, c2⟩ := hc
  obtain ⟨d1, d2⟩ := hd
  go_enter Tryz.func85, Tryz.ntmps85
  go_upto_region 1 with fail
  refine wp_name fun Z hZ => ?_
  have hbz : Below w.heap.size w Z := by rw [hZ]; exact ((Below.refl _ _).alloc (Nat.le_refl _) _).alloc (by simp) _
  have z0 : Z.cell? ⟨w.heap.size, 0, none⟩ = some (.int .i64 a) := by rw [hZ]; simp [go_sem]
  have z1 : Z.cell? ⟨w.heap.size, 1, none⟩ = some (.int .i64 b) := by rw [hZ]; simp [go_sem]
  have z2 : Z.cell? ⟨w.heap.size, 2, none⟩ = some (.int .i64 c) := by rw [hZ]; simp [go_sem]
  have z3 : Z.cell? ⟨w.heap.size, 3, none⟩ = some (.int .i64 d) := by rw [hZ]; simp [go_sem]
  have r0 : Z.cell? ⟨w.heap.size + 1, 0, none⟩ = some (.int .i64 0) := by rw [hZ]; simp [go_sem]
  have r1 : Z.cell? ⟨w.heap.size + 1, 1, none⟩ = some (.int .i64 0) := by rw [hZ]; simp [go_sem]
  have r2 : Z.cell? ⟨w.heap.size + 1, 2, none⟩ = some (.int .i64 0) := by rw [hZ]; simp [go_sem]
  have r3 : Z.cell? ⟨w.heap.size + 1, 3, none⟩ = some (.int .i64 0) := by rw [hZ]; simp [go_sem]
  have f0 : ∀ j, Z.frozen? ⟨w.heap.size + 1, j, none⟩ = false := fun j => by rw [hZ]; simp [go_sem]
  have e0 := f0 0
  have e1 := f0 1
  have e2 := f0 2
  have e3 := f0 3
  have HB := hide hbz
  clear hZ hbz f0
  go_wp2_with (fail)
  refine bodyPost_ret (v := .agg #[.int .i64 (4 * a), .int .i64 (4 * b), .int .i64 (4 * c), .int .i64 (4 * d)]) (by simp [results, Tryz.results85, go_sem, r0, r1, r2, r3, e0, e1, e2, e3]) rfl ⟨rfl, ?_⟩
  exact (((HB.out.setCell (p := ⟨w.heap.size + 1, 0, none⟩) (Nat.le_succ _) _).setCell (p := ⟨w.heap.size + 1, 1, none⟩) (Nat.le_succ _) _).setCell (p := ⟨w.heap.size + 1, 2, none⟩) (Nat.le_succ _) _).setCell (p := ⟨w.heap.size + 1, 3, none⟩) (Nat.le_succ _) _

/-- The two boxes from bb on hold the sum and the step. -/
structure SV (bb Bo : Nat) (W0 : World) (s d : Int) (W : World) : Prop where
  lo : bb + 1 < Bo
  size : Bo ≤ W.heap.size
  c0 : W.cell? ⟨bb, 0, none⟩ = some (.int .i64 s)
  c1 : W.cell? ⟨bb + 1, 0, none⟩ = some (.int .i64 d)
  f0 : W.frozen? ⟨bb, 0, none⟩ = false
  f1 : W.frozen? ⟨bb + 1, 0, none⟩ = false
  low : Below bb W0 W
theorem SV.below {bb Bo : Nat} {W0 A B : World} {s d : Int} (h : SV bb Bo W0 s d A) (hb : Below A.heap.size A B) : SV bb Bo W0 s d B := by
  have hlo := h.lo
  have hsz := h.size
  exact ⟨h.lo, Nat.le_trans h.size hb.size, (hb.cell (p := ⟨bb, 0, none⟩) (by show bb < _; omega)).trans h.c0, (hb.cell (p := ⟨bb + 1, 0, none⟩) (by show bb + 1 < _; omega)).trans h.c1, (hb.frozen (p := ⟨bb, 0, none⟩) (by show bb < _; omega)).trans h.f0, (hb.frozen (p := ⟨bb + 1, 0, none⟩) (by show bb + 1 < _; omega)).trans h.f1, h.low.trans (hb.mono (by omega))⟩
theorem SV.putObj {bb Bo : Nat} {W0 A : World} {s d : Int} (h : SV bb Bo W0 s d A) {l : Nat} {o o' : Obj} (hw : Bo ≤ l) (hl : A.heap[l]? = some o) (ho : o.isCells = false) (ho' : o'.isCells = false) : SV bb Bo W0 s d (A.putObj l o') := by
  have hlo := h.lo
  exact ⟨h.lo, by simpa using h.size, (cell_putObj (o' := o') hl ho ho' _).1.trans h.c0, (cell_putObj (o' := o') hl ho ho' _).1.trans h.c1, (cell_putObj (o' := o') hl ho ho' _).2.trans h.f0, (cell_putObj (o' := o') hl ho ho' _).2.trans h.f1, below_putObj h.low (by omega) _⟩
theorem SV.grown {bb Bo : Nat} {W0 A B : World} {s d : Int} (h : SV bb Bo W0 s d A) {l : Nat} (hw : Bo ≤ l) (hg : A.grownBy B (some l)) : SV bb Bo W0 s d B := by
  have hlo := h.lo
  have hsz := h.size
  have hk : ∀ q, q < bb + 2 → B.heap[q]? = A.heap[q]? := fun q hq => hg.block q (by omega) (fun e => by injection e with e; omega)
  exact ⟨h.lo, Nat.le_trans h.size hg.size, (World.cell?_of_block (w := A) (a := ⟨bb, 0, none⟩) (hk bb (by omega))).trans h.c0, (World.cell?_of_block (w := A) (a := ⟨bb + 1, 0, none⟩) (hk (bb + 1) (by omega))).trans h.c1, (World.frozen?_of_block (w := A) (a := ⟨bb, 0, none⟩) (hk bb (by omega))).trans h.f0,
    (World.frozen?_of_block (w := A) (a := ⟨bb + 1, 0, none⟩) (hk (bb + 1) (by omega))).trans h.f1, h.low.grown hg (by omega) (fun k hk => by injection hk with hk; omega)⟩
theorem SV.step {bb Bo : Nat} {W0 wr wa : World} {s d : Int} (h : SV bb Bo W0 s d wr) (ha : Below wr.heap.size wr wa) (s' d' : Int) :
    SV bb Bo W0 s' d' ((wa.setCell ⟨bb, 0, none⟩ (.int .i64 s')).setCell ⟨bb + 1, 0, none⟩ (.int .i64 d')) ∧ KeepsOthers wr ((wa.setCell ⟨bb, 0, none⟩ (.int .i64 s')).setCell ⟨bb + 1, 0, none⟩ (.int .i64 d')) ∧ KpR bb 2 Bo wr ((wa.setCell ⟨bb, 0, none⟩ (.int .i64 s')).setCell ⟨bb + 1, 0, none⟩ (.int .i64 d')) := by
  have h2 := h.below ha
  have hlo := h.lo
  have hsz := h.size
  have k0 := h2.c0
  have k1 := h2.c1
  have far : ∀ q o, q ≠ bb → q ≠ bb + 1 → ((wa.setCell ⟨bb, 0, none⟩ (.int .i64 s')).setCell ⟨bb + 1, 0, none⟩ (.int .i64 d')).cell? ⟨q, o, none⟩ = wa.cell? ⟨q, o, none⟩ := fun q o n1 n2 =>
    World.cell?_of_block (w := wa) (a := ⟨q, o, none⟩) ((Below.heap_setCell _ _ _ _ n2).trans (Below.heap_setCell _ _ _ _ n1))
  refine ⟨⟨hlo, ?_, by simp [go_sem, k0, k1], by simp [go_sem, k0, k1], by rw [World.frozen?_setCell, World.frozen?_setCell]; exact h2.f0, by rw [World.frozen?_setCell, World.frozen?_setCell]; exact h2.f1, ?_⟩, ?_, ?_, fun b o h1 h3 => ?_⟩
  · have := ha.size; simp [World.setCell]; omega
  · exact (h2.low.setCell (p := ⟨bb, 0, none⟩) (Nat.le_refl _) _).setCell (p := ⟨bb + 1, 0, none⟩) (Nat.le_succ _) _
  · exact ((keeps_below ha).trans (KeepsOthers.setCell _ _ _)).trans (KeepsOthers.setCell _ _ _)
  · have := ha.size; simp [World.setCell]; omega
  · exact (far b o (by omega) (by omega)).trans (ha.cell (p := ⟨b, o, none⟩) (by show b < _; omega))
theorem range_at {N d : Nat} {pre post : List Nat} (h : List.range N = pre ++ d :: post) : d = pre.length ∧ pre.length < N := by
  have h1 : (List.range N)[pre.length]? = some d := by rw [h, List.getElem?_append_right (Nat.le_refl _)]; simp
  obtain ⟨h2, h3⟩ := List.getElem?_eq_some_iff.1 h1
  rw [List.getElem_range] at h3
  rw [List.length_range] at h2
  exact ⟨h3.symm, h2⟩
theorem tmod_one (d : Nat) : (((d : Nat) : Int).tmod 2 == 1) = decide (d % 2 = 1) := by
  have h : ((d : Nat) : Int).tmod 2 = ((d % 2 : Nat) : Int) := by
    rw [Int.tmod_eq_emod_of_nonneg (by omega)]
    omega
  rw [h, Bool.eq_iff_iff]
  simp
  omega
theorem emod_one (d : Nat) : (((d : Nat) : Int) % 2 == 1) = decide (d % 2 = 1) := by
  rw [Bool.eq_iff_iff]
  simp
  omega
theorem quad_take {l : List R4} {m : Nat} {r : R4} (h : l[m]? = some r) : (quadL (l.take (m + 1))).flatMap encR = (quadL (l.take m)).flatMap encR ++ [.int .i64 (4 * r.x0), .int .i64 (4 * r.y0), .int .i64 (4 * r.x1), .int .i64 (4 * r.y1)] := by
  unfold quadL
  rw [List.take_add_one, h, List.map_append, List.flatMap_append]
  simp [encR, quad4]

set_option maxRecDepth 100000 in
set_option maxHeartbeats 8000000 in
theorem oVolume_any {w : World} {v : Value} {l : List R4} (hr : RdK encR 4 w w.heap.size v l) (hl : l.length ≤ 100000000) (hn : measF l = 0 → l.length ≤ 12 ∧ ∀ r ∈ l, near4 25 r) :
    Calls Tryz.prog 39 #[v] w fun e w' => e = .returned (.tuple #[.agg #[.int .i64 (volR l).1.1, .int .i64 (volR l).1.2], .int .i64 (volR l).2]) ∧ Below w.heap.size w w' := by
  have HME := hide (fun (W : World) (hW : Below w.heap.size w W) => omeasured_any ((hr.below hW).mono hW.size) hl)
  obtain ⟨A0, c0, hv, hcc⟩ := id hr
  subst hv
  by_cases hm : measF l = 0
  · obtain ⟨hl12, hb⟩ := hn hm
    have hc : checkF l = 0 := by rw [meas_near hb] at hm; exact hm
    have hqc := wide_chk hc hb
    have hql : (quadL l).length ≤ 12 := by rw [wide_len]; exact hl12
    have hqn := wide_near4 hb
    obtain ⟨N, hN1, hN⟩ := lev_of hqc hql (m := 100) (by omega) hqn
    obtain ⟨hN2, hvs, hv0, hv3⟩ := vol_lev_all hc hl12 hb hN
    have HSD := hide (fun (d : Nat) (hd : d ≤ N) => (near_shr hqc hql hqn d (by omega)).1)
    have HBD := hide (volS_bd hc hl12 hb)
    have HST := hide (volS_step l)
    have HAR : Hid (∀ d : Nat, d ≤ N → checkF (levS (quadL l) d) = 0 ∧ (levS (quadL l) d).length ≤ 400) := hide (fun d hd => ⟨lev_check hqc hql hqn d (by omega), (near_shr hqc hql hqn d (by omega)).2.2⟩)
    have HF : Hid (volR l = (((((volT l).toNat : Nat) : Int) / ((volG l : Nat) : Int), ((48 : Nat) : Int) / ((volG l : Nat) : Int)), (0 : Int))) := hide (if_pos hm)
    have HV : Hid (∀ r ∈ l, valid4 r) := hide (checkF_ok hc).2.1
    have HG := hide (gcd_four (volT l).toNat)
    have HGE : Hid (Nat.gcd (volT l).toNat 48 = volG l) := hide rfl
    have hqe : (quadL l).length = l.length := wide_len l
    have HTK : Hid (quadL (l.take l.length) = quadL l) := hide (by rw [List.take_length])
    rw [hm] at HME
    obtain ⟨i1, gi, gz0, gz1, gz2⟩ := info_parts infoRc
    have HRC := hide hcc
    have HN := hide hN
    have HVS := hide hvs
    clear hr hN hvs hn hm hb hc hqc hqn hcc
    generalize volR l = VR at *
    refine (callsIn_wide (n := 0)).1 ?_
    refine callsIn_of_wp_marks Tryz.func39 rfl trivial ?_
    simp only [Tryz.ntmps39, List.size_toArray, List.length_cons, List.length_nil, Nat.reduceAdd, Nat.reduceSub, Array.replicate_succ, Array.replicate_zero, List.push_toArray, List.append_toArray, List.nil_append, List.cons_append]
    refine wpIn_wide.2 ?_
    go_upto_region 1 with fail
    refine wp_name fun Z hZ => ?_
    have hbz : Below w.heap.size w Z := by rw [hZ]; exact ((Below.refl _ _).alloc (Nat.le_refl _) _).alloc (by simp) _
    have z0 : Z.cell? ⟨w.heap.size, 0, none⟩ = some (.int .i64 0) := by rw [hZ]; simp [go_sem]
    have z1 : Z.cell? ⟨w.heap.size, 1, none⟩ = some (.int .i64 0) := by rw [hZ]; simp [go_sem]
    have z2 : Z.cell? ⟨w.heap.size + 1, 0, none⟩ = some (.int .i64 0) := by rw [hZ]; simp [go_sem]
    have f0 : Z.frozen? ⟨w.heap.size, 0, none⟩ = false := by rw [hZ]; simp [go_sem]
    have f1 : Z.frozen? ⟨w.heap.size, 1, none⟩ = false := by rw [hZ]; simp [go_sem]
    have f2 : Z.frozen? ⟨w.heap.size + 1, 0, none⟩ = false := by rw [hZ]; simp [go_sem]
    have lz : Z.heap.size = w.heap.size + 2 := by rw [hZ]; simp
    have HBZ := hide hbz
    have HRES : Hid (∀ W, Below Z.heap.size Z W → (W.cell? ⟨w.heap.size, 0, none⟩ = some (.int .i64 0) ∧ W.cell? ⟨w.heap.size, 1, none⟩ = some (.int .i64 0) ∧ W.cell? ⟨w.heap.size + 1, 0, none⟩ = some (.int .i64 0)) ∧ W.frozen? ⟨w.heap.size, 0, none⟩ = false ∧ W.frozen? ⟨w.heap.size, 1, none⟩ = false ∧ W.frozen? ⟨w.heap.size + 1, 0, none⟩ = false) := hide (fun W hW =>
      ⟨⟨(hW.cell (p := ⟨w.heap.size, 0, none⟩) (by show w.heap.size < Z.heap.size; omega)).trans z0, (hW.cell (p := ⟨w.heap.size, 1, none⟩) (by show w.heap.size < Z.heap.size; omega)).trans z1, (hW.cell (p := ⟨w.heap.size + 1, 0, none⟩) (by show w.heap.size + 1 < Z.heap.size; omega)).trans z2⟩,
        (hW.frozen (p := ⟨w.heap.size, 0, none⟩) (by show w.heap.size < Z.heap.size; omega)).trans f0, (hW.frozen (p := ⟨w.heap.size, 1, none⟩) (by show w.heap.size < Z.heap.size; omega)).trans f1, (hW.frozen (p := ⟨w.heap.size + 1, 0, none⟩) (by show w.heap.size + 1 < Z.heap.size; omega)).trans f2⟩)
    clear hZ hbz z0 z1 z2 f0 f1 f2
    go_wp2_with (fail)
    refine (HME.out Z HBZ.out).mono ?_
    rintro e w1 ⟨rfl, hb1⟩
    have hs1 := hb1.size
    have HB1 := hide hb1
    have hlw : w.heap.size + 2 ≤ w1.heap.size := by omega
    clear hb1 HME
    go_wp2_with (fail)
    go_loopw [6, 23] (fun o i wr => ∃ m : Nat, m ≤ l.length ∧ i = .int .i64 m ∧ ∃ Aw cw, o = .slice Aw m cw ∧ Hid (wr.ownsRow w1.heap.size 69 4 (.slice Aw m cw) m ((quadL (l.take m)).flatMap encR)) ∧ Hid (Below w1.heap.size w1 wr)) (fun _ i _ => l.length - (intOf i).toNat)
    case atStart => exact ⟨0, Nat.zero_le _, rfl, none, 0, rfl, hide (World.ownsRow_nil _ _ _ _), hide (Below.refl _ _)⟩
    case round =>
      obtain ⟨m, hm, rfl, Aw, cw, rfl, HO, HB⟩ := hrel
      have hszr := HB.out.size
      by_cases hlt : m < l.length
      · have mz : (m : Int) < (l.length : Int) := by omega
        obtain ⟨⟨p0, p1, p2, p3⟩, hp⟩ : ∃ p, l[m]? = some p := ⟨_, List.getElem?_eq_getElem hlt⟩
        obtain ⟨b, o, rfl, hbl, k⟩ := HRC.out (by intro e; rw [e] at hlt; simp at hlt)
        have hbz1 : b < Z.heap.size := by omega
        have hbw1 : b < w1.heap.size := by omega
        have rd : ∀ q, wr.cell? ⟨b, q, none⟩ = w.cell? ⟨b, q, none⟩ := fun q => (HB.out.cell (p := ⟨b, q, none⟩) hbw1).trans ((HB1.out.cell (p := ⟨b, q, none⟩) hbz1).trans (HBZ.out.cell (p := ⟨b, q, none⟩) hbl))
        have d0 : wr.cell? ⟨b, o + m * 4, none⟩ = some (.int .i64 p0) := (rd _).trans (k m _ hp 0 _ rfl)
        have d1 : wr.cell? ⟨b, o + m * 4 + 1, none⟩ = some (.int .i64 p1) := (rd _).trans (k m _ hp 1 _ rfl)
        have d2 : wr.cell? ⟨b, o + m * 4 + 2, none⟩ = some (.int .i64 p2) := (rd _).trans (k m _ hp 2 _ rfl)
        have d3 : wr.cell? ⟨b, o + m * 4 + 3, none⟩ = some (.int .i64 p3) := (rd _).trans (k m _ hp 3 _ rfl)
        obtain ⟨v1, v2, v3, v4, v5, v6⟩ := HV.out _ (List.mem_of_getElem? hp)
        have HQ := hide (fun W => quad1_any p0 p1 p2 p3 v3 v5 v4 v6 W)
        have HT := hide (quad_take hp)
        clear k hp rd v1 v2 v3 v4 v5 v6
        go_upto_region 9 with fail
        refine wp_name fun Y hY => ?_
        have hby : Below wr.heap.size wr Y := by rw [hY]; exact (Below.refl _ _).alloc (Nat.le_refl _) _
        have y0 : Y.cell? ⟨wr.heap.size, 0, none⟩ = some (.int .i64 p0) := by rw [hY]; simp [go_sem]
        have y1 : Y.cell? ⟨wr.heap.size, 1, none⟩ = some (.int .i64 p1) := by rw [hY]; simp [go_sem]
        have y2 : Y.cell? ⟨wr.heap.size, 2, none⟩ = some (.int .i64 p2) := by rw [hY]; simp [go_sem]
        have y3 : Y.cell? ⟨wr.heap.size, 3, none⟩ = some (.int .i64 p3) := by rw [hY]; simp [go_sem]
        have HOY := hide (own_below HO.out hby)
        have HBY := hide (HB.out.trans (hby.mono hszr))
        clear hY hby d0 d1 d2 d3 HO HB
        go_wp2_with (fail)
        refine (HQ.out _).mono ?_
        rintro e w5 ⟨rfl, hb5⟩
        have HO5 := hide (own_below HOY.out hb5)
        have HB5 := hide (HBY.out.trans (hb5.mono HBY.out.size))
        have hs5 := HB5.out.size
        clear hb5 HOY HBY y0 y1 y2 y3
        go_wp2_with (at_builtin; refine wpList_append_lies _ rfl (.tmp 27) (.tmp 31) 27 rfl w1.heap.size 69 i1 (.agg #[.int .i64 0, .int .i64 0, .int .i64 0, .int .i64 0]) 4 32 Tryz.underlying27 gi gz0 gz1 gz2 rfl (by decide) _ m _ rfl (HO5.out.alloc _) ⟨w5.heap.size, 0, none⟩ 1 1 [.int .i64 (4 * p0), .int .i64 (4 * p1), .int .i64 (4 * p2), .int .i64 (4 * p3)] rfl rfl (news_new w5 _ _ _ rfl) (ints_one rfl) (by omega) (by unfold maxLen; omega) (by omega) (by simp; omega) _ rfl ?_)
        intro g9 cap9 w9 hown9 hgrow9 hor9 hlt9
        rw [← HT.out] at hown9
        have HO9 := hide hown9
        have HB9 := hide ((HB5.out.alloc hs5 (.cells #[.int .i64 (4 * p0), .int .i64 (4 * p1), .int .i64 (4 * p2), .int .i64 (4 * p3)] 69)).grown hgrow9 (by simp; omega) (fun q hq => (HO5.out.lt q hq).1))
        clear hown9 hgrow9 hor9 hlt9
        go_wp2_with (fail)
        go_roundw
        case rel => exact ⟨m + 1, by omega, by go_num, _, _, rfl, HO9, HB9⟩
        case measure => simp [intOf]; omega
      · obtain rfl : m = l.length := by omega
        have mz : ¬ (l.length : Int) < (l.length : Int) := by omega
        rw [HTK.out] at HO
        obtain ⟨W0, hW0⟩ : ∃ W0, W0 = ((wr.alloc (.cells #[.int .i64 0] 2)).alloc (.cells #[.int .i64 0] 3)).alloc (.cells #[.slice Aw l.length cw] 27) := ⟨_, rfl⟩
        have hb0 : Below wr.heap.size wr W0 := by rw [hW0]; exact (((Below.refl _ _).alloc (Nat.le_refl _) _).alloc (by simp) _).alloc (by simp; omega) _
        have s0 : W0.heap.size = wr.heap.size + 3 := by rw [hW0]; simp
        have y0 : W0.cell? ⟨wr.heap.size, 0, none⟩ = some (.int .i64 0) := by rw [hW0]; simp [go_sem]
        have y1 : W0.cell? ⟨wr.heap.size + 1, 0, none⟩ = some (.int .i64 0) := by rw [hW0]; simp [go_sem]
        have y2 : W0.cell? ⟨wr.heap.size + 1 + 1, 0, none⟩ = some (.slice Aw l.length cw) := by rw [hW0]; simp [go_sem]
        have yf : W0.frozen? ⟨wr.heap.size, 0, none⟩ = false := by rw [hW0]; simp [go_sem]
        have yg : W0.frozen? ⟨wr.heap.size + 1, 0, none⟩ = false := by rw [hW0]; simp [go_sem]
        have HBW : Hid (Below Z.heap.size Z W0) := hide ((HB1.out.trans (HB.out.mono HB1.out.size)).trans (hb0.mono (by omega)))
        have hrdq : RdK encR 4 W0 wr.heap.size (.slice Aw (quadL l).length cw) (quadL l) := by
          have h := HO.out
          rw [← hqe] at h
          exact (own_rd h (fun _ => rfl)).below hb0
        rw [← hqe] at y2
        have hit := levelsIt (l := quadL l) (N := N) (bb := wr.heap.size) (k := 2) (br := wr.heap.size + 1 + 1) W0 (by omega) HN.out (by omega) HSD.out y2 (.inr (by omega)) hrdq (by omega)
        have hI0 : SV wr.heap.size W0.heap.size W0 (volS l 0) (0 : Nat) W0 := ⟨by omega, Nat.le_refl _, y0, y1, yf, yg, Below.refl _ _⟩
        clear hb0 y0 y1 y2 yf yg HO HB hrdq HB1
        go_wp2_with (go_at_call 82; refine (olevels_any _ _ _ _).mono ?_; rintro e w2 ⟨rfl, rfl⟩)
        rw [← hW0]
        clear hW0
        refine (wpIn_wide (n := 0)).1 ?_
        refine wp_range rfl (enters_of Tryz.func130 (by kernel_rfl) rfl) hit (Below.refl _ _) (fun x args A hx => by obtain ⟨_, _, rfl, _⟩ := hx; rfl) KpR.trans ?_
          (fun pre A => SV wr.heap.size W0.heap.size W0 (volS l pre.length) ((pre.length : Nat) : Int) A) (fun _ _ => False) (fun pre A B h hb => h.below hb) (fun pre A l o o' h hw hl ho ho' => h.putObj hw hl ho ho') (fun _ _ _ _ _ h => h.elim) hI0 ?_ ?_ (fun _ _ _ _ h => h.elim)
        · intro A l o o' hw h1 h2 h3
          exact ⟨by simp, fun b off hb _ => (cell_putObj h1 h2 h3 _).1⟩
        · rintro l2 pre d args A hSV ⟨post, hpost⟩ ⟨A2, c2, rfl, hrow⟩ hl1 ⟨ol, hl2, hl3⟩
          obtain ⟨rfl, hpl⟩ := range_at hpost
          have hszA := hSV.size
          have hlo := hSV.lo
          have HL1 := hide hSV
          have HROW := hide hrow
          have HL2 := hide hl2
          clear hSV hrow hit hI0 hl2 hpost
          gi_wp2
          refine ⟨KeepsFrom.of_below' (Below.refl _ _), KpR.below hszA (Below.refl _ _), ?_⟩
          intro A3 g2 s2 e2 f2
          have HL := hide (HL1.out.grown (by omega) g2)
          have HRW := hide (own_grown_obj HROW.out g2 HL2.out hl3)
          clear g2 s2 e2 f2 HL1 HROW HL2
          obtain ⟨hck, hlen⟩ := HAR.out pre.length (by omega)
          have har := area_any (own_rd HRW.out (fun _ => rfl)) (by omega)
          have haf : areaF (levS (quadL l) pre.length) = (areaS (levS (quadL l) pre.length), 0) := by unfold areaF; rw [if_pos hck]
          rw [haf] at har
          obtain ⟨⟨u1, u2⟩, u3, u4⟩ := HBD.out pre.length (by omega)
          have HSE := hide (HST.out pre.length)
          have HA := hide har
          have htm := tmod_one pre.length
          have hte := emod_one pre.length
          have hsz3 := HL.out.size
          clear hck hlen har haf
          generalize areaS (levS (quadL l) pre.length) = a at *
          generalize volS l pre.length = s at *
          have hplz : ((pre.length : Nat) : Int) ≤ 101 := by omega
          have hpl0 : (0 : Int) ≤ ((pre.length : Nat) : Int) := by omega
          gi_upto_region 17 with fail
          gi_upto_region 19 with (first
            | (refine ⟨trivial, rfl, ?_⟩)
            | (gi_at_call 30; refine (CallsIn.inRound l2 (callsIn_wide.2 HA.out)).mono ?_; rintro e' A4 ⟨rfl, hb4⟩))
          have HL4 := hide (HL.out.below hb4)
          have HS4 := hide (fun (s' d' : Int) => HL.out.step hb4 s' d')
          have x0 := HL4.out.c0
          have x1 := HL4.out.c1
          have x2 := HL4.out.f0
          have x3 := HL4.out.f1
          clear hb4 HA HL HRW
          by_cases hodd : pre.length % 2 = 1
          · have hv : volS l (pre.length + 1) = s + 4 * a := by rw [HSE.out]; unfold wtV; rw [if_pos hodd]
            have HVV := hide hv
            rw [decide_eq_true hodd] at htm hte
            clear hv hodd HSE
            gi_wp2
            obtain ⟨q1, q2, q3⟩ := HS4.out (s + 4 * a) ((pre.length : Nat) + 1)
            refine ⟨q2.from _, q3, ?_⟩
            show SV wr.heap.size W0.heap.size W0 (volS l (pre ++ [pre.length]).length) (((pre ++ [pre.length]).length : Nat) : Int) _
            rw [List.length_append, List.length_singleton, HVV.out]
            exact q1
          · rw [decide_eq_false hodd] at htm hte
            by_cases hpos : 0 < pre.length
            · have hv : volS l (pre.length + 1) = s + 2 * a := by rw [HSE.out]; unfold wtV; rw [if_neg hodd, if_pos hpos]
              have HVV := hide hv
              have hpz : (0 : Int) < ((pre.length : Nat) : Int) := by omega
              clear hv hodd HSE hpos
              gi_wp2
              obtain ⟨q1, q2, q3⟩ := HS4.out (s + 2 * a) ((pre.length : Nat) + 1)
              refine ⟨q2.from _, q3, ?_⟩
              show SV wr.heap.size W0.heap.size W0 (volS l (pre ++ [pre.length]).length) (((pre ++ [pre.length]).length : Nat) : Int) _
              rw [List.length_append, List.length_singleton, HVV.out]
              exact q1
            · have hv : volS l (pre.length + 1) = s + a := by rw [HSE.out]; unfold wtV; rw [if_neg hodd, if_neg hpos]; omega
              have HVV := hide hv
              have hpz : ((pre.length : Nat) : Int) ≤ 0 := by omega
              clear hv hodd HSE hpos
              gi_wp2
              obtain ⟨q1, q2, q3⟩ := HS4.out (s + a) ((pre.length : Nat) + 1)
              refine ⟨q2.from _, q3, ?_⟩
              show SV wr.heap.size W0.heap.size W0 (volS l (pre ++ [pre.length]).length) (((pre ++ [pre.length]).length : Nat) : Int) _
              rw [List.length_append, List.length_singleton, HVV.out]
              exact q1
        · rintro D W hD hSV hK
          have hlen : (List.range N).length = N := List.length_range
          have hSV2 : SV wr.heap.size W0.heap.size W0 (volS l N) ((N : Nat) : Int) W := by have h : SV wr.heap.size W0.heap.size W0 (volS l (List.range N).length) (((List.range N).length : Nat) : Int) W := hSV; rwa [hlen] at h
          rw [HVS.out] at hSV2
          obtain ⟨n, hn⟩ : ∃ n : Nat, volT l = n := ⟨(volT l).toNat, by omega⟩
          have hG := HG.out
          have hGE := HGE.out
          rw [hn, Int.toNat_natCast] at hG hGE
          rw [hGE] at hG
          rw [hn, show 4 * ((n : Nat) : Int) = ((4 * n : Nat) : Int) by omega] at hSV2
          have hmk := fun W => ratMk_any (4 * n) 192 (4 * volG l) W (by omega) (by omega) (by omega) (hide hG)
          have e1 := div_four n (volG l)
          have e2 : (((192 : Nat) : Int) / ((4 * volG l : Nat) : Int)) = (48 : Int) / ((volG l : Nat) : Int) := div_four 48 (volG l)
          rw [e1, e2] at hmk
          have HFV : Hid (VR = ((((n : Nat) : Int) / ((volG l : Nat) : Int), (48 : Int) / ((volG l : Nat) : Int)), (0 : Int))) := hide (by rw [HF.out, hn, Int.toNat_natCast]; rfl)
          have HMK := hide hmk
          generalize volG l = VG at *
          have hloW := hSV2.low
          have hszW := hSV2.size
          have x0 := hSV2.c0
          have hbZW : Below Z.heap.size Z W := HBW.out.trans (hloW.mono (by omega))
          obtain ⟨⟨b0, b1, b2⟩, d0, d1, d2⟩ := HRES.out W hbZW
          have HLW := hide (HBZ.out.trans (hbZW.mono HBZ.out.size))
          have HK := hide hK
          have hDw : D ≠ w.heap.size ∧ D ≠ w.heap.size + 1 := by omega
          have hwW : w.heap.size + 1 < W.heap.size := by omega
          clear hSV hSV2 hloW hit hI0 hK hmk e1 e2 hG hGE HF hbZW
          simp only [Exit.inBlock, Exit.then]
          go_wp2_with (fail)
          refine (HMK.out W).mono ?_
          rintro e W2 ⟨rfl, hb2⟩
          have b0 := (hb2.cell (p := ⟨w.heap.size, 0, none⟩) (by show w.heap.size < W.heap.size; omega)).trans b0
          have b1 := (hb2.cell (p := ⟨w.heap.size, 1, none⟩) (by show w.heap.size < W.heap.size; omega)).trans b1
          have b2 := (hb2.cell (p := ⟨w.heap.size + 1, 0, none⟩) hwW).trans b2
          have d0 := (hb2.frozen (p := ⟨w.heap.size, 0, none⟩) (by show w.heap.size < W.heap.size; omega)).trans d0
          have d1 := (hb2.frozen (p := ⟨w.heap.size, 1, none⟩) (by show w.heap.size < W.heap.size; omega)).trans d1
          have d2 := (hb2.frozen (p := ⟨w.heap.size + 1, 0, none⟩) hwW).trans d2
          have HK2 := hide ((hb2.block D (Array.getElem?_eq_some_iff.1 HK.out).1).trans HK.out)
          have HLW2 := hide (HLW.out.trans (hb2.mono HLW.out.size))
          clear hb2 x0
          go_wp2_with (fail)
          obtain ⟨W3, hW3⟩ : ∃ W3, W3 = ((W2.setCell ⟨w.heap.size, 0, none⟩ (.int .i64 ((n : Int) / (VG : Int)))).setCell ⟨w.heap.size, 1, none⟩ (.int .i64 ((48 : Int) / (VG : Int)))).setCell ⟨w.heap.size + 1, 0, none⟩ (.int .i64 0) := ⟨_, rfl⟩
          have r0 : W3.cell? ⟨w.heap.size, 0, none⟩ = some (.int .i64 ((n : Int) / (VG : Int))) := by rw [hW3]; simp [go_sem, b0, b1, b2, d0, d1, d2]
          have r1 : W3.cell? ⟨w.heap.size, 1, none⟩ = some (.int .i64 ((48 : Int) / (VG : Int))) := by rw [hW3]; simp [go_sem, b0, b1, b2, d0, d1, d2]
          have r2 : W3.cell? ⟨w.heap.size + 1, 0, none⟩ = some (.int .i64 0) := by rw [hW3]; simp [go_sem, b0, b1, b2, d0, d1, d2]
          have cD : W3.heap[D]? = some (.deferred (some [])) := by rw [hW3]; exact (Below.heap_setCell _ _ _ _ (by show D ≠ w.heap.size + 1; omega)).trans ((Below.heap_setCell _ _ _ _ (by show D ≠ w.heap.size; omega)).trans ((Below.heap_setCell _ _ _ _ (by show D ≠ w.heap.size; omega)).trans HK2.out))
          have hbL : Below w.heap.size w W3 := by rw [hW3]; exact ((HLW2.out.setCell (p := ⟨w.heap.size, 0, none⟩) (Nat.le_refl _) _).setCell (p := ⟨w.heap.size, 1, none⟩) (Nat.le_refl _) _).setCell (p := ⟨w.heap.size + 1, 0, none⟩) (Nat.le_succ _) _
          rw [← hW3]
          clear hW3 b0 b1 b2 d0 d1 d2
          refine ⟨by simp, .inl ⟨_, _, rfl, run_takeDeferred cD, ?_⟩⟩
          have e6 := (cell_putObj (o' := .deferred none) cD rfl rfl ⟨w.heap.size, 0, none⟩).1.trans r0
          have e7 := (cell_putObj (o' := .deferred none) cD rfl rfl ⟨w.heap.size, 1, none⟩).1.trans r1
          have e8 := (cell_putObj (o' := .deferred none) cD rfl rfl ⟨w.heap.size + 1, 0, none⟩).1.trans r2
          refine ⟨.tuple #[.agg #[.int .i64 ((n : Int) / (VG : Int)), .int .i64 ((48 : Int) / (VG : Int))], .int .i64 0], by simp [results, Tryz.results39, go_sem, e6, e7, e8], by rw [HFV.out], below_putObj hbL (by omega) _⟩
  · have HF : Hid (volR l = ((0, 0), measF l)) := hide (if_neg hm)
    have hne : (measF l != 0) = true := by simpa using hm
    clear hm hr hn hcc
    generalize volR l = VR at *
    generalize measF l = ck at *
    go_enter Tryz.func39, Tryz.ntmps39
    go_upto_region 1 with fail
    refine wp_name fun Z hZ => ?_
    have hbz : Below w.heap.size w Z := by rw [hZ]; exact ((Below.refl _ _).alloc (Nat.le_refl _) _).alloc (by simp) _
    have z0 : Z.cell? ⟨w.heap.size, 0, none⟩ = some (.int .i64 0) := by rw [hZ]; simp [go_sem]
    have z1 : Z.cell? ⟨w.heap.size, 1, none⟩ = some (.int .i64 0) := by rw [hZ]; simp [go_sem]
    have z2 : Z.cell? ⟨w.heap.size + 1, 0, none⟩ = some (.int .i64 0) := by rw [hZ]; simp [go_sem]
    have f0 : Z.frozen? ⟨w.heap.size, 0, none⟩ = false := by rw [hZ]; simp [go_sem]
    have f1 : Z.frozen? ⟨w.heap.size, 1, none⟩ = false := by rw [hZ]; simp [go_sem]
    have f2 : Z.frozen? ⟨w.heap.size + 1, 0, none⟩ = false := by rw [hZ]; simp [go_sem]
    have lz : Z.heap.size = w.heap.size + 2 := by rw [hZ]; simp
    have HBZ := hide hbz
    clear hZ hbz
    go_wp2_with (fail)
    refine (HME.out Z HBZ.out).mono ?_
    rintro e w1 ⟨rfl, hb1⟩
    have b0 := (hb1.cell (p := ⟨w.heap.size, 0, none⟩) (by show w.heap.size < Z.heap.size; omega)).trans z0
    have b1 := (hb1.cell (p := ⟨w.heap.size, 1, none⟩) (by show w.heap.size < Z.heap.size; omega)).trans z1
    have b2 := (hb1.cell (p := ⟨w.heap.size + 1, 0, none⟩) (by show w.heap.size + 1 < Z.heap.size; omega)).trans z2
    have d0 := (hb1.frozen (p := ⟨w.heap.size, 0, none⟩) (by show w.heap.size < Z.heap.size; omega)).trans f0
    have d1 := (hb1.frozen (p := ⟨w.heap.size, 1, none⟩) (by show w.heap.size < Z.heap.size; omega)).trans f1
    have d2 := (hb1.frozen (p := ⟨w.heap.size + 1, 0, none⟩) (by show w.heap.size + 1 < Z.heap.size; omega)).trans f2
    have HB1 := hide (HBZ.out.trans (hb1.mono HBZ.out.size))
    clear hb1 z0 z1 z2 f0 f1 f2 lz HBZ HME
    go_wp2_with (fail)
    refine bodyPost_ret (v := .tuple #[.agg #[.int .i64 0, .int .i64 0], .int .i64 ck]) (by simp [results, Tryz.results39, go_sem, b0, b1, b2, d0, d1, d2]) rfl ⟨by rw [HF.out], ?_⟩
    exact ((HB1.out.setCell (p := ⟨w.heap.size, 0, none⟩) (Nat.le_refl _) _).setCell (p := ⟨w.heap.size, 1, none⟩) (Nat.le_refl _) _).setCell (p := ⟨w.heap.size + 1, 0, none⟩) (Nat.le_succ _) _
end Go.Proofs.YtdolpeljengpaaaGreat

/- The last step from a walk to a given statement, for every law of the seat: the call returns true, and what lay in memory lies as it lay. -/
namespace Go.Proofs.YtdolpeljengpaaaGreat
open Go.ChangeShapes Go.WideShapes Go.ChangeAt Go.RowKit Go.Joins Go.Deep
set_option linter.unusedVariables false
set_option linter.unusedSimpArgs false

theorem own : ownKnob Tryz.prog.godebug = none := by kernel_rfl
theorem laidOut : laidOutB Tryz.prog = true := by kernel_rfl

section
variable {H : Type} {enc : TypeId × Value → H}
theorem trodAll_carry {P : Program} (hl : laidOutB P = true) {W W' : World} (hb : Below W.heap.size W W') :
    ∀ (ts : List TypeId) (vs : List Value) (ds : List (DataW H)) (ps : List MemPlace), (ts.all fun t => P.readableRec t && decide (t < P.types.size)) = true →
      DataW.TrodAll enc P W 0 (fun _ => true) true ts vs ds ps → (∀ x ∈ ps, x.block < W.heap.size) → DataW.TrodAll enc P W' 0 (fun b => decide (b < W.heap.size)) true ts vs ds ps
  | [], [], [], ps, _, h, _ => h
  | [], [], _ :: _, _, _, h, _ => h.elim
  | [], _ :: _, _, _, _, h, _ => h.elim
  | _ :: _, [], _, _, _, h, _ => h.elim
  | _ :: _, _ :: _, [], _, _, h, _ => h.elim
  | t :: ts, v :: vs, d :: ds, ps, hr, h, hlt => by
    obtain ⟨p, q, h1, h2, rfl⟩ := h
    simp only [List.all_cons, Bool.and_eq_true, decide_eq_true_eq] at hr
    refine ⟨p, q, Below.trod hl hr.1.1 hr.1.2 h1 hb (fun x hx => hlt x (by simp [hx])), trodAll_carry hl hb ts vs ds q ?_ h2 (fun x hx => hlt x (by simp [hx])), rfl⟩
    simpa using hr.2

theorem law_post {P : Program} {f : Func} {s : ChangeSpec} {W W' : World} {args : Array Value} {ds gs : List (DataW H)} {before : List MemPlace} {tb : TypeId}
    (hl : laidOutB P = true) (hr : (f.params.toList.all fun t => P.readableRec t && decide (t < P.types.size)) = true) (hres : f.resultTypes = #[tb]) (hbool : P.underlying tb = some .bool)
    (hvars : s.vars = []) (hW : DataW.Whole enc P f.params.toList s.vars false W args.toList ds gs before)
    (hsr : (s.fn H (ds ++ gs)).results = [.lit (.bool true)]) (hsa : (s.fn H (ds ++ gs)).args = ds) (hsv : (s.fn H (ds ++ gs)).vars = [])
    (hb : Below W.heap.size W W') : s.post enc P f false true false false W args (.bool true) W' := by
  have hlt : ∀ p ∈ before, p.block < W.heap.size := fun p hp => hW.lt p hp
  have hW0 := hW
  obtain ⟨p, q, hA, hV, rfl, hz, hn⟩ := hW
  refine ⟨ds, gs, p ++ q, [], p, [], hW0, ?_, ?_, ?_, hb.frame _, fun h => by cases h⟩
  · rw [hsr, hres]
    exact trodAll_mk1 (shut_bool hbool true)
  · rw [hsa]
    exact trodAll_carry hl hb _ _ _ _ hr hA (fun x hx => hlt x (by simp [hx]))
  · rw [hsv, hvars]
    rfl
end
end Go.Proofs.YtdolpeljengpaaaGreat

/- An argument that is a list of structs of ints, read as a list. -/
namespace Go.Proofs.YtdolpeljengpaaaGreat
open Go.ChangeShapes Go.WideShapes Go.ChangeAt Go.RowKit Go.Joins Go.Deep
set_option linter.unusedVariables false
set_option linter.unusedSimpArgs false

section
variable {H : Type} {enc : TypeId × Value → H} {P : Program} {w : World} {base : Nat} {spare : Nat → Bool} {held : Bool}
end
end Go.Proofs.YtdolpeljengpaaaGreat

/- A slice that reads as a list of lists of rectangles; an argument that is one, read as such. -/
namespace Go.Proofs.YtdolpeljengpaaaGreat
open Go.ChangeShapes Go.WideShapes Go.ChangeAt Go.RowKit Go.Joins Go.Deep
set_option linter.unusedVariables false
set_option linter.unusedSimpArgs false

/-- The slice v reads as the lists bs, all of it below block B. -/
def RdRR (w : World) (B : Nat) (v : Value) (bs : List (List R4)) : Prop :=
  ∃ A c, v = .slice A bs.length c ∧ (bs ≠ [] → ∃ b off, A = some ⟨b, off, none⟩ ∧ b < B ∧ ∀ j x, bs[j]? = some x → ∃ u, w.cell? ⟨b, off + j, none⟩ = some u ∧ RdK encR 4 w B u x)
theorem RdRR.keep {w w' : World} {B : Nat} {v : Value} {bs : List (List R4)} (h : RdRR w B v bs) (hk : ∀ b o, b < B → w'.cell? ⟨b, o, none⟩ = w.cell? ⟨b, o, none⟩) : RdRR w' B v bs := by
  obtain ⟨A, c, hv, h⟩ := h
  refine ⟨A, c, hv, fun hl => ?_⟩
  obtain ⟨b, off, hA, hb, hc⟩ := h hl
  refine ⟨b, off, hA, hb, fun j x hx => ?_⟩
  obtain ⟨u, h1, h2⟩ := hc j x hx
  exact ⟨u, (hk b _ hb).trans h1, h2.keep hk⟩
theorem RdRR.mono {w : World} {B B' : Nat} {v : Value} {bs : List (List R4)} (h : RdRR w B v bs) (hB : B ≤ B') : RdRR w B' v bs := by
  obtain ⟨A, c, hv, h⟩ := h
  refine ⟨A, c, hv, fun hl => ?_⟩
  obtain ⟨b, off, hA, hb, hc⟩ := h hl
  refine ⟨b, off, hA, by omega, fun j x hx => ?_⟩
  obtain ⟨u, h1, h2⟩ := hc j x hx
  exact ⟨u, h1, h2.mono hB⟩
theorem RdRR.below {w w' : World} {B : Nat} {v : Value} {bs : List (List R4)} (h : RdRR w B v bs) (hb : Below B w w') : RdRR w' B v bs := h.keep fun b o hlt => hb.cell (p := ⟨b, o, none⟩) hlt
section
variable {H : Type} {enc : TypeId × Value → H} {P : Program} {w : World} {base : Nat} {spare : Nat → Bool} {held : Bool}
end
end Go.Proofs.YtdolpeljengpaaaGreat

/- A list of regions that a call has laid, read as such. -/
namespace Go.Proofs.YtdolpeljengpaaaGreat
open Go.RowKit
set_option linter.unusedVariables false
set_option linter.unusedSimpArgs false

theorem regs_rd {B : Nat} {R : List (List R4)} {A : Option Addr} {c : Nat} {vs : List Value} {w : World} (ho : w.ownsRow B 27 1 (.slice A R.length c) R.length vs) (hr : ∀ (i : Nat) (r : List R4), R[i]? = some r → ∃ v, vs[i]? = some v ∧ w.ownsRow B 69 4 v r.length (r.flatMap encR)) : RdRR w w.heap.size (.slice A R.length c) R := by
  refine ⟨A, c, rfl, fun hl => ?_⟩
  have hp : 0 < R.length := List.length_pos_iff.2 hl
  obtain ⟨g, cap, hv, hB, hg⟩ := ho.form (by omega)
  injection hv with e1 _ e3
  subst e1; subst e3
  refine ⟨g, 0, rfl, (ho.lt g rfl).2, fun j x hx => ?_⟩
  obtain ⟨v, h3, h4⟩ := hr j x hx
  refine ⟨v, ?_, own_rd h4 (fun _ => rfl)⟩
  have := (ho.cells (g := g) rfl) j _ h3
  rw [addr_add] at this
  rwa [Nat.zero_add]
theorem RegsRet.rd {B : Nat} {x : List (List R4) × Int} {e : Ending} {w : World} (h : RegsRet B x e w) : ∃ A c, e = .returned (.tuple #[.slice A x.1.length c, .int .i64 x.2]) ∧ RdRR w w.heap.size (.slice A x.1.length c) x.1 := by
  obtain ⟨A, c, vs, h1, h2, h3⟩ := h
  exact ⟨A, c, h1, regs_rd h2 h3⟩
/-- A cell of a list of regions. -/
theorem RdRR.get {w : World} {A : Option Addr} {n c : Nat} {bs : List (List R4)} (h : RdRR w w.heap.size (.slice A n c) bs) {j : Nat} {x : List R4} (hx : bs[j]? = some x) : ∃ b off A2 c2, A = some ⟨b, off, none⟩ ∧ b < w.heap.size ∧ w.cell? ⟨b, off + j, none⟩ = some (.slice A2 x.length c2) ∧ RdK encR 4 w w.heap.size (.slice A2 x.length c2) x := by
  obtain ⟨A1, c1, hv, h⟩ := h
  injection hv with e1 _ _
  subst e1
  obtain ⟨b, off, rfl, hb, k⟩ := h (by intro e; rw [e] at hx; simp at hx)
  obtain ⟨u, h1, h2⟩ := k j x hx
  obtain ⟨A2, c2, rfl, _⟩ := id h2
  exact ⟨b, off, A2, c2, rfl, hb, h1, h2⟩
end Go.Proofs.YtdolpeljengpaaaGreat

/- append(x, y...) where y reads as a list, empty or nil let in; and the reference's Twin. -/
namespace Go.Proofs.YtdolpeljengpaaaGreat
open Go.RowKit
set_option linter.unusedVariables false
set_option linter.unusedSimpArgs false

section
variable {P : Program} {α : Type} {enc : α → List Value} {k : Nat}
end
end Go.Proofs.YtdolpeljengpaaaGreat

/- RegionMakes' walk: Check, Make, Has, Area and Same against the reference. -/
namespace Go.Proofs.YtdolpeljengpaaaGreat
open Go.RowKit
set_option linter.unusedVariables false
set_option linter.unusedSimpArgs false

end Go.Proofs.YtdolpeljengpaaaGreat

/- The walks of the laws RoofLevels and RoofVolumes. -/
namespace Go.Proofs.YtdolpeljengpaaaGreat
open Go.RowKit
set_option linter.unusedVariables false
set_option linter.unusedSimpArgs false

end Go.Proofs.YtdolpeljengpaaaGreat
