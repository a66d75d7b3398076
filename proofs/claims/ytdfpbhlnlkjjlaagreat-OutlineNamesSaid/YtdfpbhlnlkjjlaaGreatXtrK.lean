/- Lemmas that the statement of this seat needs beside the texts laid together; no condition. -/
import Derived.Test.YtdfpbhlnlkjjlaaGreatPk1
import Derived.Test.YtdfpbhlnlkjjlaaGreatPk2
import Derived.Test.YtdfpbhlnlkjjlaaGreatPk3
import Derived.Test.YtdfpbhlnlkjjlaaGreatPk4
import Derived.Test.YtdfpbhlnlkjjlaaGreatPk5
import Derived.Test.YtdfpbhlnlkjjlaaGreatPk6
import Derived.Test.YtdfpbhlnlkjjlaaGreatPk7
import Derived.Test.YtdfpbhlnlkjjlaaGreatPk8
import Derived.Test.YtdfpbhlnlkjjlaaGreatPk9
import Derived.Test.YtdfpbhlnlkjjlaaGreatPk10
import Derived.Test.YtdfpbhlnlkjjlaaGreatPk11
import Derived.Test.YtdfpbhlnlkjjlaaGreatPk12
import Derived.Test.YtdfpbhlnlkjjlaaGreatPk13
import Derived.Test.YtdfpbhlnlkjjlaaGreatPk14
import Derived.Test.YtdfpbhlnlkjjlaaGreatPk15
import Derived.Test.YtdfpbhlnlkjjlaaGreatShelf
import Derived.Test.YtdfpbhlnlkjjlaaGreatShelfB
import Derived.StillTactics
import Derived.Laws.StructEq
import Derived.Deep.QuietTactic
import Derived.BigQuiet
namespace Go.Proofs.YtdfpbhlnlkjjlaaGreat
open Go.RowKit Go.Maps
set_option linter.unusedVariables false
set_option linter.unusedSimpArgs false
attribute [local go_sem] Oper.semAt_some
set_option maxRecDepth 100000 in
set_option maxHeartbeats 16000000 in
theorem of_err {w : World} {v : Value} {l : List R4} (hr : RdK encR 4 w w.heap.size v l) (hl : l.length ≤ 100000000) (hk : checkF l ≠ 0) :
    Calls Tryz.prog 11 #[v] w fun e w' => e = .returned (.tuple #[.slice none 0 0, .int .i64 (checkF l)]) ∧ Below w.heap.size w w' := by
  have HC := hide (check_any hr hl)
  obtain ⟨A, c, rfl, _⟩ := hr
  have hz : (checkF l != 0) = true := by simpa using hk
  go_enter Tryz.func11, Tryz.ntmps11
  go_wp2_with (fail)
  refine HC.out.mono ?_
  rintro e w1 ⟨rfl, hb1⟩
  have HB := hide hb1
  clear hb1
  go_wp2
  go_ret2
  exact ⟨rfl, HB.out⟩
end Go.Proofs.YtdfpbhlnlkjjlaaGreat
namespace Go.Proofs.YtdfpbhlnlkjjlaaGreat
open Go.RowKit
set_option linter.unusedVariables false
set_option linter.unusedSimpArgs false
set_option maxRecDepth 100000 in
set_option maxHeartbeats 8000000 in
theorem fill_bad {w : World} {v : Value} {L : List (List Pt)} {j : Nat} {p : List Pt} (hr : RdPs w w.heap.size v L) (hj : L[j]? = some p) (hp : chkO p ≠ 0) (hck : ∀ i, i < j → ∀ l, L[i]? = some l → chkO l = 0) (hn : (L.map List.length).sum ≤ 2000) (hL : L.length ≤ 100000000) :
    Calls Tryz.prog 23 #[v] w fun e w' => e = .returned (.tuple #[.slice none 0 0, .int .i64 (chkO p)]) ∧ Below w.heap.size w w' := by
  have HCK := hide hck
  have HJ := hide hj
  have HP := hide hp
  obtain ⟨cd, hcd⟩ : ∃ z, chkO p = z := ⟨_, rfl⟩
  rw [hcd]
  have HCD := hide hcd
  clear hck hj hp hcd
  have HR := hide hr
  have HSUM := hide hn
  obtain ⟨A, c, rfl, _⟩ := hr
  clear hn
  rename_i hrr
  clear hrr
  go_enter Tryz.func23, Tryz.ntmps23
  go_wp2
  go_loopw [4, 15] (fun s q wr => ∃ k s1 : Nat, k ≤ L.length ∧ s = .int .i64 (s1 : Int) ∧ q = .int .i64 (k : Int) ∧ Hid (((L.take k).map List.length).sum = s1) ∧ Hid (Below w.heap.size w wr)) (fun _ q _ => L.length - (intOf q).toNat)
  case atStart => exact ⟨0, 0, Nat.zero_le _, rfl, rfl, hide rfl, hide (Below.refl _ _)⟩
  case round =>
    obtain ⟨k, s1, hk, rfl, rfl, HS, HB⟩ := hrel
    by_cases hlt : k < L.length
    · have kz : (k : Int) < (L.length : Int) := by omega
      have k0 : (0 : Int) ≤ (k : Int) := by omega
      obtain ⟨r, hrk⟩ : ∃ p, L[k]? = some p := ⟨_, List.getElem?_eq_getElem hlt⟩
      obtain ⟨b, o, u, rfl, hb, e0', hu⟩ := HR.out.get hrk
      obtain ⟨Au, cu, rfl, _⟩ := hu
      have e0 := (HB.out.cell (p := ⟨b, _, none⟩) hb).trans e0'
      have hbr : b < wr.heap.size := Nat.lt_of_lt_of_le hb HB.out.size
      obtain ⟨s2, hs2⟩ : ∃ s2, s1 + r.length = s2 := ⟨_, rfl⟩
      have HS2 : Hid (((L.take (k + 1)).map List.length).sum = s2) := hide (by rw [sum_take hrk, HS.out, hs2])
      have hs3 : s2 ≤ 2000 := by have h1 := sum_take_le L (k + 1); have h2 := HSUM.out; have h3 := HS2.out; omega
      have w1 : IntKind.i64.wrap ((s1 : Int) + (r.length : Int)) = (s2 : Int) := by rw [← hs2, IntWalk.i64_in _ (by omega)]; omega
      have q1 : ¬ (2000 : Int) < (s2 : Int) := by omega
      clear hrk e0' hs2 hs3 hb
      rename_i hrr2
      clear hrr2
      go_wp2
      go_roundw
      case rel => exact ⟨k + 1, s2, hlt, rfl, by go_num, HS2, HB⟩
      case measure => simp [intOf]; omega
    · have kz : ¬ (k : Int) < (L.length : Int) := by omega
      clear HS hlt hk
      go_wp2
      go_loopw [28] (fun q wr => ∃ k : Nat, k ≤ j ∧ q = .int .i64 (k : Int) ∧ Hid (Below w.heap.size w wr)) (fun q _ => L.length - (intOf q).toNat)
      case atStart => exact ⟨0, Nat.zero_le _, rfl, HB⟩
      case round =>
        clear HB
        obtain ⟨k, hk, rfl, HB⟩ := hrel
        have hjl : j < L.length := (List.getElem?_eq_some_iff.1 HJ.out).1
        have kz : (k : Int) < (L.length : Int) := by omega
        have k0 : (0 : Int) ≤ (k : Int) := by omega
        obtain ⟨r, hrk⟩ : ∃ p, L[k]? = some p := ⟨_, List.getElem?_eq_getElem (by omega)⟩
        obtain ⟨b, o, u, rfl, hb, e0', hu⟩ := HR.out.get hrk
        have e0 := (HB.out.cell (p := ⟨b, _, none⟩) hb).trans e0'
        have hbr : b < wr.heap.size := Nat.lt_of_lt_of_le hb HB.out.size
        have hrl : r.length ≤ 100000000 := by have h1 := sum_take hrk; have h2 := sum_take_le L (k + 1); have h3 := HSUM.out; omega
        have HC := hide (fun (W : World) (hB : Below w.heap.size w W) => chkO_any (w := W) ((hu.below hB).mono hB.size) hrl)
        by_cases hlt : k < j
        · have hz := HCK.out k hlt r hrk
          rw [hz] at HC
          clear hrk e0' hb hu hz hrl
          go_wp2_with (go_at_call 47; refine (HC.out _ HB.out).mono ?_; rintro e w3 ⟨rfl, hb3⟩; have HB3 := hide (HB.out.trans (hb3.mono HB.out.size)); clear hb3)
          go_roundw
          case rel => exact ⟨k + 1, hlt, by go_num, HB3⟩
          case measure => simp [intOf]; omega
        · have hkj : k = j := by omega
          have hrp : r = p := by rw [hkj, HJ.out] at hrk; injection hrk with hrk; exact hrk.symm
          rw [hrp] at HC
          have hz : (cd != 0) = true := by rw [← HCD.out]; simpa using HP.out
          rw [HCD.out] at HC
          clear hrk e0' hb hu hrl HP hrp hkj hlt
          go_wp2_with (go_at_call 47; refine (HC.out _ HB.out).mono ?_; rintro e w3 ⟨rfl, hb3⟩; have HB3 := hide (HB.out.trans (hb3.mono HB.out.size)); clear hb3)
          go_ret2
          exact ⟨rfl, HB3.out⟩
end Go.Proofs.YtdfpbhlnlkjjlaaGreat
namespace Go.Proofs.YtdfpbhlnlkjjlaaGreat
set_option linter.unusedVariables false
set_option linter.unusedSimpArgs false
theorem unit_outl : Outl (setR [⟨0, 0, 1, 1⟩]) [sqP 0 0 1] := chkOutl_ok (M := 2) (us := [(((0, 0), .e), 4)]) (setR_bd (by decide)) (by decide +kernel)
theorem none_outl : Outl (setR []) [] := chkOutl_ok (M := 1) (us := []) (setR_bd (by decide)) (by decide +kernel)
end Go.Proofs.YtdfpbhlnlkjjlaaGreat
namespace Go.Proofs.YtdfpbhlnlkjjlaaGreat
open Go.RowKit
set_option linter.unusedVariables false
set_option linter.unusedSimpArgs false
theorem sqP_1 : sqP 0 0 1 = [(0, 0), (1, 0), (1, 1), (0, 1)] := by decide
theorem rdps_two_at {w : World} {B : Nat} (hB : w.heap.size = B) (u v : Value) (l m : List Pt) (h : RdK encS 2 w w.heap.size u l) (h2 : RdK encS 2 w w.heap.size v m) (t : TypeId) (c : Nat) : RdPs (w.alloc (.cells #[u, v] t)) (w.alloc (.cells #[u, v] t)).heap.size (.slice (some ⟨B, 0, none⟩) 2 c) [l, m] := by
  subst hB
  exact rdps_lit w [u, v] [l, m] (fun j r hr => by
    cases j with
    | zero => simp at hr; subst hr; exact ⟨u, rfl, h⟩
    | succ j =>
      cases j with
      | zero => simp at hr; subst hr; exact ⟨v, rfl, h2⟩
      | succ j => simp at hr) t c
theorem ex_ck4 : checkF [⟨0, 0, 1, 1⟩] = 0 := by kernel_rfl
theorem ex_ck5 : checkF ([] : List R4) = 0 := by kernel_rfl
theorem ex_ck6 : checkF [⟨0, 0, 0, 0⟩] = 8 := by kernel_rfl
theorem ex_fl2 : fldF [[(1, 0), (1, 1), (0, 1), (0, 0)]] = [⟨0, 0, 1, 1⟩] := (fldF_srt _).trans (by kernel_rfl)
theorem ex_fl3 : fldF [sqP 0 0 1, sqP 0 0 1] = [] := (fldF_srt _).trans (by kernel_rfl)
theorem ex_fl4 : fldF [[(0, 0), (0, 1), (1, 1), (1, 0)]] = [] := (fldF_srt _).trans (by kernel_rfl)
theorem ex_fl5 : fldF [] = [] := (fldF_srt _).trans (by kernel_rfl)
theorem ex_co2 : chkO [(1, 0), (1, 1), (0, 1), (0, 0)] = 0 := by kernel_rfl
theorem ex_co3 : chkO (sqP 0 0 1) = 0 := by kernel_rfl
theorem ex_co4 : chkO [(0, 0), (0, 1), (1, 1), (1, 0)] = 0 := by kernel_rfl
theorem ex_co5 : chkO [(0, 0), (1, 0), (1, 1)] = 8 := by kernel_rfl
end Go.Proofs.YtdfpbhlnlkjjlaaGreat
