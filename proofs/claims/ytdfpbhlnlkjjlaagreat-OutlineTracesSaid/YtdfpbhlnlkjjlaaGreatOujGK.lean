/- Outlines: the reference's Of. -/
import Derived.Test.YtdfpbhlnlkjjlaaGreatXtoK
import Derived.Test.YtdfpbhlnlkjjlaaGreatOujFK
namespace Go.Proofs.YtdfpbhlnlkjjlaaGreat
open Go.RowKit
set_option linter.unusedVariables false
set_option linter.unusedSimpArgs false
theorem rOf13_err {w : World} {v : Value} {l : List R4} (hr : RdK encR 4 w w.heap.size v l) (hl : l.length ≤ 100000000) (hk : checkF l ≠ 0) :
  Calls Tryz.prog 17 #[v] w fun e w' => e = .returned (.tuple #[.slice none 0 0, .int .i64 (checkF l)]) ∧ Below w.heap.size w w' := by
 have HC := hide (fun (W : World) (hB : Below w.heap.size w W) => rCheck_any (w := W) ((hr.below hB).mono hB.size) hl)
 obtain ⟨A, c, rfl, _⟩ := hr
 obtain ⟨k, hkk⟩ : ∃ k, checkF l = k := ⟨_, rfl⟩
 rw [hkk] at HC hk ⊢
 have hz : (k != 0) = true := by simpa using hk
 clear hkk
 go_enter Tryz.func17, Tryz.ntmps17
 go_wp2_with (fail)
 refine (HC.out _ (Below.refl _ _)).mono ?_
 rintro e w1 ⟨rfl, hb1⟩
 have HB := hide hb1
 clear hb1
 go_wp2_with (fail)
 refine (HC.out _ HB.out).mono ?_
 rintro e w2 ⟨rfl, hb2⟩
 have HB2 := hide (HB.out.trans (hb2.mono HB.out.size))
 clear hb2
 go_wp2
 go_ret2
 exact ⟨rfl, HB2.out⟩
theorem rOf13_any {w : World} {v : Value} {l : List R4} (hr : RdK encR 4 w w.heap.size v l) (hk : checkF l = 0) (hb0 : ∀ r ∈ l, -30 ≤ r.x0 ∧ -30 ≤ r.y0 ∧ r.x1 ≤ 30 ∧ r.y1 ≤ 30) :
  Calls Tryz.prog 17 #[v] w fun e w' => ∃ A c K, e = .returned (.tuple #[.slice A K.length c, .int .i64 0]) ∧ Outl (setR l) K ∧ RdPs w' w'.heap.size (.slice A K.length c) K ∧ Below w.heap.size w w' := by
 have HC := hide (rCheck_any hr (by have := (checkF_ok hk).1; omega))
 rw [hk] at HC
 have HL := hide (fun (W : World) (hB : Below w.heap.size w W) => rLoops13_any (w := W) ((hr.below hB).mono hB.size) hk hb0)
 obtain ⟨A, c, rfl, _⟩ := hr
 rename_i hrr
 clear hrr
 go_enter Tryz.func17, Tryz.ntmps17
 go_wp2_with (fail)
 refine HC.out.mono ?_
 rintro e w1 ⟨rfl, hb1⟩
 have HB := hide hb1
 clear hb1
 go_wp2_with (fail)
 refine (HL.out _ HB.out).mono ?_
 rintro e w2 ⟨A2, c2, K, rfl, hO, hP, hb2⟩
 have HB2 := hide (HB.out.trans (hb2.mono HB.out.size))
 have HO := hide hO
 have HP := hide hP
 clear hb2 hO hP
 go_wp2
 go_ret2
 exact ⟨A2, c2, K, rfl, HO.out, HP.out, HB2.out⟩
theorem out_rnd {l : List R4} {L : List (List Pt)} (hk : checkF l = 0) (hO : Outl (setR l) L) {p : List Pt} (hp : p ∈ L) : (rndS p p.length = 4 ∧ posL p = true) ∨ (rndS p p.length = -4 ∧ posL p = false) := by
 obtain ⟨u, n, hu, rfl⟩ := (hO.mem p).1 hp
 rw [hu.rndS]
 unfold posL
 rcases hu.area_sign (chk_bd hk) with ⟨h1, _⟩ | ⟨h1, _⟩
 ·exact .inl ⟨h1, by rw [h1]; rfl⟩
 ·exact .inr ⟨h1, by rw [h1]; rfl⟩
theorem filt_step {L : List (List Pt)} {k : Nat} {p : List Pt} (h : L[k]? = some p) : ((L.take (k + 1)).filter posL).length = ((L.take k).filter posL).length + (if posL p = true then 1 else 0) := by
 rw [List.take_add_one, h, Option.toList_some, List.filter_append, List.length_append]
 by_cases e : posL p = true
 ·rw [List.filter_cons_of_pos e, if_pos e]; rfl
 ·rw [List.filter_cons_of_neg e, if_neg e]; rfl
set_option maxHeartbeats 4000000 in
theorem rEuler13_err {w : World} {v : Value} {l : List R4} (hr : RdK encR 4 w w.heap.size v l) (hl : l.length ≤ 100000000) (hk : checkF l ≠ 0) :
  Calls Tryz.prog 18 #[v] w fun e w' => e = .returned (.tuple #[.int .i64 0, .int .i64 0, .int .i64 (checkF l)]) ∧ Below w.heap.size w w' := by
 have HO := hide (rOf13_err hr hl hk)
 obtain ⟨A, c, rfl, _⟩ := hr
 obtain ⟨k, hkk⟩ : ∃ k, checkF l = k := ⟨_, rfl⟩
 rw [hkk] at HO hk ⊢
 have hz : (k != 0) = true := by simpa using hk
 clear hkk
 go_enter Tryz.func18, Tryz.ntmps18
 go_wp2_with (fail)
 refine HO.out.mono ?_
 rintro e w1 ⟨rfl, hb1⟩
 have HB := hide hb1
 clear hb1
 go_wp2
 go_ret3
 exact ⟨rfl, HB.out⟩
set_option maxHeartbeats 8000000 in
theorem rEuler13_any {w : World} {v : Value} {l : List R4} (hr : RdK encR 4 w w.heap.size v l) (hk : checkF l = 0) (hb0 : ∀ r ∈ l, -30 ≤ r.x0 ∧ -30 ≤ r.y0 ∧ r.x1 ≤ 30 ∧ r.y1 ≤ 30) :
  Calls Tryz.prog 18 #[v] w fun e w' => (∃ L, Outl (setR l) L ∧ e = .returned (.tuple #[.int .i64 ((L.filter posL).length : Nat), .int .i64 ((L.length - (L.filter posL).length : Nat)), .int .i64 0])) ∧ Below w.heap.size w w' := by
 have HOF := hide (rOf13_any hr hk hb0)
 have HK := hide hk
 have hl4 := (checkF_ok hk).1
 obtain ⟨A, c, rfl, _⟩ := hr
 rename_i hrr
 clear hrr hb0 hk
 go_enter Tryz.func18, Tryz.ntmps18
 go_wp2_with (fail)
 refine HOF.out.mono ?_
 rintro e w1 ⟨A1, c1, L, rfl, hO, hP, hb1⟩
 have HO := hide hO
 have HP := hide hP
 have K := hide hb1
 have hL4 : L.length ≤ 400 := by have := (out_cnt HK.out hO).1; omega
 clear hO hP hb1 HOF
 go_wp2
 go_loopw [7, 8, 9] (fun pv hv iv wr => ∃ (k m : Nat), k ≤ L.length ∧ m ≤ k ∧ pv = .int .i64 (m : Int) ∧ hv = .int .i64 ((k - m : Nat) : Int) ∧ iv = .int .i64 (k : Int) ∧ Hid (((L.take k).filter posL).length = m) ∧ Hid (Below w.heap.size w wr) ∧ Hid (RdPs wr wr.heap.size (.slice A1 L.length c1) L)) (fun _ _ iv _ => L.length - (intOf iv).toNat)
 case atStart => exact ⟨0, 0, Nat.zero_le _, Nat.le_refl _, rfl, rfl, rfl, hide rfl, K, HP⟩
 case round =>
  clear K HP
  obtain ⟨k, m, hk, hm, rfl, rfl, rfl, HM, K, HP⟩ := hrel
  by_cases hlt : k < L.length
  ·have kz : (k : Int) < (L.length : Int) := by omega
   have k0 : (0 : Int) ≤ (k : Int) := by omega
   obtain ⟨p, hp⟩ : ∃ p, L[k]? = some p := ⟨_, List.getElem?_eq_getElem hlt⟩
   have hpm := List.mem_of_getElem? hp
   have hpc := out_chk HK.out HO.out p hpm
   have GR := hide (fun (w : World) (v : Value) (h : RdK encS 2 w w.heap.size v p) => rRounds13_any h (by have := (chkO_ok hpc).1; omega) (fun i hi => chkO_fin hpc hi))
   have hrd := out_rnd HK.out HO.out hpm
   have hfs := filt_step hp
   rw [HM.out] at hfs
   have wk : IntKind.i64.wrap ((k : Int) + 1) = (k : Int) + 1 := IntWalk.i64_in _ (by omega)
   have wm : IntKind.i64.wrap ((m : Int) + 1) = ((m + 1 : Nat) : Int) := by rw [IntWalk.i64_in _ (by omega)]; omega
   have wh : IntKind.i64.wrap (((k - m : Nat) : Int) + 1) = ((k + 1 - m : Nat) : Int) := by rw [IntWalk.i64_in _ (by omega)]; omega
   have HPP := hide hp
   clear hp hpm hpc HM
   obtain ⟨b, o, u, hA, hb, e0, hu⟩ := HP.out.get HPP.out
   subst hA
   have HU := hide hu
   clear hu
   rcases hrd with ⟨h1, h2⟩ | ⟨h1, h2⟩
   ·rw [h1] at GR
    rw [if_pos h2] at hfs
    have HFS := hide hfs
    clear h1 h2 hfs
    go_wp2_with (fail)
    refine (GR.out _ _ HU.out).mono ?_
    rintro e w2 ⟨rfl, hb2⟩
    have e1 := (hb2.cell (p := ⟨b, _, none⟩) hb).trans e0
    have hbw : b < w2.heap.size := Nat.lt_of_lt_of_le hb hb2.size
    have HU1 := hide ((HU.out.below hb2).mono hb2.size)
    have K1 := hide (K.out.trans (hb2.mono K.out.size))
    have HP1 := hide ((HP.out.below hb2).mono hb2.size)
    clear hb2 e0 hb K HP HU
    go_wp2_with (fail)
    refine (GR.out _ _ HU1.out).mono ?_
    rintro e w3 ⟨rfl, hb3⟩
    have K2 := hide (K1.out.trans (hb3.mono K1.out.size))
    have HP2 := hide ((HP1.out.below hb3).mono hb3.size)
    clear hb3 e1 hbw K1 HP1 HU1
    go_wp2
    go_roundw
    case rel => exact ⟨k + 1, m + 1, hlt, by omega, rfl, by congr 1; omega, by go_num, HFS, K2, HP2⟩
    case measure => simp [intOf]; omega
   ·rw [h1] at GR
    rw [if_neg (by rw [h2]; simp), Nat.add_zero] at hfs
    have HFS := hide hfs
    clear h1 h2 hfs
    go_wp2_with (fail)
    refine (GR.out _ _ HU.out).mono ?_
    rintro e w2 ⟨rfl, hb2⟩
    have e1 := (hb2.cell (p := ⟨b, _, none⟩) hb).trans e0
    have hbw : b < w2.heap.size := Nat.lt_of_lt_of_le hb hb2.size
    have HU1 := hide ((HU.out.below hb2).mono hb2.size)
    have K1 := hide (K.out.trans (hb2.mono K.out.size))
    have HP1 := hide ((HP.out.below hb2).mono hb2.size)
    clear hb2 e0 hb K HP HU
    go_wp2_with (fail)
    refine (GR.out _ _ HU1.out).mono ?_
    rintro e w3 ⟨rfl, hb3⟩
    have K2 := hide (K1.out.trans (hb3.mono K1.out.size))
    have HP2 := hide ((HP1.out.below hb3).mono hb3.size)
    clear hb3 e1 hbw K1 HP1 HU1
    go_wp2
    go_roundw
    case rel => exact ⟨k + 1, m, hlt, by omega, rfl, rfl, by go_num, HFS, K2, HP2⟩
    case measure => simp [intOf]; omega
  ·have kz : ¬ (k : Int) < (L.length : Int) := by omega
   have hkl : k = L.length := by omega
   have hml : m = (L.filter posL).length := by rw [← HM.out, List.take_of_length_le (by omega)]
   have HKL := hide hkl
   have HML := hide hml
   clear hkl hml hlt
   go_wp2
   go_ret3
   exact ⟨⟨L, HO.out, by rw [HKL.out, HML.out]; rfl⟩, K.out⟩
end Go.Proofs.YtdfpbhlnlkjjlaaGreat
