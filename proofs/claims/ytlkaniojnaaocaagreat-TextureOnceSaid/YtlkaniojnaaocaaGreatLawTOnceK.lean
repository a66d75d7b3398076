/- The walk of TextureOnce. -/
import Derived.Test.YtlkaniojnaaocaaGreatPk9
import Derived.Test.YtlkaniojnaaocaaGreatPk10
import Derived.Test.YtlkaniojnaaocaaGreatPk8
import Derived.Deep.DeepCutAuto
namespace Go.Proofs.YtlkaniojnaaocaaGreat
open Go.RowKit
set_option linter.unusedVariables false
set_option linter.unusedSimpArgs false

theorem wrapT_add (A B : Int) : IntKind.i64.wrap (IntKind.i64.wrap A + B) = IntKind.i64.wrap (A + B) := by
  simp [IntKind.wrap, IntKind.bits, IntKind.signed]
  repeat' split
  all_goals omega
theorem rd_one (w : World) (a b c d : Int) (t : TypeId) : RdK encR 4 (w.alloc (.cells #[.int .i64 a, .int .i64 b, .int .i64 c, .int .i64 d] t)) (w.alloc (.cells #[.int .i64 a, .int .i64 b, .int .i64 c, .int .i64 d] t)).heap.size (.slice (some ⟨w.heap.size, 0, none⟩) 1 1) ([⟨a, b, c, d⟩] : List R4) := rd_lit w [⟨a, b, c, d⟩] t 1
def sumA (R : List (Ky × List R4)) (m : Nat) : Int := ((R.take m).map fun q => areaS q.2).sum
theorem sumA_snoc {R : List (Ky × List R4)} {m : Nat} {q : Ky × List R4} (h : R[m]? = some q) : sumA R (m + 1) = sumA R m + areaS q.2 := by
  unfold sumA
  rw [List.take_add_one, h]
  simp
set_option maxRecDepth 100000 in
set_option maxHeartbeats 8000000 in
theorem once_walk {w : World} {v : Value} {l : List R4} (hr : RdK encR 4 w w.heap.size v l) (hl : l.length ≤ maxLen) (W H S : Int) :
    Calls Tryz.prog 7 #[v, .agg #[.int .i64 W, .int .i64 H, .int .i64 S]] w fun e w' => e = .returned (.bool true) ∧ Below w.heap.size w w' := by
  obtain ⟨A0, c0, rfl, _⟩ := id hr
  have HT := hide (T1.start w W H S)
  have HR := hide ((hr.below HT.out.low).mono HT.out.low.size)
  have K := hide HT.out.low
  clear hr
  go_enter Tryz.func7, Tryz.ntmps7
  obtain ⟨-, -, p0, p1, p2⟩ := HT.out
  go_wp2_with (fail)
  refine (alive41_any _).mono ?_
  rintro e v1 ⟨rfl, hb⟩
  clear p0 p1 p2
  replace K := hide (K.out.trans (hb.mono K.out.size))
  replace HR := hide ((HR.out.below hb).mono hb.size)
  replace HT := hide (HT.out.keep hb)
  clear hb
  obtain ⟨-, -, p0, p1, p2⟩ := HT.out
  go_wp2_with (fail)
  refine (fit41_any HR.out hl W H S).mono ?_
  rintro e v2 (⟨rfl, hb⟩ | ⟨rfl, hF, hb⟩)
  · clear p0 p1 p2
    replace K := hide (K.out.trans (hb.mono K.out.size))
    replace HR := hide ((HR.out.below hb).mono hb.size)
    replace HT := hide (HT.out.keep hb)
    clear hb
    obtain ⟨-, -, p0, p1, p2⟩ := HT.out
    go_wp2_with (fail)
    go_ret
    exact ⟨rfl, K.out⟩
  · clear p0 p1 p2
    replace K := hide (K.out.trans (hb.mono K.out.size))
    replace HR := hide ((HR.out.below hb).mono hb.size)
    replace HT := hide (HT.out.keep hb)
    clear hb
    obtain ⟨h20, hck, hp⟩ := hF
    clear hl
    have HP := hide hp
    have HCK := hide hck
    have G2 := hide (fun (w : World) (v : Value) (h : RdK encR 4 w w.heap.size v l) => tile_any h (by omega) W H S)
    have herr := tileF_err hp hck
    have hbd := hide (fun q => tileF_bd (W := W) (H := H) (S := S) (l := l) (q := q))
    have HCQ := hide (fun q => tileF_chk (W := W) (H := H) (S := S) (l := l) (q := q))
    have HNE := hide (fun q => tileF_ne (W := W) (H := H) (S := S) (l := l) (q := q))
    have HOUT := hide (fun q => tileF_out (W := W) (H := H) (S := S) (l := l) (q := q))
    have HOFF := hide (fun q => tileF_off (W := W) (H := H) (S := S) (l := l) (q := q))
    have HSUM := hide (tileF_sum hp hck)
    have HSRT := hide (tileF_srt W H S l)
    have hlen := tileF_len (W := W) (H := H) (S := S) (l := l)
    obtain ⟨⟨R, E⟩, hT⟩ : ∃ x, tileF W H S l = x := ⟨_, rfl⟩
    rw [hT] at G2 hbd hlen herr HCQ HNE HOUT HOFF HSUM HSRT
    simp only at hbd hlen herr HCQ HNE HOUT HOFF HSUM HSRT
    have har := area_le hck
    have GAR := hide (fun (w : World) (v : Value) (h : RdK encR 4 w w.heap.size v l) => by have := area_any h (by omega); rwa [show areaF l = (areaS l, 0) by unfold areaF; rw [if_pos hck]] at this)
    clear hT hp hck
    obtain ⟨-, -, p0, p1, p2⟩ := HT.out
    go_wp2_with (fail)
    refine (G2.out _ _ HR.out).mono ?_
    rintro e v3 ⟨hpc, hb⟩
    clear p0 p1 p2
    replace K := hide (K.out.trans (hb.mono K.out.size))
    replace HR := hide ((HR.out.below hb).mono hb.size)
    replace HT := hide (HT.out.keep hb)
    obtain ⟨xA, rfl, hA⟩ := pcs_rd hpc
    have HA := hide hA
    clear hpc hA
    clear hb
    obtain ⟨Aa, ca, rfl, -⟩ := id HA.out
    clear G2
    rcases herr with rfl | rfl
    · have HSM := hide (HSUM.out rfl)
      clear HSUM
      generalize areaS l = TOT at *
      obtain ⟨PS, hPS⟩ : ∃ PS, PS = sumA R := ⟨_, rfl⟩
      have HPN : Hid (∀ (m : Nat) (q : Ky × List R4), R[m]? = some q → PS (m + 1) = PS m + areaS q.2) := hide (fun m q h => by rw [hPS]; exact sumA_snoc h)
      have HP0 : Hid (PS 0 = 0) := hide (by rw [hPS]; rfl)
      have HPE : Hid (PS R.length = TOT) := hide (by rw [hPS, ← HSM.out]; unfold sumA; rw [List.take_length])
      clear hPS HSM
      obtain ⟨-, -, p0, p1, p2⟩ := HT.out
      go_wp2_with (fail)
      clear p0 p1 p2
      go_loopw [8, 9] (fun s i wr => ∃ (m : Nat) (u : Int), m ≤ R.length ∧ i = .int .i64 (m : Int) ∧ s = .int .i64 u ∧ Hid (u = IntKind.i64.wrap (PS m)) ∧ Hid (Below v3.heap.size v3 wr)) (fun _ i _ => R.length - (intOf i).toNat)
      case atStart => exact ⟨0, 0, Nat.zero_le _, rfl, rfl, hide (by rw [HP0.out]; rfl), hide (Below.refl _ _)⟩
      case round =>
        obtain ⟨m, u, hm, rfl, rfl, HU, HBW⟩ := hrel
        by_cases hlt : m < R.length
        · obtain ⟨⟨⟨row, col⟩, J⟩, hk⟩ : ∃ q, R[m]? = some q := ⟨_, List.getElem?_eq_getElem hlt⟩
          have hqm := List.mem_of_getElem? hk
          obtain ⟨-, ⟨⟨ra, rb⟩, ca1, cb1⟩, hJl⟩ := hbd.out _ hqm
          have hcq := HCQ.out _ hqm
          have hne := HNE.out _ hqm
          have hout := HOUT.out _ hqm
          have hoff := HOFF.out _ hqm
          have hpn := HPN.out _ _ hk
          simp only at ra rb ca1 cb1 hJl hcq hne hout hoff hpn
          have hJ0 : 0 < J.length := List.length_pos_iff.2 hne
          have rdA : RdP wr wr.heap.size _ R := (HA.out.below HBW.out).mono HBW.out.size
          obtain ⟨_, _, eA, kA⟩ := rdA
          injection eA with q1 q2 q3
          subst q1
          subst q3
          (try clear q2)
          obtain ⟨g1, rfl, hg1, k1A⟩ := kA (by intro e; rw [e] at hlt; simp at hlt)
          obtain ⟨a0, a1, u1, a2, r1⟩ := k1A m _ _ hk
          obtain ⟨A1, d1, rfl, -⟩ := id r1
          simp only at a0 a1
          have hp0 := HT.out.below HBW.out
          obtain ⟨-, -, p0, p1, p2⟩ := hp0
          have hq0 : w.heap.size < wr.heap.size := by have := HBW.out.size; have := HT.out.hb; omega
          have HRJ := hide r1
          have HRL := hide ((HR.out.below HBW.out).mono HBW.out.size)
          have HST : Hid (wr.cell? ⟨g1, m * 3, none⟩ = some (.int .i64 col) ∧ wr.cell? ⟨g1, m * 3 + 1, none⟩ = some (.int .i64 row) ∧ wr.cell? ⟨g1, m * 3 + 2, none⟩ = some (.slice A1 J.length d1) ∧ wr.cell? ⟨w.heap.size, 0, none⟩ = some (.int .i64 W) ∧ wr.cell? ⟨w.heap.size, 1, none⟩ = some (.int .i64 H) ∧ wr.cell? ⟨w.heap.size, 2, none⟩ = some (.int .i64 S)) := hide ⟨a0, a1, a2, p0, p1, p2⟩
          have hcc := hide (fun (w' : World) (h : Below wr.heap.size wr w') => (by have := rCheck_any (rd_at HRJ.out h) (show J.length ≤ 100000000 by omega); rwa [hcq] at this : Calls Tryz.prog 26 #[.slice A1 J.length d1] w' fun e w'' => e = .returned (.int .i64 0) ∧ Below w'.heap.size w' w''))
          have HCC : Hid (∀ y : Above wr, Calls Tryz.prog 26 #[.slice A1 J.length d1] y.get fun e w'' => e = .returned (.int .i64 0) ∧ ∃ z : Above wr, w'' = z.get) := hide (fun y => above_of (hcc.out y.get y.keeps))
          have HAR := hide (fun (w' : World) (h : Below wr.heap.size wr w') => (by have := area_any (rd_at HRJ.out h) (show J.length ≤ 100000000 by omega); rwa [show areaF J = (areaS J, 0) by unfold areaF; rw [if_pos hcq]] at this : Calls Tryz.prog 25 #[.slice A1 J.length d1] w' fun e w'' => e = .returned (.tuple #[.int .i64 (areaS J), .int .i64 0]) ∧ Below w'.heap.size w' w''))
          have HMI := hide (fun (w' : World) (h : Below wr.heap.size wr w') => (by have := minus_any (rd_at HRJ.out h) (rd_at HRL.out h) (show J.length ≤ 100000000 by omega) (by omega); rwa [hout] at this : Calls Tryz.prog 27 #[.slice A1 J.length d1, .slice A0 l.length c0] w' fun e w'' => RegRet w'.heap.size ([], 0) e w'' ∧ Below w'.heap.size w' w''))
          have HMO := hide (fun (w' : World) (h : Below wr.heap.size wr w') (v' : Value) (hv : RdK encR 4 w' w'.heap.size v' [brR W H S (row, col)]) => minus_any (rd_at HRJ.out h) hv (show J.length ≤ 100000000 by omega) (by simp))
          have HBR := hide (fun w' => brect_any W H S col row w' HP.out (by omega) (by omega) (by omega) (by omega))
          obtain ⟨u2, hu2⟩ : ∃ u2, IntKind.i64.wrap (u + areaS J) = u2 := ⟨_, rfl⟩
          have HU2 : Hid (u2 = IntKind.i64.wrap (PS (m + 1))) := hide (by rw [← hu2, HU.out, wrapT_add, hpn])
          obtain ⟨⟨O, F⟩, hOF⟩ : ∃ x, joinF hSub J [brR W H S (row, col)] = x := ⟨_, rfl⟩
          rw [hOF] at HMO hoff
          simp only at hoff
          have hofl : (F = 0 ∧ O = []) ∨ ((F == 0) = false) := by
            by_cases hF : F = 0
            · exact .inl ⟨hF, hoff hF⟩
            · exact .inr (by simpa using hF)
          have HOFL := hide hofl
          have HBRD : Hid (brR W H S (row, col) = ⟨brX W H S col row, row * H, brX W H S col row + W, (row + 1) * H⟩) := hide rfl
          have mz : (m : Int) < (R.length : Int) := by omega
          have m0 : (0 : Int) ≤ (m : Int) := by omega
          have hordr : m = 0 ∨ ∃ (j : Nat) (row2 col2 : Int), m = j + 1 ∧ wr.cell? ⟨g1, j * 3, none⟩ = some (.int .i64 col2) ∧ wr.cell? ⟨g1, j * 3 + 1, none⟩ = some (.int .i64 row2) ∧ (row2 < row ∨ (row2 = row ∧ col2 < col)) := by
            rcases Nat.eq_zero_or_pos m with h0 | h0
            · exact .inl h0
            · obtain ⟨j, rfl⟩ : ∃ j, m = j + 1 := ⟨m - 1, by omega⟩
              obtain ⟨⟨⟨row2, col2⟩, J2⟩, hk2⟩ : ∃ q, R[j]? = some q := ⟨_, List.getElem?_eq_getElem (by omega)⟩
              obtain ⟨b0, b1, _⟩ := k1A j _ _ hk2
              obtain ⟨i1, e1⟩ := List.getElem?_eq_some_iff.1 hk2
              obtain ⟨i2, e2⟩ := List.getElem?_eq_some_iff.1 hk
              have := List.pairwise_iff_getElem.1 HSRT.out j (j + 1) i1 i2 (by omega)
              rw [e1, e2] at this
              exact .inr ⟨j, row2, col2, rfl, b0, b1, this⟩
          have HTO : Hid (T1 w W H S wr) := hide (HT.out.below HBW.out)
          generalize areaS J = aj at *
          generalize brR W H S (row, col) = BR at *
          clear hk hqm hcq hne hout hoff hpn hofl hOF kA k1A r1 hcc
          have hJz : ((J.length : Int) == 0) = false := beq_eq_false_iff_ne.2 (by omega)
          rcases hordr with rfl | ⟨j, row2, col2, rfl, b0, b1, hord⟩
          · have hst0 := HST.out
            simp only [Nat.zero_mul, Nat.zero_add] at hst0
            replace HST := hide hst0
            clear hst0 a0 a1 a2
            obtain ⟨a0, a1, a2, p0, p1, p2⟩ := HST.out
            rw [show ((0 : Nat) : Int) = 0 from rfl] at mz m0 ⊢
            go_upto_region 11 with fail
            refine wp_hab fun hab => ?_
            refine wp_region_above (by kernel_rfl) (by kernel_rfl) ?_
            repeat (go_big_quiet_step ((go_at_call 26; exact HCC.out _)))
            refine wpQuiet_nil ?_
            refine above_ends fun w3 hb3 => ?_
            clear hab
            have HB3 := hide hb3
            clear hb3
            obtain ⟨a0, a1, a2, p0, p1, p2⟩ := HST.out
            replace a2 := (HB3.out.cell (p := ⟨g1, _, none⟩) hg1).trans a2
            clear a0 a1 p0 p1 p2
            go_wp2_with (fail)
            refine (HAR.out _ HB3.out).mono ?_
            rintro e w4 ⟨rfl, hb⟩
            have HB4 := hide (HB3.out.trans (hb.mono HB3.out.size))
            clear hb a2 HB3 HAR
            have a2 := (HB4.out.cell (p := ⟨g1, _, none⟩) hg1).trans HST.out.2.2.1
            go_wp2_with (fail)
            refine (HMI.out _ HB4.out).mono ?_
            rintro e w5 ⟨⟨Ao, co, rfl, ho⟩, hb⟩
            have HB5 := hide (HB4.out.trans (hb.mono HB4.out.size))
            clear hb ho a2 HB4 HMI
            obtain ⟨a0, a1, a2, p0, p1, p2⟩ := HST.out
            replace a0 := (HB5.out.cell (p := ⟨g1, _, none⟩) hg1).trans a0
            replace a1 := (HB5.out.cell (p := ⟨g1, _, none⟩) hg1).trans a1
            replace a2 := (HB5.out.cell (p := ⟨g1, _, none⟩) hg1).trans a2
            replace p0 := (HB5.out.cell (p := ⟨w.heap.size, 0, none⟩) hq0).trans p0
            replace p1 := (HB5.out.cell (p := ⟨w.heap.size, 1, none⟩) hq0).trans p1
            replace p2 := (HB5.out.cell (p := ⟨w.heap.size, 2, none⟩) hq0).trans p2
            have hg5 : g1 < w5.heap.size := Nat.lt_of_lt_of_le hg1 HB5.out.size
            have hq5 : w.heap.size < w5.heap.size := Nat.lt_of_lt_of_le hq0 HB5.out.size
            have HS5 : Hid (∀ W' : World, Below w5.heap.size w5 W' → W'.cell? ⟨g1, 0, none⟩ = some (.int .i64 col) ∧ W'.cell? ⟨g1, 1, none⟩ = some (.int .i64 row) ∧ W'.cell? ⟨g1, 2, none⟩ = some (.slice A1 J.length d1) ∧ W'.cell? ⟨w.heap.size, 0, none⟩ = some (.int .i64 W) ∧ W'.cell? ⟨w.heap.size, 1, none⟩ = some (.int .i64 H) ∧ W'.cell? ⟨w.heap.size, 2, none⟩ = some (.int .i64 S)) := hide (fun W' h => ⟨(h.cell (p := ⟨g1, _, none⟩) hg5).trans a0, (h.cell (p := ⟨g1, _, none⟩) hg5).trans a1, (h.cell (p := ⟨g1, _, none⟩) hg5).trans a2, (h.cell (p := ⟨w.heap.size, 0, none⟩) hq5).trans p0, (h.cell (p := ⟨w.heap.size, 1, none⟩) hq5).trans p1, (h.cell (p := ⟨w.heap.size, 2, none⟩) hq5).trans p2⟩)
            go_upto_region 15 with fail
            go_cut [14, 15] (fun s14 s15 wx => ∃ A9 c9, s14 = .slice A9 O.length c9 ∧ s15 = .int .i64 F ∧ Hid (Below w5.heap.size w5 wx))
            case first =>
              clear HCC HOFL HU2 HU
              go_region_held3 (fun w' => w'.cell? ⟨g1, 0, none⟩ = some (.int .i64 col) ∧ w'.cell? ⟨g1, 1, none⟩ = some (.int .i64 row) ∧ w'.cell? ⟨g1, 2, none⟩ = some (.slice A1 J.length d1) ∧ w'.cell? ⟨w.heap.size, 0, none⟩ = some (.int .i64 W) ∧ w'.cell? ⟨w.heap.size, 1, none⟩ = some (.int .i64 H) ∧ w'.cell? ⟨w.heap.size, 2, none⟩ = some (.int .i64 S)) ((first | exact HS5.out _ (by have hbK := HB7.out; repeat (first | with_reducible exact Below.refl _ _ | with_reducible assumption | with_reducible refine Below.setCell ?_ (by first | omega | (simp; done) | (simp; omega)) _ | with_reducible refine Below.alloc ?_ (by first | omega | (simp; omega) | simp) _ | with_reducible refine Below.drew ?_)) | exact HS5.out _ (by have hbK := HB6.out; repeat (first | with_reducible exact Below.refl _ _ | with_reducible assumption | with_reducible refine Below.setCell ?_ (by first | omega | (simp; done) | (simp; omega)) _ | with_reducible refine Below.alloc ?_ (by first | omega | (simp; omega) | simp) _ | with_reducible refine Below.drew ?_)) | exact HS5.out _ (by repeat (first | with_reducible exact Below.refl _ _ | with_reducible assumption | with_reducible refine Below.setCell ?_ (by first | omega | (simp; done) | (simp; omega)) _ | with_reducible refine Below.alloc ?_ (by first | omega | (simp; omega) | simp) _ | with_reducible refine Below.drew ?_))))
                (first
                  | (go_at_call 28; refine (HBR.out _).mono ?_; rintro e w6 ⟨rfl, hb6⟩; have HB6 : Hid (Below w5.heap.size w5 w6) := hide (Below.trans (by repeat (first | with_reducible exact Below.refl _ _ | with_reducible assumption | with_reducible refine Below.setCell ?_ (by first | omega | (simp; done) | (simp; omega)) _ | with_reducible refine Below.alloc ?_ (by first | omega | (simp; omega) | simp) _ | with_reducible refine Below.drew ?_)) (hb6.mono (by simp <;> omega))); obtain ⟨hc6, hf6⟩ := bcell hb6; have hs6 : w5.heap.size ≤ w6.heap.size := HB6.out.size; clear hb6)
                  | (go_at_call 27; refine (HMO.out _ (HB5.out.trans ((show Below w5.heap.size w5 _ from by have hbK := HB6.out; repeat (first | with_reducible exact Below.refl _ _ | with_reducible assumption | with_reducible refine Below.setCell ?_ (by first | omega | (simp; done) | (simp; omega)) _ | with_reducible refine Below.alloc ?_ (by first | omega | (simp; omega) | simp) _ | with_reducible refine Below.drew ?_)).mono HB5.out.size)) _ (by rw [HBRD.out]; exact rd_one _ _ _ _ _ _)).mono ?_; rintro e w7 ⟨⟨A9, c9, rfl, ho9⟩, hb7⟩; have HB7 : Hid (Below w5.heap.size w5 w7) := hide (Below.trans (by have hbK := HB6.out; repeat (first | with_reducible exact Below.refl _ _ | with_reducible assumption | with_reducible refine Below.setCell ?_ (by first | omega | (simp; done) | (simp; omega)) _ | with_reducible refine Below.alloc ?_ (by first | omega | (simp; omega) | simp) _ | with_reducible refine Below.drew ?_)) (hb7.mono (by have := HB6.out.size; simp <;> omega))); clear hb7 ho9))
              all_goals (go_wp2_with (fail); go_meet)
              all_goals exact ⟨A9, c9, rfl, rfl, hide (by have hbK := HB7.out; repeat (first | with_reducible exact Below.refl _ _ | with_reducible assumption | with_reducible refine Below.setCell ?_ (by first | omega | (simp; done) | (simp; omega)) _ | with_reducible refine Below.alloc ?_ (by first | omega | (simp; omega) | simp) _ | with_reducible refine Below.drew ?_))⟩
            case rest =>
              obtain ⟨A9, c9, rfl, rfl, HBC⟩ := hcut
              have HBX := hide (HBW.out.trans ((HB5.out.trans (HBC.out.mono HB5.out.size)).mono HBW.out.size))
              clear a0 a1 a2 p0 p1 p2 HS5 HMO HBR HCC HBC HB5 HST
              rcases HOFL.out with ⟨rfl, rfl⟩ | hF
              all_goals
                go_wp2_with (fail)
                go_roundw
                case rel => exact ⟨0 + 1, u2, by omega, by go_num, rfl, HU2, HBX⟩
                case measure => first | (simp [intOf]; done) | (simp [intOf]; omega)
          · obtain ⟨a0, a1, a2, p0, p1, p2⟩ := HST.out
            have q3 : IntKind.i64.wrap (((j + 1 : Nat) : Int) - 1) = (j : Int) := by rw [show ((j + 1 : Nat) : Int) - 1 = (j : Int) by omega]; exact IntWalk.i64_in _ (by omega)
            have q4 : (0 : Int) ≤ (j : Int) := by omega
            have q5 : (j : Int) < (R.length : Int) := by omega
            have q6 : (0 : Int) < ((j + 1 : Nat) : Int) := by omega
            rw [show ((j + 1 : Nat) : Int) = (j : Int) + 1 from rfl] at mz m0 q3 q6 ⊢
            have hcs : (decide (row < row2) = false ∧ (row2 == row) = false) ∨ (decide (row < row2) = false ∧ (row2 == row) = true ∧ decide (col ≤ col2) = false) := by
              by_cases h : row2 = row
              · exact .inr ⟨decide_eq_false (by omega), by simp [h], decide_eq_false (by omega)⟩
              · exact .inl ⟨decide_eq_false (by omega), by simpa using h⟩
            clear hord
            rcases hcs with ⟨o1, o2⟩ | ⟨o1, o2, o3⟩
            all_goals
              go_upto_region 11 with fail
              refine wp_hab fun hab => ?_
              refine wp_region_above (by kernel_rfl) (by kernel_rfl) ?_
              repeat (go_big_quiet_step ((go_at_call 26; exact HCC.out _)))
              refine wpQuiet_nil ?_
              refine above_ends fun w3 hb3 => ?_
              clear hab
              have HB3 := hide hb3
              clear hb3
              clear b0 b1 q3 q4 q5 q6
              obtain ⟨a0, a1, a2, p0, p1, p2⟩ := HST.out
              replace a2 := (HB3.out.cell (p := ⟨g1, _, none⟩) hg1).trans a2
              clear a0 a1 p0 p1 p2
              go_wp2_with (fail)
              refine (HAR.out _ HB3.out).mono ?_
              rintro e w4 ⟨rfl, hb⟩
              have HB4 := hide (HB3.out.trans (hb.mono HB3.out.size))
              clear hb a2 HB3 HAR
              have a2 := (HB4.out.cell (p := ⟨g1, _, none⟩) hg1).trans HST.out.2.2.1
              go_wp2_with (fail)
              refine (HMI.out _ HB4.out).mono ?_
              rintro e w5 ⟨⟨Ao, co, rfl, ho⟩, hb⟩
              have HB5 := hide (HB4.out.trans (hb.mono HB4.out.size))
              clear hb ho a2 HB4 HMI
              obtain ⟨a0, a1, a2, p0, p1, p2⟩ := HST.out
              replace a0 := (HB5.out.cell (p := ⟨g1, _, none⟩) hg1).trans a0
              replace a1 := (HB5.out.cell (p := ⟨g1, _, none⟩) hg1).trans a1
              replace a2 := (HB5.out.cell (p := ⟨g1, _, none⟩) hg1).trans a2
              replace p0 := (HB5.out.cell (p := ⟨w.heap.size, 0, none⟩) hq0).trans p0
              replace p1 := (HB5.out.cell (p := ⟨w.heap.size, 1, none⟩) hq0).trans p1
              replace p2 := (HB5.out.cell (p := ⟨w.heap.size, 2, none⟩) hq0).trans p2
              have hg5 : g1 < w5.heap.size := Nat.lt_of_lt_of_le hg1 HB5.out.size
              have hq5 : w.heap.size < w5.heap.size := Nat.lt_of_lt_of_le hq0 HB5.out.size
              have HS5 : Hid (∀ W' : World, Below w5.heap.size w5 W' → W'.cell? ⟨g1, (j + 1) * 3, none⟩ = some (.int .i64 col) ∧ W'.cell? ⟨g1, (j + 1) * 3 + 1, none⟩ = some (.int .i64 row) ∧ W'.cell? ⟨g1, (j + 1) * 3 + 2, none⟩ = some (.slice A1 J.length d1) ∧ W'.cell? ⟨w.heap.size, 0, none⟩ = some (.int .i64 W) ∧ W'.cell? ⟨w.heap.size, 1, none⟩ = some (.int .i64 H) ∧ W'.cell? ⟨w.heap.size, 2, none⟩ = some (.int .i64 S)) := hide (fun W' h => ⟨(h.cell (p := ⟨g1, _, none⟩) hg5).trans a0, (h.cell (p := ⟨g1, _, none⟩) hg5).trans a1, (h.cell (p := ⟨g1, _, none⟩) hg5).trans a2, (h.cell (p := ⟨w.heap.size, 0, none⟩) hq5).trans p0, (h.cell (p := ⟨w.heap.size, 1, none⟩) hq5).trans p1, (h.cell (p := ⟨w.heap.size, 2, none⟩) hq5).trans p2⟩)
              go_upto_region 15 with fail
              go_cut [14, 15] (fun s14 s15 wx => ∃ A9 c9, s14 = .slice A9 O.length c9 ∧ s15 = .int .i64 F ∧ Hid (Below w5.heap.size w5 wx))
              case first =>
                clear HCC HOFL HU2 HU
                go_region_held3 (fun w' => w'.cell? ⟨g1, (j + 1) * 3, none⟩ = some (.int .i64 col) ∧ w'.cell? ⟨g1, (j + 1) * 3 + 1, none⟩ = some (.int .i64 row) ∧ w'.cell? ⟨g1, (j + 1) * 3 + 2, none⟩ = some (.slice A1 J.length d1) ∧ w'.cell? ⟨w.heap.size, 0, none⟩ = some (.int .i64 W) ∧ w'.cell? ⟨w.heap.size, 1, none⟩ = some (.int .i64 H) ∧ w'.cell? ⟨w.heap.size, 2, none⟩ = some (.int .i64 S)) ((first | exact HS5.out _ (by have hbK := HB7.out; repeat (first | with_reducible exact Below.refl _ _ | with_reducible assumption | with_reducible refine Below.setCell ?_ (by first | omega | (simp; done) | (simp; omega)) _ | with_reducible refine Below.alloc ?_ (by first | omega | (simp; omega) | simp) _ | with_reducible refine Below.drew ?_)) | exact HS5.out _ (by have hbK := HB6.out; repeat (first | with_reducible exact Below.refl _ _ | with_reducible assumption | with_reducible refine Below.setCell ?_ (by first | omega | (simp; done) | (simp; omega)) _ | with_reducible refine Below.alloc ?_ (by first | omega | (simp; omega) | simp) _ | with_reducible refine Below.drew ?_)) | exact HS5.out _ (by repeat (first | with_reducible exact Below.refl _ _ | with_reducible assumption | with_reducible refine Below.setCell ?_ (by first | omega | (simp; done) | (simp; omega)) _ | with_reducible refine Below.alloc ?_ (by first | omega | (simp; omega) | simp) _ | with_reducible refine Below.drew ?_))))
                  (first
                    | (go_at_call 28; refine (HBR.out _).mono ?_; rintro e w6 ⟨rfl, hb6⟩; have HB6 : Hid (Below w5.heap.size w5 w6) := hide (Below.trans (by repeat (first | with_reducible exact Below.refl _ _ | with_reducible assumption | with_reducible refine Below.setCell ?_ (by first | omega | (simp; done) | (simp; omega)) _ | with_reducible refine Below.alloc ?_ (by first | omega | (simp; omega) | simp) _ | with_reducible refine Below.drew ?_)) (hb6.mono (by simp <;> omega))); obtain ⟨hc6, hf6⟩ := bcell hb6; have hs6 : w5.heap.size ≤ w6.heap.size := HB6.out.size; clear hb6)
                    | (go_at_call 27; refine (HMO.out _ (HB5.out.trans ((show Below w5.heap.size w5 _ from by have hbK := HB6.out; repeat (first | with_reducible exact Below.refl _ _ | with_reducible assumption | with_reducible refine Below.setCell ?_ (by first | omega | (simp; done) | (simp; omega)) _ | with_reducible refine Below.alloc ?_ (by first | omega | (simp; omega) | simp) _ | with_reducible refine Below.drew ?_)).mono HB5.out.size)) _ (by rw [HBRD.out]; exact rd_one _ _ _ _ _ _)).mono ?_; rintro e w7 ⟨⟨A9, c9, rfl, ho9⟩, hb7⟩; have HB7 : Hid (Below w5.heap.size w5 w7) := hide (Below.trans (by have hbK := HB6.out; repeat (first | with_reducible exact Below.refl _ _ | with_reducible assumption | with_reducible refine Below.setCell ?_ (by first | omega | (simp; done) | (simp; omega)) _ | with_reducible refine Below.alloc ?_ (by first | omega | (simp; omega) | simp) _ | with_reducible refine Below.drew ?_)) (hb7.mono (by have := HB6.out.size; simp <;> omega))); clear hb7 ho9))
                all_goals (go_wp2_with (fail); go_meet)
                all_goals exact ⟨A9, c9, rfl, rfl, hide (by have hbK := HB7.out; repeat (first | with_reducible exact Below.refl _ _ | with_reducible assumption | with_reducible refine Below.setCell ?_ (by first | omega | (simp; done) | (simp; omega)) _ | with_reducible refine Below.alloc ?_ (by first | omega | (simp; omega) | simp) _ | with_reducible refine Below.drew ?_))⟩
              case rest =>
                obtain ⟨A9, c9, rfl, rfl, HBC⟩ := hcut
                have HBX := hide (HBW.out.trans ((HB5.out.trans (HBC.out.mono HB5.out.size)).mono HBW.out.size))
                clear a0 a1 a2 p0 p1 p2 HS5 HMO HBR HCC HBC HB5 HST
                rcases HOFL.out with ⟨rfl, rfl⟩ | hF
                all_goals
                  go_wp2_with (fail)
                  go_roundw
                  case rel => exact ⟨j + 1 + 1, u2, by omega, by go_num, rfl, HU2, HBX⟩
                  case measure => first | (simp [intOf]; done) | (simp [intOf]; omega)
        · obtain rfl : m = R.length := by omega
          have mz : ¬ (R.length : Int) < (R.length : Int) := by omega
          have hu : u = TOT := by rw [HU.out, HPE.out]; exact IntWalk.i64_in _ (by omega)
          subst hu
          have HRL := hide ((HR.out.below HBW.out).mono HBW.out.size)
          clear HU HPE
          go_wp2_with (fail)
          refine (GAR.out _ _ HRL.out).mono ?_
          rintro e w3 ⟨rfl, hb⟩
          have HBE := hide (K.out.trans ((HBW.out.trans (hb.mono HBW.out.size)).mono K.out.size))
          clear hb
          go_wp2_with (fail)
          go_ret
          exact ⟨rfl, HBE.out⟩
    · clear HSUM GAR
      obtain ⟨-, -, p0, p1, p2⟩ := HT.out
      go_wp2_with (fail)
      go_ret
      exact ⟨rfl, K.out⟩
end Go.Proofs.YtlkaniojnaaocaaGreat
