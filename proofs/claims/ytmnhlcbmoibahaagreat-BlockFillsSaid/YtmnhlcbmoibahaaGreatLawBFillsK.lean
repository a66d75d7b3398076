/- BlockFills' walk: blocks and streets fill the land. -/
import Derived.Test.YtmnhlcbmoibahaaGreatPk13
import Derived.Test.YtmnhlcbmoibahaaGreatMBlkFK
import Derived.Test.YtmnhlcbmoibahaaGreatPk10
import Derived.Test.YtmnhlcbmoibahaaGreatPk9
import Derived.Test.YtmnhlcbmoibahaaGreatPk5
namespace Go.Proofs.YtmnhlcbmoibahaaGreat
open Go.RowKit
set_option linter.unusedVariables false
set_option linter.unusedSimpArgs false

set_option maxRecDepth 100000 in
set_option maxHeartbeats 8000000 in
theorem bfills_main {w : World} {vl vp : Value} {l : List Sg} {P : List R4} (hl : RdK encSg 4 w w.heap.size vl l) (hp : RdK encR 4 w w.heap.size vp P) (nl : l.length ≤ maxLen) (d : Int) (hv : val35 l = true) (hd : 1 ≤ d ∧ d ≤ 1000) (h16 : P.length ≤ 16) (kp : checkF P = 0) :
    Calls Tryz.prog 8 #[vl, .int .i64 d, vp] w fun e w' => e = .returned (.bool true) ∧ Below w.heap.size w w' := by
  have HV := hide (fun (W : World) (h : RdK encSg 4 W W.heap.size vl l) => by have := valid35_any h nl; rwa [hv] at this)
  have HL := hide hl
  have HP := hide hp
  obtain ⟨Al, cl, rfl, _⟩ := hl
  obtain ⟨Ap, cp, rfl, _⟩ := hp
  obtain ⟨hnr, h12⟩ := val35_ok hv
  have H12 := hide h12
  have HOK := hide (near_ok hnr)
  obtain ⟨S, eS, kS, _⟩ := str_made hnr h12 hd.1 hd.2
  have HCK := hide (fun (W : World) (v : Value) (h : RdK encR 4 W W.heap.size v P) => by have := rCheck_any h (by omega); rwa [kp] at this)
  have HST := hide (fun (W : World) (nv ev : Value) (hn : RdK encS 2 W W.heap.size nv (nodesF l)) (he : RdK encS 2 W W.heap.size ev (edI (edgesF l))) => by have := streets_any (d := d) hn he; rwa [eS] at this)
  have hbl : ∀ (W : World) (nv ev va : Value) (hn : RdK encS 2 W W.heap.size nv (nodesF l)) (he : RdK encS 2 W W.heap.size ev (edI (edgesF l))) (ha : RdK encR 4 W W.heap.size va P), Calls Tryz.prog 14 #[.agg #[nv, ev], .int .i64 d, va] W fun e w' => RegsRet W.heap.size (if (joinF hSub P S).2 ≠ 0 then ([], (joinF hSub P S).2) else partsE (joinF hSub P S).1) e w' ∧ Below W.heap.size W w' := fun W nv ev va hn he ha => by
    have := blocks_any (d := d) hn he ha (by omega)
    rwa [show blkF (nodesF l) (edI (edgesF l)) d P = (if (joinF hSub P S).2 ≠ 0 then ([], (joinF hSub P S).2) else partsE (joinF hSub P S).1) by unfold blkF; rw [eS, if_neg (fun h => h rfl)]] at this
  have sl := (checkF_ok kS).1
  have hmt := fun (W : World) (v v2 : Value) (h : RdK encR 4 W W.heap.size v P) (h2 : RdK encR 4 W W.heap.size v2 S) => meet_any h h2 (by omega) (by omega)
  have d1 : decide (d < 1) = false := decide_eq_false (by omega)
  have d2 : decide (1000 < d) = false := decide_eq_false (by omega)
  have d3 : decide ((16 : Int) < (P.length : Int)) = false := decide_eq_false (by omega)
  have d4 : ¬ (16 : Int) < (P.length : Int) := by omega
  clear hv hnr h12 eS nl
  rcases joinTwo (h := hSub) rfl kp kS with eR | ⟨R, eR, kR, -, -⟩
  · have HBL := hide (fun (W : World) (nv ev va : Value) (hn : RdK encS 2 W W.heap.size nv (nodesF l)) (he : RdK encS 2 W W.heap.size ev (edI (edgesF l))) (ha : RdK encR 4 W W.heap.size va P) => (show Calls Tryz.prog 14 #[.agg #[nv, ev], .int .i64 d, va] W fun e w' => (∃ A c, e = .returned (.tuple #[.slice A 0 c, .int .i64 4])) ∧ Below W.heap.size W w' from (hbl W nv ev va hn he ha).mono fun e w' ⟨hr, hb⟩ => by
      rw [eR] at hr
      obtain ⟨A, c, he, _⟩ := hr.rd
      exact ⟨⟨A, c, he⟩, hb⟩))
    have HMT := hide hmt
    generalize joinF hAnd P S = JO at *
    obtain ⟨O, cO⟩ := JO
    clear hbl hmt eR kp kS sl hd h16
    try simp only at HMT
    have HB := hide (Below.refl w.heap.size w)
    go_enter Tryz.func8, Tryz.ntmps8
    go_wp2_with (fail)
    refine ((HV.out _ HL.out)).mono ?_
    rintro e v1 ⟨rfl, hb⟩
    replace HB := hide (HB.out.trans (hb.mono HB.out.size))
    replace HL := hide ((HL.out.below hb).mono hb.size)
    replace HP := hide ((HP.out.below hb).mono hb.size)
    clear hb
    go_wp2_with (fail)
    refine ((HCK.out _ _ HP.out)).mono ?_
    rintro e v2 ⟨rfl, hb⟩
    replace HB := hide (HB.out.trans (hb.mono HB.out.size))
    replace HL := hide ((HL.out.below hb).mono hb.size)
    replace HP := hide ((HP.out.below hb).mono hb.size)
    clear hb
    go_wp2_with (fail)
    refine (make35_any HL.out HOK.out H12.out).mono ?_
    rintro e v3 ⟨⟨n1, e1, rfl, hn, he⟩, hb⟩
    replace HB := hide (HB.out.trans (hb.mono HB.out.size))
    replace HL := hide ((HL.out.below hb).mono hb.size)
    replace HP := hide ((HP.out.below hb).mono hb.size)
    have HN := hide hn
    have HE := hide he
    obtain ⟨An, cn, rfl, -⟩ := hn
    obtain ⟨Ae, ce, rfl, -⟩ := he
    clear hb
    clear HL
    go_wp2_with (fail)
    refine calls_nm fun v4 hZ => ?_
    have hbz : Below v3.heap.size v3 v4 := by
      rw [hZ]
      exact (Below.refl _ _).alloc (Nat.le_refl _) _
    have X1 : Hid (NetAt v3.heap.size (.slice An (nodesF l).length cn) (.slice Ae (edI (edgesF l)).length ce) v4) := hide (by rw [hZ]; exact ⟨by simp, by simp [go_sem], by simp [go_sem]⟩)
    obtain ⟨g1, hg1⟩ : ∃ g, v3.heap.size = g := ⟨_, rfl⟩
    rw [hg1] at X1 ⊢
    replace HB := hide (HB.out.trans (hbz.mono HB.out.size))
    replace HP := hide ((HP.out.below hbz).mono hbz.size)
    replace HN := hide ((HN.out.below hbz).mono hbz.size)
    replace HE := hide ((HE.out.below hbz).mono hbz.size)
    clear hZ hbz hg1
    refine (HST.out _ _ _ HN.out HE.out).mono ?_
    rintro e v5 ⟨⟨As, cs, rfl, ho⟩, hb⟩
    replace HB := hide (HB.out.trans (hb.mono HB.out.size))
    replace HP := hide ((HP.out.below hb).mono hb.size)
    replace HN := hide ((HN.out.below hb).mono hb.size)
    replace HE := hide ((HE.out.below hb).mono hb.size)
    replace X1 := hide (X1.out.keep hb)
    have HS := hide (own_rd (l := S) ho (fun _ => rfl))
    clear hb ho
    obtain ⟨l1, f1, k1⟩ := X1.out
    go_wp2_with (fail)
    refine ((HBL.out _ _ _ _ HN.out HE.out HP.out)).mono ?_
    rintro e v6 ⟨⟨Ab, cb, rfl⟩, hb⟩
    clear l1 f1 k1
    replace HB := hide (HB.out.trans (hb.mono HB.out.size))
    replace HP := hide ((HP.out.below hb).mono hb.size)
    replace HN := hide ((HN.out.below hb).mono hb.size)
    replace HE := hide ((HE.out.below hb).mono hb.size)
    replace HS := hide ((HS.out.below hb).mono hb.size)
    replace X1 := hide (X1.out.keep hb)
    clear hb
    clear HN HE X1
    go_wp2_with (fail)
    refine ((HMT.out _ _ _ HP.out HS.out)).mono ?_
    rintro e v7 ⟨⟨Ao, co, rfl, ho⟩, hb⟩
    replace HB := hide (HB.out.trans (hb.mono HB.out.size))
    replace HP := hide ((HP.out.below hb).mono hb.size)
    replace HS := hide ((HS.out.below hb).mono hb.size)
    clear ho
    clear hb
    go_wp2_with (fail)
    refine ((alive35_any _)).mono ?_
    rintro e v8 ⟨rfl, hb⟩
    replace HB := hide (HB.out.trans (hb.mono HB.out.size))
    replace HP := hide ((HP.out.below hb).mono hb.size)
    replace HS := hide ((HS.out.below hb).mono hb.size)
    clear hb
    go_wp2_with (fail)
    go_ret
    exact ⟨rfl, HB.out⟩
  rcases joinTwo (h := hAnd) rfl kp kS with eO | ⟨O, eO, kO, -, -⟩
  · have HBL := hide (fun (W : World) (nv ev va : Value) (hn : RdK encS 2 W W.heap.size nv (nodesF l)) (he : RdK encS 2 W W.heap.size ev (edI (edgesF l))) (ha : RdK encR 4 W W.heap.size va P) => (show Calls Tryz.prog 14 #[.agg #[nv, ev], .int .i64 d, va] W fun e w' => (∃ A n c, e = .returned (.tuple #[.slice A n c, .int .i64 0])) ∧ Below W.heap.size W w' from (hbl W nv ev va hn he ha).mono fun e w' ⟨hr, hb⟩ => by
      rw [eR] at hr
      have hr2 : RegsRet W.heap.size (partsF R, 0) e w' := by
        have hpa : partsE R = (partsF R, 0) := if_pos kR
        rw [← hpa]
        exact hr
      obtain ⟨A, c, he, _⟩ := hr2.rd
      exact ⟨⟨A, _, c, he⟩, hb⟩))
    have HMT := hide (fun W v v2 h h2 => by have := hmt W v v2 h h2; rwa [eO] at this)
    clear hbl hmt eR eO kp kS kR sl hd h16
    have HB := hide (Below.refl w.heap.size w)
    go_enter Tryz.func8, Tryz.ntmps8
    go_wp2_with (fail)
    refine ((HV.out _ HL.out)).mono ?_
    rintro e v1 ⟨rfl, hb⟩
    replace HB := hide (HB.out.trans (hb.mono HB.out.size))
    replace HL := hide ((HL.out.below hb).mono hb.size)
    replace HP := hide ((HP.out.below hb).mono hb.size)
    clear hb
    go_wp2_with (fail)
    refine ((HCK.out _ _ HP.out)).mono ?_
    rintro e v2 ⟨rfl, hb⟩
    replace HB := hide (HB.out.trans (hb.mono HB.out.size))
    replace HL := hide ((HL.out.below hb).mono hb.size)
    replace HP := hide ((HP.out.below hb).mono hb.size)
    clear hb
    go_wp2_with (fail)
    refine (make35_any HL.out HOK.out H12.out).mono ?_
    rintro e v3 ⟨⟨n1, e1, rfl, hn, he⟩, hb⟩
    replace HB := hide (HB.out.trans (hb.mono HB.out.size))
    replace HL := hide ((HL.out.below hb).mono hb.size)
    replace HP := hide ((HP.out.below hb).mono hb.size)
    have HN := hide hn
    have HE := hide he
    obtain ⟨An, cn, rfl, -⟩ := hn
    obtain ⟨Ae, ce, rfl, -⟩ := he
    clear hb
    clear HL
    go_wp2_with (fail)
    refine calls_nm fun v4 hZ => ?_
    have hbz : Below v3.heap.size v3 v4 := by
      rw [hZ]
      exact (Below.refl _ _).alloc (Nat.le_refl _) _
    have X1 : Hid (NetAt v3.heap.size (.slice An (nodesF l).length cn) (.slice Ae (edI (edgesF l)).length ce) v4) := hide (by rw [hZ]; exact ⟨by simp, by simp [go_sem], by simp [go_sem]⟩)
    obtain ⟨g1, hg1⟩ : ∃ g, v3.heap.size = g := ⟨_, rfl⟩
    rw [hg1] at X1 ⊢
    replace HB := hide (HB.out.trans (hbz.mono HB.out.size))
    replace HP := hide ((HP.out.below hbz).mono hbz.size)
    replace HN := hide ((HN.out.below hbz).mono hbz.size)
    replace HE := hide ((HE.out.below hbz).mono hbz.size)
    clear hZ hbz hg1
    refine (HST.out _ _ _ HN.out HE.out).mono ?_
    rintro e v5 ⟨⟨As, cs, rfl, ho⟩, hb⟩
    replace HB := hide (HB.out.trans (hb.mono HB.out.size))
    replace HP := hide ((HP.out.below hb).mono hb.size)
    replace HN := hide ((HN.out.below hb).mono hb.size)
    replace HE := hide ((HE.out.below hb).mono hb.size)
    replace X1 := hide (X1.out.keep hb)
    have HS := hide (own_rd (l := S) ho (fun _ => rfl))
    clear hb ho
    obtain ⟨l1, f1, k1⟩ := X1.out
    go_wp2_with (fail)
    refine ((HBL.out _ _ _ _ HN.out HE.out HP.out)).mono ?_
    rintro e v6 ⟨⟨Ab, nb, cb, rfl⟩, hb⟩
    clear l1 f1 k1
    replace HB := hide (HB.out.trans (hb.mono HB.out.size))
    replace HP := hide ((HP.out.below hb).mono hb.size)
    replace HN := hide ((HN.out.below hb).mono hb.size)
    replace HE := hide ((HE.out.below hb).mono hb.size)
    replace HS := hide ((HS.out.below hb).mono hb.size)
    replace X1 := hide (X1.out.keep hb)
    clear hb
    clear HN HE X1
    go_wp2_with (fail)
    refine ((HMT.out _ _ _ HP.out HS.out)).mono ?_
    rintro e v7 ⟨⟨Ao, co, rfl, ho⟩, hb⟩
    replace HB := hide (HB.out.trans (hb.mono HB.out.size))
    replace HP := hide ((HP.out.below hb).mono hb.size)
    replace HS := hide ((HS.out.below hb).mono hb.size)
    clear ho
    clear hb
    go_wp2_with (fail)
    refine ((alive35_any _)).mono ?_
    rintro e v8 ⟨rfl, hb⟩
    replace HB := hide (HB.out.trans (hb.mono HB.out.size))
    replace HP := hide ((HP.out.below hb).mono hb.size)
    replace HS := hide ((HS.out.below hb).mono hb.size)
    clear hb
    go_wp2_with (fail)
    go_ret
    exact ⟨rfl, HB.out⟩
  have HH := hide (FillH.mk kp kS eO eR)
  have hpa : partsE R = (partsF R, 0) := if_pos kR
  have HBL := hide (fun (W : World) (nv ev va : Value) (hn : RdK encS 2 W W.heap.size nv (nodesF l)) (he : RdK encS 2 W W.heap.size ev (edI (edgesF l))) (ha : RdK encR 4 W W.heap.size va P) => (show Calls Tryz.prog 14 #[.agg #[nv, ev], .int .i64 d, va] W fun e w' => RegsRet W.heap.size (partsF R, 0) e w' ∧ Below W.heap.size W w' from (hbl W nv ev va hn he ha).mono fun e w' ⟨hr, hb⟩ => by
    rw [eR] at hr
    exact ⟨by rw [← hpa]; exact hr, hb⟩))
  have HMT := hide (fun W v v2 h h2 => by have := hmt W v v2 h h2; rwa [eO] at this)
  have hid : (partsF R).length = (ids R).length := by rw [ids_parts, List.length_map]
  have hat : ∀ i m, (ids R)[i]? = some m → (partsF R)[i]? = some (partJ R m) := fun i m h => by rw [ids_parts, List.getElem?_map, h]; rfl
  have HID := hide hid
  have HAT := hide hat
  have ol := (checkF_ok kO).1
  have hlen : (partsF R).length ≤ R.length := by rw [← partsP_all]; exact partsP_len R R.length
  have hrl := (checkF_ok kR).1
  have HAO := hide (fun (W : World) (v : Value) (h : RdK encR 4 W W.heap.size v O) => by have := area_any h (by omega); rwa [show areaF O = (areaS O, 0) by unfold areaF; rw [if_pos kO]] at this)
  have HAP := hide (fun (W : World) (v : Value) (h : RdK encR 4 W W.heap.size v P) => by have := area_any h (by omega); rwa [show areaF P = (areaS P, 0) by unfold areaF; rw [if_pos kp]] at this)
  have HSM := hide (fun (W : World) (v v' : Value) (h : RdK encR 4 W W.heap.size v P) (h' : RdK encR 4 W W.heap.size v' P) => by have := rSameRects_any h h' (by omega) (Nat.le_refl _) (Nat.le_refl _); rwa [decide_eq_true rfl] at this)
  clear hbl hmt eR eO kp kS kR kO hpa hid hat hd h16
  generalize partsF R = B at *
  have HB := hide (Below.refl w.heap.size w)
  go_enter Tryz.func8, Tryz.ntmps8
  go_wp2_with (fail)
  refine ((HV.out _ HL.out)).mono ?_
  rintro e v1 ⟨rfl, hb⟩
  replace HB := hide (HB.out.trans (hb.mono HB.out.size))
  replace HL := hide ((HL.out.below hb).mono hb.size)
  replace HP := hide ((HP.out.below hb).mono hb.size)
  clear hb
  go_wp2_with (fail)
  refine ((HCK.out _ _ HP.out)).mono ?_
  rintro e v2 ⟨rfl, hb⟩
  replace HB := hide (HB.out.trans (hb.mono HB.out.size))
  replace HL := hide ((HL.out.below hb).mono hb.size)
  replace HP := hide ((HP.out.below hb).mono hb.size)
  clear hb
  go_wp2_with (fail)
  refine (make35_any HL.out HOK.out H12.out).mono ?_
  rintro e v3 ⟨⟨n1, e1, rfl, hn, he⟩, hb⟩
  replace HB := hide (HB.out.trans (hb.mono HB.out.size))
  replace HL := hide ((HL.out.below hb).mono hb.size)
  replace HP := hide ((HP.out.below hb).mono hb.size)
  have HN := hide hn
  have HE := hide he
  obtain ⟨An, cn, rfl, -⟩ := hn
  obtain ⟨Ae, ce, rfl, -⟩ := he
  clear hb
  clear HL
  go_wp2_with (fail)
  refine calls_nm fun v4 hZ => ?_
  have hbz : Below v3.heap.size v3 v4 := by
    rw [hZ]
    exact (Below.refl _ _).alloc (Nat.le_refl _) _
  have X1 : Hid (NetAt v3.heap.size (.slice An (nodesF l).length cn) (.slice Ae (edI (edgesF l)).length ce) v4) := hide (by rw [hZ]; exact ⟨by simp, by simp [go_sem], by simp [go_sem]⟩)
  obtain ⟨g1, hg1⟩ : ∃ g, v3.heap.size = g := ⟨_, rfl⟩
  rw [hg1] at X1 ⊢
  replace HB := hide (HB.out.trans (hbz.mono HB.out.size))
  replace HP := hide ((HP.out.below hbz).mono hbz.size)
  replace HN := hide ((HN.out.below hbz).mono hbz.size)
  replace HE := hide ((HE.out.below hbz).mono hbz.size)
  clear hZ hbz hg1
  refine (HST.out _ _ _ HN.out HE.out).mono ?_
  rintro e v5 ⟨⟨As, cs, rfl, ho⟩, hb⟩
  replace HB := hide (HB.out.trans (hb.mono HB.out.size))
  replace HP := hide ((HP.out.below hb).mono hb.size)
  replace HN := hide ((HN.out.below hb).mono hb.size)
  replace HE := hide ((HE.out.below hb).mono hb.size)
  replace X1 := hide (X1.out.keep hb)
  have HS := hide (own_rd (l := S) ho (fun _ => rfl))
  clear hb ho
  obtain ⟨l1, f1, k1⟩ := X1.out
  go_wp2_with (fail)
  refine ((HBL.out _ _ _ _ HN.out HE.out HP.out)).mono ?_
  rintro e v6 ⟨hr, hb⟩
  clear l1 f1 k1
  replace HB := hide (HB.out.trans (hb.mono HB.out.size))
  replace HP := hide ((HP.out.below hb).mono hb.size)
  replace HN := hide ((HN.out.below hb).mono hb.size)
  replace HE := hide ((HE.out.below hb).mono hb.size)
  replace HS := hide ((HS.out.below hb).mono hb.size)
  replace X1 := hide (X1.out.keep hb)
  obtain ⟨Ab, cb, rfl, hrr⟩ := hr.rd
  have HR := hide hrr
  clear hr hrr
  clear hb
  clear HN HE X1
  go_wp2_with (fail)
  refine ((HMT.out _ _ _ HP.out HS.out)).mono ?_
  rintro e v7 ⟨⟨Ao, co, rfl, ho⟩, hb⟩
  replace HB := hide (HB.out.trans (hb.mono HB.out.size))
  replace HP := hide ((HP.out.below hb).mono hb.size)
  replace HS := hide ((HS.out.below hb).mono hb.size)
  replace HR := hide ((HR.out.below hb).mono hb.size)
  have HO := hide (own_rd (l := O) ho (fun _ => rfl))
  clear ho
  clear hb
  go_wp2_with (fail)
  refine ((HAO.out _ _ HO.out)).mono ?_
  rintro e v8 ⟨rfl, hb⟩
  replace HB := hide (HB.out.trans (hb.mono HB.out.size))
  replace HP := hide ((HP.out.below hb).mono hb.size)
  replace HS := hide ((HS.out.below hb).mono hb.size)
  replace HR := hide ((HR.out.below hb).mono hb.size)
  replace HO := hide ((HO.out.below hb).mono hb.size)
  clear hb
  clear HV HCK HST HBL HMT HAO d1 d2 d3 d4
  go_wp2_with (fail)
  go_loopw [15, 16, 18] (fun v s i wr => ∃ m : Nat, m ≤ B.length ∧ i = .int .i64 m ∧ ∃ n A Aa na ca t, v = .slice Aa na ca ∧ s = .int .i64 t ∧ Hid (na = A.length) ∧ Hid (Cut R m n) ∧ Hid (FillI O R A n) ∧ Hid (t = areaS A) ∧ Hid (RdK encR 4 wr wr.heap.size (.slice Aa na ca) A) ∧ Hid (RdRR wr wr.heap.size (.slice Ab B.length cb) B) ∧ Hid (RdK encR 4 wr wr.heap.size (.slice As S.length cs) S) ∧ Hid (RdK encR 4 wr wr.heap.size (.slice Ap P.length cp) P) ∧ Hid (Below w.heap.size w wr)) (fun _ _ i _ => B.length - (intOf i).toNat)
  case atStart => exact ⟨0, Nat.zero_le _, rfl, 0, O, Ao, _, co, _, rfl, rfl, hide rfl, hide (Cut.start R), hide HH.out.start, hide rfl, HO, HR, HS, HP, HB⟩
  case round =>
    clear HO HR HS HP HB
    obtain ⟨m, hm, rfl, n, A, Aa, na, ca, t, rfl, rfl, HNA, HCT, HFI, HT, HA, HR, HS, HP, HB⟩ := hrel
    by_cases hlt : m < B.length
    · have mz : (m : Int) < (B.length : Int) := by omega
      obtain ⟨q, hq⟩ : ∃ q, (ids R)[m]? = some q := ⟨_, List.getElem?_eq_getElem (by rw [← HID.out]; exact hlt)⟩
      have hRm := HAT.out m q hq
      obtain ⟨hnq, hbt, hct⟩ := HCT.out.next hq
      have hqi := mem_ids.1 (List.mem_of_getElem? hq)
      obtain ⟨g, og, A3, c3, rfl, hg, d1, rd1⟩ := HR.out.get hRm
      have hck := partJ_check HH.out.rchk q
      have hJl := (checkF_ok hck).1
      have hne := partJ_ne HH.out.rchk hqi.2 hqi.1
      have hnx := HFI.out.next HH.out hnq hbt
      have hal := (checkF_ok HFI.out.chk).1
      have hme := HH.out.meet (q := q)
      have hap := area_pos hck hne
      have hal2 := area_le hck
      have hal3 := area_le HFI.out.chk
      have HARJ := hide (fun (W : World) (v : Value) (r : RdK encR 4 W W.heap.size v (partJ R q)) => by have := area_any r (by omega); rwa [show areaF (partJ R q) = (areaS (partJ R q), 0) by unfold areaF; rw [if_pos hck]] at this)
      have HMEJ := hide (fun (W : World) (v v' : Value) (r : RdK encR 4 W W.heap.size v (partJ R q)) (r' : RdK encR 4 W W.heap.size v' S) => by have := meet_any r r' (by omega) (by omega); rwa [hme] at this)
      have HUN := hide (fun (W : World) (v v' : Value) (r : RdK encR 4 W W.heap.size v A) (r' : RdK encR 4 W W.heap.size v' (partJ R q)) => union_any r r' (by omega) (by omega))
      have HCT2 := hide hct
      have HQ := hide hq
      have HJL := hide hJl
      have R1 := hide rd1
      have Q1 := hide d1
      have hna := HNA.out
      subst hna
      have hsz := HB.out.size
      obtain ⟨wo, hwo⟩ : ∃ wo : World, wo = wr := ⟨_, rfl⟩
      subst hwo
      have HAA := HA
      have HBB := HB
      have HRR := HR
      have HSS := HS
      have HPP := HP
      obtain ⟨aj, haj⟩ : ∃ a, areaS (partJ R q) = a := ⟨_, rfl⟩
      rw [haj] at HARJ hnx hap hal2
      have aj1 : decide (aj < 1) = false := decide_eq_false (by omega)
      have hg0 : g < wo.heap.size := hg
      clear hq hRm hnq hbt hct hqi hck hJl hne hme rd1 HA HR HS HP HB haj HNA
      go_wp2_with (fail)
      refine (HARJ.out _ _ R1.out).mono ?_
      rintro e w3 ⟨rfl, hb⟩
      have KC := hide hb
      clear hb d1 hg0
      have d1 := (KC.out.cell (p := ⟨g, og + m, none⟩) hg).trans Q1.out
      have hg0 : g < w3.heap.size := Nat.lt_of_lt_of_le hg KC.out.size
      go_wp2_with (fail)
      refine (HMEJ.out _ _ _ ((R1.out.below KC.out).mono KC.out.size) ((HSS.out.below KC.out).mono KC.out.size)).mono ?_
      rintro e w4 ⟨⟨A4, c4, rfl, ho⟩, hb⟩
      have KD := hide (KC.out.trans (hb.mono KC.out.size))
      clear hb ho d1 hg0 KC
      have d1 := (KD.out.cell (p := ⟨g, og + m, none⟩) hg).trans Q1.out
      have hg0 : g < w4.heap.size := Nat.lt_of_lt_of_le hg KD.out.size
      go_wp2_with (fail)
      refine (HUN.out _ _ _ ((HAA.out.below KD.out).mono KD.out.size) ((R1.out.below KD.out).mono KD.out.size)).mono ?_
      rintro e w5 ⟨⟨A5, c5, rfl, ho⟩, hb⟩
      have KE := hide (KD.out.trans (hb.mono KD.out.size))
      clear hb d1 hg0 KD
      rcases hnx with eU | ⟨A', eU, hfi, har⟩
      · rw [eU]
        clear ho eU
        go_wp2_with (fail)
        refine (alive35_any _).mono ?_
        rintro e w6 ⟨rfl, hb⟩
        have KF := hide (KE.out.trans (hb.mono KE.out.size))
        clear hb
        go_wp2_with (fail)
        go_ret
        exact ⟨rfl, HBB.out.trans (KF.out.mono hsz)⟩
      · rw [eU] at ho ⊢
        have HA5 := hide (own_rd (l := A') ho (fun _ => rfl))
        have HFI2 := hide hfi
        have hal5 := area_le hfi.chk
        have HTS : Hid (t + aj = areaS A') := hide (by rw [HT.out, har])
        have htb : -9223372036854775808 ≤ t + aj ∧ t + aj ≤ 9223372036854775807 := by rw [HT.out, ← har]; omega
        clear ho eU hfi har
        go_wp2_with (fail)
        go_loopw [25] (fun i wr => ∃ k : Nat, k ≤ m ∧ i = .int .i64 k ∧ Hid (Below wo.heap.size wo wr) ∧ Hid (RdK encR 4 wr wr.heap.size (.slice A5 A'.length c5) A')) (fun i _ => m - (intOf i).toNat)
        case atStart => exact ⟨0, Nat.zero_le _, rfl, KE, HA5⟩
        case round =>
          clear KE HA5
          obtain ⟨k, hk, rfl, KC, HA5⟩ := hrel
          by_cases hlk : k < m
          · have kz : (k : Int) < (m : Int) := by omega
            have kz2 : (k : Int) < (B.length : Int) := by omega
            obtain ⟨q', hq'⟩ : ∃ q, (ids R)[k]? = some q := ⟨_, List.getElem?_eq_getElem (by rw [← HID.out]; omega)⟩
            have hneq : q' ≠ q := fun e => by
              obtain ⟨i1, e1⟩ := List.getElem?_eq_some_iff.1 hq'
              obtain ⟨i2, e2⟩ := List.getElem?_eq_some_iff.1 HQ.out
              have := List.pairwise_iff_getElem.1 (ids_sorted R) k m i1 i2 hlk
              omega
            obtain ⟨g', og', A6, c6, hAg, hg', d5, rd5⟩ := HRR.out.get (HAT.out k q' hq')
            injection hAg with hAg
            injection hAg with eg eo
            subst eg
            subst eo
            have hl5 := (checkF_ok (partJ_check HH.out.rchk q')).1
            have hto := parts_touch HH.out.rchk hneq
            have hjl := HJL.out
            have HTO := hide (fun (W : World) (v v' : Value) (r : RdK encR 4 W W.heap.size v (partJ R q')) (r' : RdK encR 4 W W.heap.size v' (partJ R q)) => by have := touch_any r r' (by omega) (by omega); rwa [hto] at this)
            have R5 := hide rd5
            have z1 := (KC.out.cell (p := ⟨g, og + m, none⟩) hg).trans Q1.out
            have z5 := (KC.out.cell (p := ⟨g, og + k, none⟩) hg).trans d5
            have hgr : g < wr.heap.size := Nat.lt_of_lt_of_le hg KC.out.size
            clear hq' hneq hto rd5 d5 hl5 hjl
            go_wp2
            have HTT := hide (fun (x : Above wr) => HTO.out x.get _ _ ((((R5.out.below KC.out).mono KC.out.size).below x.keeps).mono x.keeps.size) ((((R1.out.below KC.out).mono KC.out.size).below x.keeps).mono x.keeps.size))
            refine wp_hab fun hab => ?_
            refine wp_region_above (by kernel_rfl) (by kernel_rfl) ?_
            repeat (go_big_quiet_step ((go_at_call 34; exact above_of (HTT.out _))))
            refine wpQuiet_nil ?_
            refine above_ends fun w6 hb => ?_
            clear hab z1 z5
            have KG := hide (KC.out.trans (hb.mono KC.out.size))
            have HA6 := hide ((HA5.out.below hb).mono hb.size)
            clear hb
            go_wp2
            go_roundw
            case rel => exact ⟨k + 1, by omega, by go_num, KG, HA6⟩
            case measure => simp [intOf]; omega
          · have kz : ¬ (k : Int) < (m : Int) := by omega
            obtain rfl : k = m := by omega
            have HB7 := hide (HBB.out.trans (KC.out.mono hsz))
            have HR7 := hide ((HRR.out.below KC.out).mono KC.out.size)
            have HS7 := hide ((HSS.out.below KC.out).mono KC.out.size)
            have HP7 := hide ((HPP.out.below KC.out).mono KC.out.size)
            go_wp2
            go_roundw
            case rel => exact ⟨k + 1, by omega, by go_num, q + 1, A', A5, _, c5, _, rfl, rfl, hide rfl, HCT2, HFI2, HTS, HA5, HR7, HS7, HP7, HB7⟩
            case measure => simp [intOf]; omega
    · have mz : ¬ (m : Int) < (B.length : Int) := by omega
      have hct : Cut R (ids R).length n := by have := HCT.out; rwa [show m = (ids R).length by rw [← HID.out]; omega] at this
      obtain rfl := HFI.out.done HH.out hct.done
      have hna := HNA.out
      subst hna
      have ht := HT.out
      subst ht
      have hSM := HSM.out _ _ _ HA.out HP.out
      clear hct HCT HFI HNA HT HH
      go_wp2_with (fail)
      refine (HAP.out _ _ HP.out).mono ?_
      rintro e w7 ⟨rfl, hb⟩
      have HB7 := hide (HB.out.trans (hb.mono HB.out.size))
      have HA7 := hide ((HA.out.below hb).mono hb.size)
      have HP7 := hide ((HP.out.below hb).mono hb.size)
      clear hb HB hSM
      generalize areaS A = ar at *
      go_wp2_with (fail)
      refine (HSM.out _ _ _ HA7.out HP7.out).mono ?_
      rintro e w8 ⟨rfl, hb⟩
      have HB8 := hide (HB7.out.trans (hb.mono HB7.out.size))
      clear hb
      go_wp2_with (fail)
      refine (alive35_any _).mono ?_
      rintro e w9 ⟨rfl, hb⟩
      have HB9 := hide (HB8.out.trans (hb.mono HB8.out.size))
      clear hb
      go_wp2_with (fail)
      go_ret
      exact ⟨rfl, HB9.out⟩
set_option maxRecDepth 100000 in
set_option maxHeartbeats 8000000 in
theorem bfills_walk {w : World} {vl vp : Value} {l : List Sg} {P : List R4} (hl : RdK encSg 4 w w.heap.size vl l) (hp : RdK encR 4 w w.heap.size vp P) (nl : l.length ≤ maxLen) (np : P.length ≤ maxLen) (hcap : ∀ A n c, vl = .slice A n c → n ≤ c) (d : Int) :
    Calls Tryz.prog 8 #[vl, .int .i64 d, vp] w fun e w' => e = .returned (.bool true) ∧ Below w.heap.size w w' := by
  clear hcap
  have HV := hide (valid35_any hl nl)
  have HL := hide hl
  have HP := hide hp
  have hnl := nl
  unfold maxLen at np nl
  cases hv : val35 l with
  | false =>
    rw [hv] at HV
    obtain ⟨Al, cl, rfl, _⟩ := hl
    obtain ⟨Ap, cp, rfl, _⟩ := hp
    clear hv
    go_enter Tryz.func8, Tryz.ntmps8
    go_wp2_with (fail)
    refine HV.out.mono ?_
    rintro e w1 ⟨rfl, hb⟩
    have HB := hide hb
    clear hb
    go_wp2_with (fail)
    refine (alive35_any _).mono ?_
    rintro e w2 ⟨rfl, hb⟩
    have HB2 := hide (HB.out.trans (hb.mono HB.out.size))
    clear hb HB
    go_wp2_with (fail)
    go_ret
    exact ⟨rfl, HB2.out⟩
  | true =>
    by_cases h1 : d < 1
    · have z1 : decide (d < 1) = true := decide_eq_true h1
      rw [hv] at HV
      obtain ⟨Al, cl, rfl, _⟩ := hl
      obtain ⟨Ap, cp, rfl, _⟩ := hp
      clear hv
      go_enter Tryz.func8, Tryz.ntmps8
      go_wp2_with (fail)
      refine HV.out.mono ?_
      rintro e w1 ⟨rfl, hb⟩
      have HB := hide hb
      clear hb
      go_wp2_with (fail)
      refine (alive35_any _).mono ?_
      rintro e w2 ⟨rfl, hb⟩
      have HB2 := hide (HB.out.trans (hb.mono HB.out.size))
      clear hb HB
      go_wp2_with (fail)
      go_ret
      exact ⟨rfl, HB2.out⟩
    have z1 : decide (d < 1) = false := decide_eq_false h1
    by_cases h2 : 1000 < d
    · have z2 : decide (1000 < d) = true := decide_eq_true h2
      rw [hv] at HV
      obtain ⟨Al, cl, rfl, _⟩ := hl
      obtain ⟨Ap, cp, rfl, _⟩ := hp
      clear hv
      go_enter Tryz.func8, Tryz.ntmps8
      go_wp2_with (fail)
      refine HV.out.mono ?_
      rintro e w1 ⟨rfl, hb⟩
      have HB := hide hb
      clear hb
      go_wp2_with (fail)
      refine (alive35_any _).mono ?_
      rintro e w2 ⟨rfl, hb⟩
      have HB2 := hide (HB.out.trans (hb.mono HB.out.size))
      clear hb HB
      go_wp2_with (fail)
      go_ret
      exact ⟨rfl, HB2.out⟩
    have z2 : decide (1000 < d) = false := decide_eq_false h2
    by_cases h3 : 16 < P.length
    · have z3 : decide ((16 : Int) < (P.length : Int)) = true := decide_eq_true (by omega)
      have z4 : (16 : Int) < (P.length : Int) := by omega
      rw [hv] at HV
      obtain ⟨Al, cl, rfl, _⟩ := hl
      obtain ⟨Ap, cp, rfl, _⟩ := hp
      clear hv
      go_enter Tryz.func8, Tryz.ntmps8
      go_wp2_with (fail)
      refine HV.out.mono ?_
      rintro e w1 ⟨rfl, hb⟩
      have HB := hide hb
      clear hb
      go_wp2_with (fail)
      refine (alive35_any _).mono ?_
      rintro e w2 ⟨rfl, hb⟩
      have HB2 := hide (HB.out.trans (hb.mono HB.out.size))
      clear hb HB
      go_wp2_with (fail)
      go_ret
      exact ⟨rfl, HB2.out⟩
    have z3 : decide ((16 : Int) < (P.length : Int)) = false := decide_eq_false (by omega)
    by_cases h4 : checkF P = 0
    · exact bfills_main hl hp hnl d hv (by omega) (by omega) h4
    have z4 : ¬ (16 : Int) < (P.length : Int) := by omega
    have z5 : (checkF P != 0) = true := by simpa using h4
    have HC := hide (fun (W : World) (v : Value) (h : RdK encR 4 W W.heap.size v P) => rCheck_any h (by omega))
    generalize checkF P = ck at *
    rw [hv] at HV
    obtain ⟨Al, cl, rfl, _⟩ := hl
    obtain ⟨Ap, cp, rfl, _⟩ := hp
    clear hv h4
    go_enter Tryz.func8, Tryz.ntmps8
    go_wp2_with (fail)
    refine HV.out.mono ?_
    rintro e w1 ⟨rfl, hb⟩
    have HB0 := hide hb
    clear hb
    go_wp2_with (fail)
    refine (HC.out _ _ ((HP.out.below HB0.out).mono HB0.out.size)).mono ?_
    rintro e w1b ⟨rfl, hb⟩
    have HB := hide (HB0.out.trans (hb.mono HB0.out.size))
    clear hb
    go_wp2_with (fail)
    refine (alive35_any _).mono ?_
    rintro e w2 ⟨rfl, hb⟩
    have HB2 := hide (HB.out.trans (hb.mono HB.out.size))
    clear hb HB
    go_wp2_with (fail)
    go_ret
    exact ⟨rfl, HB2.out⟩
end Go.Proofs.YtmnhlcbmoibahaaGreat
