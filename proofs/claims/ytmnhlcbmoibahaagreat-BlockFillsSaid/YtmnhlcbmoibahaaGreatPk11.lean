/- Texts laid together: PartsB, PartsM, PartsA, BlkP, MFor, BlkR. Lemmas for the statements of this seat; no condition. -/
import Derived.Test.YtmnhlcbmoibahaaGreatPk10
import Derived.Maps.RangeWalk
import Derived.Maps.Ext
import Derived.Test.YtmnhlcbmoibahaaGreatPk8
import Derived.Test.YtmnhlcbmoibahaaGreatPk9
import Derived.Test.YtmnhlcbmoibahaaGreatPk2
import Derived.Test.YtmnhlcbmoibahaaGreatPk7
import Derived.Test.YtmnhlcbmoibahaaGreatPk5

/- The reference's Parts. -/
namespace Go.Proofs.YtmnhlcbmoibahaaGreat
open Go.RowKit
set_option linter.unusedVariables false
set_option linter.unusedSimpArgs false

/-- A list of regions of the call's own. -/
structure Regs (w : World) (vo : Value) (R : List (List R4)) (wr : World) : Prop where
  low : Below w.heap.size w wr
  o : ∃ vs, wr.ownsRow w.heap.size 27 1 vo R.length vs ∧ ∀ (i : Nat) (r : List R4), R[i]? = some r → ∃ v, vs[i]? = some v ∧ wr.ownsRow w.heap.size 65 4 v r.length (r.flatMap encR)
theorem Regs.below {w wr w2 : World} {vo : Value} {R : List (List R4)} (h : Regs w vo R wr) (hb : Below wr.heap.size wr w2) : Regs w vo R w2 := by
  obtain ⟨vs, h1, h2⟩ := h.o
  refine ⟨h.low.trans (hb.mono h.low.size), vs, own_below h1 hb, fun i r hr => ?_⟩
  obtain ⟨v, h3, h4⟩ := h2 i r hr
  exact ⟨v, h3, own_below h4 hb⟩
theorem Regs.push {w wr w2 : World} {vo v2 v : Value} {R : List (List R4)} {r : List R4} {vs : List Value} (low : Below w.heap.size w wr) (h1 : wr.ownsRow w.heap.size 27 1 vo R.length vs)
    (h2 : ∀ (i : Nat) (r : List R4), R[i]? = some r → ∃ v, vs[i]? = some v ∧ wr.ownsRow w.heap.size 65 4 v r.length (r.flatMap encR)) (hv : wr.ownsRow w.heap.size 65 4 v r.length (r.flatMap encR))
    (hg : wr.grownBy w2 vo.ownBlock) (h3 : w2.ownsRow w.heap.size 27 1 v2 (R.length + 1) (vs ++ [v])) : Regs w v2 (R ++ [r]) w2 := by
  have hl : vs.length = R.length := by have := h1.1; omega
  refine ⟨low.grown hg low.size (fun q hq => (h1.lt q hq).1), vs ++ [v], by simpa using h3, fun i x hx => ?_⟩
  by_cases hi : i < R.length
  · rw [List.getElem?_append_left hi] at hx
    obtain ⟨u, h4, h5⟩ := h2 i x hx
    exact ⟨u, by rw [List.getElem?_append_left (by omega)]; exact h4, h5.kept hg (own_apart h5 h1 (by decide))⟩
  · rw [List.getElem?_append_right (by omega)] at hx
    have hi0 : i - R.length = 0 := by
      have := (List.getElem?_eq_some_iff.1 hx).1
      simp at this
      omega
    rw [hi0] at hx
    simp at hx
    subst hx
    refine ⟨v, by rw [List.getElem?_append_right (by omega), hl, hi0]; rfl, hv.kept hg (own_apart hv h1 (by decide))⟩
def RegsRet (B : Nat) (x : List (List R4) × Int) (e : Ending) (w' : World) : Prop :=
  ∃ A c vs, e = .returned (.tuple #[.slice A x.1.length c, .int .i64 x.2]) ∧ w'.ownsRow B 27 1 (.slice A x.1.length c) x.1.length vs ∧ ∀ (i : Nat) (r : List R4), x.1[i]? = some r → ∃ v, vs[i]? = some v ∧ w'.ownsRow B 65 4 v r.length (r.flatMap encR)
noncomputable def partsE (l : List R4) : List (List R4) × Int := if checkF l = 0 then (partsF l, 0) else ([], checkF l)
theorem infoRg : (Tryz.prog.info? 27).map (fun i => (i.zero, i.size, i.bytes)) = some (some (.slice none 0 0), 1, 24) := by kernel_rfl
theorem cmn_apart {l : List R4} (h : l.Pairwise apart4) {i k : Nat} {x y : R4} (hx : l[i]? = some x) (hy : l[k]? = some y) (hne : i ≠ k) (wx : wf4 x) (wy : wf4 y) : cmn x y = false := by
  obtain ⟨hi, ex⟩ := List.getElem?_eq_some_iff.1 hx
  obtain ⟨hk, ey⟩ := List.getElem?_eq_some_iff.1 hy
  have key : ∀ a b : R4, apart4 a b → wf4 a → wf4 b → cmn a b = false := fun a b hab w1 w2 => by
    have := hab (max a.x0 b.x0) (max a.y0 b.y0)
    unfold wf4 at w1 w2
    simp only [rin] at this
    unfold cmn
    by_cases c1 : a.x0 < b.x1 <;> by_cases c2 : b.x0 < a.x1 <;> by_cases c3 : a.y0 < b.y1 <;> by_cases c4 : b.y0 < a.y1 <;> simp only [c1, c2, c3, c4, decide_true, decide_false, Bool.and_true, Bool.and_false, Bool.false_and]
    exact absurd ⟨⟨by omega, by omega, by omega, by omega⟩, by omega, by omega, by omega, by omega⟩ this
  have P := List.pairwise_iff_getElem.1 h
  rcases Nat.lt_or_gt_of_ne hne with hlt | hlt
  · exact key x y (by have := P i k hi hk hlt; rwa [ex, ey] at this) wx wy
  · exact key x y (fun u v ⟨h1, h2⟩ => by have := P k i hk hi hlt; rw [ex, ey] at this; exact this u v ⟨h2, h1⟩) wx wy
/-- The component's rectangles among the first j. -/
noncomputable def compP (l : List R4) (i j : Nat) : List R4 := ((List.range j).filter fun k => decide (mn l k = i)).filterMap fun k => l[k]?
theorem compP_in {l : List R4} {i j : Nat} {r : R4} (hr : l[j]? = some r) (h : mn l j = i) : compP l i (j + 1) = compP l i j ++ [r] := by
  unfold compP
  rw [List.range_succ, List.filter_append, List.filterMap_append]
  simp [h, hr]
theorem compP_out {l : List R4} {i j : Nat} (h : mn l j ≠ i) : compP l i (j + 1) = compP l i j := by
  unfold compP
  rw [List.range_succ, List.filter_append, List.filterMap_append]
  simp [h]
theorem compP_all (l : List R4) (i : Nat) : compP l i l.length = compL l i := rfl
theorem compP_len (l : List R4) (i j : Nat) : (compP l i j).length ≤ j := by
  unfold compP
  exact Nat.le_trans (List.length_filterMap_le _ _) (Nat.le_trans (List.length_filter_le _ _) (by simp))
noncomputable def partsP (l : List R4) (m : Nat) : List (List R4) := ((List.range m).filter fun i => decide (mn l i = i)).map fun i => rjoin hFst (compL l i) []
theorem partsP_in {l : List R4} {m : Nat} (h : mn l m = m) : partsP l (m + 1) = partsP l m ++ [rjoin hFst (compL l m) []] := by
  unfold partsP
  rw [List.range_succ, List.filter_append, List.map_append]
  simp [h]
theorem partsP_out {l : List R4} {m : Nat} (h : mn l m ≠ m) : partsP l (m + 1) = partsP l m := by
  unfold partsP
  rw [List.range_succ, List.filter_append, List.map_append]
  simp [h]
theorem partsP_all (l : List R4) : partsP l l.length = partsF l := rfl
theorem partsP_len (l : List R4) (m : Nat) : (partsP l m).length ≤ m := by
  unfold partsP
  rw [List.length_map]
  exact Nat.le_trans (List.length_filter_le _ _) (by simp)
/-- The labels' row, at one place. -/
theorem lab_cell {w wr : World} {g n c i : Nat} {L : List Int} {x : Int} (h : wr.ownsRow w.heap.size 3 1 (.slice (some ⟨g, 0, none⟩) n c) n (L.map iv)) (hx : L[i]? = some x) : wr.cell? ⟨g, i, none⟩ = some (.int .i64 x) := by
  have := (h.cells (g := g) rfl) i (iv x) (by simp [hx])
  rwa [addr_add] at this
theorem rects_at {W wr : World} {l : List R4} {b o m : Nat} (hk : ∀ (j : Nat) (x : R4), l[j]? = some x → ∀ (i : Nat) (u : Value), (encR x)[i]? = some u → W.cell? ⟨b, o + j * 4 + i, none⟩ = some u) (hb : ∀ q, wr.cell? ⟨b, q, none⟩ = W.cell? ⟨b, q, none⟩) {p0 p1 p2 p3 : Int} (hp : l[m]? = some ⟨p0, p1, p2, p3⟩) :
    wr.cell? ⟨b, o + m * 4, none⟩ = some (.int .i64 p0) ∧ wr.cell? ⟨b, o + m * 4 + 1, none⟩ = some (.int .i64 p1) ∧ wr.cell? ⟨b, o + m * 4 + 2, none⟩ = some (.int .i64 p2) ∧ wr.cell? ⟨b, o + m * 4 + 3, none⟩ = some (.int .i64 p3) :=
  ⟨(hb _).trans (hk m _ hp 0 _ rfl), (hb _).trans (hk m _ hp 1 _ rfl), (hb _).trans (hk m _ hp 2 _ rfl), (hb _).trans (hk m _ hp 3 _ rfl)⟩
def lab0 (m : Nat) : List Int := (List.range m).map fun i : Nat => (i : Int)
theorem lab0_len (m : Nat) : (lab0 m).length = m := by simp [lab0]
theorem lab0_snoc (m : Nat) : (lab0 m).map iv ++ [.int .i64 (m : Int)] = (lab0 (m + 1)).map iv := by
  unfold lab0
  rw [List.range_succ, List.map_append, List.map_append]
  rfl
theorem cellSum_lab {w : World} {base n : Nat} {e : TypeId} {v : Value} {L : List Int} (h : w.ownsRow base e 1 v n (L.map iv)) : cellSum w v n = sumN L := by
  have hn : n = L.length := by have := h.1; simp at this; omega
  subst hn
  exact cellSum_own h
def labR (l : List R4) (w : World) (vf : Value) (L : List Int) (wr : World) : Prop := wr.ownsRow w.heap.size 3 1 vf l.length (L.map iv) ∧ Below w.heap.size w wr

set_option maxRecDepth 100000 in
set_option maxHeartbeats 4000000 in
theorem rParts_any {w : World} {v : Value} {l : List R4} (hr : RdK encR 4 w w.heap.size v l) (hl : l.length ≤ 100000000) :
    Calls Tryz.prog 50 #[v] w fun e w' => RegsRet w.heap.size (partsE l) e w' ∧ Below w.heap.size w w' := by
  obtain ⟨i1, gi, gz0, gz1, gz2⟩ := info_parts infoInt
  obtain ⟨i2, fi, fz0, fz1, fz2⟩ := info_parts infoRg
  obtain ⟨i3, ki, kz0, kz1, kz2⟩ := info_parts infoRc
  have hck := fun (W : World) (hW : Below w.heap.size w W) => rCheck_any (w := W) ((hr.below hW).mono hW.size) hl
  have hR := hide hr
  obtain ⟨A0, c0, hv, hc⟩ := id hr
  subst hv
  have HCK := hide hck
  have HRC := hide hc
  clear hck hr hc
  by_cases h0 : checkF l = 0
  · obtain ⟨k1, k2, _⟩ := checkF_ok h0
    have HF : Hid (partsE l = (partsF l, 0)) := hide (if_pos h0)
    have HCAN := hide (check_rcan h0)
    have HV := hide k2
    rw [h0] at HCK
    clear k2 h0
    go_enter Tryz.func50, Tryz.ntmps50
    go_wp2_with (go_at_call 22; refine (HCK.out _ (Below.refl _ _)).mono ?_; rintro e w1 ⟨rfl, hb1⟩)
    have HB1 := hide hb1
    clear hb1
    go_loopw [4, 5] (fun v i wr => ∃ m : Nat, m ≤ l.length ∧ i = .int .i64 m ∧ ∃ Av cv, v = .slice Av m cv ∧ Hid (wr.ownsRow w.heap.size 3 1 v m ((lab0 m).map iv)) ∧ Hid (Below w.heap.size w wr)) (fun _ i _ => l.length - (intOf i).toNat)
    case atStart => exact ⟨0, Nat.zero_le _, rfl, none, 0, rfl, hide (World.ownsRow_nil _ _ _ _), HB1⟩
    case round =>
      clear HB1
      obtain ⟨m, hm, rfl, Av, cv, rfl, HO, HB⟩ := hrel
      by_cases hlt : m < l.length
      · have mz : (m : Int) < (l.length : Int) := by omega
        have hsz := HB.out.size
        go_wp2_with (at_builtin; go_loud (refine wpList_append_lies _ rfl (.tmp 24) (.tmp 26) 133 rfl w.heap.size 3 i1 (.int .i64 0) 1 8 Tryz.underlying133 gi gz0 gz1 gz2 rfl (by decide) _ m _ rfl (HO.out.alloc _) ⟨wr.heap.size, 0, none⟩ 1 1 [.int .i64 m] rfl rfl (news_new wr _ _ _ rfl) (ints_one rfl) (by omega) (by unfold maxLen; omega) (by omega) (by simp; omega) _ rfl ?_))
        intro g9 cap9 w9 hown9 hgrow9 _ _
        rw [lab0_snoc] at hown9
        have HB9 := hide ((HB.out.alloc hsz _).grown hgrow9 (by simp; omega) (fun q hq => (HO.out.lt q hq).1))
        have HO9 := hide hown9
        clear hown9 hgrow9
        go_wp2
        go_roundw
        case rel => exact ⟨m + 1, by omega, by go_num, _, cap9, rfl, HO9, HB9⟩
        case measure => simp [intOf]; omega
      · have mz : ¬ (m : Int) < (l.length : Int) := by omega
        obtain rfl : m = l.length := by omega
        go_wp2
        have HLB := hide (Lb.start l)
        have HO0 := hide (show labR l w (.slice Av l.length cv) (lab0 l.length) wr from ⟨HO.out, HB.out⟩)
        clear HO HB
        go_loopw [6] (fun q wr => ∃ mb : Bool, q = .bool mb ∧ ∃ L : List Int, Hid (Lb l L) ∧ Hid (labR l w (.slice Av l.length cv) L wr) ∧ Hid (mb = false → L = (List.range l.length).map fun i => ((mn l i : Nat) : Int)))
          (fun q wr => match q with | .bool true => cellSum wr (.slice Av l.length cv) l.length + 1 | _ => 0)
        case atStart => exact ⟨true, rfl, _, HLB, HO0, hide (fun h => by cases h)⟩
        case round =>
          clear HLB HO0
          obtain ⟨mb, rfl, L, HLB, HO, HDN⟩ := hrel
          cases mb with
          | true =>
            obtain ⟨L0, HL0⟩ : ∃ L0, Hid (L0 = L) := ⟨_, hide rfl⟩
            have HPS := hide (show Pass l L L false 0 0 from ⟨HLB.out, .inr ⟨rfl, rfl, fun i k x y _ _ _ h => by omega⟩⟩)
            go_wp2
            go_loopw [6, 7] (fun q i wr => ∃ m : Nat, m ≤ l.length ∧ i = .int .i64 m ∧ ∃ mb : Bool, q = .bool mb ∧ ∃ L1 : List Int, Hid (Pass l L L1 mb m 0) ∧ Hid (labR l w (.slice Av l.length cv) L1 wr)) (fun _ i _ => l.length - (intOf i).toNat)
            case atStart => exact ⟨0, Nat.zero_le _, rfl, false, rfl, L, HPS, HO⟩
            case round =>
              clear HPS
              obtain ⟨m, hm, rfl, mb, rfl, L1, HPS, HOa⟩ := hrel
              by_cases hlt : m < l.length
              · have mz : (m : Int) < (l.length : Int) := by omega
                go_wp2
                go_loopw [6, 8] (fun q i wr => ∃ j : Nat, j ≤ l.length ∧ i = .int .i64 j ∧ ∃ mb : Bool, q = .bool mb ∧ ∃ L2 : List Int, Hid (Pass l L L2 mb m j) ∧ Hid (labR l w (.slice Av l.length cv) L2 wr)) (fun _ i _ => l.length - (intOf i).toNat)
                case atStart => exact ⟨0, Nat.zero_le _, rfl, mb, rfl, L1, HPS, HOa⟩
                case round =>
                  clear HPS HOa
                  obtain ⟨j, hj, rfl, mb, rfl, L2, HPS, HOb⟩ := hrel
                  by_cases hlj : j < l.length
                  · have jz : (j : Int) < (l.length : Int) := by omega
                    obtain ⟨g, cpg, hvg, hBg, hgg⟩ := HOb.out.1.form (by omega)
                    injection hvg with e1 _ e3
                    subst e1; subst e3
                    have hL2 := HPS.out.1.1
                    obtain ⟨x, hx⟩ : ∃ x, L2[m]? = some x := ⟨_, List.getElem?_eq_getElem (by omega)⟩
                    obtain ⟨y, hy⟩ : ∃ y, L2[j]? = some y := ⟨_, List.getElem?_eq_getElem (by omega)⟩
                    have cx := lab_cell HOb.out.1 hx
                    have cy := lab_cell HOb.out.1 hy
                    have r1 : (0 : Int) ≤ (m : Int) := by omega
                    have r2 : (0 : Int) ≤ (j : Int) := by omega
                    have hsz := HOb.out.2.size
                    have hgw : g < wr.heap.size := (HOb.out.1.lt g rfl).2
                    have HX := hide hx
                    have HY := hide hy
                    clear hx hy hL2
                    by_cases hxy : y < x
                    · have hd : decide (y < x) = true := decide_eq_true hxy
                      obtain ⟨⟨p0, p1, p2, p3⟩, hp⟩ : ∃ p, l[m]? = some p := ⟨_, List.getElem?_eq_getElem hlt⟩
                      obtain ⟨⟨q0, q1, q2, q3⟩, hq⟩ : ∃ p, l[j]? = some p := ⟨_, List.getElem?_eq_getElem hlj⟩
                      obtain ⟨b, o, rfl, hbl, k⟩ := HRC.out (by intro e; rw [e] at hlt; simp at hlt)
                      obtain ⟨d0, d1, d2, d3⟩ := rects_at k (fun q => HOb.out.2.cell (p := ⟨b, q, none⟩) hbl) hp
                      obtain ⟨e0, e1, e2, e3⟩ := rects_at k (fun q => HOb.out.2.cell (p := ⟨b, q, none⟩) hbl) hq
                      have hbw : b < wr.heap.size := by omega
                      have hvp := HV.out _ (List.mem_of_getElem? hp)
                      have hvq := HV.out _ (List.mem_of_getElem? hq)
                      have hne : m ≠ j := fun e => by
                        subst e
                        have := HX.out.symm.trans HY.out
                        injection this with this
                        omega
                      have hbn := bsd_near (a := ⟨p0, p1, p2, p3⟩) (b := ⟨q0, q1, q2, q3⟩) ⟨hvp.1, hvp.2.1⟩ ⟨hvq.1, hvq.2.1⟩ (cmn_apart HCAN.out.apart hp hq hne ⟨hvp.1, hvp.2.1⟩ ⟨hvq.1, hvq.2.1⟩)
                      have hnr := fun W => near_any ⟨p0, p1, p2, p3⟩ ⟨q0, q1, q2, q3⟩ (valid_mid hvp) (valid_mid hvq) W
                      simp only [encR] at hnr
                      rw [hbn] at hnr
                      have HP := hide hp
                      have HQ := hide hq
                      have HXY := hide hxy
                      cases hbs : bsd ⟨p0, p1, p2, p3⟩ ⟨q0, q1, q2, q3⟩ with
                      | true =>
                        rw [hbs] at hnr
                        have HNR := hide hnr
                        have HA := hide (show adj l m j from ⟨_, _, hp, hq, hbs⟩)
                        clear k hp hq hvp hvq hne hbn hnr hbs hxy
                        go_wp2
                        refine wp_hab fun hab => ?_
                        refine wp_region_above (by kernel_rfl) (by kernel_rfl) ?_
                        repeat (go_big_quiet_step ((go_at_call 83; exact above_of (HNR.out _))))
                        refine wpQuiet_nil ?_
                        refine above_ends fun w3 hb3 => ?_
                        clear hab d0 d1 d2 d3 e0 e1 e2 e3
                        have cx3 := (hb3.cell (p := ⟨g, m, none⟩) hgw).trans cx
                        have cy3 := (hb3.cell (p := ⟨g, j, none⟩) hgw).trans cy
                        have hO3 := own_below HOb.out.1 hb3
                        have f3 : w3.frozen? ⟨g, m, none⟩ = false := hO3.frozenAt _
                        have hset := own_set (j := m) hO3 (iv y)
                        rw [← List.map_set] at hset
                        have HO4 := hide (show labR l w (.slice (some ⟨g, 0, none⟩) l.length cv) (L2.set m y) (w3.setCell ⟨g, m, none⟩ (iv y)) from ⟨hset, (HOb.out.2.trans (hb3.mono hsz)).setCell hBg _⟩)
                        have HPS4 := hide (HPS.out.down HA.out HX.out HY.out HXY.out)
                        clear hb3 cx cy hset hO3
                        go_wp2
                        go_roundw
                        case rel => exact ⟨j + 1, by omega, by go_num, true, rfl, _, HPS4, HO4⟩
                        case measure => simp [intOf]; omega
                      | false =>
                        rw [hbs] at hnr
                        have HNR := hide hnr
                        have HPS4 := hide (HPS.out.stay (fun x' y' ha _ _ => by
                          obtain ⟨u, v, h1, h2, h3⟩ := ha
                          rw [hp] at h1; rw [hq] at h2
                          injection h1 with h1; injection h2 with h2
                          subst h1; subst h2
                          rw [hbs] at h3; cases h3))
                        clear k hp hq hvp hvq hne hbn hnr hbs hxy
                        go_wp2
                        refine wp_hab fun hab => ?_
                        refine wp_region_above (by kernel_rfl) (by kernel_rfl) ?_
                        repeat (go_big_quiet_step ((go_at_call 83; exact above_of (HNR.out _))))
                        refine wpQuiet_nil ?_
                        refine above_ends fun w3 hb3 => ?_
                        clear hab d0 d1 d2 d3 e0 e1 e2 e3
                        have HO4 := hide (show labR l w (.slice (some ⟨g, 0, none⟩) l.length cv) L2 w3 from ⟨own_below HOb.out.1 hb3, HOb.out.2.trans (hb3.mono hsz)⟩)
                        clear hb3 cx cy
                        go_wp2
                        go_roundw
                        case rel => exact ⟨j + 1, by omega, by go_num, mb, rfl, _, HPS4, HO4⟩
                        case measure => simp [intOf]; omega
                    · have hd : decide (y < x) = false := decide_eq_false hxy
                      have HPS4 := hide (HPS.out.stay (fun x' y' _ h1 h2 => by
                          have e1 := HX.out.symm.trans h1
                          have e2 := HY.out.symm.trans h2
                          injection e1 with e1; injection e2 with e2
                          omega))
                      clear hxy
                      go_wp2
                      refine wp_hab fun hab => ?_
                      refine wp_region_above (by kernel_rfl) (by kernel_rfl) ?_
                      repeat (go_big_quiet_step ((fail)))
                      refine wpQuiet_nil ?_
                      refine above_ends fun w3 hb3 => ?_
                      clear hab
                      have HO4 := hide (show labR l w (.slice (some ⟨g, 0, none⟩) l.length cv) L2 w3 from ⟨own_below HOb.out.1 hb3, HOb.out.2.trans (hb3.mono hsz)⟩)
                      clear hb3 cx cy
                      go_wp2
                      go_roundw
                      case rel => exact ⟨j + 1, by omega, by go_num, mb, rfl, _, HPS4, HO4⟩
                      case measure => simp [intOf]; omega
                  · have jz : ¬ (j : Int) < (l.length : Int) := by omega
                    have HPR := hide (HPS.out.row (by omega))
                    go_wp2
                    go_roundw
                    case rel => exact ⟨m + 1, by omega, by go_num, mb, rfl, L2, HPR, HOb⟩
                    case measure => simp [intOf]; omega
              · have mz : ¬ (m : Int) < (l.length : Int) := by omega
                go_wp2
                go_roundw
                case rel => exact ⟨mb, rfl, L1, hide HPS.out.1, HOa, hide (fun h => by subst h; exact HPS.out.done (by omega))⟩
                case measure =>
                  cases mb with
                  | false => exact Nat.succ_pos _
                  | true =>
                    have h1 := cellSum_lab HO.out.1
                    have h2 := cellSum_lab HOa.out.1
                    have h3 := (HPS.out.2.resolve_right (fun q => by cases q.1)).2
                    show cellSum _ _ _ + 1 < cellSum _ _ _ + 1
                    rw [h1, h2]
                    omega
          | false =>
            have hL := HDN.out rfl
            subst hL
            clear HDN HLB
            go_wp2
            go_loopw [9, 10] (fun v i wr => ∃ m : Nat, m ≤ l.length ∧ i = .int .i64 m ∧ ∃ Ao no co, v = .slice Ao no co ∧ Hid (no = (partsP l m).length) ∧ Hid (Regs w (.slice Ao no co) (partsP l m) wr) ∧ Hid (labR l w (.slice Av l.length cv) ((List.range l.length).map fun i => ((mn l i : Nat) : Int)) wr)) (fun _ i _ => l.length - (intOf i).toNat)
            case atStart => exact ⟨0, Nat.zero_le _, rfl, none, 0, 0, rfl, hide rfl, hide ⟨HO.out.2, [], World.ownsRow_nil _ _ _ _, fun i r h => by simp [partsP] at h⟩, HO⟩
            case round =>
              clear HO
              obtain ⟨m, hm, rfl, Ao, no, co, rfl, HN, HRG, HO⟩ := hrel
              by_cases hlt : m < l.length
              · have mz : (m : Int) < (l.length : Int) := by omega
                obtain ⟨g, cpg, hvg, hBg, hgg⟩ := HO.out.1.form (by omega)
                injection hvg with e1 _ e3
                subst e1; subst e3
                obtain ⟨x, hx⟩ : ∃ x : Int, x = ((mn l m : Nat) : Int) := ⟨_, rfl⟩
                have cx := lab_cell (i := m) (x := x) HO.out.1 (by rw [List.getElem?_map, List.getElem?_range hlt, hx]; rfl)
                have r1 : (0 : Int) ≤ (m : Int) := by omega
                by_cases hmn : mn l m = m
                · have hd : (x != (m : Int)) = false := by rw [hx, hmn]; simp
                  have HMN := hide hmn
                  clear hx hmn
                  obtain ⟨wo, hwo⟩ : ∃ wo : World, wo = wr := ⟨_, rfl⟩
                  subst hwo
                  have hszo := HO.out.2.size
                  have hgo : g < wo.heap.size := (HO.out.1.lt g rfl).2
                  go_wp2
                  go_loopw [11, 12] (fun v q wi => ∃ j : Nat, j ≤ l.length ∧ q = .int .i64 j ∧ ∃ Ap np cp, v = .slice Ap np cp ∧ Hid (np = (compP l m j).length) ∧ Hid (wi.ownsRow wo.heap.size 65 4 (.slice Ap np cp) np ((compP l m j).flatMap encR)) ∧ Hid (Below wo.heap.size wo wi)) (fun _ q _ => l.length - (intOf q).toNat)
                  case atStart => exact ⟨0, Nat.zero_le _, rfl, none, 0, 0, rfl, hide rfl, hide (World.ownsRow_nil _ _ _ _), hide (Below.refl _ _)⟩
                  case round =>
                    clear cx
                    obtain ⟨j, hj, rfl, Ap, np, cp, rfl, HNP, HP, HBI⟩ := hrel
                    by_cases hlj : j < l.length
                    · have jz : (j : Int) < (l.length : Int) := by omega
                      obtain ⟨z, hz⟩ : ∃ z : Int, z = ((mn l j : Nat) : Int) := ⟨_, rfl⟩
                      have cz := (HBI.out.cell (p := ⟨g, j, none⟩) hgo).trans (lab_cell (i := j) (x := z) HO.out.1 (by rw [List.getElem?_map, List.getElem?_range hlj, hz]; rfl))
                      have r2 : (0 : Int) ≤ (j : Int) := by omega
                      by_cases hmj : mn l j = m
                      · have hd2 : (z == (m : Int)) = true := by rw [hz, hmj]; simp
                        obtain ⟨⟨p0, p1, p2, p3⟩, hp⟩ : ∃ p, l[j]? = some p := ⟨_, List.getElem?_eq_getElem hlj⟩
                        obtain ⟨b, o, rfl, hbl, k⟩ := HRC.out (by intro e; rw [e] at hlj; simp at hlj)
                        obtain ⟨d0, d1, d2, d3⟩ := rects_at k (fun q => (HBI.out.cell (p := ⟨b, q, none⟩) (show b < wo.heap.size by omega)).trans (HO.out.2.cell (p := ⟨b, q, none⟩) hbl)) hp
                        have HT := hide (compP_in hp hmj)
                        have hnp : np ≤ 400 := by have := HNP.out; have := compP_len l m j; omega
                        have hszi := HBI.out.size
                        generalize compP l m j = C at *
                        clear k hp hz hmj
                        go_wp2_with (at_builtin; go_loud (refine wpList_append_lies _ rfl (.tmp 92) (.tmp 97) 26 rfl wo.heap.size 65 i3 (.agg #[.int .i64 0, .int .i64 0, .int .i64 0, .int .i64 0]) 4 32 Tryz.underlying26 ki kz0 kz1 kz2 rfl (by decide) _ np _ rfl (World.ownsRow.alloc HP.out _) ⟨wr.heap.size, 0, none⟩ 1 1 [.int .i64 p0, .int .i64 p1, .int .i64 p2, .int .i64 p3] rfl rfl (news_new wr _ _ _ rfl) (ints_one rfl) (by omega) (by unfold maxLen; omega) (by omega) (by simp; omega) _ rfl ?_))
                        intro g9 cap9 w9 hown9 hgrow9 _ _
                        have hx9 : C.flatMap encR ++ [.int .i64 p0, .int .i64 p1, .int .i64 p2, .int .i64 p3] = (C ++ [(⟨p0, p1, p2, p3⟩ : R4)]).flatMap encR := by simp [encR]
                        rw [hx9, ← HT.out] at hown9
                        have HB9 := hide ((HBI.out.alloc hszi _).grown hgrow9 (by simp; omega) (fun q hq => (HP.out.lt q hq).1))
                        have HN9 := hide (own_len (k := 4) hown9 (fun _ => rfl) (by omega))
                        have HO9 := hide hown9
                        clear hown9 hgrow9 hx9
                        go_wp2
                        go_roundw
                        case rel => exact ⟨j + 1, by omega, by go_num, _, _, cap9, rfl, HN9, HO9, HB9⟩
                        case measure => simp [intOf]; omega
                      · have hd2 : (z == (m : Int)) = false := by rw [hz]; simp; omega
                        have HPP := hide (compP_out hmj)
                        clear hz hmj
                        rw [← HPP.out] at HNP HP
                        go_wp2
                        go_roundw
                        case rel => exact ⟨j + 1, by omega, by go_num, Ap, np, cp, rfl, HNP, HP, HBI⟩
                        case measure => simp [intOf]; omega
                    · have jz : ¬ (j : Int) < (l.length : Int) := by omega
                      obtain rfl : j = l.length := by omega
                      rw [compP_all] at HNP HP
                      have hcl : (compL l m).length ≤ 400 := Nat.le_trans (compL_sub l m).length_le k1
                      have hwf : ∀ r ∈ compL l m, wf4 r := fun r hr => by have := HV.out r ((compL_sub l m).subset hr); exact ⟨this.1, this.2.1⟩
                      have hszi := HBI.out.size
                      have hjo := rJoined_any 2 (.inr (.inl rfl)) (w := wr) (own_rd (own_n HP.out HNP.out) (fun _ => rfl)) (RdK.nil (α := R4) none 0) (Nat.le_refl _) (by omega) (by simp)
                      rw [ref_join (h := hk 2) rfl hwf (by simp), rjoin_or hwf] at hjo
                      have hrl := rjoin_len (compL l m) hcl
                      have HJO := hide hjo
                      have HPI := hide (partsP_in HMN.out)
                      clear hjo hwf
                      generalize rjoin hFst (compL l m) [] = J at *
                      obtain ⟨low, vs, g1, g2⟩ := (HRG.out.below HBI.out)
                      have HLOW := hide low
                      have HG1 := hide g1
                      have HG2 := hide g2
                      have hno : no ≤ 400 := by have := HN.out; have := partsP_len l m; omega
                      have hlow := low.size
                      clear low g1 g2
                      go_wp2_with (first
                        | (go_at_call 55; refine HJO.out.mono ?_; rintro e w3 ⟨vo, rfl, ho, hb3⟩; have HJ := hide (own_base ho hlow); obtain ⟨Aj, cj, hvj⟩ := own_form ho; subst hvj; have HB3 := hide hb3; clear ho hb3; have hs3 := HB3.out.size)
                        | (at_builtin; go_loud (refine wpList_append_lies _ rfl (.tmp 99) (.tmp 102) 35 rfl w.heap.size 27 i2 (.slice none 0 0) 1 24 Tryz.underlying35 fi fz0 fz1 fz2 rfl (by decide) _ no _ rfl (World.ownsRow.alloc (own_below (own_n HG1.out HN.out.symm) HB3.out) _) ⟨w3.heap.size, 0, none⟩ 1 1 [.slice Aj J.length cj] rfl rfl (news_new w3 _ _ _ rfl) (by intro u hu; rw [List.mem_singleton] at hu; subst hu; rfl) (by omega) (by unfold maxLen; omega) (by omega) (by simp; omega) _ rfl ?_)))
                      intro g9 cap9 w9 hown9 hgrow9 _ _
                      have hpush := Regs.push (w := w) ((HLOW.out.trans (HB3.out.mono hlow)).alloc (Nat.le_trans hlow hs3) _) (World.ownsRow.alloc (own_below HG1.out HB3.out) _) (fun i r hi => by
                        obtain ⟨v, q1, q2⟩ := HG2.out i r hi
                        exact ⟨v, q1, World.ownsRow.alloc (own_below q2 HB3.out) _⟩) (World.ownsRow.alloc HJ.out _) hgrow9 (by rw [← HN.out]; exact hown9)
                      rw [← HPI.out] at hpush
                      have HRG9 := hide hpush
                      have HN9 := hide (show no + 1 = (partsP l (m + 1)).length by rw [HPI.out, List.length_append, ← HN.out]; rfl)
                      have HL9 := hide (show labR l w (.slice (some ⟨g, 0, none⟩) l.length cv) ((List.range l.length).map fun i => ((mn l i : Nat) : Int)) w9 from
                        ⟨(World.ownsRow.alloc (own_below (own_below HO.out.1 HBI.out) HB3.out) _).kept hgrow9 (own_apart (own_below (own_below HO.out.1 HBI.out) HB3.out) (own_below HG1.out HB3.out) (by decide)), hpush.low⟩)
                      clear hown9 hgrow9 hpush
                      go_wp2
                      go_roundw
                      case rel => exact ⟨m + 1, by omega, by go_num, _, _, cap9, rfl, HN9, HRG9, HL9⟩
                      case measure => simp [intOf]; omega
                · have hd : (x != (m : Int)) = true := by rw [hx]; simp; omega
                  have HPP := hide (partsP_out hmn)
                  clear hx hmn
                  rw [← HPP.out] at HN HRG
                  go_wp2
                  go_roundw
                  case rel => exact ⟨m + 1, by omega, by go_num, Ao, no, co, rfl, HN, HRG, HO⟩
                  case measure => simp [intOf]; omega
              · have mz : ¬ (m : Int) < (l.length : Int) := by omega
                obtain rfl : m = l.length := by omega
                rw [partsP_all] at HN HRG
                go_wp2
                go_ret2
                obtain ⟨low, vs, h1, h2⟩ := HRG.out
                have hn := HN.out
                subst hn
                refine ⟨⟨Ao, co, vs, by rw [HF.out]; rfl, by rw [HF.out]; exact h1, ?_⟩, low⟩
                rw [HF.out]
                exact h2
  · have HF : Hid (partsE l = ([], checkF l)) := hide (if_neg h0)
    generalize checkF l = ck at *
    have hne : (ck != 0) = true := by simpa using h0
    clear h0
    go_enter Tryz.func50, Tryz.ntmps50
    go_wp2_with (go_at_call 22; refine (HCK.out _ (Below.refl _ _)).mono ?_; rintro e w1 ⟨rfl, hb1⟩)
    have HB1 := hide hb1
    clear hb1
    go_wp2_with (go_at_call 22; refine (HCK.out _ HB1.out).mono ?_; rintro e w2 ⟨rfl, hb2⟩)
    have HB2 := hide (HB1.out.trans (hb2.mono HB1.out.size))
    clear hb2
    go_ret2
    exact ⟨⟨none, 0, [], by rw [HF.out]; rfl, by rw [HF.out]; exact World.ownsRow_nil _ _ _ _, fun i r hi => by rw [HF.out] at hi; simp at hi⟩, HB2.out⟩
end Go.Proofs.YtmnhlcbmoibahaaGreat

/- A map from indexes to rectangles: its words, and the laws at its operations; a component that grows. -/
namespace Go.Proofs.YtmnhlcbmoibahaaGreat
open Go.RowKit Go.Maps
set_option linter.unusedVariables false
set_option linter.unusedSimpArgs false

theorem lawI : Keyed Tryz.prog 3 := int_keyed Tryz.underlying3
def rectD (r : R4) : DataW Unit := .agg [.lit (.int .i64 r.x0), .lit (.int .i64 r.y0), .lit (.int .i64 r.x1), .lit (.int .i64 r.y1)]
def rectE (v : Value) : Option (DataW Unit × List MemPlace) :=
  match v with
  | .agg xs => match xs.toList with
    | [.int .i64 a, .int .i64 b, .int .i64 c, .int .i64 d] => some (rectD ⟨a, b, c, d⟩, [])
    | _ => none
  | _ => none
theorem rectE_mk (r : R4) : rectE (.agg (encR r).toArray) = some (rectD r, []) := rfl
theorem rectE_mk4 (a b c d : Int) : rectE (.agg #[.int .i64 a, .int .i64 b, .int .i64 c, .int .i64 d]) = some (rectD ⟨a, b, c, d⟩, []) := rfl
theorem rectE_inv {v : Value} {y : DataW Unit × List MemPlace} (h : rectE v = some y) : ∃ r : R4, v = .agg #[.int .i64 r.x0, .int .i64 r.y0, .int .i64 r.x1, .int .i64 r.y1] ∧ y = (rectD r, []) := by
  unfold rectE at h
  split at h
  · rename_i xs
    split at h
    · rename_i a b c d e
      injection h with h
      refine ⟨⟨a, b, c, d⟩, ?_, h.symm⟩
      congr 1
      apply Array.toList_inj.1
      exact e
    · cases h
  · cases h
theorem rectD_inj {r s : R4} (h : rectD r = rectD s) : r = s := by
  unfold rectD at h
  simp only [DataW.agg.injEq, List.cons.injEq, DataW.lit.injEq, Lit.int.injEq, true_and, and_true] at h
  obtain ⟨h1, h2, h3, h4⟩ := h
  cases r; cases s
  simp_all
theorem zeroR (w : World) : (zeroValue 65).run Tryz.prog w = .ok (.agg #[.int .i64 0, .int .i64 0, .int .i64 0, .int .i64 0]) w := by kernel_rfl
abbrev ownsM (b n : Nat) (D : DataW Unit) (w : World) : Prop := w.ownsMap Tryz.prog 3 rectE b n D
/-- The map holds the rectangles of l at the indexes S. -/
def Mp (l : List R4) (S : Nat → Prop) (D : DataW Unit) : Prop :=
  (∀ kl, Maps.has D kl = true ↔ ∃ k, k < l.length ∧ S k ∧ kl = .int .i64 (k : Int)) ∧ ∀ (k : Nat) r, l[k]? = some r → S k → ∀ zd, D.atKey (.int .i64 (k : Int)) zd = rectD r
theorem key_ne {k j : Nat} (h : k ≠ j) : (Lit.int .i64 (k : Int)) ≠ .int .i64 (j : Int) := fun e => h (by injection e with _ e; omega)
theorem Mp.start (l : List R4) : Mp l (fun k => k < 0) (.map []) := by
  refine ⟨fun kl => ?_, fun k r _ h => absurd h (Nat.not_lt_zero _)⟩
  rw [has_eq]
  simp
theorem Mp.put {l : List R4} {D : DataW Unit} {m : Nat} {r : R4} (h : Mp l (fun k => k < m) D) (hD : IsMap D) (hr : l[m]? = some r) : Mp l (fun k => k < m + 1) (D.put (.int .i64 (m : Int)) (rectD r)) := by
  have hm := (List.getElem?_eq_some_iff.1 hr).1
  refine ⟨fun kl => ?_, fun k s hs hk zd => ?_⟩
  · by_cases e : kl = .int .i64 (m : Int)
    · subst e
      rw [has_put_same hD (show WideAt.IsKeyLit (.int .i64 (m : Int)) from trivial)]
      exact ⟨fun _ => ⟨m, hm, by omega, rfl⟩, fun _ => rfl⟩
    · rw [has_put_other e, h.1]
      constructor
      · rintro ⟨k, h1, h2, h3⟩
        exact ⟨k, h1, by omega, h3⟩
      · rintro ⟨k, h1, h2, rfl⟩
        exact ⟨k, h1, by have : k ≠ m := fun e2 => e (by rw [e2]); omega, rfl⟩
  · by_cases e : k = m
    · subst e
      rw [hr] at hs
      injection hs with hs
      subst hs
      exact atKey_put_same hD (show WideAt.IsKeyLit (.int .i64 (k : Int)) from trivial) _ _
    · rw [atKey_put_other (key_ne e)]
      exact h.2 k s hs (by omega) zd
theorem Mp.del {l : List R4} {S : Nat → Prop} {D : DataW Unit} {m : Nat} (h : Mp l S D) : Mp l (fun k => S k ∧ k ≠ m) (D.del (.int .i64 (m : Int))) := by
  refine ⟨fun kl => ?_, fun k s hs hk zd => ?_⟩
  · by_cases e : kl = .int .i64 (m : Int)
    · subst e
      rw [has_del_same]
      constructor
      · intro h; cases h
      · rintro ⟨k, h1, h2, h3⟩
        injection h3 with _ h3
        exact absurd (by omega) h2.2
    · rw [has_del_other e, h.1]
      constructor
      · rintro ⟨k, h1, h2, h3⟩
        exact ⟨k, h1, ⟨h2, fun e2 => e (by rw [h3, e2])⟩, h3⟩
      · rintro ⟨k, h1, h2, h3⟩
        exact ⟨k, h1, h2.1, h3⟩
  · rw [atKey_del_other (key_ne hk.2)]
    exact h.2 k s hs hk.1 zd
theorem Mp.iff {l : List R4} {S T : Nat → Prop} {D : DataW Unit} (h : Mp l S D) (e : ∀ k, k < l.length → (S k ↔ T k)) : Mp l T D := by
  refine ⟨fun kl => ?_, fun k r hr hk => h.2 k r hr ((e k (List.getElem?_eq_some_iff.1 hr).1).2 hk)⟩
  rw [h.1]
  constructor
  · rintro ⟨k, h1, h2, h3⟩; exact ⟨k, h1, (e k h1).1 h2, h3⟩
  · rintro ⟨k, h1, h2, h3⟩; exact ⟨k, h1, (e k h1).2 h2, h3⟩
theorem Mp.is {l : List R4} {S : Nat → Prop} {D : DataW Unit} (h : Mp l S D) {k : Nat} (hk : k < l.length) : Maps.has D (.int .i64 (k : Int)) = true ↔ S k := by
  rw [h.1]
  constructor
  · rintro ⟨j, _, h2, h3⟩
    injection h3 with _ h3
    obtain rfl : k = j := by omega
    exact h2
  · exact fun h => ⟨k, hk, h, rfl⟩
/-- The laws at the operations, the element's shape written out. -/
theorem own_map_apart {w : World} {B n bM k : Nat} {size : Nat} {e : TypeId} {v : Value} {xs : List Value} {D : DataW Unit} (h : w.ownsRow B e size v n xs) (hm : ownsM bM k D w) : v.ownBlock = none ∨ v.ownBlock ≠ some bM := by
  rcases h.2 with ⟨rfl, _⟩ | ⟨g, cap, cur, rfl, _, hg, _⟩
  · exact .inl rfl
  · right
    intro he
    obtain ⟨es, c, hb, _⟩ := hm
    have : g = bM := by simpa [Value.ownBlock] using he
    subst this
    rw [hg] at hb
    cases hb
section
variable {w : World} {ops : Array Oper} {rest : List Oper} {o : Oper} {a : Act} {Q : Exit → Act → World → Prop}
theorem wpList_look_rect (hg : o.guard = none) (m x : Operand) (hop : o.op = Op.lookup 130 m x true) (b n : Nat) (D : DataW Unit) (hm : a.eval m = .map (some b)) (hown : ownsM b n D w) (k : Int) (hx : a.eval x = .int .i64 k) (hk : -9223372036854775808 ≤ k ∧ k ≤ 9223372036854775807)
    (t : Bool) (ht : Maps.has D (.int .i64 k) = t) (hK : ∀ r : R4, wpList Tryz.prog ops Q rest (a.put o.dst (.tuple #[.agg #[.int .i64 r.x0, .int .i64 r.y0, .int .i64 r.x1, .int .i64 r.y1], .bool t])) w) : wpList Tryz.prog ops Q (o :: rest) a w :=
  wpList_lookup_own_ok w hg m x 130 hop 3 65 lawI Tryz.underlying130 rectE (zeroR w) (rectD ⟨0, 0, 0, 0⟩) [] rfl b n D hm hown (.int .i64 k) (.int .i64 k) hx (keyOf_int_mk Tryz.underlying3 (WalkArith.wf_i64 hk)) (fun v ps hv => by
    obtain ⟨r, rfl, _⟩ := rectE_inv hv
    rw [ht]
    exact hK r)
theorem wpList_next_rect (hg : o.guard = none) (it : Operand) (hop : o.op = Op.next it false) (b r n : Nat) (D : DataW Unit) (left : Lit → Bool) (cnt : Nat) (hit : a.eval it = .pointer (some ⟨r, 0, none⟩)) (h : w.ranges Tryz.prog 3 rectE b r n D left cnt) {l : List R4} {S : Nat → Prop} (hM : Mp l S D)
    (hDone : (∀ kl, left kl = false) → wpList Tryz.prog ops Q rest (a.put o.dst (.tuple #[.bool false])) w)
    (hMore : ∀ (k : Nat) (q0 q1 q2 q3 : Int) (w' : World) (cnt' : Nat), l[k]? = some ⟨q0, q1, q2, q3⟩ → S k → left (.int .i64 (k : Int)) = true → w'.ranges Tryz.prog 3 rectE b r n D (fun z => left z && !z.sameKey (.int .i64 (k : Int))) cnt' → cnt' < cnt →
      w.grownBy w' (some r) → w'.heap.size = w.heap.size → (Instr.entry (.pointer (some ⟨r, 0, none⟩))).run Tryz.prog w' = .ok (.tuple #[.int .i64 (k : Int), .agg #[.int .i64 q0, .int .i64 q1, .int .i64 q2, .int .i64 q3]]) w' → wpList Tryz.prog ops Q rest (a.put o.dst (.tuple #[.bool true, .int .i64 (k : Int), .agg #[.int .i64 q0, .int .i64 q1, .int .i64 q2, .int .i64 q3]])) w') :
    wpList Tryz.prog ops Q (o :: rest) a w :=
  wpList_next_ranges w hg it hop 3 lawI rectE (fun x : Int => .int .i64 x) (fun r : R4 => .agg #[.int .i64 r.x0, .int .i64 r.y0, .int .i64 r.x1, .int .i64 r.y1])
    (fun key kl hk => by obtain ⟨x, rfl, _⟩ := Maps.keyOf_int_inv Tryz.underlying3 hk; exact ⟨x, rfl⟩) (fun v y hv => by obtain ⟨r, rfl, _⟩ := rectE_inv hv; exact ⟨r, rfl⟩) b r n D left cnt hit h (fun _ hl => hDone hl)
    (fun x c kl y w' cnt' hkey hlk hv hat hrg hlt hgr hsz hen => by
      obtain ⟨x', e1, rfl, _⟩ := Maps.keyOf_int_inv Tryz.underlying3 hkey
      injection e1 with _ e1
      subst e1
      have hh := has_true_of_atKey (D := D) (k := .int .i64 x) hat
      obtain ⟨k, hk, hS, e2⟩ := (hM.1 _).1 hh
      injection e2 with _ e2
      subst e2
      obtain ⟨s, hs⟩ : ∃ s, l[k]? = some s := ⟨_, List.getElem?_eq_getElem hk⟩
      obtain ⟨r, e3, e4⟩ := rectE_inv hv
      have e5 := (hM.2 k s hs hS (rectD s)).symm.trans (hat (rectD s))
      rw [e4] at e5
      have e6 := rectD_inj e5
      subst e6
      obtain ⟨s0, s1, s2, s3⟩ := s
      obtain ⟨c0, c1, c2, c3⟩ := c
      simp only [Value.agg.injEq, Array.mk.injEq, List.cons.injEq, Value.int.injEq, true_and, and_true] at e3
      obtain ⟨rfl, rfl, rfl, rfl⟩ := e3
      exact hMore k _ _ _ _ w' cnt' hs hS hlk hrg hlt hgr hsz hen)
end
/-! ### a component that grows -/
/-- P: indexes of the component of m; of the first kk of them all neighbours are in P. -/
def Grow (l : List R4) (m : Nat) (P : List Nat) (kk : Nat) : Prop := (∀ p ∈ P, Conn l m p) ∧ m ∈ P ∧ ∀ i, i < kk → ∀ p, P[i]? = some p → ∀ n, adj l p n → n ∈ P
theorem Grow.start (l : List R4) (m : Nat) : Grow l m [m] 0 := ⟨fun p hp => by rw [List.mem_singleton] at hp; subst hp; exact .refl, List.mem_singleton.2 rfl, fun i h => absurd h (Nat.not_lt_zero _)⟩
theorem Grow.push {l : List R4} {m : Nat} {P : List Nat} {kk p n : Nat} (h : Grow l m P kk) (hkk : kk ≤ P.length) (hp : p ∈ P) (ha : adj l p n) : Grow l m (P ++ [n]) kk := by
  refine ⟨fun q hq => ?_, List.mem_append_left _ h.2.1, fun i hi q hq k hk => ?_⟩
  · rcases List.mem_append.1 hq with hq | hq
    · exact h.1 q hq
    · rw [List.mem_singleton] at hq
      subst hq
      exact (h.1 p hp).step ha
  · rw [List.getElem?_append_left (by omega)] at hq
    exact List.mem_append_left _ (h.2.2 i hi q hq k hk)
theorem Grow.next {l : List R4} {m : Nat} {P : List Nat} {kk p : Nat} (h : Grow l m P kk) (hp : P[kk]? = some p) (ha : ∀ n, adj l p n → n ∈ P) : Grow l m P (kk + 1) := by
  refine ⟨h.1, h.2.1, fun i hi q hq => ?_⟩
  by_cases e : i = kk
  · subst e
    rw [hp] at hq
    injection hq with hq
    subst hq
    exact ha
  · exact h.2.2 i (by omega) q hq
theorem Grow.all {l : List R4} {m : Nat} {P : List Nat} {kk : Nat} (h : Grow l m P kk) (hkk : P.length ≤ kk) {k : Nat} : k ∈ P ↔ Conn l m k := by
  refine ⟨h.1 k, fun c => ?_⟩
  induction c with
  | refl => exact h.2.1
  | step _ a ih =>
    obtain ⟨i, hi, e⟩ := List.getElem_of_mem ih
    exact h.2.2 i (by omega) _ (by rw [← e]; exact List.getElem?_eq_getElem hi) _ a
def left4 (l : List R4) (P : List Nat) : List R4 := P.filterMap fun k => l[k]?
theorem left4_snoc {l : List R4} {P : List Nat} {n : Nat} {r : R4} (h : l[n]? = some r) : left4 l (P ++ [n]) = left4 l P ++ [r] := by simp [left4, h]
theorem left4_at {l : List R4} {P : List Nat} (hP : ∀ p ∈ P, p < l.length) {i p : Nat} {r : R4} (hi : P[i]? = some p) (hr : l[p]? = some r) : (left4 l P)[i]? = some r := by
  unfold left4
  induction P generalizing i with
  | nil => simp at hi
  | cons q P ih =>
    have h1 := hP q (by simp)
    rw [List.filterMap_cons_some (List.getElem?_eq_getElem h1)]
    cases i with
    | zero =>
      have e : q = p := by simpa using hi
      subst e
      rw [List.getElem?_eq_getElem h1] at hr
      simpa using hr
    | succ i => exact ih (fun q hq => hP q (by simp [hq])) (by simpa using hi)
theorem left4_len {l : List R4} {P : List Nat} (hP : ∀ p ∈ P, p < l.length) : (left4 l P).length = P.length := by
  unfold left4
  induction P with
  | nil => rfl
  | cons p P ih =>
    have h1 := hP p (by simp)
    rw [List.filterMap_cons_some (List.getElem?_eq_getElem h1), List.length_cons, List.length_cons, ih (fun q hq => hP q (by simp [hq]))]
/-- The component, in whatever order it was found, makes the part. -/
theorem grow_made {l : List R4} {m : Nat} {P : List Nat} {kk : Nat} (hc : RCan l) (hv : ∀ r ∈ l, wf4 r) (hl : l.length ≤ 400) (h : Grow l m P kk) (hkk : P.length ≤ kk) (hm : mn l m = m) : madeF (left4 l P) = (rjoin hFst (compL l m) [], 0) := by
  have hset : ∀ r, r ∈ left4 l P ↔ r ∈ compL l m := fun r => by
    rw [mem_compL]
    unfold left4
    rw [List.mem_filterMap]
    constructor
    · rintro ⟨k, hk, hr⟩
      exact ⟨k, by rw [← mn_eq ((h.all hkk).1 hk), hm], hr⟩
    · rintro ⟨k, hk, hr⟩
      exact ⟨k, (h.all hkk).2 (conn_of_mn (by rw [hm, hk])), hr⟩
  have hsub := compL_sub l m
  have e := rjoin_set (a := left4 l P) (b := compL l m) (fun r hr => hv r (hsub.subset ((hset r).1 hr))) (fun r hr => hv r (hsub.subset hr)) hset
  have hcnt := sub_count hc hv hsub
  have := hsub.length_le
  unfold madeF
  rw [e, if_neg (by omega)]
/-- What the outer loop's round has struck. -/
theorem grow_rest {l : List R4} {m : Nat} {P : List Nat} {kk : Nat} (h : Grow l m P kk) (hkk : P.length ≤ kk) (hm : mn l m = m) (k : Nat) : (m ≤ mn l k ∧ k ∉ P) ↔ m + 1 ≤ mn l k := by
  rw [h.all hkk]
  constructor
  · rintro ⟨h1, h2⟩
    have : mn l k ≠ m := fun e => h2 (conn_of_mn (by rw [hm, e]))
    omega
  · intro h1
    refine ⟨by omega, fun c => ?_⟩
    have := mn_eq c
    omega
theorem rest_skip {l : List R4} {m : Nat} (hm : mn l m ≠ m) (k : Nat) : m ≤ mn l k ↔ m + 1 ≤ mn l k := by
  constructor
  · intro h
    have : mn l k ≠ m := fun e => hm (by rw [← e, mn_mn])
    omega
  · intro h; omega
theorem below_grown {w w' : World} (h : Below w.heap.size w w') : w.grownBy w' none := ⟨h.os, h.tape, h.output, h.size, fun k hk _ => h.block k hk⟩
end Go.Proofs.YtmnhlcbmoibahaaGreat

/- region.Parts. -/
namespace Go.Proofs.YtmnhlcbmoibahaaGreat
open Go.RowKit Go.Maps
set_option linter.unusedVariables false
set_option linter.unusedSimpArgs false

theorem Regs.but {w a c : World} {vo : Value} {R : List (List R4)} {bM k : Nat} {D : DataW Unit} (h : Regs w vo R a) (hm : ownsM bM k D a) (hg : a.grownBy c (some bM)) (hb : w.heap.size ≤ bM) : Regs w vo R c := by
  obtain ⟨vs, h1, h2⟩ := h.o
  exact ⟨h.low.grown hg h.low.size (fun q hq => by cases hq; exact hb), vs, h1.kept hg (own_map_apart h1 hm), fun i r hr => by
    obtain ⟨v, h3, h4⟩ := h2 i r hr
    exact ⟨v, h3, h4.kept hg (own_map_apart h4 hm)⟩⟩
theorem own_ranges_apart {w : World} {B n bM rI k cnt : Nat} {size : Nat} {e : TypeId} {v : Value} {xs : List Value} {D : DataW Unit} {left : Lit → Bool} (h : w.ownsRow B e size v n xs) (hm : w.ranges Tryz.prog 3 rectE bM rI k D left cnt) : v.ownBlock = none ∨ v.ownBlock ≠ some rI := by
  rcases h.2 with ⟨rfl, _⟩ | ⟨g, cap, cur, rfl, _, hg, _⟩
  · exact .inl rfl
  · right
    intro he
    obtain ⟨es, c, s1, s2, s3, _, _, _, _, hb, _⟩ := hm
    have : g = rI := by simpa [Value.ownBlock] using he
    subst this
    rw [hg] at hb
    cases hb
theorem apart_ne {v : Value} {q : Nat} (h : v.ownBlock = none ∨ v.ownBlock ≠ some q) : some q ≠ v.ownBlock := by
  rcases h with h | h
  · rw [h]; simp
  · exact fun e => h e.symm
theorem box_cells {w : World} {B : Nat} (hB : w.heap.size = B) (a b c d : Value) (t : TypeId) : (w.alloc (.cells #[a, b, c, d] t)).cell? ⟨B, 0, none⟩ = some a ∧ (w.alloc (.cells #[a, b, c, d] t)).cell? ⟨B, 1, none⟩ = some b ∧ (w.alloc (.cells #[a, b, c, d] t)).cell? ⟨B, 2, none⟩ = some c ∧ (w.alloc (.cells #[a, b, c, d] t)).cell? ⟨B, 3, none⟩ = some d := by
  have h := news_new w [a, b, c, d] t B hB
  have h0 := h 0 a rfl
  have h1 := h 1 b rfl
  have h2 := h 2 c rfl
  have h3 := h 3 d rfl
  simp only [addr_add] at h0 h1 h2 h3
  exact ⟨h0, h1, h2, h3⟩
/-- The part that is being found, the map, and all else as it was at W. -/
structure PS (l : List R4) (W : World) (bM m : Nat) (P : List Nat) (kk : Nat) (v : Value) (D : DataW Unit) (wi : World) : Prop where
  grow : Grow l m P kk
  mp : Mp l (fun k => m ≤ mn l k ∧ k ∉ P) D
  size : P.length + Maps.size D ≤ l.length
  row : wi.ownsRow W.heap.size 65 4 v P.length ((left4 l P).flatMap encR)
  same : W.grownBy wi (some bM)
theorem PS.lt {l : List R4} {W wi : World} {bM m kk : Nat} {P : List Nat} {v : Value} {D : DataW Unit} (h : PS l W bM m P kk v D wi) (hm : m < l.length) : ∀ p ∈ P, p < l.length := fun p hp => (h.grow.1 p hp).lt hm
/-- What the range has left over so far is not beside p. -/
def Off (l : List R4) (p : Nat) (D : DataW Unit) (left : Lit → Bool) : Prop := ∀ n, n < l.length → Maps.has D (.int .i64 (n : Int)) = true → left (.int .i64 (n : Int)) = false → ¬ adj l p n
theorem Off.start (l : List R4) (p : Nat) (D : DataW Unit) : Off l p D (Maps.has D) := fun n _ h1 h2 => by rw [h1] at h2; cases h2
theorem same_false {k n : Nat} (h : k ≠ n) : (Lit.int .i64 (n : Int)).sameKey (.int .i64 (k : Int)) = false := sameKey_ne (key_ne (Ne.symm h))
theorem Off.stay {l : List R4} {p k : Nat} {D : DataW Unit} {left : Lit → Bool} (h : Off l p D left) (hn : ¬ adj l p k) : Off l p D (fun z => left z && !z.sameKey (.int .i64 (k : Int))) := fun n hn1 h1 h2 => by
  by_cases e : k = n
  · subst e; exact hn
  · refine h n hn1 h1 ?_
    simpa [same_false e] using h2
theorem Off.strike {l : List R4} {p k : Nat} {D : DataW Unit} {left : Lit → Bool} (h : Off l p D left) : Off l p (D.del (.int .i64 (k : Int))) (fun z => left z && !z.sameKey (.int .i64 (k : Int))) := fun n hn1 h1 h2 => by
  by_cases e : k = n
  · subst e; rw [has_del_same] at h1; cases h1
  · rw [has_del_other (key_ne (Ne.symm e))] at h1
    refine h n hn1 h1 ?_
    simpa [same_false e] using h2
theorem Off.done {l : List R4} {W wi : World} {bM m kk : Nat} {P : List Nat} {v : Value} {D : DataW Unit} {p : Nat} {left : Lit → Bool} (h : PS l W bM m P kk v D wi) (hm : mn l m = m) (hp : P[kk]? = some p) (ho : Off l p D left) (hl : ∀ kl, left kl = false) : PS l W bM m P (kk + 1) v D wi := by
  refine ⟨h.grow.next hp fun n ha => ?_, h.mp, h.size, h.row, h.same⟩
  by_cases hn : n ∈ P
  · exact hn
  · obtain ⟨_, y, _, hy, _⟩ := id ha
    have hlt := (List.getElem?_eq_some_iff.1 hy).1
    have hc := (h.grow.1 p (List.mem_of_getElem? hp)).step ha
    have hmn := mn_eq hc
    exact absurd ha (ho n hlt ((h.mp.is hlt).2 ⟨by omega, hn⟩) (hl _))

set_option maxRecDepth 100000 in
set_option maxHeartbeats 4000000 in
theorem parts_any {w : World} {v : Value} {l : List R4} (hr : RdK encR 4 w w.heap.size v l) (hl : l.length ≤ 100000000) :
    Calls Tryz.prog 48 #[v] w fun e w' => RegsRet w.heap.size (partsE l) e w' ∧ Below w.heap.size w w' := by
  obtain ⟨i2, fi, fz0, fz1, fz2⟩ := info_parts infoRg
  obtain ⟨i3, ki, kz0, kz1, kz2⟩ := info_parts infoRc
  have hck := check_any hr hl
  have hmm := @run_makeMap Tryz.prog
  have hR := hide hr
  obtain ⟨A0, c0, hv, hc⟩ := id hr
  subst hv
  have HCK := hide hck
  have HRC := hide hc
  clear hck hr hc
  by_cases h0 : checkF l = 0
  · obtain ⟨k1, k2, _⟩ := checkF_ok h0
    have HF : Hid (partsE l = (partsF l, 0)) := hide (if_pos h0)
    have HCAN := hide (check_rcan h0)
    have HV := hide k2
    rw [h0] at HCK
    clear k2 h0
    go_enter Tryz.func48, Tryz.ntmps48
    go_wp2_with (go_at_call 56; refine HCK.out.mono ?_; rintro e w1 ⟨rfl, hb1⟩)
    obtain ⟨bM, hbM⟩ : ∃ bM, bM = w1.heap.size := ⟨_, rfl⟩
    have hbw : w.heap.size ≤ bM := by rw [hbM]; exact hb1.size
    have hM0 : ownsM bM 0 (.map []) (w1.alloc (.map #[] 0)) := by rw [hbM]; exact World.ownsMap_made _ _ _ _
    have hB0 : Below w.heap.size w (w1.alloc (.map #[] 0)) := hb1.alloc hb1.size _
    rw [← hbM]
    have HM0 := hide hM0
    have HB0 := hide hB0
    have HP0 := hide (Mp.start l)
    clear hbM hb1 hM0 hB0 hmm
    go_loopw [27] (fun i wr => ∃ m : Nat, m ≤ l.length ∧ i = .int .i64 m ∧ ∃ D, Hid (ownsM bM m D wr) ∧ Hid (Mp l (fun k => k < m) D) ∧ Hid (Below w.heap.size w wr)) (fun i _ => l.length - (intOf i).toNat)
    case atStart => exact ⟨0, Nat.zero_le _, rfl, _, HM0, HP0, HB0⟩
    case round =>
      clear HM0 HP0 HB0
      obtain ⟨m, hm, rfl, D, HM, HP, HB⟩ := hrel
      by_cases hlt : m < l.length
      · have mz : (m : Int) < (l.length : Int) := by omega
        obtain ⟨⟨p0, p1, p2, p3⟩, hp⟩ : ∃ p, l[m]? = some p := ⟨_, List.getElem?_eq_getElem hlt⟩
        obtain ⟨b, o, rfl, hbl, k⟩ := HRC.out (by intro e; rw [e] at hlt; simp at hlt)
        obtain ⟨d0, d1, d2, d3⟩ := rects_at k (fun q => HB.out.cell (p := ⟨b, q, none⟩) hbl) hp
        have hsz := HB.out.size
        have hbw2 : b < wr.heap.size := by omega
        have HPP := hide hp
        clear k hp
        go_wp2_with (at_mapUpdate; go_loud (refine wpList_mapUpdate_own _ rfl _ _ _ 130 rfl 3 65 lawI Tryz.underlying130 rectE bM m D rfl (World.ownsMap.alloc HM.out _) (by unfold maxLen; omega) _ _ _ rfl rfl (keyOf_int_mk Tryz.underlying3 (WalkArith.wf_i64 (by omega))) _ [] (rectE_mk4 p0 p1 p2 p3) ?_))
        intro w2 hown2 hgrow2
        have HM2 := hide hown2
        have HP2 := hide (HP.out.put HM.out.isMap HPP.out)
        have HB2 := hide ((HB.out.alloc hsz _).grown hgrow2 (by simp; omega) (fun q hq => by cases hq; exact hbw))
        clear hown2 hgrow2
        go_wp2
        go_roundw
        case rel => exact ⟨m + 1, by omega, by go_num, _, HM2, HP2, HB2⟩
        case measure => simp [intOf]; omega
      · have mz : ¬ (m : Int) < (l.length : Int) := by omega
        obtain rfl : m = l.length := by omega
        have HP0 := hide (show Mp l (fun k => 0 ≤ mn l k) D from HP.out.iff fun k hk => ⟨fun _ => Nat.zero_le _, fun _ => hk⟩)
        have HM0 := HM
        have HB0 := HB
        clear HP HM HB mz
        go_wp2
        go_loopw [8, 38] (fun v i wr => ∃ m : Nat, m ≤ l.length ∧ i = .int .i64 m ∧ ∃ Ao no co, v = .slice Ao no co ∧ Hid (no = (partsP l m).length) ∧ Hid (Regs w (.slice Ao no co) (partsP l m) wr) ∧ ∃ D, Hid (ownsM bM l.length D wr) ∧ Hid (Mp l (fun k => m ≤ mn l k) D)) (fun _ i _ => l.length - (intOf i).toNat)
        case atStart => exact ⟨0, Nat.zero_le _, rfl, none, 0, 0, rfl, hide rfl, hide ⟨HB0.out, [], World.ownsRow_nil _ _ _ _, fun i r h => by simp [partsP] at h⟩, D, HM0, HP0⟩
        case round =>
          clear HP0 HM0 HB0
          obtain ⟨m, hm, rfl, Ao, no, co, rfl, HN, HRG, D, HM, HP⟩ := hrel
          by_cases hlt : m < l.length
          · have mz : (m : Int) < (l.length : Int) := by omega
            obtain ⟨⟨p0, p1, p2, p3⟩, hp⟩ : ∃ p, l[m]? = some p := ⟨_, List.getElem?_eq_getElem hlt⟩
            obtain ⟨b, o, rfl, hbl, k⟩ := HRC.out (by intro e; rw [e] at hlt; simp at hlt)
            obtain ⟨d0, d1, d2, d3⟩ := rects_at k (fun q => HRG.out.low.cell (p := ⟨b, q, none⟩) hbl) hp
            have hsz := HRG.out.low.size
            have hbw2 : b < wr.heap.size := by omega
            have HPP := hide hp
            clear k hp
            by_cases hmn : mn l m = m
            · have HAS := hide (show Maps.has D (.int .i64 (m : Int)) = true from (HP.out.is hlt).2 (by omega))
              have HMN := hide hmn
              clear hmn
              go_wp2_with (first
                | (at_lookup; go_loud (refine wpList_look_rect rfl _ _ rfl bM l.length D rfl (World.ownsMap.alloc HM.out _) (m : Int) rfl (by omega) true HAS.out ?_); intro rr; obtain ⟨rr0, rr1, rr2, rr3⟩ := rr)
                | (at_delete; go_loud (refine wpList_delete_own _ rfl _ _ 130 3 rfl 65 lawI Tryz.underlying130 rectE bM l.length D rfl (World.ownsMap.alloc (World.ownsMap.alloc HM.out _) _) _ _ rfl (keyOf_int_mk Tryz.underlying3 (WalkArith.wf_i64 (by omega))) ?_)))
              intro w4 hown4 hturn4
              have HM4 := hide hown4
              have hmlt := HM.out.lt
              obtain ⟨xb0, xb1, xb2, xb3⟩ := box_cells (w := wr) rfl (.int .i64 p0) (.int .i64 p1) (.int .i64 p2) (.int .i64 p3) 65
              have hxk : ∀ q, w4.cell? ⟨wr.heap.size, q, none⟩ = (wr.alloc (.cells #[.int .i64 p0, .int .i64 p1, .int .i64 p2, .int .i64 p3] 65)).cell? ⟨wr.heap.size, q, none⟩ := fun q =>
                (World.cell?_of_block (hturn4.grown.block wr.heap.size (by simp; omega) (by simp; omega))).trans (World.cell?_alloc_lt (wr.alloc _) _ ⟨wr.heap.size, q, none⟩ (by simp))
              have x0 := (hxk 0).trans xb0
              have x1 := (hxk 1).trans xb1
              have x2 := (hxk 2).trans xb2
              have x3 := (hxk 3).trans xb3
              have hs4 : wr.heap.size + 2 ≤ w4.heap.size := by have := hturn4.grown.size; simp at this; omega
              have HRG4 := hide (((HRG.out.below (((Below.refl _ _).alloc (Nat.le_refl _) _).alloc (by simp) _)).but (World.ownsMap.alloc (World.ownsMap.alloc HM.out _) _) hturn4.grown hbw))
              have hrow : (w4.alloc (.cells #[.int .i64 p0, .int .i64 p1, .int .i64 p2, .int .i64 p3] 65)).ownsRow w4.heap.size 65 4 (.slice (some ⟨w4.heap.size, 0, none⟩) 1 1) 1 (encR ⟨p0, p1, p2, p3⟩) :=
                ⟨rfl, .inr ⟨w4.heap.size, 1, _, rfl, Nat.le_refl _, World.alloc_heap_new _ _, Nat.le_refl _, by simp [maxLen], rfl, rfl⟩⟩
              have hl4 : left4 l [m] = [⟨p0, p1, p2, p3⟩] := by simp [left4, HPP.out]
              have HPS := hide (show PS l w4 bM m [m] 0 (.slice (some ⟨w4.heap.size, 0, none⟩) 1 1) (D.del (.int .i64 (m : Int))) (w4.alloc (.cells #[.int .i64 p0, .int .i64 p1, .int .i64 p2, .int .i64 p3] 65)) from by
                refine ⟨Grow.start l m, HP.out.del.iff (fun k _ => by simp), ?_, ?_, (World.grownBy_alloc _ _ _)⟩
                · have h1 := size_del (k := .int .i64 (m : Int)) (HM.out.tidy lawI)
                  rw [if_pos HAS.out] at h1
                  have h2 := HM.out.size_le
                  simp only [List.length_singleton]
                  omega
                · rw [hl4]
                  simpa using hrow)
              have HM5 := hide (World.ownsMap.alloc HM4.out (.cells #[.int .i64 p0, .int .i64 p1, .int .i64 p2, .int .i64 p3] 65))
              have hbM4 : bM < w4.heap.size := HM4.out.lt
              clear hown4 hturn4 xb0 xb1 xb2 xb3 hxk hrow hl4 hmlt HM HP HAS HRG d0 d1 d2 d3
              go_wp2
              go_loopw [13, 14] (fun v q wi => ∃ (kk : Nat) (P : List Nat), kk ≤ P.length ∧ q = .int .i64 kk ∧ ∃ Ap cp, v = .slice Ap P.length cp ∧ ∃ D, Hid (ownsM bM l.length D wi) ∧ Hid (PS l w4 bM m P kk (.slice Ap P.length cp) D wi)) (fun _ q _ => l.length - (intOf q).toNat)
              case atStart => exact ⟨0, [m], by simp, rfl, _, _, rfl, _, HM5, HPS⟩
              case round =>
                clear HM5 HPS x0 x1 x2 x3
                obtain ⟨kk, P, hkP, rfl, Ap, cp, rfl, D, HM, HPS⟩ := hrel
                by_cases hkk : kk < P.length
                · have kz : (kk : Int) < (P.length : Int) := by omega
                  obtain ⟨p, hp⟩ : ∃ p, P[kk]? = some p := ⟨_, List.getElem?_eq_getElem hkk⟩
                  have hpl := HPS.out.lt hlt p (List.mem_of_getElem? hp)
                  have hkl : kk < l.length := by have := HPS.out.size; omega
                  obtain ⟨⟨a0, a1, a2, a3⟩, ha⟩ : ∃ r, l[p]? = some r := ⟨_, List.getElem?_eq_getElem hpl⟩
                  have HPK := hide hp
                  have HPA := hide ha
                  obtain ⟨rI, hrI⟩ : ∃ rI, rI = wr.heap.size := ⟨_, rfl⟩
                  have hrI4 : w4.heap.size ≤ rI := by rw [hrI]; exact HPS.out.same.size
                  clear hp ha
                  go_wp2_with (at_range; go_loud (refine wpList_range_own _ rfl _ 130 rfl 3 65 lawI Tryz.underlying130 rectE bM l.length D rfl HM.out ?_); intro w0 hrg0 hg0 hs0)
                  rw [← hrI] at hrg0 ⊢
                  have HRR := hide hrg0
                  have HPS0 := hide (show PS l w4 bM m P kk (.slice Ap P.length cp) D w0 from ⟨HPS.out.grow, HPS.out.mp, HPS.out.size, HPS.out.row.kept hg0 (Classical.em _), HPS.out.same.andThen hg0 (fun q hq => by cases hq)⟩)
                  have HOF := hide (Off.start l p D)
                  clear hrg0 hg0 hs0 hrI
                  go_frame
                  go_loopw [13] (fun v wi => ∃ P, Hid (P[kk]? = some p) ∧ kk < P.length ∧ ∃ Ap cp, v = .slice Ap P.length cp ∧ ∃ D left cnt, Hid (wi.ranges Tryz.prog 3 rectE bM rI l.length D left cnt) ∧ Hid (PS l w4 bM m P kk (.slice Ap P.length cp) D wi) ∧ Hid (Off l p D left)) (fun _ wi => wi.rangeLeft bM rI)
                  case atStart => exact ⟨P, HPK, hkk, Ap, cp, rfl, D, _, _, HRR, HPS0, HOF⟩
                  case round =>
                    clear HRR HPS0 HOF HPS HM HPK kz
                    obtain ⟨P, HPK, hkk, Ap, cp, rfl, D, left, cnt, HRR, HPS, HOF⟩ := hrel
                    have kz : (kk : Int) < (P.length : Int) := by omega
                    go_wp2_with (at_next; go_loud (refine wpList_next_rect rfl _ rfl bM rI l.length D left cnt rfl HRR.out HPS.out.mp ?_ ?_))
                    · intro hl0
                      have HPS9 := hide (HOF.out.done HPS.out HMN.out HPK.out hl0)
                      have HM9 := hide HRR.out.owns
                      clear hl0
                      go_wp2
                      go_roundw
                      case rel => exact ⟨kk + 1, P, by omega, by go_num, Ap, cp, rfl, D, HM9, HPS9⟩
                      case measure => simp [intOf]; omega
                    · intro k q0 q1 q2 q3 w5 cnt5 hk hS1 hS2 hlk hrg5 hlt5 hg5 hs5 hen
                      have HK := hide hk
                      have HKS := hide (show m ≤ mn l k ∧ k ∉ P from ⟨hS1, hS2⟩)
                      have hkl : k < l.length := (List.getElem?_eq_some_iff.1 hk).1
                      have HKH := hide ((HPS.out.mp.is hkl).2 ⟨hS1, hS2⟩)
                      have hap := own_ranges_apart HPS.out.row HRR.out
                      have HPS5 := hide (show PS l w4 bM m P kk (.slice Ap P.length cp) D w5 from ⟨HPS.out.grow, HPS.out.mp, HPS.out.size, HPS.out.row.kept hg5 hap, HPS.out.same.andThen hg5 (fun q hq => by cases hq; exact .inl hrI4)⟩)
                      have hpls := HPS5.out.lt hlt
                      obtain ⟨g, cpg, hvg, hBg, hgg⟩ := HPS5.out.row.form (by omega)
                      injection hvg with e1 _ e3
                      subst e1; subst e3
                      have hat := left4_at hpls HPK.out HPA.out
                      have hgw : g < w5.heap.size := (HPS5.out.row.lt g rfl).2
                      have hc5 : ∀ i u, (encR ⟨a0, a1, a2, a3⟩)[i]? = some u → w5.cell? ⟨g, kk * 4 + i, none⟩ = some u := fun i u hu => by
                        have := (HPS5.out.row.cells (g := g) rfl) _ _ (flat_get (k := 4) (fun _ => rfl) _ kk _ i u hat hu)
                        rwa [addr_add] at this
                      have HC5 := hide hc5
                      have HRG5 := hide hrg5
                      have HLT5 := hide hlt5
                      have HG5 := hide hg5
                      have hva := HV.out _ (List.mem_of_getElem? HPA.out)
                      have hvk := HV.out _ (List.mem_of_getElem? hk)
                      have hbs := fun W => beside_any ⟨a0, a1, a2, a3⟩ ⟨q0, q1, q2, q3⟩ (valid_mid hva) (valid_mid hvk) W
                      simp only [encR] at hbs
                      have HADJ : Hid (bsd ⟨a0, a1, a2, a3⟩ ⟨q0, q1, q2, q3⟩ = true ↔ adj l p k) := hide (by
                        constructor
                        · exact fun h => ⟨_, _, HPA.out, hk, h⟩
                        · rintro ⟨u, v, h1, h2, h3⟩
                          rw [HPA.out] at h1; rw [hk] at h2
                          injection h1 with h1; injection h2 with h2
                          subst h1; subst h2
                          exact h3)
                      have hkz : (0 : Int) ≤ (kk : Int) := by omega
                      have hk400 : k ≤ 400 := by omega
                      clear hk hS1 hS2 hlk hrg5 hlt5 hg5 hs5 hap hpls hat hc5 hva hvk
                      go_wp2
                      refine wp_name fun w6 hw6 => ?_
                      have hsz6 : w5.heap.size < w6.heap.size := by rw [hw6]; simp
                      obtain ⟨b0, b1, b2, b3⟩ := box_cells (w := w5) rfl (.int .i64 q0) (.int .i64 q1) (.int .i64 q2) (.int .i64 q3) 65
                      rw [← hw6] at b0 b1 b2 b3
                      have c6 : ∀ i u, (encR ⟨a0, a1, a2, a3⟩)[i]? = some u → w6.cell? ⟨g, kk * 4 + i, none⟩ = some u := fun i u hu => by rw [hw6]; exact (World.cell?_alloc_lt w5 _ ⟨g, kk * 4 + i, none⟩ hgw).trans (HC5.out i u hu)
                      have c0 : w6.cell? ⟨g, kk * 4, none⟩ = some (.int .i64 a0) := c6 0 _ rfl
                      have c1 : w6.cell? ⟨g, kk * 4 + 1, none⟩ = some (.int .i64 a1) := c6 1 _ rfl
                      have c2 : w6.cell? ⟨g, kk * 4 + 2, none⟩ = some (.int .i64 a2) := c6 2 _ rfl
                      have c3 : w6.cell? ⟨g, kk * 4 + 3, none⟩ = some (.int .i64 a3) := c6 3 _ rfl
                      have HRG6 := hide (show w6.ranges Tryz.prog 3 rectE bM rI l.length D (fun z => left z && !z.sameKey (.int .i64 (k : Int))) cnt5 by rw [hw6]; exact HRG5.out.alloc _)
                      have HPS6 := hide (show PS l w4 bM m P kk (.slice (some ⟨g, 0, none⟩) P.length cp) D w6 by rw [hw6]; exact ⟨HPS5.out.grow, HPS5.out.mp, HPS5.out.size, World.ownsRow.alloc HPS5.out.row _, HPS5.out.same.andThen (World.grownBy_alloc _ _ none) (fun q hq => by cases hq)⟩)
                      have hg6 : g < w6.heap.size := by omega
                      clear hw6 c6
                      cases hbd : bsd ⟨a0, a1, a2, a3⟩ ⟨q0, q1, q2, q3⟩ with
                      | true =>
                        rw [hbd] at hbs
                        have HBS := hide hbs
                        have HA := hide (HADJ.out.1 hbd)
                        clear hbs hbd
                        refine wp_hab fun hab => ?_
                        refine wp_region_above (by kernel_rfl) (by kernel_rfl) ?_
                        repeat (go_big_quiet_step ((go_at_call 65; exact above_of (HBS.out _))))
                        refine wpQuiet_nil ?_
                        refine above_ends fun w7 hb7 => ?_
                        clear hab c0 c1 c2 c3
                        have j0 := (hb7.cell (p := ⟨w5.heap.size, 0, none⟩) hsz6).trans b0
                        have j1 := (hb7.cell (p := ⟨w5.heap.size, 1, none⟩) hsz6).trans b1
                        have j2 := (hb7.cell (p := ⟨w5.heap.size, 2, none⟩) hsz6).trans b2
                        have j3 := (hb7.cell (p := ⟨w5.heap.size, 3, none⟩) hsz6).trans b3
                        have HRG7 := hide (HRG6.out.kept (below_grown hb7) (by simp) (by simp))
                        have HPS7 := hide (show PS l w4 bM m P kk (.slice (some ⟨g, 0, none⟩) P.length cp) D w7 from ⟨HPS6.out.grow, HPS6.out.mp, HPS6.out.size, own_below HPS6.out.row hb7, HPS6.out.same.andThen (below_grown hb7) (fun q hq => by cases hq)⟩)
                        have hs7 := hb7.size
                        have hP4 : P.length ≤ 400 := by have := HPS7.out.size; omega
                        have h47 := HPS7.out.same.size
                        have HLL := hide (left4_snoc (P := P) HK.out)
                        clear b0 b1 b2 b3 hb7
                        go_wp2_with (first
                          | (at_builtin; go_loud (refine wpList_append_lies _ rfl (.tmp 74) (.tmp 76) 26 rfl w4.heap.size 65 i3 (.agg #[.int .i64 0, .int .i64 0, .int .i64 0, .int .i64 0]) 4 32 Tryz.underlying26 ki kz0 kz1 kz2 rfl (by decide) _ P.length _ rfl (World.ownsRow.alloc HPS7.out.row _) ⟨w7.heap.size, 0, none⟩ 1 1 [.int .i64 q0, .int .i64 q1, .int .i64 q2, .int .i64 q3] rfl rfl (news_new w7 _ _ _ rfl) (ints_one rfl) (by omega) (by unfold maxLen; omega) (by omega) (by simp; omega) _ rfl ?_))
                          | (at_delete; go_loud (refine wpList_delete_ranges _ rfl _ _ 130 3 rfl 65 lawI Tryz.underlying130 rectE bM rI l.length D _ _ rfl HRG9.out _ _ rfl (keyOf_int_mk Tryz.underlying3 (WalkArith.wf_i64 (by omega))) ?_)))
                        intro g9 cap9 w9 hown9 hgrow9 _ _
                        have hx9 : (left4 l P).flatMap encR ++ [.int .i64 q0, .int .i64 q1, .int .i64 q2, .int .i64 q3] = (left4 l (P ++ [k])).flatMap encR := by rw [HLL.out, List.flatMap_append]; rfl
                        rw [hx9] at hown9
                        have HO9 := hide hown9
                        have HRG9 := hide ((HRG7.out.alloc (.cells #[.int .i64 q0, .int .i64 q1, .int .i64 q2, .int .i64 q3] 65)).kept hgrow9 (apart_ne (own_map_apart HPS7.out.row HRG7.out.owns)) (apart_ne (own_ranges_apart HPS7.out.row HRG7.out)))
                        have HSM9 := hide ((HPS7.out.same.andThen (World.grownBy_alloc _ (.cells #[.int .i64 q0, .int .i64 q1, .int .i64 q2, .int .i64 q3] 65) none) (fun q hq => by cases hq)).andThen hgrow9 (fun q hq => .inl (HPS7.out.row.lt q hq).1))
                        clear hown9 hgrow9 hx9 j0 j1 j2 j3
                        go_wp2_with (at_delete; go_loud (refine wpList_delete_ranges _ rfl _ _ 130 3 rfl 65 lawI Tryz.underlying130 rectE bM rI l.length D _ _ rfl HRG9.out _ _ rfl (keyOf_int_mk Tryz.underlying3 (WalkArith.wf_i64 (by omega))) ?_))
                        intro w10 cnt10 hrg10 hle10 hturn10
                        have HRG10 := hide hrg10
                        have HPS10 := hide (show PS l w4 bM m (P ++ [k]) kk (.slice (some ⟨g9, 0, none⟩) (P.length + 1) cap9) (D.del (.int .i64 (k : Int))) w10 from by
                          refine ⟨HPS7.out.grow.push (Nat.le_of_lt hkk) (List.mem_of_getElem? HPK.out) HA.out, HPS7.out.mp.del.iff (fun n _ => by simp only [List.mem_append, List.mem_singleton, not_or, and_assoc]), ?_, ?_, HSM9.out.andThen hturn10.grown (fun q hq => .inr hq)⟩
                          · have h1 := size_del (k := .int .i64 (k : Int)) (HRG7.out.owns.tidy lawI)
                            rw [if_pos HKH.out] at h1
                            have h2 := HPS7.out.size
                            simp only [List.length_append, List.length_singleton]
                            omega
                          · rw [List.length_append]
                            exact HO9.out.kept hturn10.grown (own_map_apart HO9.out HRG9.out.owns))
                        have HOF10 := hide (HOF.out.strike (k := k))
                        have HPK10 := hide (show (P ++ [k])[kk]? = some p by rw [List.getElem?_append_left hkk]; exact HPK.out)
                        have hle := Nat.lt_of_le_of_lt hle10 HLT5.out
                        have HLE := hide hle
                        have e10 : P.length + 1 = (P ++ [k]).length := by simp
                        have HE10 := hide e10
                        clear hrg10 hle10 hturn10 hle e10
                        go_wp2
                        go_roundw
                        case rel => exact ⟨P ++ [k], HPK10, by rw [← HE10.out]; omega, _, cap9, by rw [← HE10.out], _, _, cnt10, HRG10, by rw [← HE10.out]; exact HPS10, HOF10⟩
                        case measure => rw [HRG10.out.left_eq, HRR.out.left_eq]; exact HLE.out
                      | false =>
                        rw [hbd] at hbs
                        have HBS := hide hbs
                        have HA := hide (fun h => Bool.false_ne_true (hbd.symm.trans (HADJ.out.2 h)))
                        clear hbs hbd
                        refine wp_hab fun hab => ?_
                        refine wp_region_above (by kernel_rfl) (by kernel_rfl) ?_
                        repeat (go_big_quiet_step ((go_at_call 65; exact above_of (HBS.out _))))
                        refine wpQuiet_nil ?_
                        refine above_ends fun w7 hb7 => ?_
                        clear hab c0 c1 c2 c3 b0 b1 b2 b3
                        have HRG7 := hide (HRG6.out.kept (below_grown hb7) (by simp) (by simp))
                        have HPS7 := hide (show PS l w4 bM m P kk (.slice (some ⟨g, 0, none⟩) P.length cp) D w7 from ⟨HPS6.out.grow, HPS6.out.mp, HPS6.out.size, own_below HPS6.out.row hb7, HPS6.out.same.andThen (below_grown hb7) (fun q hq => by cases hq)⟩)
                        have HOF7 := hide (HOF.out.stay HA.out)
                        clear hb7
                        go_wp2
                        go_roundw
                        case rel => exact ⟨P, HPK, hkk, _, cp, rfl, D, _, cnt5, HRG7, HPS7, HOF7⟩
                        case measure => rw [HRG7.out.left_eq, HRR.out.left_eq]; exact HLT5.out
                · have kz : ¬ (kk : Int) < (P.length : Int) := by omega
                  have hpls := HPS.out.lt hlt
                  have hlen := left4_len hpls
                  have hP4 : P.length ≤ 400 := by have := HPS.out.size; omega
                  have hvl : ∀ r ∈ left4 l P, valid4 r := fun r hr => by
                    obtain ⟨i, _, hr⟩ := List.mem_filterMap.1 hr
                    exact HV.out r (List.mem_of_getElem? hr)
                  have hmd := made_any (w := wr) (own_rd (own_n HPS.out.row hlen.symm) (fun _ => rfl)) (by omega) hvl
                  rw [grow_made HCAN.out (fun r hr => by have := HV.out r hr; exact ⟨this.1, this.2.1⟩) k1 HPS.out.grow (by omega) HMN.out] at hmd
                  have HMD := hide hmd
                  have HPI := hide (partsP_in HMN.out)
                  have hJL := Nat.le_trans (sub_count HCAN.out (fun r hr => by have := HV.out r hr; exact ⟨this.1, this.2.1⟩) (compL_sub l m)) (compL_sub l m).length_le
                  have HREST := hide (HPS.out.mp.iff fun k _ => grow_rest HPS.out.grow (by omega) HMN.out k)
                  have HRGi := hide (HRG4.out.but HM4.out HPS.out.same hbw)
                  generalize rjoin hFst (compL l m) [] = J at *
                  clear hmd hvl hpls hlen
                  obtain ⟨low, vs, g1, g2⟩ := HRGi.out
                  have HLOW := hide low
                  have HG1 := hide g1
                  have HG2 := hide g2
                  have hno : no ≤ 400 := by have := HN.out; have := partsP_len l m; omega
                  have hlow := low.size
                  clear low g1 g2
                  go_wp2_with (first
                    | (go_at_call 80; refine HMD.out.mono ?_; rintro e w5 ⟨⟨Aj, cj, rfl, ho⟩, hb5⟩; have HJ := hide (own_base ho hlow); have HB5 := hide hb5; clear ho hb5; have hs5 := HB5.out.size)
                    | (at_builtin; go_loud (refine wpList_append_lies _ rfl (.tmp 85) (.tmp 87) 35 rfl w.heap.size 27 i2 (.slice none 0 0) 1 24 Tryz.underlying35 fi fz0 fz1 fz2 rfl (by decide) _ no _ rfl (World.ownsRow.alloc (own_below (own_n HG1.out HN.out.symm) HB5.out) _) ⟨w5.heap.size, 0, none⟩ 1 1 [.slice Aj J.length cj] rfl rfl (news_new w5 _ _ _ rfl) (by intro u hu; rw [List.mem_singleton] at hu; subst hu; rfl) (by omega) (by unfold maxLen; omega) (by omega) (by simp; omega) _ rfl ?_)))
                  intro g9 cap9 w9 hown9 hgrow9 _ _
                  have hpush := Regs.push (w := w) ((HLOW.out.trans (HB5.out.mono hlow)).alloc (Nat.le_trans hlow hs5) _) (World.ownsRow.alloc (own_below HG1.out HB5.out) _) (fun i r hi => by
                    obtain ⟨v, q1, q2⟩ := HG2.out i r hi
                    exact ⟨v, q1, World.ownsRow.alloc (own_below q2 HB5.out) _⟩) (World.ownsRow.alloc HJ.out _) hgrow9 (by rw [← HN.out]; exact hown9)
                  rw [← HPI.out] at hpush
                  have HRG9 := hide hpush
                  have HN9 := hide (show no + 1 = (partsP l (m + 1)).length by rw [HPI.out, List.length_append, ← HN.out]; rfl)
                  have hM5 := HM.out.kept (below_grown HB5.out) (by simp)
                  have HM9 := hide ((World.ownsMap.alloc hM5 (.cells #[.slice Aj J.length cj] 27)).kept hgrow9 (apart_ne (own_map_apart (own_below HG1.out HB5.out) hM5)))
                  clear hown9 hgrow9 hpush hM5
                  go_wp2
                  go_roundw
                  case rel => exact ⟨m + 1, by omega, by go_num, _, _, cap9, rfl, HN9, HRG9, D, HM9, HREST⟩
                  case measure => simp [intOf]; omega
            · have HAS := hide (show Maps.has D (.int .i64 (m : Int)) = false from by
                rw [← Bool.not_eq_true, HP.out.is hlt]
                have := mn_le l m
                omega)
              have HPP2 := hide (partsP_out hmn)
              have HP2 := hide (HP.out.iff fun k _ => rest_skip hmn k)
              clear hmn
              rw [← HPP2.out] at HN HRG
              go_wp2_with (at_lookup; go_loud (refine wpList_look_rect rfl _ _ rfl bM l.length D rfl (World.ownsMap.alloc HM.out _) (m : Int) rfl (by omega) false HAS.out ?_); intro rr; obtain ⟨rr0, rr1, rr2, rr3⟩ := rr)
              have HRG2 := hide (HRG.out.below (((Below.refl _ _).alloc (Nat.le_refl _) (.cells #[.int .i64 p0, .int .i64 p1, .int .i64 p2, .int .i64 p3] 65)).alloc (by simp) (.cells #[.int .i64 rr0, .int .i64 rr1, .int .i64 rr2, .int .i64 rr3] 65)))
              have HM2 := hide (World.ownsMap.alloc (World.ownsMap.alloc HM.out (.cells #[.int .i64 p0, .int .i64 p1, .int .i64 p2, .int .i64 p3] 65)) (.cells #[.int .i64 rr0, .int .i64 rr1, .int .i64 rr2, .int .i64 rr3] 65))
              go_roundw
              case rel => exact ⟨m + 1, by omega, by go_num, Ao, no, co, rfl, HN, HRG2, D, HM2, HP2⟩
              case measure => simp [intOf]; omega
          · have mz : ¬ (m : Int) < (l.length : Int) := by omega
            obtain rfl : m = l.length := by omega
            rw [partsP_all] at HN HRG
            go_wp2
            go_ret2
            obtain ⟨low, vs, h1, h2⟩ := HRG.out
            have hn := HN.out
            subst hn
            refine ⟨⟨Ao, co, vs, by rw [HF.out]; rfl, by rw [HF.out]; exact h1, ?_⟩, low⟩
            rw [HF.out]
            exact h2
  · have HF : Hid (partsE l = ([], checkF l)) := hide (if_neg h0)
    generalize checkF l = ck at *
    have hne : (ck != 0) = true := by simpa using h0
    clear h0
    go_enter Tryz.func48, Tryz.ntmps48
    go_wp2_with (go_at_call 56; refine HCK.out.mono ?_; rintro e w1 ⟨rfl, hb1⟩)
    have HB1 := hide hb1
    clear hb1
    go_ret2
    exact ⟨⟨none, 0, [], by rw [HF.out]; rfl, by rw [HF.out]; exact World.ownsRow_nil _ _ _ _, fun i r hi => by rw [HF.out] at hi; simp at hi⟩, HB1.out⟩
end Go.Proofs.YtmnhlcbmoibahaaGreat

/- block.Blocks: the walk. -/
namespace Go.Proofs.YtmnhlcbmoibahaaGreat
open Go.RowKit Go.Maps
set_option linter.unusedVariables false
set_option linter.unusedSimpArgs false

/-- What Blocks gives. -/
noncomputable def blkF (N : List Pt) (E : List Ei) (d : Int) (land : List R4) : List (List R4) × Int := if (strF N E d).2 ≠ 0 then ([], (strF N E d).2) else if (joinF hSub land (strF N E d).1).2 ≠ 0 then ([], (joinF hSub land (strF N E d).1).2) else partsE (joinF hSub land (strF N E d).1).1
theorem strF_len (N : List Pt) (E : List Ei) (d : Int) : (strF N E d).1.length ≤ 400 := by
  unfold strF
  split
  · simp
  · split
    · simp
    · split
      · simp
      · split
        · simp
        · exact makeF_len _
theorem regs_nil (B : Nat) (k : Int) (w : World) : RegsRet B ([], k) (.returned (.tuple #[.slice none 0 0, .int .i64 k])) w := ⟨none, 0, [], rfl, World.ownsRow_nil _ _ _ _, fun i r h => by simp at h⟩
set_option maxRecDepth 100000 in
set_option maxHeartbeats 8000000 in
theorem blocks_any {w : World} {nv ev va : Value} {N : List Pt} {E : List Ei} {d : Int} {land : List R4} (hn : RdK encS 2 w w.heap.size nv N) (he : RdK encS 2 w w.heap.size ev E) (ha : RdK encR 4 w w.heap.size va land) (na : land.length ≤ 100000000) :
    Calls Tryz.prog 14 #[.agg #[nv, ev], .int .i64 d, va] w fun e w' => RegsRet w.heap.size (blkF N E d land) e w' ∧ Below w.heap.size w w' := by
  have HN := hide hn
  have HE := hide he
  have HA := hide ha
  have HNA := hide na
  obtain ⟨An, cn, rfl, _⟩ := hn
  obtain ⟨Ae, ce, rfl, _⟩ := he
  obtain ⟨Aa, ca, rfl, _⟩ := ha
  have hb0 : Below w.heap.size w (w.alloc (.cells #[.slice An N.length cn, .slice Ae E.length ce] 25)) := (Below.refl _ _).alloc (Nat.le_refl _) _
  have HB0 := hide hb0
  clear hb0 na
  go_enter Tryz.func14, Tryz.ntmps14
  go_wp2_with (fail)
  refine (streets_any ((HN.out.below HB0.out).mono HB0.out.size) ((HE.out.below HB0.out).mono HB0.out.size)).mono ?_
  rintro e w1 ⟨⟨A1, c1, rfl, o1⟩, hb1⟩
  have HB1 := hide (HB0.out.trans (hb1.mono HB0.out.size))
  have HR1 := hide (own_rd o1 (fun _ => rfl))
  have HS := hide (strF_len N E d)
  have HF0 : Hid (blkF N E d land = if (strF N E d).2 ≠ 0 then ([], (strF N E d).2) else if (joinF hSub land (strF N E d).1).2 ≠ 0 then ([], (joinF hSub land (strF N E d).1).2) else partsE (joinF hSub land (strF N E d).1).1) := hide rfl
  clear o1 hb1
  generalize strF N E d = F at *
  by_cases h0 : F.2 = 0
  · have HF1 : Hid (blkF N E d land = if (joinF hSub land F.1).2 ≠ 0 then ([], (joinF hSub land F.1).2) else partsE (joinF hSub land F.1).1) := hide (by rw [HF0.out, if_neg (fun h => h h0)])
    rw [h0]
    clear HF0 h0
    go_wp2_with (fail)
    refine (minus_any ((HA.out.below HB1.out).mono HB1.out.size) HR1.out HNA.out (Nat.le_trans HS.out (by omega))).mono ?_
    rintro e w2 ⟨⟨A2, c2, rfl, o2⟩, hb2⟩
    have HB2 := hide (HB1.out.trans (hb2.mono HB1.out.size))
    have HR2 := hide (own_rd o2 (fun _ => rfl))
    have HJ := hide (joinF_len hSub land F.1)
    clear o2 hb2
    generalize joinF hSub land F.1 = J at *
    by_cases h1 : J.2 = 0
    · have HF2 : Hid (blkF N E d land = partsE J.1) := hide (by rw [HF1.out, if_neg (fun h => h h1)])
      rw [h1]
      clear HF1 h1
      go_wp2_with (fail)
      refine (parts_any HR2.out (Nat.le_trans HJ.out (by omega))).mono ?_
      rintro e w3 ⟨⟨A3, c3, vs, rfl, o3, k3⟩, hb3⟩
      have HB3 := hide (HB2.out.trans (hb3.mono HB2.out.size))
      have HO3 : Hid (RegsRet w.heap.size (blkF N E d land) (.returned (.tuple #[.slice A3 (partsE J.1).1.length c3, .int .i64 (partsE J.1).2])) w3) := hide (by
        rw [HF2.out]
        refine ⟨A3, c3, vs, rfl, own_base o3 HB2.out.size, fun i r h => ?_⟩
        obtain ⟨v, h1, h2⟩ := k3 i r h
        exact ⟨v, h1, own_base h2 HB2.out.size⟩)
      clear o3 k3 hb3
      generalize partsE J.1 = P at *
      go_wp2
      go_ret2
      exact ⟨HO3.out, HB3.out⟩
    · have hz : (J.2 != 0) = true := by simpa using h1
      have HF2 : Hid (blkF N E d land = ([], J.2)) := hide (by rw [HF1.out, if_pos h1])
      clear HF1 h1
      go_wp2
      go_ret2
      exact ⟨by rw [HF2.out]; exact regs_nil _ _ _, HB2.out⟩
  · have hz : (F.2 != 0) = true := by simpa using h0
    have HF1 : Hid (blkF N E d land = ([], F.2)) := hide (by rw [HF0.out, if_pos h0])
    clear HF0 h0
    go_wp2
    go_ret2
    exact ⟨by rw [HF1.out]; exact regs_nil _ _ _, HB1.out⟩
end Go.Proofs.YtmnhlcbmoibahaaGreat

/- Plain: who points where among the nodes of a network, and the first one of each part. -/
namespace Go.Proofs.YtmnhlcbmoibahaaGreat
set_option linter.unusedVariables false
set_option linter.unusedSimpArgs false

def fset (f : Nat → Option Nat) (b a : Nat) : Nat → Option Nat := fun i => if i = b then some a else f i
/-- What points somewhere points into its own part, and ever lower; what points nowhere is its part's label. -/
structure FOK (n : Nat) (f : Nat → Option Nat) (L : List Nat) (r : Nat → Nat) : Prop where
  rk : ∀ i j, i < n → f i = some j → j < n ∧ r j < r i ∧ lb L j = lb L i
  root : ∀ i, i < n → f i = none → lb L i = i
theorem FOK.start (n : Nat) : FOK n (fun _ => none) (List.range n) (fun _ => 0) :=
  ⟨fun i j _ h => by simp at h, fun i hi _ => by
    unfold lb
    rw [List.getD_eq_getElem?_getD, List.getElem?_range hi]
    rfl⟩
theorem FOK.step {n m : Nat} {f : Nat → Option Nat} {L : List Nat} {r : Nat → Nat} (h : FOK n f L r) (hc : CompOK n L m) {a b : Nat} (ha : a < n) (hb : b < n) (hne : lb L a ≠ lb L b) :
    FOK n (fset f (lb L b) (lb L a)) (joinLb L (lb L a) (lb L b)) (fun i => if lb L i = lb L b then r i + (r (lb L a) + 1) else r i) := by
  have hj : ∀ i, i < n → lb (joinLb L (lb L a) (lb L b)) i = if lb L i = lb L b then lb L a else lb L i := fun i hi => lb_join (by rw [hc.len]; exact hi)
  have la := hc.lt _ ha
  have lbb := hc.lt _ hb
  have ia := hc.idem _ ha
  have ib := hc.idem _ hb
  refine ⟨fun i j hi hf => ?_, fun i hi hf => ?_⟩
  · unfold fset at hf
    by_cases e : i = lb L b
    · rw [if_pos e] at hf
      injection hf with hf
      subst hf
      subst e
      refine ⟨la, ?_, ?_⟩
      · simp only [ia, ib, if_neg hne, if_true]
        omega
      · rw [hj _ la, hj _ hi, ia, ib, if_neg hne, if_pos rfl]
    · rw [if_neg e] at hf
      obtain ⟨h1, h2, h3⟩ := h.rk i j hi hf
      refine ⟨h1, ?_, ?_⟩
      · simp only [h3]
        split <;> omega
      · rw [hj _ h1, hj _ hi, h3]
  · unfold fset at hf
    by_cases e : i = lb L b
    · rw [if_pos e] at hf
      simp at hf
    · rw [if_neg e] at hf
      have := h.root i hi hf
      rw [hj _ hi, this, if_neg e]
/-- As many steps of the code's loop have been made: the labels and the number of parts. -/
def compI (n : Nat) (E : List Ed) (m : Nat) : List Nat × Nat := compF n (E.take m)
theorem compI_zero (n : Nat) (E : List Ed) : compI n E 0 = (List.range n, n) := by
  unfold compI compF
  simp
theorem compI_succ {n : Nat} {E : List Ed} {m : Nat} {e : Ed} (h : E[m]? = some e) : compI n E (m + 1) = compS (compI n E m) e := by
  unfold compI compF
  rw [List.take_add_one, h]
  simp
theorem compI_all (n : Nat) (E : List Ed) : compI n E E.length = compF n E := by
  unfold compI
  rw [List.take_length]
theorem compI_ok {n : Nat} {E : List Ed} (hE : ∀ e ∈ E, e.1 < n ∧ e.2 < n) (m : Nat) : CompOK n (compI n E m).1 (compI n E m).2 := comp_ok fun e he => hE e (List.mem_of_mem_take he)
end Go.Proofs.YtmnhlcbmoibahaaGreat

/- block.Parts, block.Loops: the walks. -/
namespace Go.Proofs.YtmnhlcbmoibahaaGreat
open Go.RowKit Go.Maps
set_option linter.unusedVariables false
set_option linter.unusedSimpArgs false

/-- Block b maps each node i that points somewhere to where it points. -/
def PM (b n : Nat) (f : Nat → Option Nat) (w : World) : Prop := ∃ D : DataW Unit, w.ownsMap Tryz.prog 3 (plainElem Tryz.prog 3) b n D ∧ ∀ k : Nat, Maps.has D (.int .i64 (k : Int)) = (f k).isSome ∧ D.atKey (.int .i64 (k : Int)) (.lit (.int .i64 0)) = .lit (.int .i64 (((f k).getD 0 : Nat) : Int))
theorem PM.made (w : World) : PM w.heap.size 0 (fun _ => none) (w.alloc (.map #[] 0)) := ⟨.map [], World.ownsMap_made w _ _ _, fun k => ⟨rfl, rfl⟩⟩
theorem PM.grown {b n : Nat} {f : Nat → Option Nat} {w w' : World} (h : PM b n f w) {row : Option Nat} (hg : w.grownBy w' row) (h1 : some b ≠ row) : PM b n f w' := by
  obtain ⟨D, d1, d2⟩ := h
  exact ⟨D, d1.kept hg h1, d2⟩
theorem PM.below {b n : Nat} {f : Nat → Option Nat} {w w' : World} (h : PM b n f w) (hb : Below w.heap.size w w') : PM b n f w' := h.grown (below_grow hb) (by simp)
theorem PM.lt {b n : Nat} {f : Nat → Option Nat} {w : World} (h : PM b n f w) : b < w.heap.size := by
  obtain ⟨D, d1, _⟩ := h
  exact d1.lt
theorem PM.look {b n : Nat} {f : Nat → Option Nat} {w : World} (h : PM b n f w) {k : Nat} (hk : k ≤ 1000000) : (Instr.lookup 99 (.map (some b)) (.int .i64 (k : Int)) true).run Tryz.prog w = .ok (.tuple #[.int .i64 (((f k).getD 0 : Nat) : Int), .bool (f k).isSome]) w := by
  obtain ⟨D, d1, d2⟩ := h
  obtain ⟨v, ps, hrun, hat⟩ := d1.look_ok lawIS Tryz.underlying99 (zeroI w) (plainElem_int Tryz.underlying3 (by decide)) (keyI (k := (k : Int)) (by unfold okK; omega))
  obtain ⟨c, rfl, hc, hwc⟩ := plainElem_int_inv Tryz.underlying3 hat
  simp only [Prod.mk.injEq] at hc
  obtain ⟨q1, q2⟩ := d2 k
  rw [q2] at hc
  rw [litInj hc.1, ← q1]
  exact hrun
theorem PM.store {b n : Nat} {f : Nat → Option Nat} {w : World} (h : PM b n f w) {k v : Nat} (hk : k ≤ 1000000) (hv : v ≤ 1000000) (hn : n < maxLen) :
    ∃ w', (Instr.mapUpdate 99 (.map (some b)) (.int .i64 (k : Int)) (.int .i64 (v : Int))).run Tryz.prog w = .ok () w' ∧ w.grownBy w' (some b) ∧ PM b (n + 1) (fset f k v) w' := by
  obtain ⟨D, d1, d2⟩ := h
  have hkk := keyI (k := (k : Int)) (by unfold okK; omega)
  obtain ⟨w', hrun, o3, g3⟩ := d1.update lawIS Tryz.underlying99 hn hkk (plainElem_int Tryz.underlying3 (WalkArith.wf_i64 (by omega)) (a := (v : Int)))
  refine ⟨w', hrun, g3, _, o3, fun k' => ?_⟩
  unfold fset
  by_cases e : k' = k
  · subst e
    simp only [if_true]
    rw [atKey_put_same d1.isMap (lawIS.key hkk), has_put_same d1.isMap (lawIS.key hkk)]
    exact ⟨rfl, rfl⟩
  · simp only [if_neg e]
    have hne : (Lit.int .i64 (k' : Int)) ≠ .int .i64 (k : Int) := fun e2 => by
      injection e2 with _ e2
      omega
    rw [atKey_put_other hne, has_put_other hne]
    exact d2 k'
set_option maxHeartbeats 4000000 in
theorem first35_any {w : World} {gT bT m n : Nat} {f : Nat → Option Nat} {L : List Nat} {r : Nat → Nat} (c0 : w.cell? ⟨gT, 0, none⟩ = some (.map (some bT))) (h : PM bT m f w) (hf : FOK n f L r) (hn : n ≤ 400) {i : Nat} (hi : i < n) :
    Calls Tryz.prog 52 #[.int .i64 (i : Int), .pointer (some ⟨gT, 0, none⟩)] w fun e w' => e = .returned (.int .i64 (lb L i : Int)) ∧ w = w' := by
  have HP := hide h
  have HF := hide hf
  clear h hf
  go_enter Tryz.func52, Tryz.ntmps52
  go_wp2
  go_loopw [0] (fun v wr => ∃ j : Nat, j < n ∧ v = .int .i64 (j : Int) ∧ Hid (lb L j = lb L i) ∧ wr = w) (fun v _ => r (intOf v).toNat)
  case atStart => exact ⟨i, hi, rfl, hide rfl, rfl⟩
  case round =>
    obtain ⟨j, hj, rfl, HL, rfl⟩ := hrel
    have lk := HP.out.look (k := j) (by omega)
    have HRK := hide (HF.out.rk j)
    have HRT := hide (HF.out.root j hj)
    cases hfj : f j with
    | none =>
      rw [hfj] at lk
      have hr := HRT.out hfj
      have HE : Hid ((lb L i : Int) = (j : Int)) := hide (by rw [← HL.out, hr])
      simp only [Option.getD_none, Option.isSome_none] at lk
      clear hfj hr
      go_wp2
      go_ret
      exact ⟨by rw [HE.out]; rfl, rfl⟩
    | some k =>
      rw [hfj] at lk
      obtain ⟨h1, h2, h3⟩ := HRK.out k hj hfj
      simp only [Option.getD_some, Option.isSome_some] at lk
      have HX := hide (And.intro h1 (And.intro h2 h3))
      clear hfj h1 h2 h3
      go_wp2
      go_roundw
      case rel => exact ⟨k, HX.out.1, rfl, hide (HX.out.2.2.trans HL.out), by first | rfl | trivial⟩
      case measure => simpa [intOf] using HX.out.2.1
/-- What Parts gives. -/
def prtF (N : List Pt) (E : List Ei) : Int × Int := if chkN N E = 0 then ((partsN (segsI N E) : Nat), 0) else (0, chkN N E)
/-- The state of the loop over the edges: the box of the network, the map behind its box. -/
structure Pst (w wr : World) (H m : Nat) (f : Nat → Option Nat) (ev : Value) : Prop where
  low : Below w.heap.size w wr
  c1 : wr.cell? ⟨w.heap.size, 1, none⟩ = some ev
  ct : wr.cell? ⟨H + 1, 0, none⟩ = some (.map (some H))
  pm : PM H m f wr
  lt : w.heap.size < H
  sz : H + 2 ≤ wr.heap.size
theorem Pst.below {w wr w' : World} {H m : Nat} {f : Nat → Option Nat} {ev : Value} (h : Pst w wr H m f ev) (hb : Below wr.heap.size wr w') : Pst w w' H m f ev := by
  have h1 := h.lt
  have h2 := h.sz
  exact ⟨h.low.trans (hb.mono h.low.size), (hb.cell (p := ⟨_, 1, none⟩) (by simp only; omega)).trans h.c1, (hb.cell (p := ⟨H + 1, 0, none⟩) (by simp only; omega)).trans h.ct, h.pm.below hb, h.lt, Nat.le_trans h2 hb.size⟩
theorem Pst.put {w wr : World} {H m : Nat} {f : Nat → Option Nat} {ev : Value} (h : Pst w wr H m f ev) {a b : Nat} (ha : a ≤ 1000000) (hb : b ≤ 1000000) (hm : m ≤ 1000000) :
    ∃ w', (Instr.mapUpdate 99 (.map (some H)) (.int .i64 (b : Int)) (.int .i64 (a : Int))).run Tryz.prog wr = .ok () w' ∧ Pst w w' H (m + 1) (fset f b a) ev := by
  obtain ⟨w', hrun, hg, hp⟩ := h.pm.store (k := b) (v := a) hb ha (by unfold maxLen; omega)
  have h1 := h.lt
  have h2 := h.sz
  have hs := hg.size
  refine ⟨w', hrun, h.low.grown hg h.low.size (fun q hq => by injection hq with hq; omega), (cell_grow hg (by omega) (fun e => by injection e with e; omega)).trans h.c1, (cell_grow hg (by omega) (fun e => by injection e with e; omega)).trans h.ct, hp, h.lt, by omega⟩
theorem Pst.start {w w1 : World} {ev : Value} (hb : Below w.heap.size w w1) (hlt : w.heap.size < w1.heap.size) (hc : w1.cell? ⟨w.heap.size, 1, none⟩ = some ev) {w2 : World} {t : TypeId} (hw : w2 = ((w1.alloc (.map #[] 0)).alloc (.cells #[.map (some w1.heap.size)] t))) : Pst w w2 w1.heap.size 0 (fun _ => none) ev := by
  have hb1 : Below w1.heap.size w1 w2 := by
    rw [hw]
    exact ((Below.refl _ _).alloc (Nat.le_refl _) _).alloc (by simp) _
  have e1 : (w1.alloc (.map #[] 0)).heap.size = w1.heap.size + 1 := by simp
  have hb2 : Below (w1.alloc (.map #[] 0)).heap.size (w1.alloc (.map #[] 0)) w2 := by
    rw [hw]
    exact (Below.refl _ _).alloc (Nat.le_refl _) _
  refine ⟨hb.trans (hb1.mono hb.size), (hb1.cell (p := ⟨w.heap.size, 1, none⟩) hlt).trans hc, ?_, (PM.made w1).below hb2, hlt, by rw [hw]; simp⟩
  rw [hw]
  simp [go_sem]
set_option maxRecDepth 100000 in
set_option maxHeartbeats 8000000 in
theorem parts35_any {w : World} {nv ev : Value} {N : List Pt} {E : List Ei} (hn : RdK encS 2 w w.heap.size nv N) (he : RdK encS 2 w w.heap.size ev E) :
    Calls Tryz.prog 16 #[.agg #[nv, ev]] w fun e w' => e = .returned (.tuple #[.int .i64 (prtF N E).1, .int .i64 (prtF N E).2]) ∧ Below w.heap.size w w' := by
  have HN := hide hn
  have HE := hide he
  obtain ⟨An, cn, rfl, _⟩ := hn
  obtain ⟨Ae, ce, rfl, hE⟩ := he
  have HER := hide hE
  clear hE
  have hmm := @run_makeMap Tryz.prog
  have hb0 : Below w.heap.size w (w.alloc (.cells #[.slice An N.length cn, .slice Ae E.length ce] 25)) := (Below.refl _ _).alloc (Nat.le_refl _) _
  have HB0 := hide hb0
  have x0 : (w.alloc (.cells #[.slice An N.length cn, .slice Ae E.length ce] 25)).cell? ⟨w.heap.size, 0, none⟩ = some (.slice An N.length cn) := by simp [go_sem]
  have x1 : (w.alloc (.cells #[.slice An N.length cn, .slice Ae E.length ce] 25)).cell? ⟨w.heap.size, 1, none⟩ = some (.slice Ae E.length ce) := by simp [go_sem]
  have HX := hide (And.intro x0 x1)
  have s0 : w.heap.size < (w.alloc (.cells #[.slice An N.length cn, .slice Ae E.length ce] 25)).heap.size := by simp
  have HS0 := hide s0
  clear hb0 x0 x1 s0
  go_enter Tryz.func16, Tryz.ntmps16
  go_wp2_with (fail)
  refine (Check_any ((HN.out.below HB0.out).mono HB0.out.size) ((HE.out.below HB0.out).mono HB0.out.size)).mono ?_
  rintro e w1 ⟨rfl, hb1⟩
  rw [chkC_eq]
  have HB1 := hide (HB0.out.trans (hb1.mono HB0.out.size))
  have k0 := (hb1.cell (p := ⟨w.heap.size, 0, none⟩) HS0.out).trans HX.out.1
  have k1 := (hb1.cell (p := ⟨w.heap.size, 1, none⟩) HS0.out).trans HX.out.2
  have hs1 : w.heap.size < w1.heap.size := Nat.lt_of_lt_of_le HS0.out hb1.size
  clear hb1
  have HPF : Hid (prtF N E = if chkN N E = 0 then (((partsN (segsI N E) : Nat) : Int), 0) else (0, chkN N E)) := hide rfl
  obtain ⟨r, hr⟩ : ∃ r, chkN N E = r := ⟨_, rfl⟩
  rw [hr] at HPF ⊢
  by_cases h0 : r = 0
  · subst h0
    obtain ⟨g1, g2, g3, g4, g5⟩ := chkN_ok hr
    rw [if_pos rfl] at HPF
    have hEE := (net_ok (segs_ok g3)).edges_lt
    obtain ⟨ED, hED⟩ : ∃ ED, edgesF (segsI N E) = ED := ⟨_, rfl⟩
    have HPV : Hid (prtF N E = ((((compF N.length ED).2 : Nat) : Int), 0)) := hide (by
      rw [HPF.out]
      show ((((compF (nodesF (segsI N E)).length (edgesF (segsI N E))).2 : Nat) : Int), (0 : Int)) = _
      rw [g4, hED])
    have hlt : ∀ e ∈ ED, e.1 < N.length ∧ e.2 < N.length := fun e he => by
      have := hEE e (by rw [← hED] at he; exact he)
      rwa [g4] at this
    have HLT := hide hlt
    have HEQ : Hid (E = edI ED) := hide (by rw [← hED]; exact g5.symm)
    have HNL := hide (And.intro g1 g2)
    clear hr HPF g1 g2 g3 g4 g5 hEE hED hlt HN HE
    go_upto_region 6 with fail
    refine wp_name fun w2 hw2 => ?_
    have HS2 := hide (Pst.start HB1.out hs1 k1 hw2)
    have k0' : w2.cell? ⟨w.heap.size, 0, none⟩ = some (.slice An N.length cn) := ((show Below w1.heap.size w1 w2 by rw [hw2]; exact ((Below.refl _ _).alloc (Nat.le_refl _) _).alloc (by simp) _).cell (p := ⟨w.heap.size, 0, none⟩) hs1).trans k0
    have k1' := HS2.out.c1
    clear hw2 k0 k1 HB0 HB1 HX HS0 hmm
    go_wp2_with (fail)
    clear k0' k1'
    go_loopw [7, 24] (fun c i wr => ∃ m : Nat, m ≤ E.length ∧ i = .int .i64 (m : Int) ∧ c = .int .i64 ((compI N.length ED m).2 : Int) ∧ Hid (∃ f r, FOK N.length f (compI N.length ED m).1 r ∧ ∃ q, q ≤ m ∧ Pst w wr w1.heap.size q f (.slice Ae E.length ce))) (fun _ i _ => E.length - (intOf i).toNat)
    case atStart => exact ⟨0, Nat.zero_le _, rfl, by rw [compI_zero], hide ⟨_, _, by rw [compI_zero]; exact FOK.start _, 0, Nat.le_refl _, HS2.out⟩⟩
    case round =>
      clear HS2
      obtain ⟨m, hm, rfl, rfl, HH⟩ := hrel
      by_cases hlt : m < E.length
      · have mz : (m : Int) < (E.length : Int) := by omega
        obtain ⟨f, r, hf, q, hq, hst⟩ := HH.out
        have hlen : ED.length = E.length := by rw [HEQ.out]; unfold edI; simp
        obtain ⟨⟨a, b⟩, hab⟩ : ∃ e, ED[m]? = some e := ⟨_, List.getElem?_eq_getElem (by omega)⟩
        have hsE : E[m]? = some ((a : Int), (b : Int)) := by rw [HEQ.out]; unfold edI; rw [List.getElem?_map, hab]; rfl
        obtain ⟨ha, hb⟩ := HLT.out _ (List.mem_of_getElem? hab)
        simp only at ha hb
        obtain ⟨bE, o, rfl, hbl, k⟩ := HER.out (by intro e; rw [e] at hlt; simp at hlt)
        have hsz := hst.sz
        have hwl := hst.lt
        have d0 : wr.cell? ⟨bE, o + m * 2, none⟩ = some (.int .i64 (a : Int)) := (hst.low.cell (p := ⟨bE, _, none⟩) hbl).trans (k m _ hsE 0 _ rfl)
        have d1 : wr.cell? ⟨bE, o + m * 2 + 1, none⟩ = some (.int .i64 (b : Int)) := (hst.low.cell (p := ⟨bE, _, none⟩) hbl).trans (k m _ hsE 1 _ rfl)
        have hco := compI_ok HLT.out m
        have HF := hide hf
        have HCO := hide hco
        have HST := hide hst
        have la := hco.lt _ ha
        have lbb := hco.lt _ hb
        have HSC : Hid (compI N.length ED (m + 1) = compS (compI N.length ED m) (a, b)) := hide (compI_succ hab)
        have HPO : Hid (0 < (compI N.length ED m).2 ∧ (compI N.length ED m).2 ≤ N.length) := hide ⟨parts_pos (fun e he => HLT.out e (List.mem_of_mem_take he)) (by omega), (parts_bd _ _).2⟩
        have HAB := hide (And.intro ha hb)
        obtain ⟨hn400, hel⟩ := HNL.out
        have c1 := hst.c1
        have hbw : bE < wr.heap.size := by omega
        have hww : w.heap.size < wr.heap.size := by omega
        clear hab hsE k hf hco hst HH hlen
        go_upto_region 10 with fail
        refine wp_hab fun hab => ?_
        refine wp_region_above (by kernel_rfl) (by kernel_rfl) ?_
        have HF1 := hide (fun (y : Above wr) => above_same (x := y) (first35_any ((y.keeps.cell (p := ⟨w1.heap.size + 1, 0, none⟩) (by simp only; omega)).trans HST.out.ct) (HST.out.pm.below y.keeps) HF.out hn400 HAB.out.1))
        have HF2 := hide (fun (y : Above wr) => above_same (x := y) (first35_any ((y.keeps.cell (p := ⟨w1.heap.size + 1, 0, none⟩) (by simp only; omega)).trans HST.out.ct) (HST.out.pm.below y.keeps) HF.out hn400 HAB.out.2))
        generalize compI N.length ED m = C at *
        obtain ⟨L, cc⟩ := C
        simp only at HF HCO HPO HF1 HF2 la lbb ⊢
        repeat (go_big_quiet_step ((go_at_call 52; first | with_reducible exact HF1.out _ | with_reducible exact HF2.out _)))
        refine wpQuiet_nil ?_
        refine above_ends fun w5 hb5 => ?_
        have HS5 := hide (HST.out.below hb5)
        clear hab HF1 HF2 hb5 d0 d1 c1 hbw hww HST
        have HL := hide (And.intro la lbb)
        by_cases he : lb L a = lb L b
        · have HSN : Hid (compI N.length ED (m + 1) = (L, cc)) := hide (by
            rw [HSC.out]
            unfold compS
            rw [if_pos he])
          rw [he]
          clear he la lbb HSC
          go_wp2
          go_roundw
          case rel => exact ⟨m + 1, by omega, by go_num, by rw [HSN.out], hide ⟨_, _, by rw [HSN.out]; exact HF.out, q, by omega, HS5.out⟩⟩
          case measure => simp [intOf]; omega
        · have hz : ((lb L a : Int) != (lb L b : Int)) = true := by simpa using fun h : (lb L a : Int) = (lb L b : Int) => he (by omega)
          obtain ⟨w6, hrun, hs6⟩ := HS5.out.put (a := lb L a) (b := lb L b) (by omega) (by omega) (by have := HNL.out.2; omega)
          have HS6 := hide hs6
          have HSN : Hid (compI N.length ED (m + 1) = (joinLb L (lb L a) (lb L b), cc - 1)) := hide (by
            rw [HSC.out]
            unfold compS
            rw [if_neg he])
          have HF6 := hide (HF.out.step HCO.out HAB.out.1 HAB.out.2 he)
          obtain ⟨hcc, hcd⟩ := HPO.out
          have ct := HS5.out.ct
          clear he la lbb HSC hs6 HL
          generalize lb L a = la at *
          generalize lb L b = lbb at *
          have hc1 : (((cc - 1 : Nat)) : Int) = (cc : Int) - 1 := by omega
          have HC1 := hide hc1
          clear hc1
          go_wp2
          go_roundw
          case rel => exact ⟨m + 1, by omega, by go_num, by rw [HSN.out]; exact int_eq HC1.out.symm, hide ⟨_, _, by rw [HSN.out]; exact HF6.out, q + 1, by omega, HS6.out⟩⟩
          case measure => simp [intOf]; omega
      · obtain rfl : m = E.length := by omega
        have mz : ¬ (E.length : Int) < (E.length : Int) := by omega
        obtain ⟨f, r, hf, q, hq, hst⟩ := HH.out
        have HBE := hide hst.low
        have hlen : ED.length = E.length := by rw [HEQ.out]; unfold edI; simp
        have HV : Hid (prtF N E = (((compI N.length ED E.length).2 : Int), 0)) := hide (by rw [HPV.out, ← hlen, compI_all])
        clear HH hf hst hlen HPV
        generalize (compI N.length ED E.length).2 = cc at *
        go_wp2
        go_ret2
        exact ⟨by rw [HV.out]; rfl, HBE.out⟩
  · have hz : (r != 0) = true := by simpa using h0
    rw [if_neg h0] at HPF
    clear h0 hr
    go_wp2
    go_ret2
    exact ⟨by rw [HPF.out]; rfl, HB1.out⟩
/-- What Loops gives. -/
def lopF (N : List Pt) (E : List Ei) : Int × Int := if (prtF N E).2 = 0 then ((E.length : Int) - N.length + (prtF N E).1, 0) else (0, (prtF N E).2)
theorem prtF_bd {N : List Pt} {E : List Ei} (h : (prtF N E).2 = 0) : N.length ≤ 400 ∧ E.length ≤ 800 ∧ 0 ≤ (prtF N E).1 ∧ (prtF N E).1 ≤ N.length := by
  unfold prtF at h ⊢
  by_cases h0 : chkN N E = 0
  · rw [if_pos h0]
    obtain ⟨g1, g2, g3, g4, g5⟩ := chkN_ok h0
    have hb := (parts_bd (nodesF (segsI N E)).length (edgesF (segsI N E))).2
    have hb2 : partsN (segsI N E) ≤ N.length := by
      show (compF (nodesF (segsI N E)).length (edgesF (segsI N E))).2 ≤ N.length
      rw [g4] at hb ⊢
      exact hb
    refine ⟨g1, g2, ?_, ?_⟩
    · simp only; omega
    · simp only; omega
  · rw [if_neg h0] at h
    exact absurd h h0
set_option maxHeartbeats 4000000 in
theorem loops_any {w : World} {nv ev : Value} {N : List Pt} {E : List Ei} (hn : RdK encS 2 w w.heap.size nv N) (he : RdK encS 2 w w.heap.size ev E) :
    Calls Tryz.prog 18 #[.agg #[nv, ev]] w fun e w' => e = .returned (.tuple #[.int .i64 (lopF N E).1, .int .i64 (lopF N E).2]) ∧ Below w.heap.size w w' := by
  have HN := hide hn
  have HE := hide he
  obtain ⟨An, cn, rfl, _⟩ := hn
  obtain ⟨Ae, ce, rfl, _⟩ := he
  have hb0 : Below w.heap.size w (w.alloc (.cells #[.slice An N.length cn, .slice Ae E.length ce] 25)) := (Below.refl _ _).alloc (Nat.le_refl _) _
  have HB0 := hide hb0
  have x0 : (w.alloc (.cells #[.slice An N.length cn, .slice Ae E.length ce] 25)).cell? ⟨w.heap.size, 0, none⟩ = some (.slice An N.length cn) := by simp [go_sem]
  have x1 : (w.alloc (.cells #[.slice An N.length cn, .slice Ae E.length ce] 25)).cell? ⟨w.heap.size, 1, none⟩ = some (.slice Ae E.length ce) := by simp [go_sem]
  have HX := hide (And.intro x0 x1)
  have s0 : w.heap.size < (w.alloc (.cells #[.slice An N.length cn, .slice Ae E.length ce] 25)).heap.size := by simp
  have HS0 := hide s0
  clear hb0 x0 x1 s0
  go_enter Tryz.func18, Tryz.ntmps18
  go_wp2_with (fail)
  refine (parts35_any ((HN.out.below HB0.out).mono HB0.out.size) ((HE.out.below HB0.out).mono HB0.out.size)).mono ?_
  rintro e w1 ⟨rfl, hb1⟩
  have HB1 := hide (HB0.out.trans (hb1.mono HB0.out.size))
  have k0 := (hb1.cell (p := ⟨w.heap.size, 0, none⟩) HS0.out).trans HX.out.1
  have k1 := (hb1.cell (p := ⟨w.heap.size, 1, none⟩) HS0.out).trans HX.out.2
  have hs1 : w.heap.size < w1.heap.size := Nat.lt_of_lt_of_le HS0.out hb1.size
  clear hb1
  have HLF : Hid (lopF N E = if (prtF N E).2 = 0 then ((E.length : Int) - N.length + (prtF N E).1, 0) else (0, (prtF N E).2)) := hide rfl
  have hbd := prtF_bd (N := N) (E := E)
  generalize prtF N E = p at *
  obtain ⟨p1, p2⟩ := p
  simp only at hbd HLF ⊢
  by_cases h0 : p2 = 0
  · subst h0
    obtain ⟨b1, b2, b3, b4⟩ := hbd rfl
    have HV : Hid (lopF N E = ((E.length : Int) - N.length + p1, 0)) := hide (by rw [HLF.out, if_pos rfl])
    clear hbd HLF
    go_wp2
    go_ret2
    exact ⟨by rw [HV.out]; rfl, HB1.out⟩
  · have hz : (p2 != 0) = true := by simpa using h0
    have HV : Hid (lopF N E = (0, p2)) := hide (by rw [HLF.out, if_neg h0])
    clear hbd HLF h0
    go_wp2
    go_ret2
    exact ⟨by rw [HV.out]; rfl, HB1.out⟩
end Go.Proofs.YtmnhlcbmoibahaaGreat
