/- Texts laid together: LawBEuler, OpenS. Lemmas for the statements of this seat; no condition. -/
import Derived.Test.YtdolpeljengpaaaGreatPk10
import Derived.Test.YtdolpeljengpaaaGreatPk11
import Derived.Test.YtdolpeljengpaaaGreatPk4
import Derived.Deep.Strs

/- BlockEuler's walk: a land beyond all streets has one block more than there are loops. -/
namespace Go.Proofs.YtdolpeljengpaaaGreat
open Go.RowKit
set_option linter.unusedVariables false
set_option linter.unusedSimpArgs false

theorem rd_atE {α : Type} {enc : α → List Value} {k : Nat} {w W : World} {v : Value} {l : List α} (h : RdK enc k w w.heap.size v l) (hb : Below w.heap.size w W) : RdK enc k W W.heap.size v l := (h.below hb).mono hb.size
set_option maxRecDepth 100000 in
set_option maxHeartbeats 8000000 in
theorem beuler_main {w : World} {A0 : Option Addr} {c : Nat} {l : List Sg} (hr : RdK encSg 4 w w.heap.size (.slice A0 l.length c) l) (hv : val35 l = true) :
    Calls Tryz.prog 4 #[.slice A0 l.length c] w fun e w' => e = .returned (.bool true) ∧ Below w.heap.size w w' := by
  have nl : l.length ≤ maxLen := by have := (val35_ok hv).2; unfold maxLen; omega
  have HV := hide (valid35_any hr nl)
  obtain ⟨A1, c1, hsl, hc⟩ := hr
  injection hsl with e1 _ e3
  subst e1
  subst e3
  have HRC := hide hc
  have HL12 := hide (val35_ok hv).2
  have HNR := hide (val35_ok hv).1
  clear hc
  rw [hv] at HV
  have hl12 := HL12.out
  obtain ⟨i2, fi, fz0, fz1, fz2⟩ := info_parts infoSg
  go_enter Tryz.func4, Tryz.ntmps4
  go_wp2_with (fail)
  refine HV.out.mono ?_
  rintro e w1 ⟨rfl, hb1⟩
  have HB1 := hide hb1
  clear hb1 hv nl
  go_wp2
  go_loopw [3, 4] (fun o i wr => ∃ (m : Nat) (Ao : Option Addr) (co : Nat), m ≤ l.length ∧ i = .int .i64 (m : Int) ∧ o = .slice Ao m co ∧ Hid (Below w.heap.size w wr) ∧ Hid (wr.ownsRow w.heap.size 53 4 (.slice Ao m co) m ((firstSg (x4) l m).flatMap encSg))) (fun _ i _ => l.length - (intOf i).toNat)
  case atStart => exact ⟨0, none, 0, Nat.zero_le _, rfl, rfl, HB1, hide (World.ownsRow_nil _ _ _ _)⟩
  case round =>
    clear HB1
    obtain ⟨m, Ao, co, hm, rfl, rfl, HB, HO⟩ := hrel
    by_cases hlt : m < l.length
    · have mz : (m : Int) < (l.length : Int) := by omega
      obtain ⟨s, hs⟩ : ∃ p, l[m]? = some p := ⟨_, List.getElem?_eq_getElem hlt⟩
      obtain ⟨b0, o0, hA, hbl, k⟩ := HRC.out (by intro e; rw [e] at hlt; simp at hlt)
      subst hA
      have hb := HB.out
      have d0 : wr.cell? ⟨b0, o0 + m * 4, none⟩ = some (.int .i64 s.ax) := (hb.cell (p := ⟨b0, _, none⟩) hbl).trans (k m _ hs 0 _ rfl)
      have d1 : wr.cell? ⟨b0, o0 + m * 4 + 1, none⟩ = some (.int .i64 s.ay) := (hb.cell (p := ⟨b0, _, none⟩) hbl).trans (k m _ hs 1 _ rfl)
      have d2 : wr.cell? ⟨b0, o0 + m * 4 + 2, none⟩ = some (.int .i64 s.cx) := (hb.cell (p := ⟨b0, _, none⟩) hbl).trans (k m _ hs 2 _ rfl)
      have d3 : wr.cell? ⟨b0, o0 + m * 4 + 3, none⟩ = some (.int .i64 s.cy) := (hb.cell (p := ⟨b0, _, none⟩) hbl).trans (k m _ hs 3 _ rfl)
      have hbw : b0 < wr.heap.size := Nat.lt_of_lt_of_le hbl hb.size
      have HS := hide hs
      have HNS := hide (HNR.out s (List.mem_of_getElem? hs))
      have hl12 := HL12.out
      clear k hs hb
      go_upto_region 7 with fail
      go_cut [5, 6] (fun s9 s10 wx => ∃ g h, s9 = .pointer (some ⟨g, 0, none⟩) ∧ s10 = .pointer (some ⟨h, 0, none⟩) ∧ Hid (Below wr.heap.size wr wx) ∧ Hid ((wx.cell? ⟨g, 0, none⟩ = some (.int .i64 s.ax) ∧ wx.cell? ⟨g, 1, none⟩ = some (.int .i64 s.ay)) ∧ (wx.cell? ⟨h, 0, none⟩ = some (.int .i64 s.cx) ∧ wx.cell? ⟨h, 1, none⟩ = some (.int .i64 s.cy)) ∧ g < wx.heap.size ∧ h < wx.heap.size))
      case first =>
        go_region_held3 (fun w' => (w'.cell? ⟨b0, o0 + m * 4, none⟩ = some (.int .i64 s.ax) ∧ w'.cell? ⟨b0, o0 + m * 4 + 1, none⟩ = some (.int .i64 s.ay)) ∧ (w'.cell? ⟨b0, o0 + m * 4 + 2, none⟩ = some (.int .i64 s.cx) ∧ w'.cell? ⟨b0, o0 + m * 4 + 3, none⟩ = some (.int .i64 s.cy))) (go_keep) (fail)
        all_goals (go_wp2_with (fail); go_meet)
        all_goals
          refine ⟨_, _, rfl, rfl, hide ?_, hide ⟨⟨by simp [go_sem], by simp [go_sem]⟩, ⟨by simp [go_sem], by simp [go_sem]⟩, by simp <;> omega, by simp <;> omega⟩⟩
          repeat (first | with_reducible exact Below.refl _ _ | with_reducible refine Below.drew ?_ | with_reducible refine Below.setCell ?_ (by first | (simp; done) | (simp; omega)) _ | with_reducible refine Below.alloc ?_ (by first | omega | (simp; omega) | simp) _)
      case rest =>
        obtain ⟨g, h, rfl, rfl, HBC, HC⟩ := hcut
        obtain ⟨⟨p0, p1⟩, ⟨p2, p3⟩, hg, hh⟩ := HC.out
        obtain ⟨-, ⟨q0, q1⟩, ⟨q2, q3⟩, ⟨q4, q5⟩, q6, q7⟩ := HNS.out
        have HB2 := hide (HB.out.trans (HBC.out.mono HB.out.size))
        have HO2 := hide (HO.out.kept (below_grow HBC.out) own_none_or)
        have hwz : w.heap.size ≤ wc.heap.size := HB2.out.size
        clear HBC HC HB HO d0 d1 d2 d3 hbw hbl
        go_wp2_with (at_builtin; go_loud (refine wpList_append_lies _ rfl (.tmp 33) (.tmp 49) 47 rfl w.heap.size 53 i2 (.agg #[.int .i64 0, .int .i64 0, .int .i64 0, .int .i64 0]) 4 32 Tryz.underlying47 fi fz0 fz1 fz2 rfl (by decide) _ m _ rfl (World.ownsRow.alloc HO2.out _) ⟨wc.heap.size, 0, none⟩ 1 1 [.int .i64 (4 * s.ax), .int .i64 (4 * s.ay), .int .i64 (4 * s.cx), .int .i64 (4 * s.cy)] rfl rfl (news_new wc _ _ _ (by simp)) (ints_one rfl) (by omega) (by unfold maxLen; omega) (by omega) (by simp; omega) _ rfl ?_))
        intro g9 cap9 w9 hown9 hgrow9 hor9 hlt9
        have hal : Below wc.heap.size wc (wc.alloc (.cells #[.int .i64 (4 * s.ax), .int .i64 (4 * s.ay), .int .i64 (4 * s.cx), .int .i64 (4 * s.cy)] 53)) := (Below.refl _ _).alloc (Nat.le_refl _) _
        have ho' : ∀ q, (Value.slice Ao m co).ownBlock = some q → w.heap.size ≤ q := fun q hq => (HO2.out.lt q hq).1
        have HB9 : Hid (Below w.heap.size w w9) := hide ((HB2.out.trans (hal.mono HB2.out.size)).grown hgrow9 (by have := HB2.out.size; simp; omega) (fun q hq => ho' q hq))
        have hx9 : (firstSg (x4) l m).flatMap encSg ++ [.int .i64 (4 * s.ax), .int .i64 (4 * s.ay), .int .i64 (4 * s.cx), .int .i64 (4 * s.cy)] = (firstSg (x4) l (m + 1)).flatMap encSg := by
          rw [firstSg_succ HS.out, List.flatMap_append]
          simp [encSg, x4]
        rw [hx9] at hown9
        have HO9 := hide hown9
        clear hown9 hgrow9 hor9 hlt9 hal ho' hx9 p0 p1 p2 p3 hg hh HB2 HO2
        go_wp2
        go_roundw
        case rel => exact ⟨m + 1, _, cap9, by omega, by go_num, rfl, HB9, HO9⟩
        case measure => simp [intOf]; omega
    · obtain rfl : m = l.length := by omega
      have mz : ¬ (l.length : Int) < (l.length : Int) := by omega
      have HMO := hide (x4_ok HNR.out)
      have HML : Hid ((l.map x4).length ≤ 12) := hide (by rw [List.length_map]; exact HL12.out)
      have HLP := hide (lop_made4 HNR.out)
      have HBK := hide (blocks_made4 HNR.out HL12.out)
      have HLN := hide (lop_nn l)
      have HLU : Hid (lopN l ≤ 100000) := hide (by
        have h1 := few35 (near_ok HNR.out) HL12.out
        have h2 := edges_len (htB l) (vtB l) (nodesF l)
        have h3 := (parts_bd (nodesF l).length (edgesF l)).2
        unfold lopN
        show ((edgesF l).length : Int) - (nodesF l).length + (((compF (nodesF l).length (edgesF l)).2 : Nat) : Int) ≤ 100000
        have h4 : (edgesF l).length ≤ 336 := by
          show (edgesG (htB l) (vtB l) (nodesF l)).length ≤ 336
          omega
        omega)
      have HMV := hide (show RdK encSg 4 wr wr.heap.size (.slice Ao l.length co) (l.map x4) from by
        have h := HO.out
        rw [firstSg_all] at h
        have e : (l.map x4).length = l.length := List.length_map _
        rw [← e] at h ⊢
        exact own_rd h (fun _ => rfl))
      clear HO HRC HNR hl12 hm mz
      obtain ⟨M, hM⟩ : ∃ M, l.map x4 = M := ⟨_, rfl⟩
      rw [hM] at HMO HML HLP HBK HMV
      clear hM
      go_wp2_with (fail)
      refine (make35_any HMV.out HMO.out HML.out).mono ?_
      rintro e v1 ⟨⟨n1, e1, rfl, hn, he⟩, hb⟩
      have HB2 := hide (HB.out.trans (hb.mono HB.out.size))
      have HN := hide hn
      have HE := hide he
      obtain ⟨An, cn, rfl, -⟩ := hn
      obtain ⟨Ae, ce, rfl, -⟩ := he
      clear hb HB HMV
      go_wp2_with (fail)
      refine calls_nm fun v2 hZ => ?_
      have hbz : Below v1.heap.size v1 v2 := by
        rw [hZ]
        exact (Below.refl _ _).alloc (Nat.le_refl _) _
      have X1 : Hid (NetAt v1.heap.size (.slice An (nodesF M).length cn) (.slice Ae (edI (edgesF M)).length ce) v2) := hide (by rw [hZ]; exact ⟨by simp, by simp [go_sem], by simp [go_sem]⟩)
      obtain ⟨g1, hg1⟩ : ∃ g, v1.heap.size = g := ⟨_, rfl⟩
      have HB3 := hide (HB2.out.trans (hbz.mono HB2.out.size))
      have HN2 := hide ((HN.out.below hbz).mono hbz.size)
      have HE2 := hide ((HE.out.below hbz).mono hbz.size)
      rw [hg1] at X1 ⊢
      clear hZ hbz hg1 HB2 HN HE
      have G := loops_made HMO.out HML.out HN2.out HE2.out
      rw [HLP.out] at G
      refine G.mono ?_
      clear G
      rintro e v3 ⟨rfl, hb⟩
      have HB4 := hide (HB3.out.trans (hb.mono HB3.out.size))
      have HN3 := hide ((HN2.out.below hb).mono hb.size)
      have HE3 := hide ((HE2.out.below hb).mono hb.size)
      have X2 := hide (X1.out.keep hb)
      clear hb HB3 HN2 HE2 X1
      obtain ⟨l1, f1, k1⟩ := X2.out
      obtain ⟨P, hP⟩ : ∃ P, blkF (nodesF M) (edI (edgesF M)) 1 land402 = P := ⟨_, rfl⟩
      have HBL := hide (fun (W : World) (nv ev va : Value) (hn : RdK encS 2 W W.heap.size nv (nodesF M)) (he : RdK encS 2 W W.heap.size ev (edI (edgesF M))) (ha : RdK encR 4 W W.heap.size va ([⟨-402, -402, 402, 402⟩] : List R4)) => (show Calls Tryz.prog 13 #[.agg #[nv, ev], .int .i64 1, va] W fun e w' => (∃ A c, e = .returned (.tuple #[.slice A P.1.length c, .int .i64 0])) ∧ Below W.heap.size W w' from by
        have h := blocks_any (d := 1) (land := land402) hn he ha (by unfold land402; decide)
        rw [hP] at h
        refine h.mono ?_
        rintro e w' ⟨hr, hb⟩
        obtain ⟨A, c, vs, h1, -⟩ := hr
        have h2 : P.2 = 0 := by rw [← hP]; exact HBK.out.1
        rw [h2] at h1
        exact ⟨⟨A, c, h1⟩, hb⟩))
      have hPL : (P.1.length : Int) = lopN l + 1 := by rw [← hP]; exact HBK.out.2
      have hln := HLN.out
      have hlu := HLU.out
      clear HBK HLP HLN HLU hP HMO HML HL12
      generalize lopN l = lp at *
      have y1 : decide (0 ≤ lp) = true := decide_eq_true hln
      have y2 : ((P.1.length : Int) == lp + 1) = true := by rw [hPL]; simp
      go_upto_region 11 with fail
      go_region_held3 (fun w' => w'.cell? ⟨g1, 0, none⟩ = some (.slice An (nodesF M).length cn) ∧ w'.cell? ⟨g1, 1, none⟩ = some (.slice Ae (edI (edgesF M)).length ce)) ((first | exact (let X := X2.out.keep (show Below v3.heap.size v3 _ from by have hbK := HB10.out; repeat (first | with_reducible exact Below.refl _ _ | with_reducible assumption | with_reducible refine Below.setCell ?_ (by first | omega | (simp; done) | (simp; omega)) _ | with_reducible refine Below.alloc ?_ (by first | omega | (simp; omega) | simp) _ | with_reducible refine Below.drew ?_)); ⟨X.2.1, X.2.2⟩) | exact (let X := X2.out.keep (show Below v3.heap.size v3 _ from by have hbK := HBQ.out; repeat (first | with_reducible exact Below.refl _ _ | with_reducible assumption | with_reducible refine Below.setCell ?_ (by first | omega | (simp; done) | (simp; omega)) _ | with_reducible refine Below.alloc ?_ (by first | omega | (simp; omega) | simp) _ | with_reducible refine Below.drew ?_)); ⟨X.2.1, X.2.2⟩) | exact (let X := X2.out.keep (show Below v3.heap.size v3 _ from by repeat (first | with_reducible exact Below.refl _ _ | with_reducible assumption | with_reducible refine Below.setCell ?_ (by first | omega | (simp; done) | (simp; omega)) _ | with_reducible refine Below.alloc ?_ (by first | omega | (simp; omega) | simp) _ | with_reducible refine Below.drew ?_)); ⟨X.2.1, X.2.2⟩)))
        (first
          | (go_at_call 24; refine (land_any (-402) 402 _).mono ?_; rintro e wq ⟨uq, rfl, hrq, hbq⟩; obtain ⟨Aq, cq, rfl, -⟩ := id hrq; have HRQ := hide hrq; have HBQ : Hid (Below v3.heap.size v3 wq) := hide (Below.trans (by repeat (first | with_reducible exact Below.refl _ _ | with_reducible assumption | with_reducible refine Below.setCell ?_ (by first | omega | (simp; done) | (simp; omega)) _ | with_reducible refine Below.alloc ?_ (by first | omega | (simp; omega) | simp) _ | with_reducible refine Below.drew ?_)) (hbq.mono (by simp <;> omega))); clear hrq; obtain ⟨hcq, hfq⟩ := bcell hbq; clear hbq)
          | (go_at_call 13; refine (HBL.out _ _ _ _ (rd_atE HN3.out (by have hbK := HBQ.out; repeat (first | with_reducible exact Below.refl _ _ | with_reducible assumption | with_reducible refine Below.setCell ?_ (by first | omega | (simp; done) | (simp; omega)) _ | with_reducible refine Below.alloc ?_ (by first | omega | (simp; omega) | simp) _ | with_reducible refine Below.drew ?_))) (rd_atE HE3.out (by have hbK := HBQ.out; repeat (first | with_reducible exact Below.refl _ _ | with_reducible assumption | with_reducible refine Below.setCell ?_ (by first | omega | (simp; done) | (simp; omega)) _ | with_reducible refine Below.alloc ?_ (by first | omega | (simp; omega) | simp) _ | with_reducible refine Below.drew ?_))) (rd_atE HRQ.out (by repeat (first | with_reducible exact Below.refl _ _ | with_reducible assumption | with_reducible refine Below.setCell ?_ (by first | omega | (simp; done) | (simp; omega)) _ | with_reducible refine Below.alloc ?_ (by first | omega | (simp; omega) | simp) _ | with_reducible refine Below.drew ?_)))).mono ?_; rintro e w10 ⟨⟨A10, c10, rfl⟩, hb10⟩; have HB10 : Hid (Below v3.heap.size v3 w10) := hide (Below.trans (by have hbK := HBQ.out; repeat (first | with_reducible exact Below.refl _ _ | with_reducible assumption | with_reducible refine Below.setCell ?_ (by first | omega | (simp; done) | (simp; omega)) _ | with_reducible refine Below.alloc ?_ (by first | omega | (simp; omega) | simp) _ | with_reducible refine Below.drew ?_)) (hb10.mono (by have := HBQ.out.size; simp <;> omega))); clear hb10))
      all_goals
        go_wp2_with (fail)
        refine (alive35_any _).mono ?_
        rintro e w11 ⟨rfl, hb⟩
        have HB11 := hide (HB10.out.trans (hb.mono HB10.out.size))
        clear hb
        go_wp2_with (fail)
        go_ret
        exact ⟨rfl, HB4.out.trans (HB11.out.mono HB4.out.size)⟩
set_option maxRecDepth 100000 in
set_option maxHeartbeats 8000000 in
theorem beuler_walk {w : World} {v : Value} {l : List Sg} (hr : RdK encSg 4 w w.heap.size v l) (nl : l.length ≤ maxLen) :
    Calls Tryz.prog 4 #[v] w fun e w' => e = .returned (.bool true) ∧ Below w.heap.size w w' := by
  have HV := hide (valid35_any hr nl)
  have HR := hide hr
  obtain ⟨A, c, rfl, hc⟩ := hr
  unfold maxLen at nl
  cases hv : val35 l with
  | false =>
    rw [hv] at HV
    clear hv hc
    go_enter Tryz.func4, Tryz.ntmps4
    go_wp2_with (fail)
    refine HV.out.mono ?_
    rintro e w1 ⟨rfl, hb⟩
    have HB := hide hb
    clear hb
    go_wp2_with (fail)
    refine (alive35_any _).mono ?_
    rintro e w2 ⟨rfl, hb⟩
    have HB2 := hide (HB.out.trans (hb.mono HB.out.size))
    clear hb HB
    go_wp2_with (fail)
    go_ret
    exact ⟨rfl, HB2.out⟩
  | true => exact beuler_main HR.out hv
end Go.Proofs.YtdolpeljengpaaaGreat

/- An argument that is a list of segments, read as such. -/
namespace Go.Proofs.YtdolpeljengpaaaGreat
open Go.ChangeShapes Go.WideShapes Go.ChangeAt Go.RowKit Go.Joins Go.Deep
set_option linter.unusedVariables false
set_option linter.unusedSimpArgs false

theorem point_fields : ∀ (j : Nat) (f : Field), (match Tryz.prog.underlying 51 with | some (.struct fs) => fs | _ => #[])[j]? = some f → Tryz.prog.underlying f.type = some (.int .i64) := by
  rw [Tryz.underlying51]
  intro j f hf
  match j, hf with
  | 0, hf => simp at hf; subst hf; exact Tryz.underlying3
  | 1, hf => simp at hf; subst hf; exact Tryz.underlying3
  | j + 2, hf => simp at hf
section
variable {H : Type} {enc : TypeId × Value → H} {w : World} {base : Nat} {spare : Nat → Bool} {held : Bool}
set_option maxRecDepth 100000 in
/-- The cells of a segment: four ints. -/
theorem trod_seg {n : Nat} {cs : List Value} {y : DataW H × List MemPlace} (hl : cs.length = 4) (h : DataW.trod enc Tryz.prog w base spare held n 53 cs = some y) : ∀ j, j < 4 → ∃ z : Int, cs[j]? = some (.int .i64 z) := by
  have h2 : Tryz.prog.cellsOf 51 = 2 := by kernel_rfl
  obtain ⟨y0, y1, m, _, _, hy0, hy1⟩ := trod_struct2 Tryz.underlying53 h
  simp only [h2] at hy0 hy1
  have hr := trod_int_fields Tryz.underlying51 (by kernel_rfl) point_fields (by simp [List.length_take]; omega) hy0
  have hs := trod_int_fields Tryz.underlying51 (by kernel_rfl) point_fields (by simp [List.length_take, List.length_drop]; omega) hy1
  obtain ⟨a, b, c, d, rfl⟩ : ∃ a b c d, cs = [a, b, c, d] := by
    match cs, hl with
    | [a, b, c, d], _ => exact ⟨a, b, c, d, rfl⟩
  obtain ⟨z1, e1⟩ := hr 0 (by decide)
  obtain ⟨z2, e2⟩ := hr 1 (by decide)
  obtain ⟨z3, e3⟩ := hs 0 (by decide)
  obtain ⟨z4, e4⟩ := hs 1 (by decide)
  simp at e1 e2 e3 e4
  subst e1 e2 e3 e4
  intro j hj
  match j, hj with
  | 0, _ => exact ⟨_, rfl⟩
  | 1, _ => exact ⟨_, rfl⟩
  | 2, _ => exact ⟨_, rfl⟩
  | 3, _ => exact ⟨_, rfl⟩
set_option maxRecDepth 100000 in
theorem trod_segs {v : Value} {d : DataW H} {p : List MemPlace} {r : Reach} {b0 : Nat} (hv : Value.okWide Tryz.prog w r b0 47 v) (h : DataW.Trod enc Tryz.prog w base spare held 47 v d p) :
    ∃ l : List Sg, RdK encSg 4 w w.heap.size v l ∧ l.length ≤ maxLen ∧ ∀ A n c, v = .slice A n c → n ≤ c := by
  obtain ⟨A, n, c, rfl⟩ := okWide_slice Tryz.underlying47 hv
  have hC : Tryz.prog.cellsOf 53 = 4 := by kernel_rfl
  obtain ⟨fuel, hf⟩ := h
  rcases open_slice Tryz.underlying47 hf with ⟨hcs, _⟩ | ⟨a, len, cap, m, nn, D, Pl, hcs, hb, hl, hm, hmm, hx, hi⟩
  · simp [Value.cells] at hcs
    obtain ⟨rfl, rfl, rfl⟩ := hcs
    exact ⟨[], ⟨none, 0, rfl, fun h => absurd rfl h⟩, by simp, fun A n c e => by injection e; omega⟩
  · simp [Value.cells] at hcs
    obtain ⟨rfl, rfl, rfl⟩ := hcs
    have hlm : n ≤ m := by rw [hmm]; split <;> omega
    have key : ∀ i, i < n → ∀ j, j < 4 → ∃ z : Int, w.cell? (a.add (i * 4 + j)) = some (.int .i64 z) := by
      intro i hin j hj
      obtain ⟨cs', hc, ht'⟩ := hi i (by omega)
      rw [hC] at hc
      obtain ⟨_, hcl, hat⟩ := World.cells?_some hc
      obtain ⟨z, hz⟩ := trod_seg hcl ht' j hj
      have := hat j hj
      rw [← Go.Deep.add_add, this, hz]
      exact ⟨z, rfl⟩
    obtain ⟨F, hF⟩ : ∃ F : Nat → Nat → Int, ∀ i, i < n → ∀ j, j < 4 → w.cell? (a.add (i * 4 + j)) = some (.int .i64 (F i j)) :=
      ⟨fun i j => if h : i < n ∧ j < 4 then Classical.choose (key i h.1 j h.2) else 0, fun i hi j hj => by
        simp only [dif_pos (And.intro hi hj)]
        exact Classical.choose_spec (key i hi j hj)⟩
    refine ⟨(List.range n).map fun i => ⟨F i 0, F i 1, F i 2, F i 3⟩, ⟨some a, c, by simp, fun hl => ?_⟩, by simp; omega, fun A n c e => by injection e; omega⟩
    have hn : 0 < n := by
      rcases Nat.eq_zero_or_pos n with h | h
      · subst h; exact absurd rfl hl
      · exact h
    have h0 := hF 0 hn 0 (by omega)
    have hadd0 : a.add (0 * 4 + 0) = a := by simp [Addr.add]
    rw [hadd0] at h0
    obtain ⟨b, off, sp⟩ := a
    have hsp : sp = none := by
      unfold World.cell? at h0
      cases sp with
      | none => rfl
      | some x => split at h0 <;> simp at h0
    subst hsp
    refine ⟨b, off, rfl, ?_, fun j x hj i u hu => ?_⟩
    · unfold World.cell? at h0
      split at h0
      · rename_i hh
        exact (Array.getElem?_eq_some_iff.1 hh).1
      · cases h0
    · have hjn : j < n := by have := (List.getElem?_eq_some_iff.1 hj).1; simpa using this
      rw [List.getElem?_map, List.getElem?_range hjn] at hj
      simp only [Option.map_some, Option.some.injEq] at hj
      subst hj
      have hi4 : i < 4 := (List.getElem?_eq_some_iff.1 hu).1
      have hz := hF j hjn i hi4
      have e1 : (⟨b, off, none⟩ : Addr).add (j * 4 + i) = ⟨b, off + j * 4 + i, none⟩ := by unfold Addr.add; split <;> simp_all [Nat.add_assoc]
      rw [← e1, hz]
      match i, hi4 with
      | 0, _ => exact hu
      | 1, _ => exact hu
      | 2, _ => exact hu
      | 3, _ => exact hu
end
end Go.Proofs.YtdolpeljengpaaaGreat
