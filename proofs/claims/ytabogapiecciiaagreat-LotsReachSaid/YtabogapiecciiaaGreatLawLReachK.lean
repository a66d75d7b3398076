/- The walk of the law LotsReach. -/
import Derived.Test.YtabogapiecciiaaGreatPk10
namespace Go.Proofs.YtabogapiecciiaaGreat
open Go.RowKit
set_option linter.unusedVariables false
set_option linter.unusedSimpArgs false

set_option maxRecDepth 100000 in
set_option maxHeartbeats 8000000 in
theorem reach36_walk {w : World} {vb v : Value} {bs : List (List R4)} {s : List R4} (hb : RdRR w w.heap.size vb bs) (hs : RdK encR 4 w w.heap.size v s) (p : Pl3) (nb : bs.length ≤ maxLen) (ns : s.length ≤ maxLen) (mb : ∀ b ∈ bs, b.length ≤ maxLen) :
    Calls Tryz.prog 6 #[vb, v, .agg (encP p).toArray] w fun e w' => e = .returned (.bool true) ∧ Below w.heap.size w w' := by
  have HW := hide (boxW_new w p 24)
  generalize hW : w.alloc (.cells #[.int .i64 p.mf, .int .i64 p.ms, .int .i64 p.ma] 24) = W at *
  have HV : Hid (∀ W : World, Below w.heap.size w W → Calls Tryz.prog 8 #[vb, v, .agg #[.int .i64 p.mf, .int .i64 p.ms, .int .i64 p.ma]] W fun e w' => ValidRet bs s p e ∧ Below W.heap.size W w') := hide (fun W hW => valid36_any ((hb.below hW).mono hW.size) ((hs.below hW).mono hW.size) p nb ns mb)
  have HL : Hid (OkAll bs s p → ∀ W : World, Below w.heap.size w W → Calls Tryz.prog 15 #[vb, v, .agg #[.int .i64 p.mf, .int .i64 p.ms, .int .i64 p.ma]] W (ParsRet W (lotsF bs s p))) := hide (fun h W hW => lots_any ((hb.below hW).mono hW.size) ((hs.below hW).mono hW.size) p (by have := h.len; omega) h.few h.ns)
  have HRE : Hid (checkF s = 0 → s.length ≤ 420 → ∀ x : Par6, okR x.l.r → 0 ≤ x.l.f → x.l.f ≤ 15 → ∀ W : World, Below w.heap.size w W → Calls Tryz.prog 24 #[.agg #[.int .i64 x.b, .int .i64 x.l.r.x0, .int .i64 x.l.r.y0, .int .i64 x.l.r.x1, .int .i64 x.l.r.y1, .int .u8 x.l.f], v] W fun e w' => e = .returned (.tuple #[.int .i64 (rchF x.l s), .int .i64 0]) ∧ Below W.heap.size W w') := hide (fun hc hn x hr f0 f1 W hW => by
    have := lReached_any x ⟨f0, by omega⟩ ((hs.below hW).mono hW.size) (by omega)
    rwa [show reachedF x.l s = (rchF x.l s, 0) by unfold reachedF; rw [if_neg (by rw [hc]; simp), if_pos ⟨hr, f1⟩]] at this)
  have HFR : Hid (checkF s = 0 → s.length ≤ 420 → ∀ r : R4, okR r → ∀ W : World, Below w.heap.size w W → Calls Tryz.prog 25 #[.agg #[.int .i64 r.x0, .int .i64 r.y0, .int .i64 r.x1, .int .i64 r.y1], v] W fun e w' => e = .returned (.tuple #[.int .u8 (frF r s), .int .i64 0]) ∧ Below W.heap.size W w') := hide (fun hc hn r hr W hW => by
    have := lFronts_any r ((hs.below hW).mono hW.size) (by omega)
    rwa [show frontsF r s = (frF r s, 0) by unfold frontsF; rw [if_neg (by rw [hc]; simp), if_pos hr]] at this)
  obtain ⟨As, cs, rfl, _⟩ := hs
  obtain ⟨Ab, cb, rfl, hbc⟩ := hb
  have HRB := hide hbc
  clear nb ns mb hbc
  generalize hn : w.heap.size = n at *
  have HN := hide hn
  have HSZ : Hid (∀ W : World, Below n w W → n ≤ W.heap.size) := hide (fun W h => by have := h.size; rw [HN.out] at this; exact this)
  show Calls Tryz.prog _ #[.slice Ab bs.length cb, .slice As s.length cs, .agg #[.int .i64 p.mf, .int .i64 p.ms, .int .i64 p.ma]] w _
  obtain ⟨p0, p1, p2⟩ := HW.out.box
  go_enter Tryz.func6, Tryz.ntmps6
  go_wp2_with (fail)
  refine (HV.out _ HW.out.below).mono ?_
  rintro e w1 ⟨⟨g, rfl, hg⟩, hb⟩
  have H1 := hide (HW.out.keep hb)
  clear hb hW hn HW HV p0 p1 p2
  cases g with
  | false =>
    clear hg
    go_wp2_with (fail)
    refine (alive36_any _).mono ?_
    rintro e w2 ⟨rfl, hb⟩
    have HB := hide (H1.out.keep hb).below
    clear hb H1
    go_wp2_with (fail)
    go_ret
    exact ⟨rfl, HB.out⟩
  | true =>
    have HV := hide (hg rfl)
    have HOK : Hid (LotsOk bs s p) := hide ⟨HV.out.chk, by have := HV.out.len; omega, bad_none fun j x hj hx => HV.out.all x (List.mem_of_getElem? hx), HV.out.ok⟩
    have G1 := hide (HL.out HV.out)
    clear hg HL
    obtain ⟨p0, p1, p2⟩ := H1.out.box
    by_cases hfit : fewF s p bs = true ∧ (pcA s p 0 bs).length ≤ 600
    · have heq : lotsF bs s p = (pcA s p 0 bs, 0) := by rw [HOK.out.eq, if_pos hfit]
      rw [heq] at G1
      have HFEW := hide hfit
      have HEL : Hid (∀ x ∈ pcA s p 0 bs, ∃ (j : Nat) (b : List R4) (r : R4), bs[j]? = some b ∧ x.b = (j : Int) ∧ r ∈ b ∧ okR r ∧ ofRect s p r x.l) := hide (fun x hx => by
        obtain ⟨j, b, hj, hxb, r, hr, hl⟩ := pcA_mem.1 hx
        have hck := HV.out.all b (List.mem_of_getElem? hj)
        have hok := (ok_valid r).2 ((checkF_ok hck).2.1 r hr)
        exact ⟨j, b, r, hj, by rw [hxb]; simp, hr, hok, rect_of hok HV.out.ok hl⟩)
      have hl6 : ((pcA s p 0 bs).length : Int) ≤ 600 := by have := hfit.2; omega

      clear heq hfit
      generalize hL : pcA s p 0 bs = L at *
      have HLL := hide hL
      clear hL
      go_wp2_with (fail)
      refine (G1.out _ H1.out.below).mono ?_
      rintro e w2 ⟨⟨A2, c2, rfl, ho⟩, hb⟩
      have HO := hide (rd_ownP ho)
      have H2 := hide (H1.out.keep hb)
      clear hb ho H1 G1 p0 p1 p2
      simp only at HO ⊢
      have hsn : n + 1 ≤ w2.heap.size := H2.out.size
      have HBW := hide H2.out.below
      have HPX := hide H2.out.box
      obtain ⟨A3, c3, e3, hrd⟩ := id HO.out
      injection e3 with eA eN eC
      subst eA
      subst eC
      have HRD := hide hrd
      clear hrd HO H2
      go_wp2_with (fail)
      go_loopw [9] (fun i wr => ∃ m : Nat, m ≤ L.length ∧ i = .int .i64 m ∧ Hid (Below w2.heap.size w2 wr)) (fun i _ => L.length - (intOf i).toNat)
      case atStart => exact ⟨0, Nat.zero_le _, rfl, hide (Below.refl _ _)⟩
      case round =>
        obtain ⟨i, hm, rfl, HB⟩ := hrel
        by_cases hlt : i < L.length
        · obtain ⟨x, hx⟩ : ∃ p, L[i]? = some p := ⟨_, List.getElem?_eq_getElem hlt⟩
          obtain ⟨b, o, rfl, hbl, kk⟩ := HRD.out (by intro e; rw [e] at hlt; simp at hlt)
          have HK := hide (kk i _ hx)
          have iz : (i : Int) < (L.length : Int) := by omega
          obtain ⟨jb, bb, rr, hjb, hxb, hrb, hro, hof⟩ := HEL.out x (List.mem_of_getElem? hx)
          obtain ⟨hxo, hf0, hf1, hre, hf⟩ := of_reach (check_rcan HV.out.chk).apart hro hof
          have HR1 := hide (HRE.out HV.out.chk HV.out.ns x hxo hf0 hf1)
          have HF1 := hide (HFR.out HV.out.chk HV.out.ns x.l.r hxo)
          rw [hre] at HR1
          have HSD := hide (fun W => sides36_any x.l hxo ⟨hf0, hf1⟩ W)
          have HX := hide hf
          have HXO := hide hxo
          have hff := fr_has x.l.r s
          have hf2 : x.l.f ≤ 255 := by omega
          obtain ⟨_, _, _, _, g0, g1⟩ := hff
          have g2 : frF x.l.r s ≤ 255 := by omega
          clear kk hx hjb hxb hrb hro hof hxo hre hf hf1 g1
          generalize frF x.l.r s = F at *
          generalize sidesF x.l = S at *
          have d0 : wr.cell? ⟨b, o + i * 6, none⟩ = some (.int .i64 x.b) := (HB.out.cell (p := ⟨b, _, none⟩) hbl).trans (HK.out 0 _ rfl)
          have d1 : wr.cell? ⟨b, o + i * 6 + 1, none⟩ = some (.int .i64 x.l.r.x0) := (HB.out.cell (p := ⟨b, _, none⟩) hbl).trans (HK.out 1 _ rfl)
          have d2 : wr.cell? ⟨b, o + i * 6 + 2, none⟩ = some (.int .i64 x.l.r.y0) := (HB.out.cell (p := ⟨b, _, none⟩) hbl).trans (HK.out 2 _ rfl)
          have d3 : wr.cell? ⟨b, o + i * 6 + 3, none⟩ = some (.int .i64 x.l.r.x1) := (HB.out.cell (p := ⟨b, _, none⟩) hbl).trans (HK.out 3 _ rfl)
          have d4 : wr.cell? ⟨b, o + i * 6 + 4, none⟩ = some (.int .i64 x.l.r.y1) := (HB.out.cell (p := ⟨b, _, none⟩) hbl).trans (HK.out 4 _ rfl)
          have d5 : wr.cell? ⟨b, o + i * 6 + 5, none⟩ = some (.int .u8 x.l.f) := (HB.out.cell (p := ⟨b, _, none⟩) hbl).trans (HK.out 5 _ rfl)
          go_wp2_with (fail)
          refine (HR1.out _ (HBW.out.trans (HB.out.mono (by have := hsn; omega)))).mono ?_
          rintro e w3 ⟨rfl, hb⟩
          have HB0 := hide (HB.out.trans (hb.mono HB.out.size))
          clear hb d0 d1 d2 d3 d4 d5 HB
          have HB := HB0
          clear HB0
          have d0 : w3.cell? ⟨b, o + i * 6, none⟩ = some (.int .i64 x.b) := (HB.out.cell (p := ⟨b, _, none⟩) hbl).trans (HK.out 0 _ rfl)
          have d1 : w3.cell? ⟨b, o + i * 6 + 1, none⟩ = some (.int .i64 x.l.r.x0) := (HB.out.cell (p := ⟨b, _, none⟩) hbl).trans (HK.out 1 _ rfl)
          have d2 : w3.cell? ⟨b, o + i * 6 + 2, none⟩ = some (.int .i64 x.l.r.y0) := (HB.out.cell (p := ⟨b, _, none⟩) hbl).trans (HK.out 2 _ rfl)
          have d3 : w3.cell? ⟨b, o + i * 6 + 3, none⟩ = some (.int .i64 x.l.r.x1) := (HB.out.cell (p := ⟨b, _, none⟩) hbl).trans (HK.out 3 _ rfl)
          have d4 : w3.cell? ⟨b, o + i * 6 + 4, none⟩ = some (.int .i64 x.l.r.y1) := (HB.out.cell (p := ⟨b, _, none⟩) hbl).trans (HK.out 4 _ rfl)
          have d5 : w3.cell? ⟨b, o + i * 6 + 5, none⟩ = some (.int .u8 x.l.f) := (HB.out.cell (p := ⟨b, _, none⟩) hbl).trans (HK.out 5 _ rfl)
          go_wp2_with (fail)
          refine (HF1.out _ (HBW.out.trans (HB.out.mono (by have := hsn; omega)))).mono ?_
          rintro e w4 ⟨rfl, hb⟩
          have HB0 := hide (HB.out.trans (hb.mono HB.out.size))
          clear hb d0 d1 d2 d3 d4 d5 HB
          have HB := HB0
          clear HB0
          have d0 : w4.cell? ⟨b, o + i * 6, none⟩ = some (.int .i64 x.b) := (HB.out.cell (p := ⟨b, _, none⟩) hbl).trans (HK.out 0 _ rfl)
          have d1 : w4.cell? ⟨b, o + i * 6 + 1, none⟩ = some (.int .i64 x.l.r.x0) := (HB.out.cell (p := ⟨b, _, none⟩) hbl).trans (HK.out 1 _ rfl)
          have d2 : w4.cell? ⟨b, o + i * 6 + 2, none⟩ = some (.int .i64 x.l.r.y0) := (HB.out.cell (p := ⟨b, _, none⟩) hbl).trans (HK.out 2 _ rfl)
          have d3 : w4.cell? ⟨b, o + i * 6 + 3, none⟩ = some (.int .i64 x.l.r.x1) := (HB.out.cell (p := ⟨b, _, none⟩) hbl).trans (HK.out 3 _ rfl)
          have d4 : w4.cell? ⟨b, o + i * 6 + 4, none⟩ = some (.int .i64 x.l.r.y1) := (HB.out.cell (p := ⟨b, _, none⟩) hbl).trans (HK.out 4 _ rfl)
          have d5 : w4.cell? ⟨b, o + i * 6 + 5, none⟩ = some (.int .u8 x.l.f) := (HB.out.cell (p := ⟨b, _, none⟩) hbl).trans (HK.out 5 _ rfl)
          go_wp2_with (fail)
          refine (HSD.out _).mono ?_
          rintro e w5 ⟨rfl, hb⟩
          have HB0 := hide (HB.out.trans (hb.mono HB.out.size))
          clear hb d0 d1 d2 d3 d4 d5 HB
          have HB := HB0
          clear HB0
          clear HR1 HF1 HSD
          go_wp2_with (fail)
          go_loopw [14] (fun t wr => ∃ m : Nat, m ≤ 4 ∧ t = .int .u8 (2 ^ m) ∧ Hid (Below w2.heap.size w2 wr)) (fun t _ => 16 - (intOf t).toNat)
          case atStart => exact ⟨0, Nat.zero_le _, rfl, HB⟩
          case round =>
            clear HB
            obtain ⟨m, hm4, rfl, HB⟩ := hrel
            have d0 : wr.cell? ⟨b, o + i * 6, none⟩ = some (.int .i64 x.b) := (HB.out.cell (p := ⟨b, _, none⟩) hbl).trans (HK.out 0 _ rfl)
            have d1 : wr.cell? ⟨b, o + i * 6 + 1, none⟩ = some (.int .i64 x.l.r.x0) := (HB.out.cell (p := ⟨b, _, none⟩) hbl).trans (HK.out 1 _ rfl)
            have d2 : wr.cell? ⟨b, o + i * 6 + 2, none⟩ = some (.int .i64 x.l.r.y0) := (HB.out.cell (p := ⟨b, _, none⟩) hbl).trans (HK.out 2 _ rfl)
            have d3 : wr.cell? ⟨b, o + i * 6 + 3, none⟩ = some (.int .i64 x.l.r.x1) := (HB.out.cell (p := ⟨b, _, none⟩) hbl).trans (HK.out 3 _ rfl)
            have d4 : wr.cell? ⟨b, o + i * 6 + 4, none⟩ = some (.int .i64 x.l.r.y1) := (HB.out.cell (p := ⟨b, _, none⟩) hbl).trans (HK.out 4 _ rfl)
            have d5 : wr.cell? ⟨b, o + i * 6 + 5, none⟩ = some (.int .u8 x.l.f) := (HB.out.cell (p := ⟨b, _, none⟩) hbl).trans (HK.out 5 _ rfl)
            have hm5 : m = 0 ∨ m = 1 ∨ m = 2 ∨ m = 3 ∨ m = 4 := by omega
            rcases hm5 with rfl | rfl | rfl | rfl | rfl
            · have HH := hide (fun W => rHasS_any (f := x.l.f) (s := 1) ⟨hf0, hf2⟩ (by simp [isSide]) W)
              have HH2 := hide (fun W => rHasS_any (f := F) (s := 1) ⟨g0, g2⟩ (by simp [isSide]) W)
              have HXm := hide HX.out.1
              clear HX
              cases hbm : hasS x.l.f 1 with
              | true =>
                have ht := HXm.out hbm
                rw [hbm] at HH
                rw [ht] at HH2
                go_wp2_with (fail)
                refine (HH.out _).mono ?_
                rintro e w7 ⟨rfl, hb⟩
                obtain rfl := hb
                go_wp2_with (fail)
                refine (HH2.out _).mono ?_
                rintro e w7 ⟨rfl, hb⟩
                obtain rfl := hb
                go_wp2_with (fail)
                go_roundw
                case rel => exact ⟨1, by omega, rfl, HB⟩
                case measure => simp [intOf]
              | false =>
                rw [hbm] at HH
                go_wp2_with (fail)
                refine (HH.out _).mono ?_
                rintro e w7 ⟨rfl, hb⟩
                obtain rfl := hb
                go_wp2_with (fail)
                go_roundw
                case rel => exact ⟨1, by omega, rfl, HB⟩
                case measure => simp [intOf]
            · have HH := hide (fun W => rHasS_any (f := x.l.f) (s := 2) ⟨hf0, hf2⟩ (by simp [isSide]) W)
              have HH2 := hide (fun W => rHasS_any (f := F) (s := 2) ⟨g0, g2⟩ (by simp [isSide]) W)
              have HXm := hide HX.out.2.1
              clear HX
              cases hbm : hasS x.l.f 2 with
              | true =>
                have ht := HXm.out hbm
                rw [hbm] at HH
                rw [ht] at HH2
                go_wp2_with (fail)
                refine (HH.out _).mono ?_
                rintro e w7 ⟨rfl, hb⟩
                obtain rfl := hb
                go_wp2_with (fail)
                refine (HH2.out _).mono ?_
                rintro e w7 ⟨rfl, hb⟩
                obtain rfl := hb
                go_wp2_with (fail)
                go_roundw
                case rel => exact ⟨2, by omega, rfl, HB⟩
                case measure => simp [intOf]
              | false =>
                rw [hbm] at HH
                go_wp2_with (fail)
                refine (HH.out _).mono ?_
                rintro e w7 ⟨rfl, hb⟩
                obtain rfl := hb
                go_wp2_with (fail)
                go_roundw
                case rel => exact ⟨2, by omega, rfl, HB⟩
                case measure => simp [intOf]
            · have HH := hide (fun W => rHasS_any (f := x.l.f) (s := 4) ⟨hf0, hf2⟩ (by simp [isSide]) W)
              have HH2 := hide (fun W => rHasS_any (f := F) (s := 4) ⟨g0, g2⟩ (by simp [isSide]) W)
              have HXm := hide HX.out.2.2.1
              clear HX
              cases hbm : hasS x.l.f 4 with
              | true =>
                have ht := HXm.out hbm
                rw [hbm] at HH
                rw [ht] at HH2
                go_wp2_with (fail)
                refine (HH.out _).mono ?_
                rintro e w7 ⟨rfl, hb⟩
                obtain rfl := hb
                go_wp2_with (fail)
                refine (HH2.out _).mono ?_
                rintro e w7 ⟨rfl, hb⟩
                obtain rfl := hb
                go_wp2_with (fail)
                go_roundw
                case rel => exact ⟨3, by omega, rfl, HB⟩
                case measure => simp [intOf]
              | false =>
                rw [hbm] at HH
                go_wp2_with (fail)
                refine (HH.out _).mono ?_
                rintro e w7 ⟨rfl, hb⟩
                obtain rfl := hb
                go_wp2_with (fail)
                go_roundw
                case rel => exact ⟨3, by omega, rfl, HB⟩
                case measure => simp [intOf]
            · have HH := hide (fun W => rHasS_any (f := x.l.f) (s := 8) ⟨hf0, hf2⟩ (by simp [isSide]) W)
              have HH2 := hide (fun W => rHasS_any (f := F) (s := 8) ⟨g0, g2⟩ (by simp [isSide]) W)
              have HXm := hide HX.out.2.2.2
              clear HX
              cases hbm : hasS x.l.f 8 with
              | true =>
                have ht := HXm.out hbm
                rw [hbm] at HH
                rw [ht] at HH2
                go_wp2_with (fail)
                refine (HH.out _).mono ?_
                rintro e w7 ⟨rfl, hb⟩
                obtain rfl := hb
                go_wp2_with (fail)
                refine (HH2.out _).mono ?_
                rintro e w7 ⟨rfl, hb⟩
                obtain rfl := hb
                go_wp2_with (fail)
                go_roundw
                case rel => exact ⟨4, by omega, rfl, HB⟩
                case measure => simp [intOf]
              | false =>
                rw [hbm] at HH
                go_wp2_with (fail)
                refine (HH.out _).mono ?_
                rintro e w7 ⟨rfl, hb⟩
                obtain rfl := hb
                go_wp2_with (fail)
                go_roundw
                case rel => exact ⟨4, by omega, rfl, HB⟩
                case measure => simp [intOf]
            · clear d0 d1 d2 d3 d4 d5
              go_wp2_with (fail)
              go_roundw
              case rel => exact ⟨i + 1, by omega, by go_num, HB⟩
              case measure => simp [intOf]; omega
        · obtain rfl : i = L.length := by omega
          go_wp2_with (fail)
          refine (alive36_any _).mono ?_
          rintro e w3 ⟨rfl, hb⟩
          have HBE := hide (HBW.out.trans ((HB.out.trans (hb.mono HB.out.size)).mono (by have := hsn; omega)))
          clear hb HB
          go_wp2_with (fail)
          go_ret
          exact ⟨rfl, HBE.out⟩
    · have heq : lotsF bs s p = ([], 4) := by rw [HOK.out.eq, if_neg hfit]
      rw [heq] at G1
      clear heq hfit
      go_wp2_with (fail)
      refine (G1.out _ H1.out.below).mono ?_
      rintro e w2 ⟨⟨A2, c2, rfl, ho⟩, hb⟩
      have H2 := hide (H1.out.keep hb)
      clear hb ho H1 G1 p0 p1 p2
      go_wp2_with (fail)
      refine (alive36_any _).mono ?_
      rintro e w3 ⟨rfl, hb⟩
      have HB := hide (H2.out.keep hb).below
      clear hb H2
      go_wp2_with (fail)
      go_ret
      exact ⟨rfl, HB.out⟩
end Go.Proofs.YtabogapiecciiaaGreat
