/- The walk of the law LotsFill. -/
import Derived.Test.YtabogapiecciiaaGreatPk10
namespace Go.Proofs.YtabogapiecciiaaGreat
open Go.RowKit
set_option linter.unusedVariables false
set_option linter.unusedSimpArgs false

set_option maxRecDepth 100000 in
set_option maxHeartbeats 8000000 in
theorem fill36_walk {w : World} {vb v : Value} {bs : List (List R4)} {s : List R4} (hb : RdRR w w.heap.size vb bs) (hs : RdK encR 4 w w.heap.size v s) (p : Pl3) (nb : bs.length ≤ maxLen) (ns : s.length ≤ maxLen) (mb : ∀ b ∈ bs, b.length ≤ maxLen) :
    Calls Tryz.prog 5 #[vb, v, .agg (encP p).toArray] w fun e w' => e = .returned (.bool true) ∧ Below w.heap.size w w' := by
  have HW := hide (boxW_new w p 24)
  generalize hW : w.alloc (.cells #[.int .i64 p.mf, .int .i64 p.ms, .int .i64 p.ma] 24) = W at *
  have HV : Hid (∀ W : World, Below w.heap.size w W → Calls Tryz.prog 8 #[vb, v, .agg #[.int .i64 p.mf, .int .i64 p.ms, .int .i64 p.ma]] W fun e w' => ValidRet bs s p e ∧ Below W.heap.size W w') := hide (fun W hW => valid36_any ((hb.below hW).mono hW.size) ((hs.below hW).mono hW.size) p nb ns mb)
  have HL : Hid (OkAll bs s p → ∀ W : World, Below w.heap.size w W → Calls Tryz.prog 15 #[vb, v, .agg #[.int .i64 p.mf, .int .i64 p.ms, .int .i64 p.ma]] W (ParsRet W (lotsF bs s p))) := hide (fun h W hW => lots_any ((hb.below hW).mono hW.size) ((hs.below hW).mono hW.size) p (by have := h.len; omega) h.few h.ns)
  have HARQ : Hid (∀ r : R4, okR r → ∀ W : World, Calls Tryz.prog 18 #[.agg #[.int .i64 r.x0, .int .i64 r.y0, .int .i64 r.x1, .int .i64 r.y1]] W fun e w' => e = .returned (.int .i64 (arQ r)) ∧ Below W.heap.size W w') := hide (fun r hr W => rArea_mid r (ok_mid hr) ⟨hr.1, hr.2.1⟩ W)
  obtain ⟨i1, gi, gz0, gz1, gz2⟩ := info_parts infoRc
  obtain ⟨As, cs, rfl, _⟩ := hs
  obtain ⟨Ab, cb, rfl, hbc⟩ := hb
  have HRB := hide hbc
  clear nb ns mb hbc
  generalize hn : w.heap.size = n at *
  have HN := hide hn
  have HSZ : Hid (∀ W : World, Below n w W → n ≤ W.heap.size) := hide (fun W h => by have := h.size; rw [HN.out] at this; exact this)
  show Calls Tryz.prog _ #[.slice Ab bs.length cb, .slice As s.length cs, .agg #[.int .i64 p.mf, .int .i64 p.ms, .int .i64 p.ma]] w _
  obtain ⟨p0, p1, p2⟩ := HW.out.box
  go_enter Tryz.func5, Tryz.ntmps5
  go_wp2_with (fail)
  refine (HV.out _ HW.out.below).mono ?_
  rintro e w1 ⟨⟨g, rfl, hg⟩, hb⟩
  have H1 := hide (HW.out.keep hb)
  clear hb hW hn HW HV p0 p1 p2
  cases g with
  | false =>
    clear hg
    go_wp2_with (fail)
    refine (alive36_any _).mono ?_
    rintro e w2 ⟨rfl, hb⟩
    have HB := hide (H1.out.keep hb).below
    clear hb H1
    go_wp2_with (fail)
    go_ret
    exact ⟨rfl, HB.out⟩
  | true =>
    have HV := hide (hg rfl)
    have HOK : Hid (LotsOk bs s p) := hide ⟨HV.out.chk, by have := HV.out.len; omega, bad_none fun j x hj hx => HV.out.all x (List.mem_of_getElem? hx), HV.out.ok⟩
    have G1 := hide (HL.out HV.out)
    clear hg HL
    obtain ⟨p0, p1, p2⟩ := H1.out.box
    by_cases hfit : fewF s p bs = true ∧ (pcA s p 0 bs).length ≤ 600
    · have heq : lotsF bs s p = (pcA s p 0 bs, 0) := by rw [HOK.out.eq, if_pos hfit]
      rw [heq] at G1
      have HFEW := hide hfit
      have HEL : Hid (∀ x ∈ pcA s p 0 bs, ∃ (j : Nat) (b : List R4) (r : R4), bs[j]? = some b ∧ x.b = (j : Int) ∧ r ∈ b ∧ okR r ∧ ofRect s p r x.l) := hide (fun x hx => by
        obtain ⟨j, b, hj, hxb, r, hr, hl⟩ := pcA_mem.1 hx
        have hck := HV.out.all b (List.mem_of_getElem? hj)
        have hok := (ok_valid r).2 ((checkF_ok hck).2.1 r hr)
        exact ⟨j, b, r, hj, by rw [hxb]; simp, hr, hok, rect_of hok HV.out.ok hl⟩)
      have hl6 : ((pcA s p 0 bs).length : Int) ≤ 600 := by have := hfit.2; omega
      have HPB : Hid (∀ (m : Nat) (b : List R4), bs[m]? = some b → (pcA s p 0 (bs.take (m + 1))).length = (pcA s p 0 (bs.take m)).length + (pcB s p m b).length ∧ (pcB s p m b).length ≤ 600 ∧ (pcA s p 0 (bs.take m)).length + (pcB s p m b).length ≤ (pcA s p 0 bs).length ∧
          (∀ j, j < (pcB s p m b).length → (pcA s p 0 bs)[(pcA s p 0 (bs.take m)).length + j]? = (pcB s p m b)[j]?) ∧ (∀ x, (pcA s p 0 bs)[(pcA s p 0 (bs.take m)).length + (pcB s p m b).length]? = some x → x.b ≠ m)) := hide (fun m b hb => by
        have h1 := pcA_at s p hb
        have h2 := pcA_le s p hb b.length
        rw [List.take_length] at h2
        refine ⟨by rw [h1, List.length_append], by have := hfit.2; omega, h2, fun j hj => pcA_in s p hb hj, fun x hx => pcA_out s p hb hx⟩)
      have HTOT : Hid (∀ m, m = bs.length → (pcA s p 0 (bs.take m)).length = (pcA s p 0 bs).length) := hide (fun m hm => by rw [hm, List.take_length])
      have HFB : Hid (∀ (m : Nat) (b : List R4), bs[m]? = some b → checkF b = 0 ∧ (∀ r ∈ b, okR r) ∧ ∀ r ∈ b, (rectR s p r).2 = 0) := hide (fun m b hb => by
        have hm := List.mem_of_getElem? hb
        have hck := HV.out.all b hm
        refine ⟨hck, fun r hr => (ok_valid r).2 ((checkF_ok hck).2.1 r hr), fun r hr => ?_⟩
        have h := hfit.1
        unfold fewF at h
        have h1 := List.all_eq_true.1 h b hm
        exact of_decide_eq_true (List.all_eq_true.1 h1 r hr))
      clear heq hfit
      generalize hL : pcA s p 0 bs = L at *
      have HLL := hide hL
      clear hL
      go_wp2_with (fail)
      refine (G1.out _ H1.out.below).mono ?_
      rintro e w2 ⟨⟨A2, c2, rfl, ho⟩, hb⟩
      have HO := hide (rd_ownP ho)
      have H2 := hide (H1.out.keep hb)
      clear hb ho H1 G1 p0 p1 p2
      simp only at HO ⊢
      have hsn : n + 1 ≤ w2.heap.size := H2.out.size
      have HBW := hide H2.out.below
      have HPX := hide H2.out.box
      obtain ⟨A3, c3, e3, hrd⟩ := id HO.out
      injection e3 with eA eN eC
      subst eA
      subst eC
      have HRD := hide hrd
      clear hrd HO H2
      go_wp2_with (fail)
      generalize hNA : (fun m => (pcA s p 0 (bs.take m)).length) = NA at *
      have hNA' : ∀ m, (pcA s p 0 (bs.take m)).length = NA m := fun m => by rw [← hNA]
      have HN0 : Hid (NA 0 = 0) := hide (by rw [← hNA]; rfl)
      simp only [hNA'] at HPB HTOT
      clear hNA hNA'
      have HN0' : Hid ((NA 0 : Int) = 0) := hide (by rw [HN0.out]; rfl)
      go_loopw [9, 10] (fun at0 i wr => ∃ m : Nat, m ≤ bs.length ∧ NA m ≤ L.length ∧ i = .int .i64 m ∧ at0 = .int .i64 (NA m) ∧ Hid (Below w2.heap.size w2 wr)) (fun _ i _ => bs.length - (intOf i).toNat)
      case atStart => exact ⟨0, Nat.zero_le _, by rw [HN0.out]; exact Nat.zero_le _, rfl, by rw [HN0'.out], hide (Below.refl _ _)⟩
      case round =>
        obtain ⟨m, hm, hnm, rfl, rfl, HB⟩ := hrel
        have hbs6 : (bs.length : Int) ≤ 6 := by have := HV.out.len; omega
        by_cases hlt : m < bs.length
        · obtain ⟨bk, hbk⟩ : ∃ q, bs[m]? = some q := ⟨_, List.getElem?_eq_getElem hlt⟩
          obtain ⟨h1, h2, h3, h4, h5⟩ := HPB.out m bk hbk
          obtain ⟨f1, f2, f3⟩ := HFB.out m bk hbk
          have HM1 := hide h1
          have HIN := hide h4
          have HOU := hide h5
          have HMK := hide (fun h => block_make (s := s) (p := p) (k := m) f1 f2 HV.out.ok f3 h)
          have HAR := hide (block_area (s := s) (p := p) (k := m) HV.out.ok f2 f3)
          have HTK := hide (block_take (s := s) (p := p) (k := m) f2 HV.out.ok h2)
          have HBO := hide (block_ok (s := s) (p := p) (k := m) f2 HV.out.ok)
          have HCB := hide f1
          have hbk4 := (checkF_ok f1).1
          have HBK := hide hbk
          have mz : (m : Int) < (bs.length : Int) := by omega
          have hnmz : (NA m : Int) ≤ (L.length : Int) := by omega
          clear h1 h4 h5 f1 f2 f3 hbk
          have HXB : Hid (∀ x ∈ pcB s p m bk, x.b = (m : Int)) := hide (fun x hx => (pcB_mem.1 hx).1)
          generalize pcB s p m bk = B at *
          have h2z : (B.length : Int) ≤ 600 := by omega
          have h3z : (NA m : Int) + (B.length : Int) ≤ (L.length : Int) := by omega
          go_wp2_with (fail)
          go_loopw [9, 11, 12] (fun at0 rv ar wr => ∃ (j : Nat) (A : Option Addr) (c : Nat), j ≤ B.length ∧ at0 = .int .i64 ((NA m + j : Nat) : Int) ∧ rv = .slice A j c ∧ ar = .int .i64 (((B.take j).map fun q => arQ q.l.r).sum) ∧ Hid (wr.ownsRow w2.heap.size 54 4 (.slice A j c) j (((B.take j).map fun q => q.l.r).flatMap encR)) ∧ Hid (Below w2.heap.size w2 wr)) (fun at0 _ _ _ => L.length + 1 - (intOf at0).toNat)
          case atStart => exact ⟨0, none, 0, Nat.zero_le _, by rw [Nat.add_zero], rfl, by simp, hide (by simpa using World.ownsRow_nil _ _ _ _), HB⟩
          case round =>
            clear HB
            obtain ⟨j, A, c, hj, rfl, rfl, rfl, HR, HB⟩ := hrel
            have hsw := HB.out.size
            by_cases hjl : j < B.length
            · obtain ⟨x, hx⟩ : ∃ q, B[j]? = some q := ⟨_, List.getElem?_eq_getElem hjl⟩
              have hLx : L[NA m + j]? = some x := by rw [HIN.out j hjl]; exact hx
              have hlt2 : NA m + j < L.length := (List.getElem?_eq_some_iff.1 hLx).1
              obtain ⟨b, o, rfl, hbl, kk⟩ := HRD.out (by intro e; rw [e] at hlt2; simp at hlt2)
              generalize hi : NA m + j = i at *
              have HK := hide (kk i _ hLx)
              have iz : (i : Int) < (L.length : Int) := by omega
              have hxb : x.b = (m : Int) := HXB.out x (List.mem_of_getElem? hx)
              have HXR := HBO.out x (List.mem_of_getElem? hx)
              have HAX := hide (HARQ.out x.l.r HXR.1)
              have hax := arQ_bd HXR.1
              obtain ⟨hax1, hax2⟩ := hax
              have hs1 := HTK.out j
              have hs2 := HTK.out (j + 1)
              have HST : Hid (((B.take (j + 1)).map fun q => arQ q.l.r).sum = ((B.take j).map fun q => arQ q.l.r).sum + arQ x.l.r) := hide (sumQ_at hx)
              have HMT : Hid (((B.take (j + 1)).map fun q => q.l.r) = ((B.take j).map fun q => q.l.r) ++ [x.l.r]) := hide (by rw [List.take_add_one, hx]; simp)
              obtain ⟨hs3, hs4⟩ := hs1
              have HI := hide hi
              clear kk hx hLx HXR hi hs2
              generalize arQ x.l.r = ax at *
              generalize ((B.take j).map fun q => arQ q.l.r).sum = sj at *
              have hjz : j ≤ 600 := by omega
              have d0 : wr.cell? ⟨b, o + i * 6, none⟩ = some (.int .i64 x.b) := (HB.out.cell (p := ⟨b, _, none⟩) hbl).trans (HK.out 0 _ rfl)
              have d1 : wr.cell? ⟨b, o + i * 6 + 1, none⟩ = some (.int .i64 x.l.r.x0) := (HB.out.cell (p := ⟨b, _, none⟩) hbl).trans (HK.out 1 _ rfl)
              have d2 : wr.cell? ⟨b, o + i * 6 + 2, none⟩ = some (.int .i64 x.l.r.y0) := (HB.out.cell (p := ⟨b, _, none⟩) hbl).trans (HK.out 2 _ rfl)
              have d3 : wr.cell? ⟨b, o + i * 6 + 3, none⟩ = some (.int .i64 x.l.r.x1) := (HB.out.cell (p := ⟨b, _, none⟩) hbl).trans (HK.out 3 _ rfl)
              have d4 : wr.cell? ⟨b, o + i * 6 + 4, none⟩ = some (.int .i64 x.l.r.y1) := (HB.out.cell (p := ⟨b, _, none⟩) hbl).trans (HK.out 4 _ rfl)
              have d5 : wr.cell? ⟨b, o + i * 6 + 5, none⟩ = some (.int .u8 x.l.f) := (HB.out.cell (p := ⟨b, _, none⟩) hbl).trans (HK.out 5 _ rfl)
              go_wp2_with (at_builtin; go_loud (refine wpList_append_lies _ rfl (.tmp 56) (.tmp 63) 39 rfl w2.heap.size 54 i1 (.agg #[.int .i64 0, .int .i64 0, .int .i64 0, .int .i64 0]) 4 32 Tryz.underlying39 gi gz0 gz1 gz2 rfl (by decide) _ j _ rfl (World.ownsRow.alloc HR.out _) ⟨wr.heap.size, 0, none⟩ 1 1 [.int .i64 x.l.r.x0, .int .i64 x.l.r.y0, .int .i64 x.l.r.x1, .int .i64 x.l.r.y1] rfl rfl (news_new wr _ _ _ rfl) (ints_one rfl) (by omega) (by unfold maxLen; omega) (by omega) (by simp; omega) _ rfl ?_))
              intro g2 cp2 w9 hown hgrow hg2 hlt9
              have HB9 : Hid (Below w2.heap.size w2 w9) := hide ((HB.out.alloc hsw _).grown hgrow (by simp; omega) (fun q hq => (HR.out.lt q hq).1))
              have HR9 : Hid (w9.ownsRow w2.heap.size 54 4 (.slice (some ⟨g2, 0, none⟩) (j + 1) cp2) (j + 1) (((B.take (j + 1)).map fun q => q.l.r).flatMap encR)) := hide (by rw [HMT.out, List.flatMap_append, List.map_take]; exact hown)
              have hs9 := HB9.out.size
              clear hown hgrow hg2 hlt9 d0 d1 d2 d3 d4 d5 HB HR
              have HB := HB9
              clear HB9
              have d0 : w9.cell? ⟨b, o + i * 6, none⟩ = some (.int .i64 x.b) := (HB.out.cell (p := ⟨b, _, none⟩) hbl).trans (HK.out 0 _ rfl)
              have d1 : w9.cell? ⟨b, o + i * 6 + 1, none⟩ = some (.int .i64 x.l.r.x0) := (HB.out.cell (p := ⟨b, _, none⟩) hbl).trans (HK.out 1 _ rfl)
              have d2 : w9.cell? ⟨b, o + i * 6 + 2, none⟩ = some (.int .i64 x.l.r.y0) := (HB.out.cell (p := ⟨b, _, none⟩) hbl).trans (HK.out 2 _ rfl)
              have d3 : w9.cell? ⟨b, o + i * 6 + 3, none⟩ = some (.int .i64 x.l.r.x1) := (HB.out.cell (p := ⟨b, _, none⟩) hbl).trans (HK.out 3 _ rfl)
              have d4 : w9.cell? ⟨b, o + i * 6 + 4, none⟩ = some (.int .i64 x.l.r.y1) := (HB.out.cell (p := ⟨b, _, none⟩) hbl).trans (HK.out 4 _ rfl)
              have d5 : w9.cell? ⟨b, o + i * 6 + 5, none⟩ = some (.int .u8 x.l.f) := (HB.out.cell (p := ⟨b, _, none⟩) hbl).trans (HK.out 5 _ rfl)
              go_wp2_with (fail)
              refine (HAX.out _).mono ?_
              rintro e w10 ⟨rfl, hb⟩
              have HB10 : Hid (Below w2.heap.size w2 w10) := hide (HB.out.trans (hb.mono hs9))
              have HR10 := hide (own_below HR9.out hb)
              clear hb d0 d1 d2 d3 d4 d5 HB HR9
              go_wp2_with (fail)
              go_roundw
              case rel => exact ⟨j + 1, _, cp2, by omega, by rw [← Nat.add_assoc, HI.out]; go_num, rfl, by rw [HST.out], HR10, HB10⟩
              case measure => simp [intOf]; omega
            · obtain rfl : j = B.length := by omega
              rw [List.take_length] at HR
              have HAR2 : Hid (((B.take B.length).map fun q => arQ q.l.r).sum = areaS bk) := hide (by rw [List.take_length]; exact HAR.out)
              rw [HAR2.out]
              obtain ⟨g, og, rfl, hbl, k⟩ := HRB.out (by intro e; rw [e] at hlt; simp at hlt)
              obtain ⟨u, d8, hu⟩ := k m _ HBK.out
              have HU := hide hu
              obtain ⟨Ax, cx, rfl, _⟩ := hu
              have hwn : Below n w wr := HBW.out.trans (HB.out.mono (by have := hsn; omega))
              have d8 := (hwn.cell (p := ⟨g, og + m, none⟩) hbl).trans d8
              have HN1 : Hid ((NA m + B.length : Nat) = NA (m + 1)) := hide HM1.out.symm
              have hareas : 0 ≤ areaS bk := by rw [← HAR.out]; have := (HTK.out B.length).1; rwa [List.take_length] at this
              clear k HIN HTK HAR HAR2
              by_cases h4 : B.length ≤ 400
              · have h4z : (B.length : Int) ≤ 400 := by omega
                have HMKC : Hid (∀ W : World, W.ownsRow w2.heap.size 54 4 (.slice A B.length c) B.length ((B.map fun q => q.l.r).flatMap encR) → Calls Tryz.prog 22 #[.slice A B.length c] W fun e w' => RegRet W.heap.size (bk, 0) e w' ∧ Below W.heap.size W w') := hide (fun W h => by
                  have hr : RdK encR 4 W W.heap.size (.slice A B.length c) (B.map fun q => q.l.r) := own_rd (own_n h (by simp)) (fun _ => rfl)
                  have := make_any hr (by simp; omega)
                  rwa [HMK.out h4] at this)
                have HARC : Hid (∀ W : World, Below n w W → Calls Tryz.prog 16 #[.slice Ax bk.length cx] W fun e w' => e = .returned (.tuple #[.int .i64 (areaS bk), .int .i64 0]) ∧ Below W.heap.size W w') := hide (fun W hW => by
                  have := area_any ((HU.out.below hW).mono (HSZ.out _ hW)) (by omega)
                  rwa [show areaF bk = (areaS bk, 0) from if_pos HCB.out] at this)
                clear h4
                by_cases hend : NA m + B.length < L.length
                · obtain ⟨x, hx⟩ : ∃ q, L[NA m + B.length]? = some q := ⟨_, List.getElem?_eq_getElem hend⟩
                  have hxm := HOU.out x hx
                  obtain ⟨b, o, rfl, hbl7, kk⟩ := HRD.out (by intro e; rw [e] at hend; simp at hend)
                  have hez : ((NA m + B.length : Nat) : Int) < (L.length : Int) := by omega
                  have d7 : wr.cell? ⟨b, o + (NA m + B.length) * 6, none⟩ = some (.int .i64 x.b) := (HB.out.cell (p := ⟨b, _, none⟩) hbl7).trans (kk _ _ hx 0 _ rfl)
                  have hxe : (x.b == (m : Int)) = false := by simpa using hxm
                  clear kk hx hxm
                  go_wp2_with (fail)
                  refine (HMKC.out _ HR.out).mono ?_
                  rintro e w4 ⟨⟨A4, c4, rfl, ho⟩, hb⟩
                  have HO4 := hide (own_rd ho (fun _ => rfl))
                  have HB4 := hide (HB.out.trans (hb.mono HB.out.size))
                  have d8 := (hb.cell (p := ⟨g, og + m, none⟩) (Nat.lt_of_lt_of_le hbl (HSZ.out _ hwn))).trans d8
                  have hwn4 := hide (hwn.trans (hb.mono (HSZ.out _ hwn)))
                  clear hb ho HB HR hwn HMKC
                  simp only at HO4 ⊢
                  go_wp2_with (fail)
                  refine (HARC.out _ hwn4.out).mono ?_
                  rintro e w5 ⟨rfl, hb⟩
                  have HO5 := hide ((HO4.out.below hb).mono hb.size)
                  have HB5 := hide (HB4.out.trans (hb.mono HB4.out.size))
                  have hwn5 := hide (hwn4.out.trans (hb.mono (HSZ.out _ hwn4.out)))
                  have d8 := (hb.cell (p := ⟨g, og + m, none⟩) (Nat.lt_of_lt_of_le hbl (HSZ.out _ hwn4.out))).trans d8
                  clear hb HO4 HB4 hwn4 HARC
                  have HS := hide (same_any HO5.out ((HU.out.below hwn5.out).mono (HSZ.out _ hwn5.out)) (by omega))
                  rw [decide_eq_true (rfl : bk = bk)] at HS
                  go_wp2_with (fail)
                  refine HS.out.mono ?_
                  rintro e w6 ⟨rfl, hb⟩
                  have HB6 := hide (HB5.out.trans (hb.mono HB5.out.size))
                  clear hb HO5 HB5 hwn5 HS d8
                  go_wp2_with (fail)
                  go_roundw
                  case rel => exact ⟨m + 1, by omega, by rw [← HN1.out]; omega, by go_num, by rw [← HN1.out]; go_num, HB6⟩
                  case measure => simp [intOf]; omega
                · have hez : ¬ ((NA m + B.length : Nat) : Int) < (L.length : Int) := by omega
                  go_wp2_with (fail)
                  refine (HMKC.out _ HR.out).mono ?_
                  rintro e w4 ⟨⟨A4, c4, rfl, ho⟩, hb⟩
                  have HO4 := hide (own_rd ho (fun _ => rfl))
                  have HB4 := hide (HB.out.trans (hb.mono HB.out.size))
                  have d8 := (hb.cell (p := ⟨g, og + m, none⟩) (Nat.lt_of_lt_of_le hbl (HSZ.out _ hwn))).trans d8
                  have hwn4 := hide (hwn.trans (hb.mono (HSZ.out _ hwn)))
                  clear hb ho HB HR hwn HMKC
                  simp only at HO4 ⊢
                  go_wp2_with (fail)
                  refine (HARC.out _ hwn4.out).mono ?_
                  rintro e w5 ⟨rfl, hb⟩
                  have HO5 := hide ((HO4.out.below hb).mono hb.size)
                  have HB5 := hide (HB4.out.trans (hb.mono HB4.out.size))
                  have hwn5 := hide (hwn4.out.trans (hb.mono (HSZ.out _ hwn4.out)))
                  have d8 := (hb.cell (p := ⟨g, og + m, none⟩) (Nat.lt_of_lt_of_le hbl (HSZ.out _ hwn4.out))).trans d8
                  clear hb HO4 HB4 hwn4 HARC
                  have HS := hide (same_any HO5.out ((HU.out.below hwn5.out).mono (HSZ.out _ hwn5.out)) (by omega))
                  rw [decide_eq_true (rfl : bk = bk)] at HS
                  go_wp2_with (fail)
                  refine HS.out.mono ?_
                  rintro e w6 ⟨rfl, hb⟩
                  have HB6 := hide (HB5.out.trans (hb.mono HB5.out.size))
                  clear hb HO5 HB5 hwn5 HS d8
                  go_wp2_with (fail)
                  go_roundw
                  case rel => exact ⟨m + 1, by omega, by rw [← HN1.out]; omega, by go_num, by rw [← HN1.out]; go_num, HB6⟩
                  case measure => simp [intOf]; omega
              · have h4z : (400 : Int) < (B.length : Int) := by omega
                by_cases hend : NA m + B.length < L.length
                · obtain ⟨x, hx⟩ : ∃ q, L[NA m + B.length]? = some q := ⟨_, List.getElem?_eq_getElem hend⟩
                  have hxm := HOU.out x hx
                  obtain ⟨b, o, rfl, hbl7, kk⟩ := HRD.out (by intro e; rw [e] at hend; simp at hend)
                  have hez : ((NA m + B.length : Nat) : Int) < (L.length : Int) := by omega
                  have d7 : wr.cell? ⟨b, o + (NA m + B.length) * 6, none⟩ = some (.int .i64 x.b) := (HB.out.cell (p := ⟨b, _, none⟩) hbl7).trans (kk _ _ hx 0 _ rfl)
                  have hxe : (x.b == (m : Int)) = false := by simpa using hxm
                  clear kk hx hxm
                  go_wp2_with (fail)
                  refine (alive36_any _).mono ?_
                  rintro e w3 ⟨rfl, hb⟩
                  have HBE := hide (hwn.trans (hb.mono (HSZ.out _ hwn)))
                  clear hb HB hwn HR
                  go_wp2_with (fail)
                  go_ret
                  exact ⟨rfl, HBE.out⟩
                · have hez : ¬ ((NA m + B.length : Nat) : Int) < (L.length : Int) := by omega
                  go_wp2_with (fail)
                  refine (alive36_any _).mono ?_
                  rintro e w3 ⟨rfl, hb⟩
                  have HBE := hide (hwn.trans (hb.mono (HSZ.out _ hwn)))
                  clear hb HB hwn HR
                  go_wp2_with (fail)
                  go_ret
                  exact ⟨rfl, HBE.out⟩
        · obtain rfl : m = bs.length := by omega
          have hfin : NA bs.length = L.length := HTOT.out _ rfl
          rw [hfin]
          clear hnm
          go_wp2_with (fail)
          refine (alive36_any _).mono ?_
          rintro e w3 ⟨rfl, hb⟩
          have HBE := hide (HBW.out.trans ((HB.out.trans (hb.mono HB.out.size)).mono (by have := hsn; omega)))
          clear hb HB
          go_wp2_with (fail)
          go_ret
          exact ⟨rfl, HBE.out⟩
    · have heq : lotsF bs s p = ([], 4) := by rw [HOK.out.eq, if_neg hfit]
      rw [heq] at G1
      clear heq hfit
      go_wp2_with (fail)
      refine (G1.out _ H1.out.below).mono ?_
      rintro e w2 ⟨⟨A2, c2, rfl, ho⟩, hb⟩
      have H2 := hide (H1.out.keep hb)
      clear hb ho H1 G1 p0 p1 p2
      go_wp2_with (fail)
      refine (alive36_any _).mono ?_
      rintro e w3 ⟨rfl, hb⟩
      have HB := hide (H2.out.keep hb).below
      clear hb H2
      go_wp2_with (fail)
      go_ret
      exact ⟨rfl, HB.out⟩
end Go.Proofs.YtabogapiecciiaaGreat
