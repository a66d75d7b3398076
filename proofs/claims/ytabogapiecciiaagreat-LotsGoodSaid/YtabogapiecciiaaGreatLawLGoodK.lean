/- The walk of the law LotsGood. -/
import Derived.Test.YtabogapiecciiaaGreatPk10
namespace Go.Proofs.YtabogapiecciiaaGreat
open Go.RowKit
set_option linter.unusedVariables false
set_option linter.unusedSimpArgs false

/-- A rectangle in a box that may be written. -/
structure BoxF4 (q : Nat) (r : R4) (wr : World) : Prop where
  d0 : wr.cell? ⟨q, 0, none⟩ = some (.int .i64 r.x0)
  d1 : wr.cell? ⟨q, 1, none⟩ = some (.int .i64 r.y0)
  d2 : wr.cell? ⟨q, 2, none⟩ = some (.int .i64 r.x1)
  d3 : wr.cell? ⟨q, 3, none⟩ = some (.int .i64 r.y1)
  z0 : wr.frozen? ⟨q, 0, none⟩ = false
  z1 : wr.frozen? ⟨q, 1, none⟩ = false
  z2 : wr.frozen? ⟨q, 2, none⟩ = false
  z3 : wr.frozen? ⟨q, 3, none⟩ = false
  lt : q < wr.heap.size
theorem BoxF4.keep {q : Nat} {r : R4} {wr w' : World} (h : BoxF4 q r wr) (hb : Below wr.heap.size wr w') : BoxF4 q r w' :=
  ⟨(hb.cell (p := ⟨q, 0, none⟩) h.lt).trans h.d0, (hb.cell (p := ⟨q, 1, none⟩) h.lt).trans h.d1, (hb.cell (p := ⟨q, 2, none⟩) h.lt).trans h.d2, (hb.cell (p := ⟨q, 3, none⟩) h.lt).trans h.d3,
   (hb.frozen (p := ⟨q, 0, none⟩) h.lt).trans h.z0, (hb.frozen (p := ⟨q, 1, none⟩) h.lt).trans h.z1, (hb.frozen (p := ⟨q, 2, none⟩) h.lt).trans h.z2, (hb.frozen (p := ⟨q, 3, none⟩) h.lt).trans h.z3, Nat.lt_of_lt_of_le h.lt hb.size⟩
def Keep9 (b o n : Nat) (x : Par6) (p : Pl3) (w' : World) : Prop :=
  (w'.cell? ⟨b, o + 1, none⟩ = some (.int .i64 x.l.r.x0) ∧ w'.cell? ⟨b, o + 2, none⟩ = some (.int .i64 x.l.r.y0) ∧ w'.cell? ⟨b, o + 3, none⟩ = some (.int .i64 x.l.r.x1) ∧ w'.cell? ⟨b, o + 4, none⟩ = some (.int .i64 x.l.r.y1) ∧ w'.cell? ⟨b, o + 5, none⟩ = some (.int .u8 x.l.f)) ∧ w'.cell? ⟨n, 0, none⟩ = some (.int .i64 p.mf) ∧ w'.cell? ⟨n, 1, none⟩ = some (.int .i64 p.ms) ∧ w'.cell? ⟨n, 2, none⟩ = some (.int .i64 p.ma)
theorem Keep9.below {b o n B : Nat} {x : Par6} {p : Pl3} {w w' : World} (h : Keep9 b o n x p w) (hb : Below B w w') (h1 : b < B) (h2 : n < B) : Keep9 b o n x p w' := by
  obtain ⟨⟨a0, a1, a2, a3, a4⟩, c0, c1, c2⟩ := h
  have k : ∀ q u, q < B → w'.cell? ⟨q, u, none⟩ = w.cell? ⟨q, u, none⟩ := fun q u hq => hb.cell (p := ⟨q, u, none⟩) hq
  exact ⟨⟨(k _ _ h1).trans a0, (k _ _ h1).trans a1, (k _ _ h1).trans a2, (k _ _ h1).trans a3, (k _ _ h1).trans a4⟩, (k _ _ h2).trans c0, (k _ _ h2).trans c1, (k _ _ h2).trans c2⟩
def zero4 : R4 := ⟨0, 0, 0, 0⟩
/-- The box's rectangle behind k rounds. -/
def wholeAt (ii : Nat) (r : R4) (k : Nat) : R4 := if ii < k then r else zero4
theorem whole_zero (ii : Nat) (r : R4) : wholeAt ii r 0 = zero4 := if_neg (by omega)
theorem whole_hit (ii : Nat) (r : R4) : wholeAt ii r (ii + 1) = r := if_pos (by omega)
theorem whole_miss {ii k : Nat} {r : R4} (h : ¬ k = ii) : wholeAt ii r (k + 1) = wholeAt ii r k := by
  unfold wholeAt
  by_cases h1 : ii < k
  · rw [if_pos h1, if_pos (by omega)]
  · rw [if_neg h1, if_neg (by omega)]
theorem rHas_one {w : World} {g o c : Nat} {q : R4} {d : Bool} (x y : Int) (hg : g < w.heap.size) (c0 : w.cell? ⟨g, o, none⟩ = some (.int .i64 q.x0)) (c1 : w.cell? ⟨g, o + 1, none⟩ = some (.int .i64 q.y0)) (c2 : w.cell? ⟨g, o + 2, none⟩ = some (.int .i64 q.x1)) (c3 : w.cell? ⟨g, o + 3, none⟩ = some (.int .i64 q.y1)) (hd : decide (pmem [q] x y) = d) (nq : Nat) :
    Calls Tryz.prog 28 #[.slice (some ⟨g, o, none⟩) 1 c, .int .i64 x, .int .i64 y] (w.drewN nq) fun e w' => e = .returned (.bool d) ∧ w' = w.drewN nq := by
  have hr : RdK encR 4 (w.drewN nq) (g + 1) (.slice (some ⟨g, o, none⟩) 1 c) [q] := ⟨_, c, rfl, fun _ => ⟨g, o, rfl, Nat.lt_succ_self _, fun j y hj i u hu => by
    have hj0 : j = 0 := by
      have := (List.getElem?_eq_some_iff.1 hj).1
      simp at this
      omega
    subst hj0
    simp at hj
    subst hj
    have hi : i < 4 := (List.getElem?_eq_some_iff.1 hu).1
    rw [Nat.zero_mul, Nat.add_zero, World.cell?_drewN]
    match i, hi with
    | 0, _ => rw [Nat.add_zero, c0]; exact hu
    | 1, _ => rw [c1]; exact hu
    | 2, _ => rw [c2]; exact hu
    | 3, _ => rw [c3]; exact hu⟩⟩
  refine (rHas_any hr (by simp) x y).mono ?_
  rintro e w' ⟨he, hw⟩
  exact ⟨by rw [he, hd], hw.symm⟩
theorem whole_end {ii k : Nat} {r : R4} (h : ii < k) : wholeAt ii r k = r := if_pos h
set_option maxRecDepth 100000 in
set_option maxHeartbeats 8000000 in
theorem good36_walk {w : World} {vb v : Value} {bs : List (List R4)} {s : List R4} (hb : RdRR w w.heap.size vb bs) (hs : RdK encR 4 w w.heap.size v s) (p : Pl3) (nb : bs.length ≤ maxLen) (ns : s.length ≤ maxLen) (mb : ∀ b ∈ bs, b.length ≤ maxLen) (hcap : CapRR w vb) :
    Calls Tryz.prog 7 #[vb, v, .agg (encP p).toArray] w fun e w' => e = .returned (.bool true) ∧ Below w.heap.size w w' := by
  have HW := hide (boxW_new w p 24)
  generalize hW : w.alloc (.cells #[.int .i64 p.mf, .int .i64 p.ms, .int .i64 p.ma] 24) = W at *
  have HV : Hid (∀ W : World, Below w.heap.size w W → Calls Tryz.prog 8 #[vb, v, .agg #[.int .i64 p.mf, .int .i64 p.ms, .int .i64 p.ma]] W fun e w' => ValidRet bs s p e ∧ Below W.heap.size W w') := hide (fun W hW => valid36_any ((hb.below hW).mono hW.size) ((hs.below hW).mono hW.size) p nb ns mb)
  have HL : Hid (OkAll bs s p → ∀ W : World, Below w.heap.size w W → Calls Tryz.prog 15 #[vb, v, .agg #[.int .i64 p.mf, .int .i64 p.ms, .int .i64 p.ma]] W (ParsRet W (lotsF bs s p))) := hide (fun h W hW => lots_any ((hb.below hW).mono hW.size) ((hs.below hW).mono hW.size) p (by have := h.len; omega) h.few h.ns)
  have HFR : Hid (checkF s = 0 → s.length ≤ 420 → ∀ r : R4, okR r → ∀ W : World, Below w.heap.size w W → Calls Tryz.prog 25 #[.agg #[.int .i64 r.x0, .int .i64 r.y0, .int .i64 r.x1, .int .i64 r.y1], v] W fun e w' => e = .returned (.tuple #[.int .u8 (frF r s), .int .i64 0]) ∧ Below W.heap.size W w') := hide (fun hc hn r hr W hW => by
    have := lFronts_any r ((hs.below hW).mono hW.size) (by omega)
    rwa [show frontsF r s = (frF r s, 0) by unfold frontsF; rw [if_neg (by rw [hc]; simp), if_pos hr]] at this)
  have HGO : Hid (∀ l : Lot5, checkL l p = 0 → 0 ≤ l.f ∧ l.f ≤ 15 → ∀ W : World, Calls Tryz.prog 29 #[.agg #[.int .i64 l.r.x0, .int .i64 l.r.y0, .int .i64 l.r.x1, .int .i64 l.r.y1, .int .u8 l.f], .agg #[.int .i64 p.mf, .int .i64 p.ms, .int .i64 p.ma]] W fun e w' => e = .returned (.tuple #[.bool (decide (goodL p l)), .int .i64 0]) ∧ Below W.heap.size W w') := hide (fun l hc hf W => by
    have := pgood_any l p ⟨hf.1, by omega⟩ W
    rwa [show goodR l p = (decide (goodL p l), 0) from if_pos hc] at this)
  have HCU : Hid (∀ l : Lot5, cutE l p = (zeroL, zeroL, 6) → 0 ≤ l.f ∧ l.f ≤ 15 → ∀ W : World, Calls Tryz.prog 30 #[.agg #[.int .i64 l.r.x0, .int .i64 l.r.y0, .int .i64 l.r.x1, .int .i64 l.r.y1, .int .u8 l.f], .agg #[.int .i64 p.mf, .int .i64 p.ms, .int .i64 p.ma]] W fun e w' => e = .returned (.tuple #[.agg #[.int .i64 0, .int .i64 0, .int .i64 0, .int .i64 0, .int .u8 0], .agg #[.int .i64 0, .int .i64 0, .int .i64 0, .int .i64 0, .int .u8 0], .int .i64 6]) ∧ Below W.heap.size W w') := hide (fun l hc hf W => by
    have := pcut_any l p ⟨hf.1, by omega⟩ W
    rwa [hc] at this)
  have HCAP := hide hcap
  clear hcap
  obtain ⟨As, cs, rfl, _⟩ := hs
  obtain ⟨Ab, cb, rfl, hbc⟩ := hb
  have HRB := hide hbc
  clear nb ns mb hbc
  generalize hn : w.heap.size = n at *
  have HN := hide hn
  have HSZ : Hid (∀ W : World, Below n w W → n ≤ W.heap.size) := hide (fun W h => by have := h.size; rw [HN.out] at this; exact this)
  show Calls Tryz.prog _ #[.slice Ab bs.length cb, .slice As s.length cs, .agg #[.int .i64 p.mf, .int .i64 p.ms, .int .i64 p.ma]] w _
  obtain ⟨p0, p1, p2⟩ := HW.out.box
  go_enter Tryz.func7, Tryz.ntmps7
  go_wp2_with (fail)
  refine (HV.out _ HW.out.below).mono ?_
  rintro e w1 ⟨⟨g, rfl, hg⟩, hb⟩
  have H1 := hide (HW.out.keep hb)
  clear hb hW hn HW HV p0 p1 p2
  cases g with
  | false =>
    clear hg
    go_wp2_with (fail)
    refine (alive36_any _).mono ?_
    rintro e w2 ⟨rfl, hb⟩
    have HB := hide (H1.out.keep hb).below
    clear hb H1
    go_wp2_with (fail)
    go_ret
    exact ⟨rfl, HB.out⟩
  | true =>
    have HV := hide (hg rfl)
    have HOK : Hid (LotsOk bs s p) := hide ⟨HV.out.chk, by have := HV.out.len; omega, bad_none fun j x hj hx => HV.out.all x (List.mem_of_getElem? hx), HV.out.ok⟩
    have G1 := hide (HL.out HV.out)
    clear hg HL
    obtain ⟨p0, p1, p2⟩ := H1.out.box
    by_cases hfit : fewF s p bs = true ∧ (pcA s p 0 bs).length ≤ 600
    · have heq : lotsF bs s p = (pcA s p 0 bs, 0) := by rw [HOK.out.eq, if_pos hfit]
      rw [heq] at G1
      have HFEW := hide hfit
      have HEL : Hid (∀ x ∈ pcA s p 0 bs, ∃ (j : Nat) (b : List R4) (r : R4), bs[j]? = some b ∧ x.b = (j : Int) ∧ r ∈ b ∧ okR r ∧ ofRect s p r x.l) := hide (fun x hx => by
        obtain ⟨j, b, hj, hxb, r, hr, hl⟩ := pcA_mem.1 hx
        have hck := HV.out.all b (List.mem_of_getElem? hj)
        have hok := (ok_valid r).2 ((checkF_ok hck).2.1 r hr)
        exact ⟨j, b, r, hj, by rw [hxb]; simp, hr, hok, rect_of hok HV.out.ok hl⟩)
      have hl6 : ((pcA s p 0 bs).length : Int) ≤ 600 := by have := hfit.2; omega

      clear heq hfit
      generalize hL : pcA s p 0 bs = L at *
      have HLL := hide hL
      clear hL
      go_wp2_with (fail)
      refine (G1.out _ H1.out.below).mono ?_
      rintro e w2 ⟨⟨A2, c2, rfl, ho⟩, hb⟩
      have HO := hide (rd_ownP ho)
      have H2 := hide (H1.out.keep hb)
      clear hb ho H1 G1 p0 p1 p2
      simp only at HO ⊢
      have hsn : n + 1 ≤ w2.heap.size := H2.out.size
      have HBW := hide H2.out.below
      have HPX := hide H2.out.box
      obtain ⟨A3, c3, e3, hrd⟩ := id HO.out
      injection e3 with eA eN eC
      subst eA
      subst eC
      have HRD := hide hrd
      clear hrd HO H2
      go_wp2_with (fail)
      go_loopw [9] (fun i wr => ∃ m : Nat, m ≤ L.length ∧ i = .int .i64 m ∧ Hid (Below w2.heap.size w2 wr)) (fun i _ => L.length - (intOf i).toNat)
      case atStart => exact ⟨0, Nat.zero_le _, rfl, hide (Below.refl _ _)⟩
      case round =>
        obtain ⟨i, hm, rfl, HB⟩ := hrel
        by_cases hlt : i < L.length
        · obtain ⟨x, hx⟩ : ∃ p, L[i]? = some p := ⟨_, List.getElem?_eq_getElem hlt⟩
          obtain ⟨b, o, rfl, hbl, kk⟩ := HRD.out (by intro e; rw [e] at hlt; simp at hlt)
          have HK := hide (kk i _ hx)
          have iz : (i : Int) < (L.length : Int) := by omega
          obtain ⟨jb, bb, rr, hjb, hxb, hrb, hro, hof⟩ := HEL.out x (List.mem_of_getElem? hx)
          obtain ⟨hg0, hg1, hrin⟩ := of_good hro HV.out.ok hof
          obtain ⟨hxo, hf0, hf1⟩ := of_ok hro hof
          obtain ⟨ii, hii⟩ := List.getElem?_of_mem hrb
          have hck := HV.out.all bb (List.mem_of_getElem? hjb)
          have HWH : Hid (∀ (k : Nat) (q : R4), bb[k]? = some q → decide (pmem [q] x.l.r.x0 x.l.r.y0) = decide (k = ii)) := hide (fun k q hq => whole_has hck hii hq hrin)
          have HII := hide hii
          have hiil : ii < bb.length := (List.getElem?_eq_some_iff.1 hii).1
          have hbb4 := (checkF_ok hck).1
          have hjl : jb < bs.length := (List.getElem?_eq_some_iff.1 hjb).1
          have jz0 : (0 : Int) ≤ (jb : Int) := by omega
          have jz1 : (jb : Int) < (bs.length : Int) := by omega
          obtain ⟨g, og, rfl, hbg, kb⟩ := HRB.out (by intro e; rw [e] at hjl; simp at hjl)
          obtain ⟨u, d8, hu⟩ := kb jb _ hjb
          obtain ⟨Ax, cx, rfl, hbx⟩ := hu
          obtain ⟨hcp, hcm⟩ := HCAP.out g og bs.length _ rfl jb hjl _ _ _ d8
          unfold maxLen at hcm
          have HBX := hide hbx
          have HXB := hide hxb
          have HHOF := hide hof
          have HG0 := hide hg0
          have HG1 := hide hg1
          have HRO := hide hro
          have HXO := hide hxo
          have HFR1 := hide (HFR.out HV.out.chk HV.out.ns rr hro)
          have hwn : Below n w wr := HBW.out.trans (HB.out.mono (by have := hsn; omega))
          have D8 := hide d8
          have d8 := (hwn.cell (p := ⟨g, og + jb, none⟩) hbg).trans d8
          clear kk hx hjb hxb hrb hro hof hg0 hg1 hrin hxo hii hck kb hbx
          have d0 : wr.cell? ⟨b, o + i * 6, none⟩ = some (.int .i64 (jb : Int)) := (HB.out.cell (p := ⟨b, _, none⟩) hbl).trans (HK.out 0 _ (by rw [← HXB.out]; rfl))
          have d1 : wr.cell? ⟨b, o + i * 6 + 1, none⟩ = some (.int .i64 x.l.r.x0) := (HB.out.cell (p := ⟨b, _, none⟩) hbl).trans (HK.out 1 _ rfl)
          have d2 : wr.cell? ⟨b, o + i * 6 + 2, none⟩ = some (.int .i64 x.l.r.y0) := (HB.out.cell (p := ⟨b, _, none⟩) hbl).trans (HK.out 2 _ rfl)
          have d3 : wr.cell? ⟨b, o + i * 6 + 3, none⟩ = some (.int .i64 x.l.r.x1) := (HB.out.cell (p := ⟨b, _, none⟩) hbl).trans (HK.out 3 _ rfl)
          have d4 : wr.cell? ⟨b, o + i * 6 + 4, none⟩ = some (.int .i64 x.l.r.y1) := (HB.out.cell (p := ⟨b, _, none⟩) hbl).trans (HK.out 4 _ rfl)
          have d5 : wr.cell? ⟨b, o + i * 6 + 5, none⟩ = some (.int .u8 x.l.f) := (HB.out.cell (p := ⟨b, _, none⟩) hbl).trans (HK.out 5 _ rfl)
          go_upto_region 13 with fail
          refine wp_name5 fun Z hZ => ?_
          have hbz : Below wr.heap.size wr Z := by rw [hZ]; exact (Below.refl _ _).alloc (Nat.le_refl _) _
          have HQ : Hid (BoxF4 wr.heap.size (wholeAt ii rr 0) Z) := hide (by rw [hZ, whole_zero]; refine ⟨?_, ?_, ?_, ?_, ?_, ?_, ?_, ?_, ?_⟩ <;> simp [go_sem, zero4])
          have hq2 : w2.heap.size ≤ wr.heap.size := HB.out.size
          have HB0 := hide (HB.out.trans (hbz.mono HB.out.size))
          generalize wr.heap.size = q at *
          clear hZ hbz HB hwn d8 d0 d1 d2 d3 d4 d5
          have HB := HB0
          clear HB0
          go_wp2_with (fail)
          go_loopw [12] (fun kv wr => ∃ k : Nat, k ≤ bb.length ∧ kv = .int .i64 k ∧ Hid (Below w2.heap.size w2 wr) ∧ Hid (BoxF4 q (wholeAt ii rr k) wr)) (fun kv _ => bb.length - (intOf kv).toNat)
          case atStart => exact ⟨0, Nat.zero_le _, rfl, HB, HQ⟩
          case round =>
            clear HB HQ
            obtain ⟨k, hkb, rfl, HB, HQ⟩ := hrel
            have hsn2 := hsn
            have hwn := hide (HBW.out.trans (HB.out.mono (by omega)))
            by_cases hltk : k < bb.length
            · obtain ⟨qr, hpq⟩ : ∃ p, bb[k]? = some p := ⟨_, List.getElem?_eq_getElem hltk⟩
              obtain ⟨g2, o2, rfl, hbl2, k2⟩ := HBX.out (by intro e; rw [e] at hltk; simp at hltk)
              have kz : (k : Int) < (bb.length : Int) := by omega
              have kz4 : (k : Int) ≤ 400 := by omega
              have c0 : wr.cell? ⟨g2, o2 + k * 4, none⟩ = some (.int .i64 qr.x0) := (hwn.out.cell (p := ⟨g2, _, none⟩) hbl2).trans (k2 k _ hpq 0 _ rfl)
              have c1 : wr.cell? ⟨g2, o2 + k * 4 + 1, none⟩ = some (.int .i64 qr.y0) := (hwn.out.cell (p := ⟨g2, _, none⟩) hbl2).trans (k2 k _ hpq 1 _ rfl)
              have c2' : wr.cell? ⟨g2, o2 + k * 4 + 2, none⟩ = some (.int .i64 qr.x1) := (hwn.out.cell (p := ⟨g2, _, none⟩) hbl2).trans (k2 k _ hpq 2 _ rfl)
              have c3' : wr.cell? ⟨g2, o2 + k * 4 + 3, none⟩ = some (.int .i64 qr.y1) := (hwn.out.cell (p := ⟨g2, _, none⟩) hbl2).trans (k2 k _ hpq 3 _ rfl)
              have hd := HWH.out k qr hpq
              have HHA : Hid (∀ nq : Nat, Calls Tryz.prog 28 #[.slice (some ⟨g2, o2 + k * 4, none⟩) 1 (cx - k), .int .i64 x.l.r.x0, .int .i64 x.l.r.y0] (wr.drewN nq) fun e w' => e = .returned (.bool (decide (k = ii))) ∧ w' = wr.drewN nq) := hide (fun nq => by
                exact rHas_one _ _ (Nat.lt_of_lt_of_le hbl2 (HSZ.out _ hwn.out)) c0 c1 c2' c3' hd nq)
              have hcz : k + 1 ≤ cx := by omega
              have hcz1 : k ≤ cx := by omega
              have hcz2 : ¬ cx = k := by omega
              have hcz3 : ((k : Int) + 1) ≤ (cx : Int) := by omega
              have hqr := hpq
              clear hpq k2 hd
              have d0 : wr.cell? ⟨b, o + i * 6, none⟩ = some (.int .i64 (jb : Int)) := (HB.out.cell (p := ⟨b, _, none⟩) hbl).trans (HK.out 0 _ (by rw [← HXB.out]; rfl))
              have d1 : wr.cell? ⟨b, o + i * 6 + 1, none⟩ = some (.int .i64 x.l.r.x0) := (HB.out.cell (p := ⟨b, _, none⟩) hbl).trans (HK.out 1 _ rfl)
              have d2 : wr.cell? ⟨b, o + i * 6 + 2, none⟩ = some (.int .i64 x.l.r.y0) := (HB.out.cell (p := ⟨b, _, none⟩) hbl).trans (HK.out 2 _ rfl)
              have d3 : wr.cell? ⟨b, o + i * 6 + 3, none⟩ = some (.int .i64 x.l.r.x1) := (HB.out.cell (p := ⟨b, _, none⟩) hbl).trans (HK.out 3 _ rfl)
              have d4 : wr.cell? ⟨b, o + i * 6 + 4, none⟩ = some (.int .i64 x.l.r.y1) := (HB.out.cell (p := ⟨b, _, none⟩) hbl).trans (HK.out 4 _ rfl)
              have d5 : wr.cell? ⟨b, o + i * 6 + 5, none⟩ = some (.int .u8 x.l.f) := (HB.out.cell (p := ⟨b, _, none⟩) hbl).trans (HK.out 5 _ rfl)
              have hkw : IntKind.i64.wrap ((k : Int) + 1) = (k : Int) + 1 := IntWalk.i64_in _ (by omega)
              have hkn : ((k : Int) + 1).toNat = k + 1 := by omega
              have hkp : 0 ≤ (k : Int) + 1 := by omega
              have hk1 : k + 1 - k = 1 := by omega
              go_upto_region 16 with fail
              by_cases hk : k = ii
              · rw [decide_eq_true hk] at HHA
                obtain rfl : qr = rr := by have := HII.out; rw [← hk, hqr] at this; exact Option.some.inj this
                have HK1 := hide hk
                clear hk hqr
                go_quiet ((go_at_call 28; exact Calls.quiet_of_same (HHA.out _)))
                clear hkw hkn hkp hk1 HHA
                obtain ⟨q0, q1, q2, q3, z0, z1, z2, z3, hql⟩ := id HQ.out
                go_upto_region 15 with fail
                refine wp_name5 fun Z2 hZ2 => ?_
                have hbz2 : Below w2.heap.size w2 Z2 := by
                  rw [hZ2]
                  refine Below.setCell ?_ hq2 _
                  refine Below.setCell ?_ hq2 _
                  refine Below.setCell ?_ hq2 _
                  refine Below.setCell ?_ hq2 _
                  exact below_drewN HB.out _
                have HQ2 : Hid (BoxF4 q (wholeAt ii qr (k + 1)) Z2) := hide (by
                  rw [hZ2, ← HK1.out, whole_hit]
                  refine ⟨?_, ?_, ?_, ?_, ?_, ?_, ?_, ?_, ?_⟩
                  all_goals first
                    | (simp [go_sem, q0, q1, q2, q3, z0, z1, z2, z3]; done)
                    | (simp; exact hql)
                    | exact hql)
                have HB2 := hide hbz2
                clear hZ2 hbz2 HB HQ q0 q1 q2 q3 z0 z1 z2 z3 hql c0 c1 c2' c3' d0 d1 d2 d3 d4 d5
                go_wp2_with (fail)
                go_roundw
                case rel => exact ⟨k + 1, by omega, by go_num, HB2, HQ2⟩
                case measure => simp [intOf]; omega
              · rw [decide_eq_false hk] at HHA
                have HK1 := hide hk
                clear hk hqr
                go_quiet ((go_at_call 28; exact Calls.quiet_of_same (HHA.out _)))
                clear hkw hkn hkp hk1 HHA
                go_upto_region 15 with fail
                refine wp_name5 fun Z2 hZ2 => ?_
                have hbz2 : Below wr.heap.size wr Z2 := by rw [hZ2]; exact below_drewN (Below.refl _ _) _
                have HQ2 : Hid (BoxF4 q (wholeAt ii rr (k + 1)) Z2) := hide (by rw [whole_miss HK1.out]; exact HQ.out.keep hbz2)
                have HB2 := hide (HB.out.trans (hbz2.mono HB.out.size))
                clear hZ2 hbz2 HB HQ c0 c1 c2' c3' d0 d1 d2 d3 d4 d5
                go_wp2_with (fail)
                go_roundw
                case rel => exact ⟨k + 1, by omega, by go_num, HB2, HQ2⟩
                case measure => simp [intOf]; omega
            · obtain rfl : k = bb.length := by omega
              rw [whole_end hiil] at HQ
              clear HWH HBX
              have HF15 : Hid (0 ≤ frF rr s ∧ frF rr s ≤ 15) := hide (by obtain ⟨_, _, _, _, a, b⟩ := fr_has rr s; exact ⟨a, b⟩)
              obtain ⟨q0, q1, q2, q3, -, -, -, -, hql⟩ := id HQ.out
              by_cases hx0 : x.l.f = 0
              · obtain ⟨e1, e2⟩ := HG0.out hx0
                rw [e1] at HFR1
                subst e2
                have gq : Tryz.prog.eqGuardType Tryz.prog.depth 54 = false := by kernel_rfl
                clear e1 HG0 HG1 HGO HCU HF15
                go_wp2_with (fail)
                refine (HFR1.out _ hwn.out).mono ?_
                rintro e w5 ⟨rfl, hb⟩
                have HB5 := hide (HB.out.trans (hb.mono HB.out.size))
                have HQ5 := hide (HQ.out.keep hb)
                clear hb HB HQ q0 q1 q2 q3 hql
                obtain ⟨q0, q1, q2, q3, -, -, -, -, hql⟩ := id HQ5.out
                have HB := HB5
                clear HB5
                have d0 : w5.cell? ⟨b, o + i * 6, none⟩ = some (.int .i64 (jb : Int)) := (HB.out.cell (p := ⟨b, _, none⟩) hbl).trans (HK.out 0 _ (by rw [← HXB.out]; rfl))
                have d1 : w5.cell? ⟨b, o + i * 6 + 1, none⟩ = some (.int .i64 x.l.r.x0) := (HB.out.cell (p := ⟨b, _, none⟩) hbl).trans (HK.out 1 _ rfl)
                have d2 : w5.cell? ⟨b, o + i * 6 + 2, none⟩ = some (.int .i64 x.l.r.y0) := (HB.out.cell (p := ⟨b, _, none⟩) hbl).trans (HK.out 2 _ rfl)
                have d3 : w5.cell? ⟨b, o + i * 6 + 3, none⟩ = some (.int .i64 x.l.r.x1) := (HB.out.cell (p := ⟨b, _, none⟩) hbl).trans (HK.out 3 _ rfl)
                have d4 : w5.cell? ⟨b, o + i * 6 + 4, none⟩ = some (.int .i64 x.l.r.y1) := (HB.out.cell (p := ⟨b, _, none⟩) hbl).trans (HK.out 4 _ rfl)
                have d5 : w5.cell? ⟨b, o + i * 6 + 5, none⟩ = some (.int .u8 0) := (HB.out.cell (p := ⟨b, _, none⟩) hbl).trans (HK.out 5 _ (by rw [← hx0]; rfl))
                go_wp2_with (fail)
                go_quiet (fail)
                go_upto_region 8 with fail
                refine wp_name5 fun Z2 hZ2 => ?_
                have HB2 := hide (HB.out.trans ((show Below w5.heap.size w5 Z2 by rw [hZ2]; exact below_drewN (Below.refl _ _) _).mono HB.out.size))
                clear hZ2 HB HQ5 q0 q1 q2 q3 hql d0 d1 d2 d3 d4 d5
                go_wp2_with (fail)
                go_roundw
                case rel => exact ⟨i + 1, by omega, by go_num, HB2⟩
                case measure => simp [intOf]; omega
              · obtain ⟨e1, e2, e3, e4⟩ := HG1.out hx0
                have hxe : (x.l.f == 0) = false := by simpa using hx0
                have hf15 : x.l.f ≤ 15 := hf1
                have HG2 := hide (HGO.out ⟨rr, frF rr s⟩ e1 HF15.out)
                have HG3 := hide (HGO.out x.l e2 ⟨hf0, hf1⟩)
                have HC3 := hide (HCU.out x.l e4 ⟨hf0, hf1⟩)
                have HWI : Hid (decide (goodL p ⟨rr, frF rr s⟩) = true → decide (goodL p x.l) = true) := hide (fun h => decide_eq_true (e3 (of_decide_eq_true h)))
                obtain ⟨p0, p1, p2⟩ := HPX.out.below HB.out
                clear e1 e2 e3 e4 hx0 HG0 HG1 HGO HCU HF15 hf15
                simp only at HG2
                generalize decide (goodL p ⟨rr, frF rr s⟩) = W1 at *
                generalize decide (goodL p x.l) = I1 at *
                generalize frF rr s = F at *
                go_wp2_with (fail)
                refine (HFR1.out _ hwn.out).mono ?_
                rintro e w5 ⟨rfl, hb⟩
                have HB5 := hide (HB.out.trans (hb.mono HB.out.size))
                have HQ5 := hide (HQ.out.keep hb)
                clear hb HB HQ q0 q1 q2 q3 hql p0 p1 p2
                obtain ⟨q0, q1, q2, q3, -, -, -, -, hql⟩ := id HQ5.out
                have HB := HB5
                clear HB5
                obtain ⟨p0, p1, p2⟩ := HPX.out.below HB.out
                have d0 : w5.cell? ⟨b, o + i * 6, none⟩ = some (.int .i64 (jb : Int)) := (HB.out.cell (p := ⟨b, _, none⟩) hbl).trans (HK.out 0 _ (by rw [← HXB.out]; rfl))
                have d1 : w5.cell? ⟨b, o + i * 6 + 1, none⟩ = some (.int .i64 x.l.r.x0) := (HB.out.cell (p := ⟨b, _, none⟩) hbl).trans (HK.out 1 _ rfl)
                have d2 : w5.cell? ⟨b, o + i * 6 + 2, none⟩ = some (.int .i64 x.l.r.y0) := (HB.out.cell (p := ⟨b, _, none⟩) hbl).trans (HK.out 2 _ rfl)
                have d3 : w5.cell? ⟨b, o + i * 6 + 3, none⟩ = some (.int .i64 x.l.r.x1) := (HB.out.cell (p := ⟨b, _, none⟩) hbl).trans (HK.out 3 _ rfl)
                have d4 : w5.cell? ⟨b, o + i * 6 + 4, none⟩ = some (.int .i64 x.l.r.y1) := (HB.out.cell (p := ⟨b, _, none⟩) hbl).trans (HK.out 4 _ rfl)
                have d5 : w5.cell? ⟨b, o + i * 6 + 5, none⟩ = some (.int .u8 x.l.f) := (HB.out.cell (p := ⟨b, _, none⟩) hbl).trans (HK.out 5 _ rfl)
                go_wp2_with (fail)
                refine (HG2.out _).mono ?_
                rintro e w6 ⟨rfl, hb⟩
                have HB6 := hide (HB.out.trans (hb.mono HB.out.size))
                clear hb HB HQ5 q0 q1 q2 q3 hql p0 p1 p2 HG2 d0 d1 d2 d3 d4 d5
                have HB := HB6
                clear HB6
                obtain ⟨p0, p1, p2⟩ := HPX.out.below HB.out
                have d0 : w6.cell? ⟨b, o + i * 6, none⟩ = some (.int .i64 (jb : Int)) := (HB.out.cell (p := ⟨b, _, none⟩) hbl).trans (HK.out 0 _ (by rw [← HXB.out]; rfl))
                have d1 : w6.cell? ⟨b, o + i * 6 + 1, none⟩ = some (.int .i64 x.l.r.x0) := (HB.out.cell (p := ⟨b, _, none⟩) hbl).trans (HK.out 1 _ rfl)
                have d2 : w6.cell? ⟨b, o + i * 6 + 2, none⟩ = some (.int .i64 x.l.r.y0) := (HB.out.cell (p := ⟨b, _, none⟩) hbl).trans (HK.out 2 _ rfl)
                have d3 : w6.cell? ⟨b, o + i * 6 + 3, none⟩ = some (.int .i64 x.l.r.x1) := (HB.out.cell (p := ⟨b, _, none⟩) hbl).trans (HK.out 3 _ rfl)
                have d4 : w6.cell? ⟨b, o + i * 6 + 4, none⟩ = some (.int .i64 x.l.r.y1) := (HB.out.cell (p := ⟨b, _, none⟩) hbl).trans (HK.out 4 _ rfl)
                have d5 : w6.cell? ⟨b, o + i * 6 + 5, none⟩ = some (.int .u8 x.l.f) := (HB.out.cell (p := ⟨b, _, none⟩) hbl).trans (HK.out 5 _ rfl)
                have HGZ : Hid (∀ y : Above w6, Calls Tryz.prog 29 #[.agg #[.int .i64 x.l.r.x0, .int .i64 x.l.r.y0, .int .i64 x.l.r.x1, .int .i64 x.l.r.y1, .int .u8 x.l.f], .agg #[.int .i64 p.mf, .int .i64 p.ms, .int .i64 p.ma]] y.get fun e w'' => e = .returned (.tuple #[.bool I1, .int .i64 0]) ∧ ∃ z : Above w6, w'' = z.get) := hide (fun y => above_of (HG3.out y.get))
                have qb : b < w6.heap.size := Nat.lt_of_lt_of_le hbl HB.out.size
                have qn : n < w6.heap.size := by have := HB.out.size; have := hsn; omega
                clear HG3
                go_upto_region 25 with fail
                refine wp_hab fun hab => ?_
                refine wp_region_above (by kernel_rfl) (by kernel_rfl) ?_
                repeat (go_big_quiet_step ((go_at_call 29; exact HGZ.out _)))
                refine wpQuiet_nil ?_
                refine above_ends fun w7 hb7 => ?_
                have HB7 := hide (HB.out.trans (hb7.mono HB.out.size))
                have HP0 : w7.cell? ⟨n, 0, none⟩ = some (.int .i64 p.mf) := (hb7.cell (p := ⟨n, 0, none⟩) qn).trans p0
                have HP1 : w7.cell? ⟨n, 1, none⟩ = some (.int .i64 p.ms) := (hb7.cell (p := ⟨n, 1, none⟩) qn).trans p1
                have HP2 : w7.cell? ⟨n, 2, none⟩ = some (.int .i64 p.ma) := (hb7.cell (p := ⟨n, 2, none⟩) qn).trans p2
                have qb7 : b < w7.heap.size := Nat.lt_of_lt_of_le qb hb7.size
                have qn7 : n < w7.heap.size := Nat.lt_of_lt_of_le qn hb7.size
                clear hab hb7 HB HGZ p0 p1 p2 qb qn d0 d1 d2 d3 d4 d5
                have HB := HB7
                clear HB7
                have d0 : w7.cell? ⟨b, o + i * 6, none⟩ = some (.int .i64 (jb : Int)) := (HB.out.cell (p := ⟨b, _, none⟩) hbl).trans (HK.out 0 _ (by rw [← HXB.out]; rfl))
                have d1 : w7.cell? ⟨b, o + i * 6 + 1, none⟩ = some (.int .i64 x.l.r.x0) := (HB.out.cell (p := ⟨b, _, none⟩) hbl).trans (HK.out 1 _ rfl)
                have d2 : w7.cell? ⟨b, o + i * 6 + 2, none⟩ = some (.int .i64 x.l.r.y0) := (HB.out.cell (p := ⟨b, _, none⟩) hbl).trans (HK.out 2 _ rfl)
                have d3 : w7.cell? ⟨b, o + i * 6 + 3, none⟩ = some (.int .i64 x.l.r.x1) := (HB.out.cell (p := ⟨b, _, none⟩) hbl).trans (HK.out 3 _ rfl)
                have d4 : w7.cell? ⟨b, o + i * 6 + 4, none⟩ = some (.int .i64 x.l.r.y1) := (HB.out.cell (p := ⟨b, _, none⟩) hbl).trans (HK.out 4 _ rfl)
                have d5 : w7.cell? ⟨b, o + i * 6 + 5, none⟩ = some (.int .u8 x.l.f) := (HB.out.cell (p := ⟨b, _, none⟩) hbl).trans (HK.out 5 _ rfl)
                have HK9 : Hid (Keep9 b (o + i * 6) n x p w7) := hide ⟨⟨d1, d2, d3, d4, d5⟩, HP0, HP1, HP2⟩
                go_upto_region 26 with fail
                go_cut [21] (fun s21 wx => s21 = .int .i64 6 ∧ Below w7.heap.size w7 wx)
                case first =>
                  go_region_held3 (fun w' => (w'.cell? ⟨b, o + i * 6 + 1, none⟩ = some (.int .i64 x.l.r.x0) ∧ w'.cell? ⟨b, o + i * 6 + 2, none⟩ = some (.int .i64 x.l.r.y0) ∧ w'.cell? ⟨b, o + i * 6 + 3, none⟩ = some (.int .i64 x.l.r.x1) ∧ w'.cell? ⟨b, o + i * 6 + 4, none⟩ = some (.int .i64 x.l.r.y1) ∧ w'.cell? ⟨b, o + i * 6 + 5, none⟩ = some (.int .u8 x.l.f)) ∧ w'.cell? ⟨n, 0, none⟩ = some (.int .i64 p.mf) ∧ w'.cell? ⟨n, 1, none⟩ = some (.int .i64 p.ms) ∧ w'.cell? ⟨n, 2, none⟩ = some (.int .i64 p.ma)) ((refine HK9.out.below (B := w7.heap.size) ?_ qb7 qn7; repeat (first | with_reducible exact Below.refl _ _ | with_reducible exact hbK | with_reducible refine Below.setCell ?_ (by first | omega | (simp; done) | (simp; omega)) _ | with_reducible refine Below.alloc ?_ (by first | omega | (simp; omega) | simp) _ | with_reducible refine Below.drew ?_)))
                    (first
                      | (go_at_call 30; refine (HC3.out _).mono ?_; rintro e w10 ⟨rfl, hb10⟩; have hbK : Below w7.heap.size w7 w10 := Below.trans (by repeat (first | with_reducible exact Below.refl _ _ | with_reducible refine Below.alloc ?_ (by first | omega | (simp; omega) | simp) _ | with_reducible refine Below.drew ?_)) (hb10.mono (by simp <;> omega)); have hsK := hbK.size; obtain ⟨hcK, hfK⟩ := bcell hb10; (try have z0 : w7.heap.size < w10.heap.size := by have := hb10.size; simp at this; omega); (try have z1 : w7.heap.size + 1 < w10.heap.size := by have := hb10.size; simp at this; omega); (try have y0 : ¬ w7.heap.size = w10.heap.size := by omega); (try have y1 : ¬ w10.heap.size = w7.heap.size := by omega); clear hb10))
                  all_goals (go_wp2_with (fail); go_meet)
                  all_goals
                    refine ⟨rfl, ?_⟩
                    repeat (first | with_reducible exact Below.refl _ _ | with_reducible exact hbK | with_reducible refine Below.setCell ?_ (by first | omega | (simp; done) | (simp; omega)) _ | with_reducible refine Below.alloc ?_ (by first | omega | (simp; omega) | simp) _ | with_reducible refine Below.drew ?_)
                case rest =>
                  obtain ⟨rfl, hb⟩ := hcut
                  have HB8 := hide (HB.out.trans (hb.mono HB.out.size))
                  clear hb HB HK9 HP0 HP1 HP2 qb7 qn7 HC3 d0 d1 d2 d3 d4 d5
                  cases hw1 : W1 with
                  | false =>
                    go_wp2_with (fail)
                    go_roundw
                    case rel => exact ⟨i + 1, by omega, by go_num, HB8⟩
                    case measure => simp [intOf]; omega
                  | true =>
                    have hi1 := HWI.out hw1
                    subst hi1
                    go_wp2_with (fail)
                    go_roundw
                    case rel => exact ⟨i + 1, by omega, by go_num, HB8⟩
                    case measure => simp [intOf]; omega
        · obtain rfl : i = L.length := by omega
          go_wp2_with (fail)
          refine (alive36_any _).mono ?_
          rintro e w3 ⟨rfl, hb⟩
          have HBE := hide (HBW.out.trans ((HB.out.trans (hb.mono HB.out.size)).mono (by have := hsn; omega)))
          clear hb HB
          go_wp2_with (fail)
          go_ret
          exact ⟨rfl, HBE.out⟩
    · have heq : lotsF bs s p = ([], 4) := by rw [HOK.out.eq, if_neg hfit]
      rw [heq] at G1
      clear heq hfit
      go_wp2_with (fail)
      refine (G1.out _ H1.out.below).mono ?_
      rintro e w2 ⟨⟨A2, c2, rfl, ho⟩, hb⟩
      have H2 := hide (H1.out.keep hb)
      clear hb ho H1 G1 p0 p1 p2
      go_wp2_with (fail)
      refine (alive36_any _).mono ?_
      rintro e w3 ⟨rfl, hb⟩
      have HB := hide (H2.out.keep hb).below
      clear hb H2
      go_wp2_with (fail)
      go_ret
      exact ⟨rfl, HB.out⟩
end Go.Proofs.YtabogapiecciiaaGreat
