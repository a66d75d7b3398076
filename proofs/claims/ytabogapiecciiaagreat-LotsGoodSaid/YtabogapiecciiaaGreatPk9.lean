/- Texts laid together: LotM, MixTwo, ParT, ParU. Lemmas for the statements of this seat; no condition. -/
import Derived.Test.YtabogapiecciiaaGreatPk8
import Derived.Test.YtabogapiecciiaaGreatPk7
import Derived.Test.YtabogapiecciiaaGreatPk3
import Derived.Test.YtabogapiecciiaaGreatPk2

/- The walk of lots.Lots. -/
namespace Go.Proofs.YtabogapiecciiaaGreat
open Go.RowKit
set_option linter.unusedVariables false
set_option linter.unusedSimpArgs false

/-- A list of parcels and a code come back. -/
def ParsRet (w : World) (R : List Par6 × Int) (e : Ending) (w' : World) : Prop :=
  (∃ A c, e = .returned (.tuple #[.slice A R.1.length c, .int .i64 R.2]) ∧ w'.ownsRow w.heap.size 58 6 (.slice A R.1.length c) R.1.length (R.1.flatMap encQ)) ∧ Below w.heap.size w w'
theorem infoPar : (Tryz.prog.info? 58).map (fun i => (i.zero, i.size, i.bytes)) = some (some (.agg #[.int .i64 0, .int .i64 0, .int .i64 0, .int .i64 0, .int .i64 0, .int .u8 0]), 6, 48) := by kernel_rfl
structure LI (n : Nat) (w : World) (p : Pl3) (O : List Par6) (ov : Value) (no : Nat) (wr : World) : Prop where
  row : wr.ownsRow (n + 1) 58 6 ov no (O.flatMap encQ)
  below : Below n w wr
  size : n + 1 ≤ wr.heap.size
  box : Box3 wr n (.int .i64 p.mf) (.int .i64 p.ms) (.int .i64 p.ma)
theorem LI.keep {n : Nat} {w wr w' : World} {p : Pl3} {O : List Par6} {ov : Value} {no : Nat} (h : LI n w p O ov no wr) (hb : Below wr.heap.size wr w') : LI n w p O ov no w' :=
  ⟨own_below h.row hb, h.below.trans (hb.mono (by have := h.size; omega)), Nat.le_trans h.size hb.size, h.box.below hb⟩
theorem LI.push {n : Nat} {w wr w' : World} {p : Pl3} {O O' : List Par6} {ov ov' : Value} {no no' : Nat} (h : LI n w p O ov no wr) (hg : wr.grownBy w' ov.ownBlock) (ho : w'.ownsRow (n + 1) 58 6 ov' no' (O'.flatMap encQ)) : LI n w p O' ov' no' w' := by
  have hr : ∀ q, ov.ownBlock = some q → n + 1 ≤ q := fun q hq => (h.row.lt q hq).1
  exact ⟨ho, h.below.grown hg (by have := h.size; omega) (fun q hq => by have := hr q hq; omega), Nat.le_trans h.size hg.size, box_grown h.box hg (fun q hq => by have := hr q hq; omega)⟩
theorem LI.len {n : Nat} {w wr : World} {p : Pl3} {O : List Par6} {ov : Value} {no : Nat} (h : LI n w p O ov no wr) : no = O.length := own_len h.row (fun _ => rfl) (by omega)
theorem lot_par : 56 ≠ 58 := by decide
/-- A rectangle's four cells. -/
structure Cell4 (q : Nat) (r : R4) (wr : World) : Prop where
  d0 : wr.cell? ⟨q, 0, none⟩ = some (.int .i64 r.x0)
  d1 : wr.cell? ⟨q, 1, none⟩ = some (.int .i64 r.y0)
  d2 : wr.cell? ⟨q, 2, none⟩ = some (.int .i64 r.x1)
  d3 : wr.cell? ⟨q, 3, none⟩ = some (.int .i64 r.y1)
  lt : q < wr.heap.size
theorem Cell4.keep {q : Nat} {r : R4} {wr w' : World} (h : Cell4 q r wr) (hb : Below wr.heap.size wr w') : w'.cell? ⟨q, 0, none⟩ = some (.int .i64 r.x0) ∧ w'.cell? ⟨q, 1, none⟩ = some (.int .i64 r.y0) ∧ w'.cell? ⟨q, 2, none⟩ = some (.int .i64 r.x1) ∧ w'.cell? ⟨q, 3, none⟩ = some (.int .i64 r.y1) :=
  ⟨(hb.cell (p := ⟨q, 0, none⟩) h.lt).trans h.d0, (hb.cell (p := ⟨q, 1, none⟩) h.lt).trans h.d1, (hb.cell (p := ⟨q, 2, none⟩) h.lt).trans h.d2, (hb.cell (p := ⟨q, 3, none⟩) h.lt).trans h.d3⟩
/-- A lot in a box of its own. -/
structure BoxL5 (q : Nat) (l : Lot5) (wr : World) : Prop where
  d0 : wr.cell? ⟨q, 0, none⟩ = some (.int .i64 l.r.x0)
  d1 : wr.cell? ⟨q, 1, none⟩ = some (.int .i64 l.r.y0)
  d2 : wr.cell? ⟨q, 2, none⟩ = some (.int .i64 l.r.x1)
  d3 : wr.cell? ⟨q, 3, none⟩ = some (.int .i64 l.r.y1)
  d4 : wr.cell? ⟨q, 4, none⟩ = some (.int .u8 l.f)
  lt : q < wr.heap.size
theorem few_all {s : List R4} {p : Pl3} {bs : List (List R4)} (h : ∀ (m : Nat) (b : List R4), bs[m]? = some b → ∀ (j : Nat) (r : R4), b[j]? = some r → (rectR s p r).2 = 0) : fewF s p bs = true := by
  unfold fewF
  rw [List.all_eq_true]
  intro b hb
  rw [List.all_eq_true]
  intro r hr
  obtain ⟨m, hm⟩ := List.getElem?_of_mem hb
  obtain ⟨j, hj⟩ := List.getElem?_of_mem hr
  exact decide_eq_true (h m b hm j r hj)
structure LotsOk (bs : List (List R4)) (s : List R4) (p : Pl3) : Prop where
  chk : checkF s = 0
  len : bs.length ≤ 400
  bad : badF bs = 0
  ok : okW p = 0
theorem LotsOk.eq {bs : List (List R4)} {s : List R4} {p : Pl3} (h : LotsOk bs s p) : lotsF bs s p = if fewF s p bs = true ∧ (pcA s p 0 bs).length ≤ 600 then (pcA s p 0 bs, 0) else ([], 4) := by
  have := h.len
  unfold lotsF
  rw [if_neg (by rw [h.chk]; simp), if_neg (by omega), if_neg (by rw [h.bad]; simp), if_neg (by rw [h.ok]; simp)]
theorem LotsOk.long {bs : List (List R4)} {s : List R4} {p : Pl3} (h : LotsOk bs s p) (hl : 600 < (pcA s p 0 bs).length) : lotsF bs s p = ([], 4) := by
  rw [h.eq, if_neg (fun g => by omega)]
theorem LotsOk.few {bs : List (List R4)} {s : List R4} {p : Pl3} (h : LotsOk bs s p) (hf : fewF s p bs = false) : lotsF bs s p = ([], 4) := by
  rw [h.eq, if_neg (fun g => by rw [hf] at g; exact Bool.false_ne_true g.1)]
theorem LotsOk.all {bs : List (List R4)} {s : List R4} {p : Pl3} (h : LotsOk bs s p) (hf : fewF s p bs = true) (hl : (pcA s p 0 bs).length ≤ 600) : lotsF bs s p = (pcA s p 0 bs, 0) := by
  rw [h.eq, if_pos ⟨hf, hl⟩]
theorem pars_nil {w w' : World} {R : List Par6 × Int} {k : Int} (h : R = ([], k)) (hb : Below w.heap.size w w') : ParsRet w R (.returned (.tuple #[.slice none 0 0, .int .i64 k])) w' := by
  subst h
  exact ⟨⟨none, 0, rfl, World.ownsRow_nil _ _ _ _⟩, hb⟩
set_option maxRecDepth 100000 in
set_option maxHeartbeats 16000000 in
theorem lots_any {w : World} {vb v : Value} {bs : List (List R4)} {s : List R4} (hb : RdRR w w.heap.size vb bs) (hs : RdK encR 4 w w.heap.size v s) (p : Pl3) (nb : bs.length ≤ 410) (mb : ∀ b ∈ bs, b.length ≤ 420) (ns : s.length ≤ 420) :
    Calls Tryz.prog 15 #[vb, v, .agg (encP p).toArray] w (ParsRet w (lotsF bs s p)) := by
  obtain ⟨i1, gi, gz0, gz1, gz2⟩ := info_parts infoPar
  have HCK : Hid (∀ W : World, Below w.heap.size w W → Calls Tryz.prog 41 #[v] W fun e w' => e = .returned (.int .i64 (checkF s)) ∧ Below W.heap.size W w') := hide (fun W hw => check_any ((hs.below hw).mono hw.size) (by omega))
  have HCB : Hid (∀ (b : List R4) (u : Value), b ∈ bs → RdK encR 4 w w.heap.size u b → ∀ W : World, Below w.heap.size w W → Calls Tryz.prog 41 #[u] W fun e w' => e = .returned (.int .i64 (checkF b)) ∧ Below W.heap.size W w') := hide (fun b u hm hu W hw => check_any ((hu.below hw).mono hw.size) (by have := mb b hm; omega))
  have HPC : Hid (∀ W : World, Calls Tryz.prog 42 #[.agg #[.int .i64 0, .int .i64 0, .int .i64 1, .int .i64 1, .int .u8 1], .agg #[.int .i64 p.mf, .int .i64 p.ms, .int .i64 p.ma]] W fun e w' => e = .returned (.int .i64 (okW p)) ∧ Below W.heap.size W w') := hide (fun W => checkL_any ⟨⟨0, 0, 1, 1⟩, 1⟩ p (by decide) W)
  have HFR : Hid (checkF s = 0 → ∀ r : R4, okR r → ∀ W : World, Below w.heap.size w W → Calls Tryz.prog 43 #[.agg #[.int .i64 r.x0, .int .i64 r.y0, .int .i64 r.x1, .int .i64 r.y1], v] W fun e w' => e = .returned (.int .u8 (frF r s)) ∧ Below W.heap.size W w') := hide (fun hc r hr W hw => fronts_any r hr ((hs.below hw).mono hw.size) (fun q hq => (ok_valid q).2 ((checkF_ok hc).2.1 q hq)) (checkF_ok hc).1)
  have HSP : Hid (∀ (r : R4) (f : Int), 0 ≤ f ∧ f ≤ 15 → ∀ W : World, Calls Tryz.prog 44 #[.agg #[.int .i64 r.x0, .int .i64 r.y0, .int .i64 r.x1, .int .i64 r.y1, .int .u8 f], .agg #[.int .i64 p.mf, .int .i64 p.ms, .int .i64 p.ma]] W (LotsRet W (splitR ⟨r, f⟩ p))) := hide (fun r f hf W => psplit_any ⟨r, f⟩ p ⟨hf.1, by show f ≤ 255; omega⟩ W)
  obtain ⟨Ab, cb, rfl, hbc⟩ := hb
  obtain ⟨As, cs, rfl, _⟩ := hs
  have HRB := hide hbc
  have HMB := hide mb
  have HW0 : Hid (Box3 (w.alloc (.cells #[.int .i64 p.mf, .int .i64 p.ms, .int .i64 p.ma] 24)) w.heap.size (.int .i64 p.mf) (.int .i64 p.ms) (.int .i64 p.ma) ∧ Below w.heap.size w (w.alloc (.cells #[.int .i64 p.mf, .int .i64 p.ms, .int .i64 p.ma] 24)) ∧ w.heap.size + 1 ≤ (w.alloc (.cells #[.int .i64 p.mf, .int .i64 p.ms, .int .i64 p.ma] 24)).heap.size) := hide ⟨⟨by simp [go_sem], by simp [go_sem], by simp [go_sem]⟩, (Below.refl _ _).alloc (Nat.le_refl _) _, by simp⟩
  generalize hW : w.alloc (.cells #[.int .i64 p.mf, .int .i64 p.ms, .int .i64 p.ma] 24) = W at *
  have nz : (bs.length : Int) ≤ 410 := by omega
  clear hbc mb
  have HI : Hid (LI w.heap.size w p [] (.slice none 0 0) 0 W) := hide ⟨World.ownsRow_nil _ _ _ _, HW0.out.2.1, HW0.out.2.2, HW0.out.1⟩
  clear HW0
  generalize hn : w.heap.size = n at *
  have HN := hide hn
  show Calls Tryz.prog _ #[.slice Ab bs.length cb, .slice As s.length cs, .agg #[.int .i64 p.mf, .int .i64 p.ms, .int .i64 p.ma]] w _
  by_cases hc : checkF s = 0
  · have HFR2 := hide (HFR.out hc)
    have HC := hide hc
    rw [hc] at HCK
    clear HFR hc
    go_enter Tryz.func15, Tryz.ntmps15
    go_wp2_with (fail)
    refine (HCK.out _ HI.out.below).mono ?_
    rintro e w1 ⟨rfl, hb⟩
    have HI1 := hide (HI.out.keep hb)
    clear hb hW hn HI HCK
    by_cases h4 : bs.length ≤ 400
    · have hz4 : (bs.length : Int) ≤ 400 := by omega
      have H4 := hide h4
      go_upto_region 6 with fail
      go_wp2_with (fail)
      go_loopw [33] (fun i wr => ∃ m : Nat, m ≤ bs.length ∧ i = .int .i64 m ∧ Hid (∀ j x, j < m → bs[j]? = some x → checkF x = 0) ∧ Hid (LI n w p [] (.slice none 0 0) 0 wr)) (fun i _ => bs.length - (intOf i).toNat)
      case atStart => exact ⟨0, Nat.zero_le _, rfl, hide (fun j x hj => absurd hj (Nat.not_lt_zero _)), HI1⟩
      case round =>
        clear HI1
        obtain ⟨m, hm, rfl, HJ, HI⟩ := hrel
        by_cases hlt : m < bs.length
        · obtain ⟨b, hp⟩ : ∃ p, bs[m]? = some p := ⟨_, List.getElem?_eq_getElem hlt⟩
          obtain ⟨g, og, rfl, hbl, k⟩ := HRB.out (by intro e; rw [e] at hlt; simp at hlt)
          obtain ⟨u, d0, hu⟩ := k m _ hp
          have HCX := hide (HCB.out b u (List.mem_of_getElem? hp) hu)
          obtain ⟨Ax, cx, rfl, _⟩ := hu
          have d0 := (HI.out.below.cell (p := ⟨g, og + m, none⟩) hbl).trans d0
          have mz : (m : Int) < (bs.length : Int) := by omega
          have HP := hide hp
          clear k hp
          by_cases hcb : checkF b = 0
          · have HJS : Hid (∀ j x, j < m + 1 → bs[j]? = some x → checkF x = 0) := hide (fun j x hj hx => by
              rcases Nat.lt_or_ge j m with h | h
              · exact HJ.out j x h hx
              · obtain rfl : j = m := by omega
                rw [HP.out] at hx
                cases hx
                exact hcb)
            rw [hcb] at HCX
            clear hcb HJ
            go_wp2_with (fail)
            refine (HCX.out _ HI.out.below).mono ?_
            rintro e w2 ⟨rfl, hb⟩
            have HI2 := hide (HI.out.keep hb)
            clear hb HI HCX d0
            go_wp2_with (fail)
            go_roundw
            case rel => exact ⟨m + 1, by omega, by go_num, HJS, HI2⟩
            case measure => simp [intOf]; omega
          · have HF : Hid (lotsF bs s p = ([], checkF b)) := hide (by
              have hbad := bad_of HJ.out HP.out hcb
              have := H4.out
              unfold lotsF
              rw [if_neg (by rw [HC.out]; simp), if_neg (by omega), if_pos (by rw [hbad]; exact hcb), hbad])
            have hne : (checkF b != 0) = true := by simpa using hcb
            clear hcb HJ
            generalize checkF b = ck at *
            go_wp2_with (fail)
            refine (HCX.out _ HI.out.below).mono ?_
            rintro e w2 ⟨rfl, hb⟩
            have HI2 := hide (HI.out.keep hb).below
            clear hb HI HCX d0
            go_wp2_with (fail)
            go_ret2
            exact pars_nil HF.out (by rw [HN.out]; exact HI2.out)
        · obtain rfl : m = bs.length := by omega
          have HBAD : Hid (badF bs = 0) := hide (bad_none HJ.out)
          have HALL : Hid (∀ (j : Nat) (b : List R4), bs[j]? = some b → checkF b = 0) := hide (fun j b hj => HJ.out j b (List.getElem?_eq_some_iff.1 hj).1 hj)
          clear HJ HCB
          obtain ⟨p0, p1, p2⟩ := HI.out.box
          go_wp2_with (fail)
          refine (HPC.out _).mono ?_
          rintro e w2 ⟨rfl, hb⟩
          have HI2 := hide (HI.out.keep hb)
          clear hb HI p0 p1 p2 HPC
          by_cases hok : okW p = 0
          · have HOK : Hid (LotsOk bs s p) := hide ⟨HC.out, H4.out, HBAD.out, hok⟩
            have HPW := hide hok
            rw [hok]
            clear hok HBAD
            go_upto_region 17 with fail
            go_wp2_with (fail)
            go_loopw [13, 52] (fun ov i wr => ∃ (m no : Nat) (A : Option Addr) (c : Nat), m ≤ bs.length ∧ no ≤ 600 ∧ i = .int .i64 m ∧ ov = .slice A no c ∧ Hid (∀ (j : Nat) (b : List R4), j < m → bs[j]? = some b → ∀ (i : Nat) (r : R4), b[i]? = some r → (rectR s p r).2 = 0) ∧ Hid (LI n w p (pcA s p 0 (bs.take m)) (.slice A no c) no wr)) (fun _ i _ => bs.length - (intOf i).toNat)
            case atStart => exact ⟨0, 0, none, 0, Nat.zero_le _, Nat.zero_le _, rfl, rfl, hide (fun j x hj => absurd hj (Nat.not_lt_zero _)), HI2⟩
            case round =>
              clear HI2
              obtain ⟨m, no, A, c, hm, hno, rfl, rfl, HJ, HI⟩ := hrel
              have nz6 : (no : Int) ≤ 600 := by omega
              by_cases hlt : m < bs.length
              · obtain ⟨b, hp⟩ : ∃ p, bs[m]? = some p := ⟨_, List.getElem?_eq_getElem hlt⟩
                obtain ⟨g, og, rfl, hbl, k⟩ := HRB.out (by intro e; rw [e] at hlt; simp at hlt)
                obtain ⟨u, d0, hu⟩ := k m _ hp
                obtain ⟨Ax, cx, rfl, hbx⟩ := hu
                have d0 := (HI.out.below.cell (p := ⟨g, og + m, none⟩) hbl).trans d0
                have mz : (m : Int) < (bs.length : Int) := by omega
                have hcb := HALL.out m b hp
                have hbl4 : (b.length : Int) ≤ 400 := by have := (checkF_ok hcb).1; omega
                have HBX := hide hbx
                have HV : Hid (∀ r ∈ b, okR r) := hide (fun r hr => (ok_valid r).2 ((checkF_ok hcb).2.1 r hr))
                have HP := hide hp
                clear k hp hcb hbx
                go_upto_region 20 with fail
                go_wp2_with (fail)
                go_step3
                go_wp2_with (fail)
                go_step3
                go_wp2_with (fail)
                go_loopg [13, 59] (b.length) (fun gg ov i wr => ∃ (j no : Nat) (A : Option Addr) (c : Nat), gg + j = b.length ∧ no ≤ 600 ∧ i = .int .i64 j ∧ ov = .slice A no c ∧ Hid (∀ (i : Nat) (r : R4), i < j → b[i]? = some r → (rectR s p r).2 = 0) ∧ Hid (LI n w p (pcA s p 0 (bs.take m) ++ pcB s p m (b.take j)) (.slice A no c) no wr))
                case atStart => exact ⟨0, no, A, c, rfl, hno, rfl, rfl, hide (fun j x hj => absurd hj (Nat.not_lt_zero _)), by rw [show pcB s p m (b.take 0) = [] from rfl, List.append_nil]; exact HI⟩
                case round =>
                  clear HI d0 nz6
                  obtain ⟨j, no, A, c, hj, hno, rfl, rfl, HK, HI⟩ := hrel
                  have nz6 : (no : Int) ≤ 600 := by omega
                  by_cases hltj : j < b.length
                  · obtain ⟨r, hpr⟩ : ∃ p, b[j]? = some p := ⟨_, List.getElem?_eq_getElem hltj⟩
                    obtain ⟨g2, o2, rfl, hbl2, k⟩ := HBX.out (by intro e; rw [e] at hltj; simp at hltj)
                    have d0 : wr.cell? ⟨g2, o2 + j * 4, none⟩ = some (.int .i64 r.x0) := (HI.out.below.cell (p := ⟨g2, _, none⟩) hbl2).trans (k j _ hpr 0 _ rfl)
                    have d1 : wr.cell? ⟨g2, o2 + j * 4 + 1, none⟩ = some (.int .i64 r.y0) := (HI.out.below.cell (p := ⟨g2, _, none⟩) hbl2).trans (k j _ hpr 1 _ rfl)
                    have d2 : wr.cell? ⟨g2, o2 + j * 4 + 2, none⟩ = some (.int .i64 r.x1) := (HI.out.below.cell (p := ⟨g2, _, none⟩) hbl2).trans (k j _ hpr 2 _ rfl)
                    have d3 : wr.cell? ⟨g2, o2 + j * 4 + 3, none⟩ = some (.int .i64 r.y1) := (HI.out.below.cell (p := ⟨g2, _, none⟩) hbl2).trans (k j _ hpr 3 _ rfl)
                    have jz : (j : Int) < (b.length : Int) := by omega
                    have HR := hide hpr
                    have hr := HV.out r (List.mem_of_getElem? hpr)
                    have HFX := hide (HFR2.out r hr)
                    have HPT : Hid (pcB s p m (b.take (j + 1)) = pcB s p m (b.take j) ++ pcR s p m r) := hide (pcB_at s p m hpr)
                    have HLE : Hid (∀ j, (pcA s p 0 (bs.take m)).length + (pcB s p m (b.take j)).length ≤ (pcA s p 0 bs).length) := hide (pcA_le s p HP.out)
                    have HFEW : Hid ((rectR s p r).2 ≠ 0 → fewF s p bs = false) := hide (fun h => few_at HP.out hpr h)
                    have HNO : Hid (no = (pcA s p 0 (bs.take m) ++ pcB s p m (b.take j)).length) := hide HI.out.len
                    clear k hpr
                    go_upto_region 23 with fail
                    refine wp_name5 fun Z hZ => ?_
                    have hbz : BoxR wr.heap.size wr r Z := by rw [hZ]; exact box_new wr r _
                    have HIZ := hide (HI.out.keep hbz.below)
                    obtain ⟨c0, c1, c2, c3, -, hk⟩ := hbz
                    generalize wr.heap.size = q0 at *
                    clear hZ HI d0 d1 d2 d3
                    obtain ⟨F, hF⟩ : ∃ F, frF r s = F := ⟨_, rfl⟩
                    rw [hF] at HFX
                    have HFF := hide hF
                    have HF15 : Hid (0 ≤ F ∧ F ≤ 15) := hide (by rw [← hF]; obtain ⟨_, _, _, _, a, b⟩ := fr_has r s; exact ⟨a, b⟩)
                    clear hF
                    have HFZ : Hid (∀ W : World, Below Z.heap.size Z W → Calls Tryz.prog 43 #[.agg #[.int .i64 r.x0, .int .i64 r.y0, .int .i64 r.x1, .int .i64 r.y1], .slice As s.length cs] W fun e w' => e = .returned (.int .u8 F) ∧ Below W.heap.size W w') := hide (fun W hW => HFX.out W (HIZ.out.below.trans (hW.mono (by have := HIZ.out.size; omega))))
                    have HKB : Hid (Cell4 q0 r Z) := hide ⟨c0, c1, c2, c3, hk⟩
                    clear HFX
                    go_cut [18] (fun s18 wx => ∃ g, s18 = .pointer (some ⟨g, 0, none⟩) ∧ Below Z.heap.size Z wx ∧ BoxL5 g ⟨r, F⟩ wx)
                    case first =>
                      go_region_held3 (fun w' => w'.cell? ⟨q0, 0, none⟩ = some (.int .i64 r.x0) ∧ w'.cell? ⟨q0, 1, none⟩ = some (.int .i64 r.y0) ∧ w'.cell? ⟨q0, 2, none⟩ = some (.int .i64 r.x1) ∧ w'.cell? ⟨q0, 3, none⟩ = some (.int .i64 r.y1)) ((refine HKB.out.keep ?_; repeat (first | with_reducible exact Below.refl _ _ | with_reducible exact hbK | with_reducible refine Below.setCell ?_ (by first | omega | (simp; done) | (simp; omega)) _ | with_reducible refine Below.alloc ?_ (by first | omega | (simp; omega) | simp) _ | with_reducible refine Below.drew ?_)))
                        (first
                          | (go_at_call 43; refine (HFZ.out _ (by repeat (first | with_reducible exact Below.refl _ _ | with_reducible refine Below.alloc ?_ (by first | omega | (simp; omega) | simp) _ | with_reducible refine Below.drew ?_))).mono ?_; rintro e w10 ⟨rfl, hb10⟩; have hbK : Below Z.heap.size Z w10 := Below.trans (by repeat (first | with_reducible exact Below.refl _ _ | with_reducible refine Below.alloc ?_ (by first | omega | (simp; omega) | simp) _ | with_reducible refine Below.drew ?_)) (hb10.mono (by simp <;> omega)); have hsK := hbK.size; obtain ⟨hcK, hfK⟩ := bcell hb10; (try have z0 : Z.heap.size < w10.heap.size := by have := hb10.size; simp at this; omega); clear hb10))
                      all_goals (go_wp2_with (fail); go_meet)
                      all_goals
                        refine ⟨_, rfl, ?_, ⟨?_, ?_, ?_, ?_, ?_, ?_⟩⟩
                        · repeat (first | with_reducible exact Below.refl _ _ | with_reducible exact hbK | with_reducible refine Below.setCell ?_ (by first | omega | (simp; done) | (simp; omega)) _ | with_reducible refine Below.alloc ?_ (by first | omega | (simp; omega) | simp) _ | with_reducible refine Below.drew ?_)
                        · simp [go_sem, hcK, hfK]
                        · simp [go_sem, hcK, hfK]
                        · simp [go_sem, hcK, hfK]
                        · simp [go_sem, hcK, hfK]
                        · simp [go_sem, hcK, hfK]
                        · first | (simp; done) | (simp; omega)
                    case rest =>
                      obtain ⟨g, rfl, hb, HBL⟩ := hcut
                      have HI9 := hide (HIZ.out.keep hb)
                      clear hb HIZ HKB HFZ c0 c1 c2 c3 hk
                      obtain ⟨l0, l1, l2, l3, l4, hg⟩ := id HBL
                      simp only at l0 l1 l2 l3 l4
                      have HS1 : n + 1 ≤ wc.heap.size := HI9.out.size
                      by_cases hF0 : F = 0
                      · subst hF0
                        have HRE : Hid (pcR s p m r = [⟨(m : Int), ⟨r, 0⟩⟩] ∧ (rectR s p r).2 = 0) := hide (by unfold pcR rectR; rw [if_pos HFF.out]; exact ⟨rfl, rfl⟩)
                        by_cases h6 : no + 1 ≤ 600
                        · have hz6 : (no : Int) + 1 ≤ 600 := by omega
                          go_wp2_with (at_builtin; go_loud (refine wpList_append_lies _ rfl (.tmp 71) (.tmp 75) 47 rfl (n + 1) 58 i1 (.agg #[.int .i64 0, .int .i64 0, .int .i64 0, .int .i64 0, .int .i64 0, .int .u8 0]) 6 48 Tryz.underlying47 gi gz0 gz1 gz2 rfl (by decide) _ no _ rfl (World.ownsRow.alloc HI9.out.row _) ⟨wc.heap.size, 0, none⟩ 1 1 [.int .i64 (m : Int), .int .i64 r.x0, .int .i64 r.y0, .int .i64 r.x1, .int .i64 r.y1, .int .u8 0] rfl rfl (news_new wc _ _ _ rfl) (ints_one rfl) (by omega) (by unfold maxLen; omega) (by omega) (by simp; omega) _ rfl ?_))
                          intro g9 cp9 w9 hown hgrow hg2 hlt
                          have HR9 : Hid (LI n w p (pcA s p 0 (bs.take m) ++ pcB s p m (b.take j) ++ [⟨(m : Int), ⟨r, 0⟩⟩]) (.slice (some ⟨g9, 0, none⟩) (no + 1) cp9) (no + 1) w9) := hide ((HI9.out.keep ((Below.refl _ _).alloc (Nat.le_refl _) _)).push hgrow (by rw [List.flatMap_append, List.flatMap_append, List.append_assoc]; exact hown))
                          clear HI9 l0 l1 l2 l3 l4 HBL hown hgrow hg2 hlt
                          go_wp2_with (fail)
                          go_roundg (b.length - (j + 1))
                          case rel => exact ⟨j + 1, no + 1, _, cp9, by omega, h6, by go_num, rfl, hide (fun i x hi hx => by
                            rcases Nat.lt_or_ge i j with h | h
                            · exact HK.out i x h hx
                            · obtain rfl : i = j := by omega
                              rw [HR.out] at hx
                              cases hx
                              exact HRE.out.2), by rw [HPT.out, HRE.out.1, ← List.append_assoc]; exact HR9⟩
                          case measure => omega
                        · have hz6 : (600 : Int) < (no : Int) + 1 := by omega
                          have HLO : Hid (lotsF bs s p = ([], 4)) := hide (HOK.out.long (by
                            have h1 := HLE.out (j + 1)
                            rw [HPT.out, HRE.out.1] at h1
                            have h2 := HNO.out
                            simp only [List.length_append, List.length_singleton] at h1 h2
                            omega))
                          go_wp2_with (at_builtin; go_loud (refine wpList_append_lies _ rfl (.tmp 71) (.tmp 75) 47 rfl (n + 1) 58 i1 (.agg #[.int .i64 0, .int .i64 0, .int .i64 0, .int .i64 0, .int .i64 0, .int .u8 0]) 6 48 Tryz.underlying47 gi gz0 gz1 gz2 rfl (by decide) _ no _ rfl (World.ownsRow.alloc HI9.out.row _) ⟨wc.heap.size, 0, none⟩ 1 1 [.int .i64 (m : Int), .int .i64 r.x0, .int .i64 r.y0, .int .i64 r.x1, .int .i64 r.y1, .int .u8 0] rfl rfl (news_new wc _ _ _ rfl) (ints_one rfl) (by omega) (by unfold maxLen; omega) (by omega) (by simp; omega) _ rfl ?_))
                          intro g9 cp9 w9 hown hgrow hg2 hlt
                          have HR9 : Hid (LI n w p (pcA s p 0 (bs.take m) ++ pcB s p m (b.take j) ++ [⟨(m : Int), ⟨r, 0⟩⟩]) (.slice (some ⟨g9, 0, none⟩) (no + 1) cp9) (no + 1) w9) := hide ((HI9.out.keep ((Below.refl _ _).alloc (Nat.le_refl _) _)).push hgrow (by rw [List.flatMap_append, List.flatMap_append, List.append_assoc]; exact hown))
                          have HB9 := hide HR9.out.below
                          clear HI9 HR9 l0 l1 l2 l3 l4 HBL hown hgrow hg2 hlt
                          go_wp2_with (fail)
                          go_ret2
                          exact pars_nil HLO.out (by rw [HN.out]; exact HB9.out)
                      · have HFN : Hid (rectR s p r = splitR ⟨r, F⟩ p) := hide (by unfold rectR; rw [if_neg (by rw [HFF.out]; exact hF0), HFF.out])
                        have hf0 : (F == 0) = false := by simpa using hF0
                        have HSX := hide (HSP.out r F HF15.out)
                        obtain ⟨⟨Q, qc⟩, hQ⟩ : ∃ C, splitR ⟨r, F⟩ p = C := ⟨_, rfl⟩
                        rw [hQ] at HSX HFN
                        have HQL : Hid (Q.length ≤ 400) := hide (by have := rect_len s p r; rw [HFN.out] at this; exact this)
                        have hql : (Q.length : Int) ≤ 400 := by have := HQL.out; omega
                        obtain ⟨p0, p1, p2⟩ := HI9.out.box
                        have hn1 : n < wc.heap.size := by omega
                        clear hQ hF0 HSP
                        go_wp2_with (fail)
                        refine (HSX.out _).mono ?_
                        rintro e w8 ⟨⟨A8, c8, rfl, hown8⟩, hb⟩
                        have HI8 := hide (HI9.out.keep hb)
                        have HQR := hide hown8
                        have HS8 : n + 1 ≤ w8.heap.size := HI8.out.size
                        clear hb HI9 HSX p0 p1 p2 hn1 hown8 l0 l1 l2 l3 l4 HBL hg HS1
                        simp only at HQR ⊢
                        by_cases hqc : qc = 0
                        · subst hqc
                          by_cases hsum : no + Q.length ≤ 600
                          · have hzs : (no : Int) + (Q.length : Int) ≤ 600 := by omega
                            go_wp2_with (fail)
                            go_loopw [13, 98] (fun ov i wr => ∃ (k n9 : Nat) (A : Option Addr) (c : Nat), k ≤ Q.length ∧ n9 + Q.length ≤ 600 + k ∧ i = .int .i64 k ∧ ov = .slice A n9 c ∧ Hid (LI n w p (pcA s p 0 (bs.take m) ++ pcB s p m (b.take j) ++ (Q.take k).map (Par6.mk (m : Int))) (.slice A n9 c) n9 wr ∧ wr.ownsRow wc.heap.size 56 5 (.slice A8 Q.length c8) Q.length (Q.flatMap encL))) (fun _ i _ => Q.length - (intOf i).toNat)
                            case atStart => exact ⟨0, no, A, c, Nat.zero_le _, hsum, rfl, rfl, hide ⟨by rw [List.take_zero, List.map_nil, List.append_nil]; exact HI8.out, HQR.out⟩⟩
                            case round =>
                              clear HI8 HQR HS8 hzs nz6
                              obtain ⟨k, n9, A, c, hkq, hn9, rfl, rfl, HIQ⟩ := hrel
                              by_cases hltk : k < Q.length
                              · obtain ⟨x, hpx⟩ : ∃ p, Q[k]? = some p := ⟨_, List.getElem?_eq_getElem hltk⟩
                                obtain ⟨A0, c0, e0, hrd⟩ := own_rd HIQ.out.2 (fun _ => rfl)
                                injection e0 with eA eN eC
                                subst eC
                                obtain ⟨g3, o3, rfl, hbl3, kk⟩ := hrd (by intro e; rw [e] at hltk; simp at hltk)
                                subst eA
                                have d0 : wr.cell? ⟨g3, o3 + k * 5, none⟩ = some (.int .i64 x.r.x0) := kk k _ hpx 0 _ rfl
                                have d1 : wr.cell? ⟨g3, o3 + k * 5 + 1, none⟩ = some (.int .i64 x.r.y0) := kk k _ hpx 1 _ rfl
                                have d2 : wr.cell? ⟨g3, o3 + k * 5 + 2, none⟩ = some (.int .i64 x.r.x1) := kk k _ hpx 2 _ rfl
                                have d3 : wr.cell? ⟨g3, o3 + k * 5 + 3, none⟩ = some (.int .i64 x.r.y1) := kk k _ hpx 3 _ rfl
                                have d4 : wr.cell? ⟨g3, o3 + k * 5 + 4, none⟩ = some (.int .u8 x.f) := kk k _ hpx 4 _ rfl
                                have kz : (k : Int) < (Q.length : Int) := by omega
                                have HTK : Hid ((Q.take (k + 1)).map (Par6.mk (m : Int)) = (Q.take k).map (Par6.mk (m : Int)) ++ [⟨(m : Int), x⟩]) := hide (by rw [List.take_add_one, hpx]; simp)
                                clear kk hrd hpx
                                go_upto_region 34 with fail
                                refine wp_name5 fun Z2 hZ2 => ?_
                                have hbz2 : Below wr.heap.size wr Z2 := by
                                  rw [hZ2]
                                  repeat (first | with_reducible exact Below.refl _ _ | with_reducible refine Below.setCell ?_ (by first | (simp; done) | (simp; omega)) _ | with_reducible refine Below.alloc ?_ (by first | omega | (simp; omega) | simp) _)
                                have HXZ : BoxL5 wr.heap.size x Z2 := by rw [hZ2]; refine ⟨?_, ?_, ?_, ?_, ?_, ?_⟩ <;> simp [go_sem]
                                have HIZ2 := hide (And.intro (HIQ.out.1.keep hbz2) (own_below HIQ.out.2 hbz2))
                                have HS2 : n + 1 ≤ Z2.heap.size := HIZ2.out.1.size
                                generalize wr.heap.size = q3 at *
                                clear hZ2 hbz2 HIQ d0 d1 d2 d3 d4 hbl3
                                obtain ⟨x0, x1, x2, x3, x4, hx5⟩ := HXZ
                                go_wp2_with (at_builtin; go_loud (refine wpList_append_lies _ rfl (.tmp 102) (.tmp 106) 47 rfl (n + 1) 58 i1 (.agg #[.int .i64 0, .int .i64 0, .int .i64 0, .int .i64 0, .int .i64 0, .int .u8 0]) 6 48 Tryz.underlying47 gi gz0 gz1 gz2 rfl (by decide) _ n9 _ rfl (World.ownsRow.alloc HIZ2.out.1.row _) ⟨Z2.heap.size, 0, none⟩ 1 1 [.int .i64 (m : Int), .int .i64 x.r.x0, .int .i64 x.r.y0, .int .i64 x.r.x1, .int .i64 x.r.y1, .int .u8 x.f] rfl rfl (news_new Z2 _ _ _ rfl) (ints_one rfl) (by omega) (by unfold maxLen; omega) (by omega) (by simp; omega) _ rfl ?_))
                                intro g9 cp9 w9 hown hgrow hg2 hlt9
                                have HR9 : Hid (LI n w p (pcA s p 0 (bs.take m) ++ pcB s p m (b.take j) ++ (Q.take (k + 1)).map (Par6.mk (m : Int))) (.slice (some ⟨g9, 0, none⟩) (n9 + 1) cp9) (n9 + 1) w9 ∧ w9.ownsRow wc.heap.size 56 5 (.slice (some ⟨g3, o3, none⟩) Q.length c8) Q.length (Q.flatMap encL)) := hide ⟨(HIZ2.out.1.keep ((Below.refl _ _).alloc (Nat.le_refl _) _)).push hgrow (by rw [HTK.out, ← List.append_assoc, List.flatMap_append, List.flatMap_append, List.flatMap_append, List.append_assoc, List.append_assoc, List.map_take]; exact hown), (own_below HIZ2.out.2 ((Below.refl _ _).alloc (Nat.le_refl _) _)).kept hgrow (own_apart HIZ2.out.2 HIZ2.out.1.row lot_par)⟩
                                clear HIZ2 HTK x0 x1 x2 x3 x4 hx5 hown hgrow hg2 hlt9
                                go_wp2_with (fail)
                                go_roundw
                                case rel => exact ⟨k + 1, n9 + 1, _, cp9, by omega, by omega, by go_num, rfl, HR9⟩
                                case measure => simp [intOf]; omega
                              · obtain rfl : k = Q.length := by omega
                                have HI7 := hide HIQ.out.1
                                clear HIQ
                                go_wp2_with (fail)
                                go_roundg (b.length - (j + 1))
                                case rel => exact ⟨j + 1, n9, A, c, by omega, by omega, by go_num, rfl, hide (fun i x hi hx => by
                                  rcases Nat.lt_or_ge i j with h | h
                                  · exact HK.out i x h hx
                                  · obtain rfl : i = j := by omega
                                    rw [HR.out] at hx
                                    cases hx
                                    rw [HFN.out]), by rw [HPT.out, show pcR s p m r = (Q.take Q.length).map (Par6.mk (m : Int)) by unfold pcR; rw [HFN.out, List.take_length], ← List.append_assoc]; exact HI7⟩
                                case measure => omega
                          · have hzs : (600 : Int) < (no : Int) + (Q.length : Int) := by omega
                            have HLO : Hid (lotsF bs s p = ([], 4)) := hide (HOK.out.long (by
                              have h1 := HLE.out (j + 1)
                              have h3 : (pcR s p m r).length = Q.length := by unfold pcR; rw [HFN.out, List.length_map]
                              rw [HPT.out, List.length_append, h3] at h1
                              have h2 := HNO.out
                              rw [List.length_append] at h2
                              omega))
                            have HB9 := hide HI8.out.below
                            clear HI8 HQR
                            go_wp2_with (fail)
                            go_ret2
                            exact pars_nil HLO.out (by rw [HN.out]; exact HB9.out)
                        · have hne : (qc != 0) = true := by simpa using hqc
                          have HLO : Hid (lotsF bs s p = ([], 4)) := hide (HOK.out.few (HFEW.out (by rw [HFN.out]; exact hqc)))
                          have HB9 := hide HI8.out.below
                          clear HI8 HQR
                          go_wp2_with (fail)
                          go_ret2
                          exact pars_nil HLO.out (by rw [HN.out]; exact HB9.out)
                  · obtain rfl : j = b.length := by omega
                    have HKA : Hid (∀ (i : Nat) (r : R4), b[i]? = some r → (rectR s p r).2 = 0) := hide (fun i r hi => HK.out i r (List.getElem?_eq_some_iff.1 hi).1 hi)
                    have HIM : Hid (LI n w p (pcA s p 0 (bs.take (m + 1))) (.slice A no c) no wr) := hide (by rw [pcA_at s p HP.out]; have := HI.out; rw [List.take_length] at this; exact this)
                    clear HI HK
                    go_wp2_with (fail)
                    go_simp
                    go_step
                    go_wp2_with (fail)
                    go_roundw
                    case rel => exact ⟨m + 1, no, A, c, by omega, hno, by go_num, rfl, hide (fun i x hi hx => by
                      rcases Nat.lt_or_ge i m with h | h
                      · exact HJ.out i x h hx
                      · obtain rfl : i = m := by omega
                        rw [HP.out] at hx
                        cases hx
                        exact HKA.out), HIM⟩
                    case measure => simp [intOf]; omega
              · obtain rfl : m = bs.length := by omega
                have HALL2 : Hid (lotsF bs s p = (pcA s p 0 bs, 0)) := hide (by
                  have h1 := HI.out.len
                  rw [List.take_length] at h1
                  rw [HOK.out.eq, if_pos ⟨few_all fun i b hi => HJ.out i b (List.getElem?_eq_some_iff.1 hi).1 hi, by omega⟩])
                have HI6 : Hid (LI n w p (pcA s p 0 bs) (.slice A no c) no wr) := hide (by have := HI.out; rw [List.take_length] at this; exact this)
                have HB9 := hide HI6.out.below
                clear HI HJ
                go_wp2_with (fail)
                go_ret2
                have hnl := HI6.out.len
                refine ⟨⟨A, c, ?_, ?_⟩, by rw [HN.out]; exact HB9.out⟩
                · rw [HALL2.out]
                  show _ = Ending.returned (.tuple #[.slice A (pcA s p 0 bs).length c, .int .i64 0])
                  rw [← hnl]
                  rfl
                · rw [HALL2.out]
                  show World.ownsRow _ _ _ _ (.slice A (pcA s p 0 bs).length c) (pcA s p 0 bs).length ((pcA s p 0 bs).flatMap encQ)
                  rw [← hnl, HN.out]
                  exact own_base HI6.out.row (by omega)
          · have HF : Hid (lotsF bs s p = ([], 2)) := hide (by
              have := H4.out
              unfold lotsF
              rw [if_neg (by rw [HC.out]; simp), if_neg (by omega), if_neg (by rw [HBAD.out]; simp), if_pos hok])
            have hw2 : okW p = 2 := by
              have := okW_eq p
              split at this
              · exact absurd this hok
              · exact this
            have HB2 := hide HI2.out.below
            rw [hw2]
            clear hw2 hok HI2
            go_wp2_with (fail)
            go_ret2
            exact pars_nil HF.out (by rw [HN.out]; exact HB2.out)
    · have hz4 : (400 : Int) < (bs.length : Int) := by omega
      have HF : Hid (lotsF bs s p = ([], 4)) := hide (by
        unfold lotsF
        rw [if_neg (by rw [HC.out]; simp), if_pos (by omega)])
      have HI2 := hide HI1.out.below
      go_wp2_with (fail)
      go_ret2
      exact pars_nil HF.out (by rw [HN.out]; exact HI2.out)
  · have HF : Hid (lotsF bs s p = ([], checkF s)) := hide (if_pos hc)
    have hne : (checkF s != 0) = true := by simpa using hc
    clear HFR hc
    generalize checkF s = ck at *
    go_enter Tryz.func15, Tryz.ntmps15
    go_wp2_with (fail)
    refine (HCK.out _ HI.out.below).mono ?_
    rintro e w1 ⟨rfl, hb⟩
    have HI1 := hide (HI.out.keep hb).below
    clear hb hW HI HCK
    go_wp2_with (fail)
    go_ret2
    exact pars_nil HF.out (by rw [HN.out]; exact HI1.out)
end Go.Proofs.YtabogapiecciiaaGreat

/- A region that draws its order: reads, a chain (a call) that keeps their condition, reads of slots in any order, and a last operation. The law, in a round and outside of one. -/
namespace Go.Proofs.YtabogapiecciiaaGreat
open Go.RowKit
set_option linter.unusedVariables false
set_option linter.unusedSimpArgs false

section
variable {P : Program} {Q : Exit → Act → World → Prop} {md : Region.Mode} {S : World → Prop}

def mixCB (md : Region.Mode) (ops : Array Oper) (R2 T2 : List Nat) : List Nat → Array Bool → Bool
  | [], l => mixRB md ops T2 R2 l
  | t :: r, l => (Region.ready md ops l == [t]) && mixCB md ops R2 T2 r (l.setIfInBounds t true)
def mixHB (md : Region.Mode) (ops : Array Oper) (T R2 T2 : List Nat) : List Nat → Array Bool → Bool
  | [], l => mixCB md ops R2 T2 T l
  | i :: r, l => Region.free md ops l i && (Region.ready md ops l).contains i && waitsFor md ops (ops.size - 1) i && mixHB md ops T R2 T2 r (l.setIfInBounds i true)
def mixTwoB (md : Region.Mode) (ops : Array Oper) (R T R2 T2 : List Nat) : Bool := Region.noSelect ops && decide (R.length + (T.length + (R2.length + T2.length)) = ops.size) && (T2.getLast? == some (ops.size - 1)) && mixHB md ops T R2 T2 R (Array.replicate ops.size false)

/-- One operation behind the other; behind each, S is shown anew. -/
def wpChain (P : Program) (ops : Array Oper) (S : World → Prop) (Q : Exit → Act → World → Prop) (K : Act → World → Prop) : List Oper → Act → World → Prop
  | [], a, w => K a w
  | o :: r, a, w => ∀ K' : Act → World → Prop, (∀ a' w', S w' → wpChain P ops S Q K r a' w' → K' a' w') → if Region.wanted o (yielded ops a.tmps) = true then o.wp P a w K' Q else K' (a.put o.dst undef) w

theorem wpChain_mix {l : List Oper} {R2 T2 : List Nat} (hsel : ∀ (j : Nat) (o : Oper) cs b, l.toArray[j]? = some o → o.op ≠ .select cs b) (hQ : ∀ c a a' w, Q (.panic c) a w → Q (.panic c) a' w) (hL : ∀ t, T2.getLast? = some t → t = l.length - 1) :
    ∀ (T : List Nat) (listed : Array Bool) (a : Act) (w : World), S w → mixCB md l.toArray R2 T2 T listed = true →
      wpChain P l.toArray S Q (fun a w => wpReads P l.toArray S (fun a' => wpTail P l.toArray S Q (T2.map (opAt l)) a' w) (R2.map (opAt l)) a) (T.map (opAt l)) a w →
      wpAnyE P md l.toArray Q S (l.length - 1) (T.length + (R2.length + T2.length)) listed a w
  | [], listed, a, w, hS, hT, h => by
    rw [List.length_nil, Nat.zero_add]
    exact wpReads_mix hsel hQ hL hS R2 listed a hT h
  | t :: r, listed, a, w, hS, hT, h => by
    simp only [mixCB, Bool.and_eq_true, beq_iff_eq] at hT
    rw [List.length_cons, Nat.add_right_comm]
    refine ⟨fun h0 => (by rw [hT.1] at h0; cases h0), fun i hi => ?_⟩
    obtain ⟨_, o, ho, _⟩ := mem_ready.1 hi
    rw [hT.1] at hi
    obtain rfl : i = t := by simpa using hi
    have ho' : l[i]? = some o := by simpa using ho
    simp only [List.map_cons, opAt_some ho'] at h
    refine wpOp_step ho fun K' hK => h K' fun a' w' hS' hT' => hK a' w' ⟨fun _ => hS', ?_⟩
    exact wpChain_mix hsel hQ hL r _ a' w' hS' hT.2 hT'
theorem wpHead_mix {l : List Oper} {T R2 T2 : List Nat} (hsel : ∀ (j : Nat) (o : Oper) cs b, l.toArray[j]? = some o → o.op ≠ .select cs b) (hQ : ∀ c a a' w, Q (.panic c) a w → Q (.panic c) a' w) (hL : ∀ t, T2.getLast? = some t → t = l.length - 1)
    {w : World} (hS : S w) : ∀ (R : List Nat) (listed : Array Bool) (a : Act), mixHB md l.toArray T R2 T2 R listed = true →
      wpReads P l.toArray S (fun a' => wpChain P l.toArray S Q (fun a w => wpReads P l.toArray S (fun a' => wpTail P l.toArray S Q (T2.map (opAt l)) a' w) (R2.map (opAt l)) a) (T.map (opAt l)) a' w) (R.map (opAt l)) a →
      wpAnyE P md l.toArray Q S (l.length - 1) (R.length + (T.length + (R2.length + T2.length))) listed a w
  | [], listed, a, hR, h => by
    rw [List.length_nil, Nat.zero_add]
    exact wpChain_mix hsel hQ hL T listed a w hS hR h
  | i :: r, listed, a, hR, h => by
    simp only [mixHB, Bool.and_eq_true, List.contains_iff_mem] at hR
    obtain ⟨⟨⟨f1, f2⟩, f3⟩, f4⟩ := hR
    obtain ⟨_, o, ho, _⟩ := mem_ready.1 f2
    have ho' : l[i]? = some o := by simpa using ho
    simp only [List.map_cons, opAt_some ho'] at h
    obtain ⟨v, hy, h⟩ := h
    have ih := wpHead_mix hsel hQ hL hS r _ _ f4 h
    rw [List.length_cons, Nat.add_right_comm]
    refine wpAnyE_first ho hsel (fun c a w h => hQ c _ _ w h) ?_ _ _ _ _ (Region.free_spec ho f1) f2 hy hS ih
    intro oL hoL
    unfold waitsFor at f3
    simp only [List.size_toArray] at f3
    rw [hoL] at f3
    obtain ⟨e, he, h2⟩ := Array.any_eq_true'.1 f3
    simp only [Bool.and_eq_true, beq_iff_eq] at h2
    exact ⟨e, he, h2.1, h2.2⟩
theorem wpAny_two {a : Act} {w : World} {l : List Oper} (R T R2 T2 : List Nat) (hB : mixTwoB .any l.toArray R T R2 T2 = true) (hS : S w)
    (h : wpReads P l.toArray S (fun a' => wpChain P l.toArray S (NoPanic Q) (fun a w => wpReads P l.toArray S (fun a' => wpTail P l.toArray S (NoPanic Q) (T2.map (opAt l)) a' w) (R2.map (opAt l)) a) (T.map (opAt l)) a' w) (R.map (opAt l)) a) :
    wpAny P .any l.toArray (NoPanic Q) l.toArray.size (Array.replicate l.toArray.size false) a w := by
  refine wpAny_of_E (S := S) (L := l.length - 1) _ _ _ _ ?_
  simp only [mixTwoB, Bool.and_eq_true, decide_eq_true_eq, beq_iff_eq, List.size_toArray] at hB
  obtain ⟨⟨⟨b1, b2⟩, b3⟩, b4⟩ := hB
  have := wpHead_mix (Q := NoPanic Q) (S := S) (l := l) (T := T) (R2 := R2) (T2 := T2) (w := w) (Region.noSelect_spec b1) (fun _ _ _ _ h => h) (fun t ht => by rw [b3] at ht; injection ht with ht; exact ht.symm) hS R _ a b4 h
  rw [b2] at this
  exact this
theorem wp_region_two {id : Nat} {a : Act} {w : World} {l : List Oper} (R T R2 T2 : List Nat) (S : World → Prop) (hm : P.follows .mixedOrders = true) (hB : mixTwoB .any l.toArray R T R2 T2 = true) (hS : S w.drew)
    (h : wpReads P l.toArray S (fun a' => wpChain P l.toArray S (NoPanic Q) (fun a w => wpReads P l.toArray S (fun a' => wpTail P l.toArray S (NoPanic Q) (T2.map (opAt l)) a' w) (R2.map (opAt l)) a) (T.map (opAt l)) a' w.drew) (R.map (opAt l)) a) :
    (Code.region id l.toArray true).wp P Q a w :=
  wp_region_noPanic (wp_region_any hm (wpAny_two R T R2 T2 hB hS h))
theorem wpIn_region_two {id r m : Nat} {a : Act} {w : World} {l : List Oper} (R T R2 T2 : List Nat) (S : World → Prop) (hm : P.follows .mixedOrders = true) (hB : mixTwoB .any l.toArray R T R2 T2 = true) (hnd : noDefer l = true) (hout : ∀ a w, ¬ Q .outgrown a w) (hS : S w.drew)
    (h : wpReads P l.toArray S (fun a' => wpChain P l.toArray S (NoPanic Q) (fun a w => wpReads P l.toArray S (fun a' => wpTail P l.toArray S (NoPanic Q) (T2.map (opAt l)) a' w) (R2.map (opAt l)) a) (T.map (opAt l)) a' w.drew) (R.map (opAt l)) a) :
    (Code.region id l.toArray true).wpIn (Fence.wide.inRound r) m P Q a w :=
  Code.wpIn_mono NoPanic.imp (wpIn_region_any hm (wpAny_round (noDefer_spec hnd) (fun a w h => hout a w (NoPanic.imp _ _ _ h)) _ _ _ _ (wpAny_two R T R2 T2 hB hS h)))
end
end Go.Proofs.YtabogapiecciiaaGreat

/- The reference's Wide and High. -/
namespace Go.Proofs.YtabogapiecciiaaGreat
open Go.RowKit
set_option linter.unusedVariables false
set_option linter.unusedSimpArgs false

theorem Box5.upd {w w' : World} {b o : Nat} {row : Option Nat} {v0 v1 v2 v3 v4 : Value} (h : Box5 w b v0 v1 v2 v3 v4) (U : Upd o row w w') (h1 : b ≠ o) (h2 : row ≠ some b) : Box5 w' b v0 v1 v2 v3 v4 := by
  have hs := lt_of_cell h.c0
  exact ⟨(U.cell hs h1 h2).trans h.c0, (U.cell hs h1 h2).trans h.c1, (U.cell hs h1 h2).trans h.c2, (U.cell hs h1 h2).trans h.c3, (U.cell hs h1 h2).trans h.c4, (U.frozen hs h1 h2).trans h.z0, (U.frozen hs h1 h2).trans h.z1, (U.frozen hs h1 h2).trans h.z2, (U.frozen hs h1 h2).trans h.z3, (U.frozen hs h1 h2).trans h.z4⟩
set_option maxRecDepth 100000 in
set_option maxHeartbeats 8000000 in
theorem rWide_any (l : Lot5) (h : validL l) (w : World) : Calls Tryz.prog 138 #[.agg (encL l).toArray] w fun e w' => e = .returned (.tuple #[.agg (encL (wideL l).1).toArray, .agg (encL (wideL l).2).toArray]) ∧ Below w.heap.size w w' := by
  have hf : 0 ≤ l.f ∧ l.f ≤ 255 := by have := h.2; omega
  have HF1 := hide (fun W => rless_any hf (s := 2) (.inr (.inl rfl)) W)
  have HF2 := hide (fun W => rless_any hf (s := 1) (.inl rfl) W)
  have HWI : Hid (∀ W, Calls Tryz.prog 46 #[.agg (encR l.r).toArray] W fun e w' => e = .returned (.int .i64 l.w) ∧ Below W.heap.size W w') := hide (fun W => rWidth_any l.r h.1 W)
  have hp := valid_pos h
  have hm := half_wrap (x := l.r.x0) (d := l.w) h.1.2.2.1 ⟨hp.1, hp.2.2.1⟩
  have HR : Hid (wideL l = (⟨⟨l.r.x0, l.r.y0, l.r.x0 + l.w / 2, l.r.y1⟩, lessS l.f 2⟩, ⟨⟨l.r.x0 + l.w / 2, l.r.y0, l.r.x1, l.r.y1⟩, lessS l.f 1⟩)) := hide rfl
  clear hp h hf
  generalize wideL l = R at *
  generalize l.r.x0 + l.w / 2 = m at *
  generalize l.w = d at *
  generalize lessS l.f 2 = fa at *
  generalize lessS l.f 1 = fb at *
  obtain ⟨⟨x0, y0, x1, y1⟩, f⟩ := l
  have HM := hide hm
  clear hm
  show Calls Tryz.prog _ #[.agg #[.int .i64 x0, .int .i64 y0, .int .i64 x1, .int .i64 y1, .int .u8 f]] w _
  simp only [encR] at HWI
  go_enter Tryz.func138, Tryz.ntmps138
  go_upto_region 1 with fail
  refine wp_name5 fun W hW => ?_
  have hb0 : Below w.heap.size w W := by rw [hW]; exact (((Below.refl _ _).alloc (Nat.le_refl _) _).alloc (by simp) _).alloc (by simp; omega) _
  have hs0 : w.heap.size + 2 < W.heap.size := by rw [hW]; simp
  have HL : Box5L W w.heap.size ⟨⟨x0, y0, x1, y1⟩, f⟩ := by rw [hW]; refine ⟨?_, ?_, ?_, ?_, ?_, ?_, ?_, ?_, ?_, ?_⟩ <;> simp [go_sem]
  have HA : Box5L W (w.heap.size + 1) zeroL := by rw [hW]; refine ⟨?_, ?_, ?_, ?_, ?_, ?_, ?_, ?_, ?_, ?_⟩ <;> simp [go_sem, zeroL]
  have HB : Box5L W (w.heap.size + 1 + 1) zeroL := by rw [hW]; refine ⟨?_, ?_, ?_, ?_, ?_, ?_, ?_, ?_, ?_, ?_⟩ <;> simp [go_sem, zeroL]
  obtain ⟨n, hn⟩ : ∃ n, w.heap.size = n := ⟨_, rfl⟩
  rw [hn] at hb0 hs0 HL HA HB ⊢
  have K0 := hide hb0
  have HN := hide hn
  clear hW hb0 hn
  go_cut [4, 5] (fun s4 s5 wx => ∃ g4 g5 : Nat, s4 = .pointer (some ⟨g4, 0, none⟩) ∧ s5 = .pointer (some ⟨g5, 0, none⟩) ∧ Below W.heap.size W wx ∧ W.heap.size ≤ g4 ∧ W.heap.size ≤ g5 ∧ g4 ≠ g5 ∧ Box5L wx g4 ⟨⟨x0, y0, x1, y1⟩, f⟩ ∧ Box5L wx g5 ⟨⟨x0, y0, x1, y1⟩, f⟩)
  case first =>
    obtain ⟨l0, l1, l2, l3, l4, -, -, -, -, -⟩ := id HL
    simp only at l0 l1 l2 l3 l4
    have q1 : n < W.heap.size := by omega
    have q2 : n < W.heap.size + 1 := by omega
    go_region
    all_goals (go_wp2_with (fail); go_meet)
    all_goals
      refine ⟨_, _, rfl, rfl, ?_, ?_, ?_, ?_, ?_, ?_⟩
      · repeat (first | with_reducible exact Below.refl _ _ | with_reducible refine Below.setCell ?_ (by simp) _ | with_reducible refine Below.alloc ?_ (by simp <;> omega) _ | with_reducible refine Below.drew ?_)
      · first | omega | simp
      · first | omega | simp
      · first | omega | simp
      · refine ⟨?_, ?_, ?_, ?_, ?_, ?_, ?_, ?_, ?_, ?_⟩ <;> simp [go_sem]
      · refine ⟨?_, ?_, ?_, ?_, ?_, ?_, ?_, ?_, ?_, ?_⟩ <;> simp [go_sem]
  case rest =>
    obtain ⟨g4, g5, rfl, rfl, hb, hg4, hg5, hne, HX, HY⟩ := hcut
    have HL1 := HL.below hb
    have HA1 := HA.below hb
    have HB1 := HB.below hb
    have K1 := hide (K0.out.trans (hb.mono (by omega)))
    have hn4 : n + 2 < g4 := by omega
    have hn5 : n + 2 < g5 := by omega
    have hnw : n + 2 < wc.heap.size := by have := hb.size; omega
    clear hb HL HA HB hg4 hg5 hs0 K0
    obtain ⟨l0, l1, l2, l3, l4, -, -, -, -, -⟩ := id HL1
    simp only at l0 l1 l2 l3 l4
    have q1 : n < wc.heap.size := by omega
    go_wp2
    refine wp_hab fun hab => ?_
    refine wp_region_above (by kernel_rfl) (by kernel_rfl) ?_
    repeat (go_big_quiet_step ((go_at_call 46; exact above_of (HWI.out _))))
    refine wpQuiet_nil ?_
    refine above_ends fun w3 hb => ?_
    clear hab l0 l1 l2 l3 l4 q1
    have HL3 := HL1.below hb
    have HA3 := HA1.below hb
    have HB3 := HB1.below hb
    have HX3 := HX.below hb
    have HY3 := HY.below hb
    have K3 := hide (K1.out.trans (hb.mono (by omega)))
    clear hb HL1 HA1 HB1 HX HY K1 hnw
    try rw [HM.out]
    obtain ⟨a0, a1, a2, a3, a4, af0, af1, af2, af3, af4⟩ := id HX3
    obtain ⟨b0, b1, b2, b3, b4, bf0, bf1, bf2, bf3, bf4⟩ := id HY3
    simp only at a0 a1 a2 a3 a4 b0 b1 b2 b3 b4
    have hnx : n + 2 < w3.heap.size := by have := lt_of_cell HB3.c0; omega
    go_upto_region 4 with fail
    refine wp_name5 fun Z hZ => ?_
    have U : Upd g4 (some g5) w3 Z := by rw [hZ]; exact (Upd.refl g4 (some g5) w3).setCell _ _ |>.setRow _ _
    have HXZ : Box5L Z g4 ⟨⟨x0, y0, m, y1⟩, f⟩ := by rw [hZ]; refine ⟨?_, ?_, ?_, ?_, ?_, ?_, ?_, ?_, ?_, ?_⟩ <;> simp [go_sem, hne, hne.symm, a0, a1, a2, a3, a4, af0, af1, af2, af3, af4]
    have HYZ : Box5L Z g5 ⟨⟨m, y0, x1, y1⟩, f⟩ := by rw [hZ]; refine ⟨?_, ?_, ?_, ?_, ?_, ?_, ?_, ?_, ?_, ?_⟩ <;> simp [go_sem, hne, hne.symm, b0, b1, b2, b3, b4, bf0, bf1, bf2, bf3, bf4]
    have HLZ : Box5L Z n ⟨⟨x0, y0, x1, y1⟩, f⟩ := Box5.upd HL3 U (by omega) (fun e => by injection e with e; omega)
    have HAZ : Box5L Z (n + 1) zeroL := Box5.upd HA3 U (by omega) (fun e => by injection e with e; omega)
    have HBZ : Box5L Z (n + 1 + 1) zeroL := Box5.upd HB3 U (by omega) (fun e => by injection e with e; omega)
    have KZ := hide (K3.out.trans (U.below (n := n) (by omega) (by omega) (fun k hk => by injection hk with hk; omega)))
    clear hZ U a0 a1 a2 a3 a4 af0 af1 af2 af3 af4 b0 b1 b2 b3 b4 bf0 bf1 bf2 bf3 bf4 HX3 HY3 HL3 HA3 HB3 K3 hnx
    obtain ⟨-, -, -, -, l4, -, -, -, -, -⟩ := id HLZ
    obtain ⟨a0, a1, a2, a3, a4, af0, af1, af2, af3, af4⟩ := id HXZ
    obtain ⟨b0, b1, b2, b3, b4, bf0, bf1, bf2, bf3, bf4⟩ := id HYZ
    simp only at l4 a0 a1 a2 a3 a4 b0 b1 b2 b3 b4
    refine wp_region_two [0, 1, 3, 4] [2] [6] [5, 7, 8, 9] (fun w' => w'.cell? ⟨n, 4, none⟩ = some (.int .u8 f) ∧ (w'.cell? ⟨g4, 4, none⟩ = some (.int .u8 f) ∨ True)) (by kernel_rfl) (by kernel_rfl) ⟨l4, .inr trivial⟩ ?_
    simp only [List.map_cons, List.map_nil, opAt, List.getElem?_cons_succ, List.getElem?_cons_zero, Option.getD_some]
    iterate 4
      refine ⟨?_, Or.inl ⟨by rfl, ?_⟩, ?_⟩
      rotate_left 1
      · intro w' hSw
        obtain ⟨z0, -⟩ := hSw
        go_simp
        first | done | with_reducible rfl
      simp only [Act.put, List.setIfInBounds_toArray, List.set_cons_zero, List.set_cons_succ]
    simp only [wpReads, wpChain]
    intro K hK
    simp only [Act.put, List.setIfInBounds_toArray, List.set_cons_zero, List.set_cons_succ] at hK ⊢
    go_simp
    refine (HF1.out _).mono ?_
    rintro e w6 ⟨rfl, rfl⟩
    refine hK _ _ ⟨l4, .inr trivial⟩ ?_
    clear hK K
    iterate 1
      refine ⟨?_, Or.inl ⟨by rfl, ?_⟩, ?_⟩
      rotate_left 1
      · intro w' hSw
        clear hSw
        go_simp
        first | done | with_reducible rfl
      try simp only [Act.put, List.setIfInBounds_toArray, List.set_cons_zero, List.set_cons_succ]
    intro K hK
    simp only [Act.put, List.setIfInBounds_toArray, List.set_cons_zero, List.set_cons_succ] at hK ⊢
    go_simp
    refine (HF2.out _).mono ?_
    rintro e w6 ⟨rfl, rfl⟩
    refine hK _ _ (fun _ => ⟨l4, .inr trivial⟩) ?_
    clear hK K
    have n1 : n ≠ g4 := by omega
    intro K hK
    simp only [Act.put, List.setIfInBounds_toArray, List.set_cons_zero, List.set_cons_succ] at hK ⊢
    go_simp
    refine hK _ _ (fun _ => ⟨by simp [go_sem, n1, n1.symm, l4], .inr trivial⟩) ?_
    clear hK K
    intro K hK
    simp only [Act.put, List.setIfInBounds_toArray, List.set_cons_zero, List.set_cons_succ] at hK ⊢
    go_simp
    refine hK _ _ (fun _ => ⟨by simp [go_sem, n1, n1.symm, l4], .inr trivial⟩) ?_
    clear hK K
    intro K hK
    simp only [Act.put, List.setIfInBounds_toArray, List.set_cons_zero, List.set_cons_succ] at hK ⊢
    go_simp
    refine hK _ _ (fun h => absurd rfl h) ?_
    clear hK K
    refine NoPanic.normal ?_
    go_upto_region 5 with fail
    refine wp_name5 fun V0 hV0 => ?_
    have U : Upd g4 (some g5) Z V0 := by rw [hV0]; exact upd_drew ((Upd.refl g4 (some g5) Z).setCell _ _ |>.setRow _ _)
    have HXV : Box5L V0 g4 ⟨⟨x0, y0, m, y1⟩, fa⟩ := by rw [hV0]; refine ⟨?_, ?_, ?_, ?_, ?_, ?_, ?_, ?_, ?_, ?_⟩ <;> simp [go_sem, hne, hne.symm, a0, a1, a2, a3, a4, af0, af1, af2, af3, af4]
    have HYV : Box5L V0 g5 ⟨⟨m, y0, x1, y1⟩, fb⟩ := by rw [hV0]; refine ⟨?_, ?_, ?_, ?_, ?_, ?_, ?_, ?_, ?_, ?_⟩ <;> simp [go_sem, hne, hne.symm, b0, b1, b2, b3, b4, bf0, bf1, bf2, bf3, bf4]
    have HAV : Box5L V0 (n + 1) zeroL := Box5.upd HAZ U (by omega) (fun e => by injection e with e; omega)
    have HBV : Box5L V0 (n + 1 + 1) zeroL := Box5.upd HBZ U (by omega) (fun e => by injection e with e; omega)
    have KV := hide (KZ.out.trans (U.below (n := n) (by omega) (by have := lt_of_cell HBZ.c0; omega) (fun k hk => by injection hk with hk; omega)))
    clear hV0 U a0 a1 a2 a3 a4 af0 af1 af2 af3 af4 b0 b1 b2 b3 b4 bf0 bf1 bf2 bf3 bf4 HXZ HYZ HLZ HAZ HBZ KZ l4
    obtain ⟨x0', x1', x2', x3', x4', -, -, -, -, -⟩ := id HXV
    obtain ⟨y0', y1', y2', y3', y4', -, -, -, -, -⟩ := id HYV
    simp only at x0' x1' x2' x3' x4' y0' y1' y2' y3' y4'
    obtain ⟨a0, a1, a2, a3, a4, af0, af1, af2, af3, af4⟩ := id HAV
    obtain ⟨b0, b1, b2, b3, b4, bf0, bf1, bf2, bf3, bf4⟩ := id HBV
    simp only [zeroL] at a0 a1 a2 a3 a4 b0 b1 b2 b3 b4
    have g4a : g4 ≠ n + 1 := by omega
    have g4b : g4 ≠ n + 1 + 1 := by omega
    have g5a : g5 ≠ n + 1 := by omega
    have g5b : g5 ≠ n + 1 + 1 := by omega
    go_region
    go_wp2_with (fail)
    refine exit_name fun V hV => ?_
    have HAE : Box5L V (n + 1) ⟨⟨x0, y0, m, y1⟩, fa⟩ := by rw [hV]; refine ⟨?_, ?_, ?_, ?_, ?_, ?_, ?_, ?_, ?_, ?_⟩ <;> simp [go_sem, a0, a1, a2, a3, a4, af0, af1, af2, af3, af4]
    have HBE : Box5L V (n + 1 + 1) ⟨⟨m, y0, x1, y1⟩, fb⟩ := by rw [hV]; refine ⟨?_, ?_, ?_, ?_, ?_, ?_, ?_, ?_, ?_, ?_⟩ <;> simp [go_sem, b0, b1, b2, b3, b4, bf0, bf1, bf2, bf3, bf4]
    have KE : Below n w V := by
      rw [hV]
      repeat (first | with_reducible exact KV.out | with_reducible refine Below.setCell ?_ (by first | (simp; done) | (simp; omega)) _ | with_reducible refine Below.drew ?_)
    clear hV a0 a1 a2 a3 a4 af0 af1 af2 af3 af4 b0 b1 b2 b3 b4 bf0 bf1 bf2 bf3 bf4
    obtain ⟨a0, a1, a2, a3, a4, -, -, -, -, -⟩ := HAE
    obtain ⟨b0, b1, b2, b3, b4, -, -, -, -, -⟩ := HBE
    refine bodyPost_ret (v := .tuple #[.agg (encL ⟨⟨x0, y0, m, y1⟩, fa⟩).toArray, .agg (encL ⟨⟨m, y0, x1, y1⟩, fb⟩).toArray]) (by simp [results, Tryz.results138, go_sem, a0, a1, a2, a3, a4, b0, b1, b2, b3, b4, encL]) rfl ⟨by first | (rw [HR.out]; rfl) | rw [HR.out], by first | exact KE | (rw [HN.out]; exact KE)⟩
set_option maxRecDepth 100000 in
set_option maxHeartbeats 8000000 in
theorem rHigh_any (l : Lot5) (h : validL l) (w : World) : Calls Tryz.prog 139 #[.agg (encL l).toArray] w fun e w' => e = .returned (.tuple #[.agg (encL (highL l).1).toArray, .agg (encL (highL l).2).toArray]) ∧ Below w.heap.size w w' := by
  have hf : 0 ≤ l.f ∧ l.f ≤ 255 := by have := h.2; omega
  have HF1 := hide (fun W => rless_any hf (s := 8) (.inr (.inr (.inr rfl))) W)
  have HF2 := hide (fun W => rless_any hf (s := 4) (.inr (.inr (.inl rfl))) W)
  have HWI : Hid (∀ W, Calls Tryz.prog 47 #[.agg (encR l.r).toArray] W fun e w' => e = .returned (.int .i64 l.h) ∧ Below W.heap.size W w') := hide (fun W => rHeight_any l.r h.1 W)
  have hp := valid_pos h
  have hm := half_wrap (x := l.r.y0) (d := l.h) h.1.2.2.2.2.1 ⟨hp.2.1, hp.2.2.2⟩
  have HR : Hid (highL l = (⟨⟨l.r.x0, l.r.y0, l.r.x1, l.r.y0 + l.h / 2⟩, lessS l.f 8⟩, ⟨⟨l.r.x0, l.r.y0 + l.h / 2, l.r.x1, l.r.y1⟩, lessS l.f 4⟩)) := hide rfl
  clear hp h hf
  generalize highL l = R at *
  generalize l.r.y0 + l.h / 2 = m at *
  generalize l.h = d at *
  generalize lessS l.f 8 = fa at *
  generalize lessS l.f 4 = fb at *
  obtain ⟨⟨x0, y0, x1, y1⟩, f⟩ := l
  have HM := hide hm
  clear hm
  show Calls Tryz.prog _ #[.agg #[.int .i64 x0, .int .i64 y0, .int .i64 x1, .int .i64 y1, .int .u8 f]] w _
  simp only [encR] at HWI
  go_enter Tryz.func139, Tryz.ntmps139
  go_upto_region 1 with fail
  refine wp_name5 fun W hW => ?_
  have hb0 : Below w.heap.size w W := by rw [hW]; exact (((Below.refl _ _).alloc (Nat.le_refl _) _).alloc (by simp) _).alloc (by simp; omega) _
  have hs0 : w.heap.size + 2 < W.heap.size := by rw [hW]; simp
  have HL : Box5L W w.heap.size ⟨⟨x0, y0, x1, y1⟩, f⟩ := by rw [hW]; refine ⟨?_, ?_, ?_, ?_, ?_, ?_, ?_, ?_, ?_, ?_⟩ <;> simp [go_sem]
  have HA : Box5L W (w.heap.size + 1) zeroL := by rw [hW]; refine ⟨?_, ?_, ?_, ?_, ?_, ?_, ?_, ?_, ?_, ?_⟩ <;> simp [go_sem, zeroL]
  have HB : Box5L W (w.heap.size + 1 + 1) zeroL := by rw [hW]; refine ⟨?_, ?_, ?_, ?_, ?_, ?_, ?_, ?_, ?_, ?_⟩ <;> simp [go_sem, zeroL]
  obtain ⟨n, hn⟩ : ∃ n, w.heap.size = n := ⟨_, rfl⟩
  rw [hn] at hb0 hs0 HL HA HB ⊢
  have K0 := hide hb0
  have HN := hide hn
  clear hW hb0 hn
  go_cut [4, 5] (fun s4 s5 wx => ∃ g4 g5 : Nat, s4 = .pointer (some ⟨g4, 0, none⟩) ∧ s5 = .pointer (some ⟨g5, 0, none⟩) ∧ Below W.heap.size W wx ∧ W.heap.size ≤ g4 ∧ W.heap.size ≤ g5 ∧ g4 ≠ g5 ∧ Box5L wx g4 ⟨⟨x0, y0, x1, y1⟩, f⟩ ∧ Box5L wx g5 ⟨⟨x0, y0, x1, y1⟩, f⟩)
  case first =>
    obtain ⟨l0, l1, l2, l3, l4, -, -, -, -, -⟩ := id HL
    simp only at l0 l1 l2 l3 l4
    have q1 : n < W.heap.size := by omega
    have q2 : n < W.heap.size + 1 := by omega
    go_region
    all_goals (go_wp2_with (fail); go_meet)
    all_goals
      refine ⟨_, _, rfl, rfl, ?_, ?_, ?_, ?_, ?_, ?_⟩
      · repeat (first | with_reducible exact Below.refl _ _ | with_reducible refine Below.setCell ?_ (by simp) _ | with_reducible refine Below.alloc ?_ (by simp <;> omega) _ | with_reducible refine Below.drew ?_)
      · first | omega | simp
      · first | omega | simp
      · first | omega | simp
      · refine ⟨?_, ?_, ?_, ?_, ?_, ?_, ?_, ?_, ?_, ?_⟩ <;> simp [go_sem]
      · refine ⟨?_, ?_, ?_, ?_, ?_, ?_, ?_, ?_, ?_, ?_⟩ <;> simp [go_sem]
  case rest =>
    obtain ⟨g4, g5, rfl, rfl, hb, hg4, hg5, hne, HX, HY⟩ := hcut
    have HL1 := HL.below hb
    have HA1 := HA.below hb
    have HB1 := HB.below hb
    have K1 := hide (K0.out.trans (hb.mono (by omega)))
    have hn4 : n + 2 < g4 := by omega
    have hn5 : n + 2 < g5 := by omega
    have hnw : n + 2 < wc.heap.size := by have := hb.size; omega
    clear hb HL HA HB hg4 hg5 hs0 K0
    obtain ⟨l0, l1, l2, l3, l4, -, -, -, -, -⟩ := id HL1
    simp only at l0 l1 l2 l3 l4
    have q1 : n < wc.heap.size := by omega
    go_wp2
    refine wp_hab fun hab => ?_
    refine wp_region_above (by kernel_rfl) (by kernel_rfl) ?_
    repeat (go_big_quiet_step ((go_at_call 47; exact above_of (HWI.out _))))
    refine wpQuiet_nil ?_
    refine above_ends fun w3 hb => ?_
    clear hab l0 l1 l2 l3 l4 q1
    have HL3 := HL1.below hb
    have HA3 := HA1.below hb
    have HB3 := HB1.below hb
    have HX3 := HX.below hb
    have HY3 := HY.below hb
    have K3 := hide (K1.out.trans (hb.mono (by omega)))
    clear hb HL1 HA1 HB1 HX HY K1 hnw
    try rw [HM.out]
    obtain ⟨a0, a1, a2, a3, a4, af0, af1, af2, af3, af4⟩ := id HX3
    obtain ⟨b0, b1, b2, b3, b4, bf0, bf1, bf2, bf3, bf4⟩ := id HY3
    simp only at a0 a1 a2 a3 a4 b0 b1 b2 b3 b4
    have hnx : n + 2 < w3.heap.size := by have := lt_of_cell HB3.c0; omega
    go_upto_region 4 with fail
    refine wp_name5 fun Z hZ => ?_
    have U : Upd g4 (some g5) w3 Z := by rw [hZ]; exact (Upd.refl g4 (some g5) w3).setCell _ _ |>.setRow _ _
    have HXZ : Box5L Z g4 ⟨⟨x0, y0, x1, m⟩, f⟩ := by rw [hZ]; refine ⟨?_, ?_, ?_, ?_, ?_, ?_, ?_, ?_, ?_, ?_⟩ <;> simp [go_sem, hne, hne.symm, a0, a1, a2, a3, a4, af0, af1, af2, af3, af4]
    have HYZ : Box5L Z g5 ⟨⟨x0, m, x1, y1⟩, f⟩ := by rw [hZ]; refine ⟨?_, ?_, ?_, ?_, ?_, ?_, ?_, ?_, ?_, ?_⟩ <;> simp [go_sem, hne, hne.symm, b0, b1, b2, b3, b4, bf0, bf1, bf2, bf3, bf4]
    have HLZ : Box5L Z n ⟨⟨x0, y0, x1, y1⟩, f⟩ := Box5.upd HL3 U (by omega) (fun e => by injection e with e; omega)
    have HAZ : Box5L Z (n + 1) zeroL := Box5.upd HA3 U (by omega) (fun e => by injection e with e; omega)
    have HBZ : Box5L Z (n + 1 + 1) zeroL := Box5.upd HB3 U (by omega) (fun e => by injection e with e; omega)
    have KZ := hide (K3.out.trans (U.below (n := n) (by omega) (by omega) (fun k hk => by injection hk with hk; omega)))
    clear hZ U a0 a1 a2 a3 a4 af0 af1 af2 af3 af4 b0 b1 b2 b3 b4 bf0 bf1 bf2 bf3 bf4 HX3 HY3 HL3 HA3 HB3 K3 hnx
    obtain ⟨-, -, -, -, l4, -, -, -, -, -⟩ := id HLZ
    obtain ⟨a0, a1, a2, a3, a4, af0, af1, af2, af3, af4⟩ := id HXZ
    obtain ⟨b0, b1, b2, b3, b4, bf0, bf1, bf2, bf3, bf4⟩ := id HYZ
    simp only at l4 a0 a1 a2 a3 a4 b0 b1 b2 b3 b4
    refine wp_region_two [0, 1, 3, 4] [2] [6] [5, 7, 8, 9] (fun w' => w'.cell? ⟨n, 4, none⟩ = some (.int .u8 f) ∧ (w'.cell? ⟨g4, 4, none⟩ = some (.int .u8 f) ∨ True)) (by kernel_rfl) (by kernel_rfl) ⟨l4, .inr trivial⟩ ?_
    simp only [List.map_cons, List.map_nil, opAt, List.getElem?_cons_succ, List.getElem?_cons_zero, Option.getD_some]
    iterate 4
      refine ⟨?_, Or.inl ⟨by rfl, ?_⟩, ?_⟩
      rotate_left 1
      · intro w' hSw
        obtain ⟨z0, -⟩ := hSw
        go_simp
        first | done | with_reducible rfl
      simp only [Act.put, List.setIfInBounds_toArray, List.set_cons_zero, List.set_cons_succ]
    simp only [wpReads, wpChain]
    intro K hK
    simp only [Act.put, List.setIfInBounds_toArray, List.set_cons_zero, List.set_cons_succ] at hK ⊢
    go_simp
    refine (HF1.out _).mono ?_
    rintro e w6 ⟨rfl, rfl⟩
    refine hK _ _ ⟨l4, .inr trivial⟩ ?_
    clear hK K
    iterate 1
      refine ⟨?_, Or.inl ⟨by rfl, ?_⟩, ?_⟩
      rotate_left 1
      · intro w' hSw
        clear hSw
        go_simp
        first | done | with_reducible rfl
      try simp only [Act.put, List.setIfInBounds_toArray, List.set_cons_zero, List.set_cons_succ]
    intro K hK
    simp only [Act.put, List.setIfInBounds_toArray, List.set_cons_zero, List.set_cons_succ] at hK ⊢
    go_simp
    refine (HF2.out _).mono ?_
    rintro e w6 ⟨rfl, rfl⟩
    refine hK _ _ (fun _ => ⟨l4, .inr trivial⟩) ?_
    clear hK K
    have n1 : n ≠ g4 := by omega
    intro K hK
    simp only [Act.put, List.setIfInBounds_toArray, List.set_cons_zero, List.set_cons_succ] at hK ⊢
    go_simp
    refine hK _ _ (fun _ => ⟨by simp [go_sem, n1, n1.symm, l4], .inr trivial⟩) ?_
    clear hK K
    intro K hK
    simp only [Act.put, List.setIfInBounds_toArray, List.set_cons_zero, List.set_cons_succ] at hK ⊢
    go_simp
    refine hK _ _ (fun _ => ⟨by simp [go_sem, n1, n1.symm, l4], .inr trivial⟩) ?_
    clear hK K
    intro K hK
    simp only [Act.put, List.setIfInBounds_toArray, List.set_cons_zero, List.set_cons_succ] at hK ⊢
    go_simp
    refine hK _ _ (fun h => absurd rfl h) ?_
    clear hK K
    refine NoPanic.normal ?_
    go_upto_region 5 with fail
    refine wp_name5 fun V0 hV0 => ?_
    have U : Upd g4 (some g5) Z V0 := by rw [hV0]; exact upd_drew ((Upd.refl g4 (some g5) Z).setCell _ _ |>.setRow _ _)
    have HXV : Box5L V0 g4 ⟨⟨x0, y0, x1, m⟩, fa⟩ := by rw [hV0]; refine ⟨?_, ?_, ?_, ?_, ?_, ?_, ?_, ?_, ?_, ?_⟩ <;> simp [go_sem, hne, hne.symm, a0, a1, a2, a3, a4, af0, af1, af2, af3, af4]
    have HYV : Box5L V0 g5 ⟨⟨x0, m, x1, y1⟩, fb⟩ := by rw [hV0]; refine ⟨?_, ?_, ?_, ?_, ?_, ?_, ?_, ?_, ?_, ?_⟩ <;> simp [go_sem, hne, hne.symm, b0, b1, b2, b3, b4, bf0, bf1, bf2, bf3, bf4]
    have HAV : Box5L V0 (n + 1) zeroL := Box5.upd HAZ U (by omega) (fun e => by injection e with e; omega)
    have HBV : Box5L V0 (n + 1 + 1) zeroL := Box5.upd HBZ U (by omega) (fun e => by injection e with e; omega)
    have KV := hide (KZ.out.trans (U.below (n := n) (by omega) (by have := lt_of_cell HBZ.c0; omega) (fun k hk => by injection hk with hk; omega)))
    clear hV0 U a0 a1 a2 a3 a4 af0 af1 af2 af3 af4 b0 b1 b2 b3 b4 bf0 bf1 bf2 bf3 bf4 HXZ HYZ HLZ HAZ HBZ KZ l4
    obtain ⟨x0', x1', x2', x3', x4', -, -, -, -, -⟩ := id HXV
    obtain ⟨y0', y1', y2', y3', y4', -, -, -, -, -⟩ := id HYV
    simp only at x0' x1' x2' x3' x4' y0' y1' y2' y3' y4'
    obtain ⟨a0, a1, a2, a3, a4, af0, af1, af2, af3, af4⟩ := id HAV
    obtain ⟨b0, b1, b2, b3, b4, bf0, bf1, bf2, bf3, bf4⟩ := id HBV
    simp only [zeroL] at a0 a1 a2 a3 a4 b0 b1 b2 b3 b4
    have g4a : g4 ≠ n + 1 := by omega
    have g4b : g4 ≠ n + 1 + 1 := by omega
    have g5a : g5 ≠ n + 1 := by omega
    have g5b : g5 ≠ n + 1 + 1 := by omega
    go_region
    go_wp2_with (fail)
    refine exit_name fun V hV => ?_
    have HAE : Box5L V (n + 1) ⟨⟨x0, y0, x1, m⟩, fa⟩ := by rw [hV]; refine ⟨?_, ?_, ?_, ?_, ?_, ?_, ?_, ?_, ?_, ?_⟩ <;> simp [go_sem, a0, a1, a2, a3, a4, af0, af1, af2, af3, af4]
    have HBE : Box5L V (n + 1 + 1) ⟨⟨x0, m, x1, y1⟩, fb⟩ := by rw [hV]; refine ⟨?_, ?_, ?_, ?_, ?_, ?_, ?_, ?_, ?_, ?_⟩ <;> simp [go_sem, b0, b1, b2, b3, b4, bf0, bf1, bf2, bf3, bf4]
    have KE : Below n w V := by
      rw [hV]
      repeat (first | with_reducible exact KV.out | with_reducible refine Below.setCell ?_ (by first | (simp; done) | (simp; omega)) _ | with_reducible refine Below.drew ?_)
    clear hV a0 a1 a2 a3 a4 af0 af1 af2 af3 af4 b0 b1 b2 b3 b4 bf0 bf1 bf2 bf3 bf4
    obtain ⟨a0, a1, a2, a3, a4, -, -, -, -, -⟩ := HAE
    obtain ⟨b0, b1, b2, b3, b4, -, -, -, -, -⟩ := HBE
    refine bodyPost_ret (v := .tuple #[.agg (encL ⟨⟨x0, y0, x1, m⟩, fa⟩).toArray, .agg (encL ⟨⟨x0, m, x1, y1⟩, fb⟩).toArray]) (by simp [results, Tryz.results139, go_sem, a0, a1, a2, a3, a4, b0, b1, b2, b3, b4, encL]) rfl ⟨by first | (rw [HR.out]; rfl) | rw [HR.out], by first | exact KE | (rw [HN.out]; exact KE)⟩
end Go.Proofs.YtabogapiecciiaaGreat

/- The reference's parts. -/
namespace Go.Proofs.YtabogapiecciiaaGreat
open Go.RowKit
set_option linter.unusedVariables false
set_option linter.unusedSimpArgs false

theorem Box3.under {w w' : World} {b B : Nat} {v0 v1 v2 : Value} (h : Box3 w b v0 v1 v2) (hb : Below B w w') (hB : b < B) : Box3 w' b v0 v1 v2 :=
  ⟨(hb.cell (p := ⟨b, 0, none⟩) hB).trans h.c0, (hb.cell (p := ⟨b, 1, none⟩) hB).trans h.c1, (hb.cell (p := ⟨b, 2, none⟩) hB).trans h.c2⟩
theorem Box5L.under {w w' : World} {b B : Nat} {l : Lot5} (h : Box5L w b l) (hb : Below B w w') (hB : b < B) : Box5L w' b l :=
  ⟨(hb.cell (p := ⟨b, 0, none⟩) hB).trans h.c0, (hb.cell (p := ⟨b, 1, none⟩) hB).trans h.c1, (hb.cell (p := ⟨b, 2, none⟩) hB).trans h.c2, (hb.cell (p := ⟨b, 3, none⟩) hB).trans h.c3, (hb.cell (p := ⟨b, 4, none⟩) hB).trans h.c4,
    (hb.frozen (p := ⟨b, 0, none⟩) hB).trans h.z0, (hb.frozen (p := ⟨b, 1, none⟩) hB).trans h.z1, (hb.frozen (p := ⟨b, 2, none⟩) hB).trans h.z2, (hb.frozen (p := ⟨b, 3, none⟩) hB).trans h.z3, (hb.frozen (p := ⟨b, 4, none⟩) hB).trans h.z4⟩
theorem meet_aux {n m : Nat} {w w6 V : World} {v0 v1 v2 : Value} {A B : Lot5} (K : Below n w w6) (hs : n + 3 < w6.heap.size) (HP : Box3 w6 (n + 1) v0 v1 v2) (HA : Box5L w6 (n + 1 + 1) A) (HB : Box5L w6 (n + 1 + 1 + 1) B) (hm : n + 3 < m) (hV : Below m w6 V) {Q : Prop} (q : Q) :
    Below n w V ∧ n + 3 < V.heap.size ∧ Box3 V (n + 1) v0 v1 v2 ∧ Box5L V (n + 1 + 1) A ∧ Box5L V (n + 1 + 1 + 1) B ∧ Q :=
  ⟨K.trans (hV.mono (by omega)), Nat.lt_of_lt_of_le hs hV.size, HP.under hV (by omega), HA.under hV (by omega), HB.under hV (by omega), q⟩
set_option maxRecDepth 100000 in
set_option maxHeartbeats 16000000 in
theorem rparts_any (l : Lot5) (p : Pl3) (hv : validL l) (w : World) : Calls Tryz.prog 110 #[.agg (encL l).toArray, .agg (encP p).toArray] w fun e w' => e = .returned (.tuple #[.agg (encL (cutR l p).1).toArray, .agg (encL (cutR l p).2.1).toArray, .bool (cutR l p).2.2]) ∧ Below w.heap.size w w' := by
  have hf15 : 0 ≤ l.f ∧ l.f ≤ 15 := by have := hv.2; omega
  have HHE : Hid (∀ W, Calls Tryz.prog 47 #[.agg (encR l.r).toArray] W fun e w' => e = .returned (.int .i64 l.h) ∧ Below W.heap.size W w') := hide (fun W => rHeight_any l.r hv.1 W)
  have HWI : Hid (∀ W, Calls Tryz.prog 46 #[.agg (encR l.r).toArray] W fun e w' => e = .returned (.int .i64 l.w) ∧ Below W.heap.size W w') := hide (fun W => rWidth_any l.r hv.1 W)
  have HAR : Hid (∀ W, Calls Tryz.prog 18 #[.agg (encR l.r).toArray] W fun e w' => e = .returned (.int .i64 (l.w * l.h)) ∧ Below W.heap.size W w') := hide (fun W => rArea_box l.r hv.1 W)
  have HGD := hide (fun W => rFine_any l p (by omega) W)
  have HWD := hide (fun W => rWide_any l hv W)
  have HHI := hide (fun W => rHigh_any l hv W)
  have HF (x : Lot5) (hx : 0 ≤ x.f ∧ x.f ≤ 15) := hide (fun W => rFine_any x p (by omega) W)
  have HR : Hid (cutR l p = if decide (l.w * l.h ≤ p.ma) = true then (zeroL, zeroL, false) else if decide (goodL p l) = false then (zeroL, zeroL, false) else if bothG p (wayL (decide (l.h ≤ l.w)) l) = true then ((wayL (decide (l.h ≤ l.w)) l).1, (wayL (decide (l.h ≤ l.w)) l).2, true) else if bothG p (wayL (decide (l.w < l.h)) l) = true then ((wayL (decide (l.w < l.h)) l).1, (wayL (decide (l.w < l.h)) l).2, true) else (zeroL, zeroL, false)) := hide (cutR_eq l p)
  have HF1 := HF _ (way_15 hf15 (decide (l.h ≤ l.w))).1
  have HF2 := HF _ (way_15 hf15 (decide (l.h ≤ l.w))).2
  have HF3 := HF _ (way_15 hf15 (decide (l.w < l.h))).1
  have HF4 := HF _ (way_15 hf15 (decide (l.w < l.h))).2
  clear HF hf15
  have HW1 : Hid (decide (l.w < l.h) = true → wayL (decide (l.h ≤ l.w)) l = highL l ∧ wayL (decide (l.w < l.h)) l = wideL l) := hide (fun h => by
    have h1 : l.w < l.h := of_decide_eq_true h
    have h2 : decide (l.h ≤ l.w) = false := decide_eq_false (by omega)
    rw [h, h2]; exact ⟨rfl, rfl⟩)
  have HW2 : Hid (decide (l.w < l.h) = false → wayL (decide (l.h ≤ l.w)) l = wideL l ∧ wayL (decide (l.w < l.h)) l = highL l) := hide (fun h => by
    have h1 : ¬ l.w < l.h := of_decide_eq_false h
    have h2 : decide (l.h ≤ l.w) = true := decide_eq_true (by omega)
    rw [h, h2]; exact ⟨rfl, rfl⟩)
  generalize wayL (decide (l.h ≤ l.w)) l = X1 at *
  generalize wayL (decide (l.w < l.h)) l = X2 at *
  generalize wideL l = XW at *
  generalize highL l = XH at *
  unfold bothG at HR
  generalize decide (goodL p X1.1) = g1 at *
  generalize decide (goodL p X1.2) = g2 at *
  generalize decide (goodL p X2.1) = g3 at *
  generalize decide (goodL p X2.2) = g4 at *
  generalize cutR l p = R at *
  generalize decide (goodL p l) = G at *
  generalize l.w = wd at *
  generalize l.h = hg at *
  obtain ⟨⟨x0, y0, x1, y1⟩, f⟩ := l
  obtain ⟨mf, ms, ma⟩ := p
  clear hv
  show Calls Tryz.prog _ #[.agg #[.int .i64 x0, .int .i64 y0, .int .i64 x1, .int .i64 y1, .int .u8 f], .agg #[.int .i64 mf, .int .i64 ms, .int .i64 ma]] w _
  simp only [encL, encP, encR] at HHE HWI HAR HGD HWD HHI HF1 HF2 HF3 HF4
  go_enter Tryz.func110, Tryz.ntmps110
  go_upto_region 1 with fail
  refine wp_name5 fun W hW => ?_
  have hb0 : Below w.heap.size w W := by rw [hW]; exact ((((Below.refl _ _).alloc (Nat.le_refl _) _).alloc (by simp) _).alloc (by simp; omega) _).alloc (by simp; omega) _
  have hs0 : w.heap.size + 3 < W.heap.size := by rw [hW]; simp
  have HL0 : Box5L W w.heap.size ⟨⟨x0, y0, x1, y1⟩, f⟩ := by rw [hW]; refine ⟨?_, ?_, ?_, ?_, ?_, ?_, ?_, ?_, ?_, ?_⟩ <;> simp [go_sem]
  have HP0 : Box3 W (w.heap.size + 1) (.int .i64 mf) (.int .i64 ms) (.int .i64 ma) := by rw [hW]; refine ⟨?_, ?_, ?_⟩ <;> simp [go_sem]
  have HA0 : Box5L W (w.heap.size + 1 + 1) zeroL := by rw [hW]; refine ⟨?_, ?_, ?_, ?_, ?_, ?_, ?_, ?_, ?_, ?_⟩ <;> simp [go_sem, zeroL]
  have HB0 : Box5L W (w.heap.size + 1 + 1 + 1) zeroL := by rw [hW]; refine ⟨?_, ?_, ?_, ?_, ?_, ?_, ?_, ?_, ?_, ?_⟩ <;> simp [go_sem, zeroL]
  obtain ⟨n, hn⟩ : ∃ n, w.heap.size = n := ⟨_, rfl⟩
  rw [hn] at hb0 hs0 HL0 HP0 HA0 HB0 ⊢
  have K0 := hide hb0
  have HN := hide hn
  clear hW hb0 hn
  obtain ⟨l0, l1, l2, l3, l4, -, -, -, -, -⟩ := id HL0
  obtain ⟨p0, p1, p2⟩ := id HP0
  simp only at l0 l1 l2 l3 l4
  have q0 : n < W.heap.size := by omega
  have q1 : n + 1 < W.heap.size := by omega
  cases hS : decide (wd * hg ≤ ma) with
  | true =>
    rw [hS] at HR
    refine wp_hab fun hab => ?_
    refine wp_region_above (by kernel_rfl) (by kernel_rfl) ?_
    repeat (go_big_quiet_step (((first | (go_at_call 18; exact above_of (HAR.out _)) | (go_at_call 137; exact above_of (HGD.out _))))))
    refine wpQuiet_nil ?_
    refine above_ends fun w1 hb => ?_
    clear hab l0 l1 l2 l3 l4 p0 p1 p2 q0 q1
    have hs1 : n + 3 < w1.heap.size := by have := hb.size; omega
    have HL1 := HL0.below hb
    have HP1 := HP0.below hb
    have HA1 := HA0.below hb
    have HB1 := HB0.below hb
    have K1 := hide (K0.out.trans (hb.mono (by omega)))
    clear hb HL0 HP0 HA0 HB0 K0 hs0
    obtain ⟨a0, a1, a2, a3, a4, af0, af1, af2, af3, af4⟩ := id HA1
    obtain ⟨b0, b1, b2, b3, b4, bf0, bf1, bf2, bf3, bf4⟩ := id HB1
    simp only [zeroL] at a0 a1 a2 a3 a4 b0 b1 b2 b3 b4
    clear hS
    go_wp2_with (fail)
    refine exit_name fun V hV => ?_
    have HAV : Box5L V (n + 1 + 1) zeroL := by rw [hV]; refine ⟨?_, ?_, ?_, ?_, ?_, ?_, ?_, ?_, ?_, ?_⟩ <;> simp [go_sem, a0, a1, a2, a3, a4, af0, af1, af2, af3, af4, zeroL]
    have HBV : Box5L V (n + 1 + 1 + 1) zeroL := by rw [hV]; refine ⟨?_, ?_, ?_, ?_, ?_, ?_, ?_, ?_, ?_, ?_⟩ <;> simp [go_sem, b0, b1, b2, b3, b4, bf0, bf1, bf2, bf3, bf4, zeroL]
    have KV : Below n w V := by
      rw [hV]
      repeat (first | with_reducible exact K1.out | with_reducible refine Below.setCell ?_ (by first | (simp; done) | (simp; omega)) _ | with_reducible refine Below.drew ?_)
    clear hV a0 a1 a2 a3 a4 b0 b1 b2 b3 b4 af0 af1 af2 af3 af4 bf0 bf1 bf2 bf3 bf4
    obtain ⟨a0, a1, a2, a3, a4, -, -, -, -, -⟩ := HAV
    obtain ⟨b0, b1, b2, b3, b4, -, -, -, -, -⟩ := HBV
    refine bodyPost_ret (v := .tuple #[.agg (encL zeroL).toArray, .agg (encL zeroL).toArray, .bool false]) (by simp [results, Tryz.results110, go_sem, a0, a1, a2, a3, a4, b0, b1, b2, b3, b4, encL]) rfl ⟨by first | (rw [HR.out]; rfl) | rw [HR.out], by first | exact KV | (rw [HN.out]; exact KV)⟩
  | false =>
    rw [hS] at HR
    cases G with
    | false =>
      refine wp_hab fun hab => ?_
      refine wp_region_above (by kernel_rfl) (by kernel_rfl) ?_
      repeat (go_big_quiet_step (((first | (go_at_call 18; exact above_of (HAR.out _)) | (go_at_call 137; exact above_of (HGD.out _))))))
      refine wpQuiet_nil ?_
      refine above_ends fun w1 hb => ?_
      clear hab l0 l1 l2 l3 l4 p0 p1 p2 q0 q1
      have hs1 : n + 3 < w1.heap.size := by have := hb.size; omega
      have HL1 := HL0.below hb
      have HP1 := HP0.below hb
      have HA1 := HA0.below hb
      have HB1 := HB0.below hb
      have K1 := hide (K0.out.trans (hb.mono (by omega)))
      clear hb HL0 HP0 HA0 HB0 K0 hs0
      obtain ⟨a0, a1, a2, a3, a4, af0, af1, af2, af3, af4⟩ := id HA1
      obtain ⟨b0, b1, b2, b3, b4, bf0, bf1, bf2, bf3, bf4⟩ := id HB1
      simp only [zeroL] at a0 a1 a2 a3 a4 b0 b1 b2 b3 b4
      clear hS
      go_wp2_with (fail)
      refine exit_name fun V hV => ?_
      have HAV : Box5L V (n + 1 + 1) zeroL := by rw [hV]; refine ⟨?_, ?_, ?_, ?_, ?_, ?_, ?_, ?_, ?_, ?_⟩ <;> simp [go_sem, a0, a1, a2, a3, a4, af0, af1, af2, af3, af4, zeroL]
      have HBV : Box5L V (n + 1 + 1 + 1) zeroL := by rw [hV]; refine ⟨?_, ?_, ?_, ?_, ?_, ?_, ?_, ?_, ?_, ?_⟩ <;> simp [go_sem, b0, b1, b2, b3, b4, bf0, bf1, bf2, bf3, bf4, zeroL]
      have KV : Below n w V := by
        rw [hV]
        repeat (first | with_reducible exact K1.out | with_reducible refine Below.setCell ?_ (by first | (simp; done) | (simp; omega)) _ | with_reducible refine Below.drew ?_)
      clear hV a0 a1 a2 a3 a4 b0 b1 b2 b3 b4 af0 af1 af2 af3 af4 bf0 bf1 bf2 bf3 bf4
      obtain ⟨a0, a1, a2, a3, a4, -, -, -, -, -⟩ := HAV
      obtain ⟨b0, b1, b2, b3, b4, -, -, -, -, -⟩ := HBV
      refine bodyPost_ret (v := .tuple #[.agg (encL zeroL).toArray, .agg (encL zeroL).toArray, .bool false]) (by simp [results, Tryz.results110, go_sem, a0, a1, a2, a3, a4, b0, b1, b2, b3, b4, encL]) rfl ⟨by first | (rw [HR.out]; rfl) | rw [HR.out], by first | exact KV | (rw [HN.out]; exact KV)⟩
    | true =>
      refine wp_hab fun hab => ?_
      refine wp_region_above (by kernel_rfl) (by kernel_rfl) ?_
      repeat (go_big_quiet_step (((first | (go_at_call 18; exact above_of (HAR.out _)) | (go_at_call 137; exact above_of (HGD.out _))))))
      refine wpQuiet_nil ?_
      refine above_ends fun w1 hb => ?_
      clear hab l0 l1 l2 l3 l4 p0 p1 p2 q0 q1
      have hs1 : n + 3 < w1.heap.size := by have := hb.size; omega
      have HL1 := HL0.below hb
      have HP1 := HP0.below hb
      have HA1 := HA0.below hb
      have HB1 := HB0.below hb
      have K1 := hide (K0.out.trans (hb.mono (by omega)))
      clear hb HL0 HP0 HA0 HB0 K0 hs0
      clear hS HAR HGD
      obtain ⟨l0, l1, l2, l3, l4, -, -, -, -, -⟩ := id HL1
      simp only at l0 l1 l2 l3 l4
      go_wp2_with (fail)
      refine (HWD.out _).mono ?_
      rintro e w2 ⟨rfl, hb⟩
      have hs2 : n + 3 < w2.heap.size := by have := hb.size; omega
      have HL2 := HL1.below hb
      have HP2 := HP1.below hb
      have HA2 := HA1.below hb
      have HB2 := HB1.below hb
      have K2 := hide (K1.out.trans (hb.mono (by omega)))
      clear hb HL1 HP1 HA1 HB1 K1 hs1 l0 l1 l2 l3 l4
      obtain ⟨l0, l1, l2, l3, l4, -, -, -, -, -⟩ := id HL2
      simp only at l0 l1 l2 l3 l4
      have q0 : n < w2.heap.size := by omega
      have q1 : n < w2.heap.size + 1 := by omega
      go_wp2_with (fail)
      refine calls_name fun Z hZ => ?_
      have hbz : Below w2.heap.size w2 Z := by
        rw [hZ]
        repeat (first | with_reducible exact Below.refl _ _ | with_reducible refine Below.setCell ?_ (by simp) _ | with_reducible refine Below.alloc ?_ (by first | omega | (simp; omega) | simp) _)
      have HX3 : Box5L Z w2.heap.size XW.1 := by rw [hZ]; refine ⟨?_, ?_, ?_, ?_, ?_, ?_, ?_, ?_, ?_, ?_⟩ <;> simp [go_sem]
      have HY3 : Box5L Z (w2.heap.size + 1) XW.2 := by rw [hZ]; refine ⟨?_, ?_, ?_, ?_, ?_, ?_, ?_, ?_, ?_, ?_⟩ <;> simp [go_sem]
      have HL3 := HL2.below hbz
      have HP3 := HP2.below hbz
      have HA3 := HA2.below hbz
      have HB3 := HB2.below hbz
      have K3 := hide (K2.out.trans (hbz.mono (by omega)))
      have hs3 : n + 3 < Z.heap.size := by have := hbz.size; omega
      obtain ⟨m, hm⟩ : ∃ m, w2.heap.size = m := ⟨_, rfl⟩
      simp only [hm] at *
      have HNM := hide (show n + 3 < m from hs2)
      clear hZ hbz HL2 HP2 HA2 HB2 K2 l0 l1 l2 l3 l4 q0 q1 hm hs2 HWD
      refine (HHI.out _).mono ?_
      rintro e w3 ⟨rfl, hb⟩
      have hs4 : n + 3 < w3.heap.size := by have := hb.size; omega
      have hmw : m + 1 < w3.heap.size := by have := lt_of_cell HY3.c0; have := hb.size; omega
      have HL4 := HL3.below hb
      have HP4 := HP3.below hb
      have HA4 := HA3.below hb
      have HB4 := HB3.below hb
      have HX4 := HX3.below hb
      have HY4 := HY3.below hb
      have K4 := hide (K3.out.trans (hb.mono (by omega)))
      clear hb HL3 HP3 HA3 HB3 HX3 HY3 K3 hs3 HHI
      go_upto_region 5 with fail
      refine wp_name5 fun Y hY => ?_
      have hbz : Below w3.heap.size w3 Y := by
        rw [hY]
        repeat (first | with_reducible exact Below.refl _ _ | with_reducible refine Below.setCell ?_ (by simp) _ | with_reducible refine Below.alloc ?_ (by first | omega | (simp; omega) | simp) _)
      have HU5 : Box5L Y w3.heap.size XH.1 := by rw [hY]; refine ⟨?_, ?_, ?_, ?_, ?_, ?_, ?_, ?_, ?_, ?_⟩ <;> simp [go_sem]
      have HV5 : Box5L Y (w3.heap.size + 1) XH.2 := by rw [hY]; refine ⟨?_, ?_, ?_, ?_, ?_, ?_, ?_, ?_, ?_, ?_⟩ <;> simp [go_sem]
      have HL5 := HL4.below hbz
      have HP5 := HP4.below hbz
      have HA5 := HA4.below hbz
      have HB5 := HB4.below hbz
      have HX5 := HX4.below hbz
      have HY5 := HY4.below hbz
      have K5 := hide (K4.out.trans (hbz.mono (by omega)))
      have hs5 : n + 3 < Y.heap.size := by have := hbz.size; omega
      obtain ⟨k, hk⟩ : ∃ k, w3.heap.size = k := ⟨_, rfl⟩
      simp only [hk] at *
      have HMK := hide (show m + 1 < k from hmw)
      clear hY hbz HL4 HP4 HA4 HB4 HX4 HY4 K4 hk hs4 hmw
      obtain ⟨l0, l1, l2, l3, l4, -, -, -, -, -⟩ := id HL5
      simp only at l0 l1 l2 l3 l4
      have q0 : n < Y.heap.size := by omega
      refine wp_hab fun hab => ?_
      refine wp_region_above (by kernel_rfl) (by kernel_rfl) ?_
      repeat (go_big_quiet_step (((first | (go_at_call 46; exact above_of (HWI.out _)) | (go_at_call 47; exact above_of (HHE.out _))))))
      refine wpQuiet_nil ?_
      refine above_ends fun w6 hb => ?_
      clear hab l0 l1 l2 l3 l4 q0
      have hs6 : n + 3 < w6.heap.size := by have := hb.size; omega
      have HL6 := HL5.below hb
      have HP6 := HP5.below hb
      have HA6 := HA5.below hb
      have HB6 := HB5.below hb
      have HX6 := HX5.below hb
      have HY6 := HY5.below hb
      have HU6 := HU5.below hb
      have HV6 := HV5.below hb
      have K6 := hide (K5.out.trans (hb.mono (by omega)))
      clear hb HL5 HP5 HA5 HB5 HX5 HY5 HU5 HV5 K5 hs5 HWI HHE
      have hnm := HNM.out
      have hmk := HMK.out
      go_upto_if 41 with (fail)
      go_cut [] (fun wx => Below n w wx ∧ n + 3 < wx.heap.size ∧ Box3 wx (n + 1) (.int .i64 mf) (.int .i64 ms) (.int .i64 ma) ∧ Box5L wx (n + 1 + 1) zeroL ∧ Box5L wx (n + 1 + 1 + 1) zeroL ∧ Box5L wx m X1.1 ∧ Box5L wx (m + 1) X1.2 ∧ Box5L wx k X2.1 ∧ Box5L wx (k + 1) X2.2)
      case first =>
        cases hD : decide (wd < hg) with
        | true =>
          obtain ⟨e1, e2⟩ := HW1.out hD
          subst e1 e2
          obtain ⟨c0, c1, c2, c3, c4, cf0, cf1, cf2, cf3, cf4⟩ := id HX6
          obtain ⟨d0, d1, d2, d3, d4, df0, df1, df2, df3, df4⟩ := id HY6
          obtain ⟨e0, e1, e2, e3, e4, ef0, ef1, ef2, ef3, ef4⟩ := id HU6
          obtain ⟨f0, f1, f2, f3, f4, ff0, ff1, ff2, ff3, ff4⟩ := id HV6
          have n1 : m ≠ k := by omega
          have n2 : m + 1 ≠ k := by omega
          have n3 : m ≠ k + 1 := by omega
          have n4 : ¬ m + 1 = k + 1 := by omega
          clear HR HW1 HW2
          go_wp2_with (fail)
          go_region
          go_wp2_with (fail)
          go_meet
          refine meet_aux K6.out hs6 HP6 HA6 HB6 hnm ?_ ⟨?_, ?_, ?_, ?_⟩
          · repeat (first | with_reducible exact Below.refl _ _ | with_reducible refine Below.setCell ?_ (by first | (simp; done) | (simp; omega)) _ | with_reducible refine Below.drew ?_)
          · refine ⟨?_, ?_, ?_, ?_, ?_, ?_, ?_, ?_, ?_, ?_⟩ <;> simp [go_sem, n1, n2, n3, n4, n1.symm, n2.symm, n3.symm, c0, c1, c2, c3, c4, cf0, cf1, cf2, cf3, cf4]
          · refine ⟨?_, ?_, ?_, ?_, ?_, ?_, ?_, ?_, ?_, ?_⟩ <;> simp [go_sem, n1, n2, n3, n4, n1.symm, n2.symm, n3.symm, d0, d1, d2, d3, d4, df0, df1, df2, df3, df4]
          · refine ⟨?_, ?_, ?_, ?_, ?_, ?_, ?_, ?_, ?_, ?_⟩ <;> simp [go_sem, n1, n2, n3, n4, n1.symm, n2.symm, n3.symm, e0, e1, e2, e3, e4, ef0, ef1, ef2, ef3, ef4]
          · refine ⟨?_, ?_, ?_, ?_, ?_, ?_, ?_, ?_, ?_, ?_⟩ <;> simp [go_sem, n1, n2, n3, n4, n1.symm, n2.symm, n3.symm, f0, f1, f2, f3, f4, ff0, ff1, ff2, ff3, ff4]
        | false =>
          obtain ⟨e1, e2⟩ := HW2.out hD
          subst e1 e2
          go_wp2_with (fail)
          go_meet
          exact ⟨K6.out, hs6, HP6, HA6, HB6, HX6, HY6, HU6, HV6⟩
      case rest =>
        obtain ⟨K7, hs7, HP7, HA7, HB7, HX7, HY7, HU7, HV7⟩ := hcut
        have K7 := hide K7
        clear HW1 HW2 K6 hs6 HP6 HA6 HB6 HX6 HY6 HU6 HV6 HL6
        try clear p0 p1 p2 l0 l1 l2 l3 l4
        obtain ⟨p0, p1, p2⟩ := id HP7
        obtain ⟨l0, l1, l2, l3, l4, -, -, -, -, -⟩ := id HX7
        try simp only at l0 l1 l2 l3 l4
        go_wp2_with (fail)
        refine (HF1.out _).mono ?_
        rintro e w8 ⟨rfl, hb⟩
        have hs8 : n + 3 < w8.heap.size := by have := hb.size; omega
        have HP8 := HP7.below hb
        have HA8 := HA7.below hb
        have HB8 := HB7.below hb
        have HX8 := HX7.below hb
        have HY8 := HY7.below hb
        have HU8 := HU7.below hb
        have HV8 := HV7.below hb
        have K8 := hide (K7.out.trans (hb.mono (by omega)))
        clear hb hs7 K7 HP7 HA7 HB7 HX7 HY7 HU7 HV7
        cases g1 with
        | true =>
          try clear p0 p1 p2 l0 l1 l2 l3 l4
          obtain ⟨p0, p1, p2⟩ := id HP8
          obtain ⟨l0, l1, l2, l3, l4, -, -, -, -, -⟩ := id HY8
          try simp only at l0 l1 l2 l3 l4
          go_wp2_with (fail)
          refine (HF2.out _).mono ?_
          rintro e w9 ⟨rfl, hb⟩
          have hs9 : n + 3 < w9.heap.size := by have := hb.size; omega
          have HP9 := HP8.below hb
          have HA9 := HA8.below hb
          have HB9 := HB8.below hb
          have HX9 := HX8.below hb
          have HY9 := HY8.below hb
          have HU9 := HU8.below hb
          have HV9 := HV8.below hb
          have K9 := hide (K8.out.trans (hb.mono (by omega)))
          clear hb hs8 K8 HP8 HA8 HB8 HX8 HY8 HU8 HV8
          cases g2 with
          | true =>
            clear l0 l1 l2 l3 l4 p0 p1 p2
            obtain ⟨u0, u1, u2, u3, u4, -, -, -, -, -⟩ := id HX9
            obtain ⟨v0, v1, v2, v3, v4, -, -, -, -, -⟩ := id HY9
            obtain ⟨a0, a1, a2, a3, a4, af0, af1, af2, af3, af4⟩ := id HA9
            obtain ⟨b0, b1, b2, b3, b4, bf0, bf1, bf2, bf3, bf4⟩ := id HB9
            simp only [zeroL] at a0 a1 a2 a3 a4 b0 b1 b2 b3 b4
            have n1 : n + 1 + 1 ≠ m := by omega
            have n2 : n + 1 + 1 + 1 ≠ m := by omega
            have n3 : n + 1 + 1 ≠ k := by omega
            have n4 : n + 1 + 1 + 1 ≠ k := by omega
            have n5 : n + 1 + 1 ≠ m + 1 := by omega
            have n6 : n + 1 + 1 + 1 ≠ m + 1 := by omega
            have n7 : n + 1 + 1 ≠ k + 1 := by omega
            have n8 : n + 1 + 1 + 1 ≠ k + 1 := by omega
            go_upto_region 8 with fail
            go_region
            go_wp2_with (fail)
            refine exit_name fun V hV => ?_
            have HAV : Box5L V (n + 1 + 1) X1.1 := by rw [hV]; refine ⟨?_, ?_, ?_, ?_, ?_, ?_, ?_, ?_, ?_, ?_⟩ <;> simp [go_sem, a0, a1, a2, a3, a4, af0, af1, af2, af3, af4]
            have HBV : Box5L V (n + 1 + 1 + 1) X1.2 := by rw [hV]; refine ⟨?_, ?_, ?_, ?_, ?_, ?_, ?_, ?_, ?_, ?_⟩ <;> simp [go_sem, b0, b1, b2, b3, b4, bf0, bf1, bf2, bf3, bf4]
            have KV : Below n w V := by
              rw [hV]
              repeat (first | with_reducible exact K9.out | with_reducible refine Below.setCell ?_ (by first | (simp; done) | (simp; omega)) _ | with_reducible refine Below.drew ?_)
            clear hV a0 a1 a2 a3 a4 b0 b1 b2 b3 b4 af0 af1 af2 af3 af4 bf0 bf1 bf2 bf3 bf4
            obtain ⟨a0, a1, a2, a3, a4, -, -, -, -, -⟩ := HAV
            obtain ⟨b0, b1, b2, b3, b4, -, -, -, -, -⟩ := HBV
            refine bodyPost_ret (v := .tuple #[.agg (encL X1.1).toArray, .agg (encL X1.2).toArray, .bool true]) (by simp [results, Tryz.results110, go_sem, a0, a1, a2, a3, a4, b0, b1, b2, b3, b4, encL]) rfl ⟨by first | (rw [HR.out]; rfl) | rw [HR.out], by first | exact KV | (rw [HN.out]; exact KV)⟩
          | false =>
            try clear p0 p1 p2 l0 l1 l2 l3 l4
            obtain ⟨p0, p1, p2⟩ := id HP9
            obtain ⟨l0, l1, l2, l3, l4, -, -, -, -, -⟩ := id HU9
            try simp only at l0 l1 l2 l3 l4
            go_wp2_with (fail)
            refine (HF3.out _).mono ?_
            rintro e w10 ⟨rfl, hb⟩
            have hs10 : n + 3 < w10.heap.size := by have := hb.size; omega
            have HP10 := HP9.below hb
            have HA10 := HA9.below hb
            have HB10 := HB9.below hb
            have HX10 := HX9.below hb
            have HY10 := HY9.below hb
            have HU10 := HU9.below hb
            have HV10 := HV9.below hb
            have K10 := hide (K9.out.trans (hb.mono (by omega)))
            clear hb hs9 K9 HP9 HA9 HB9 HX9 HY9 HU9 HV9
            cases g3 with
            | true =>
              try clear p0 p1 p2 l0 l1 l2 l3 l4
              obtain ⟨p0, p1, p2⟩ := id HP10
              obtain ⟨l0, l1, l2, l3, l4, -, -, -, -, -⟩ := id HV10
              try simp only at l0 l1 l2 l3 l4
              go_wp2_with (fail)
              refine (HF4.out _).mono ?_
              rintro e w11 ⟨rfl, hb⟩
              have hs11 : n + 3 < w11.heap.size := by have := hb.size; omega
              have HP11 := HP10.below hb
              have HA11 := HA10.below hb
              have HB11 := HB10.below hb
              have HX11 := HX10.below hb
              have HY11 := HY10.below hb
              have HU11 := HU10.below hb
              have HV11 := HV10.below hb
              have K11 := hide (K10.out.trans (hb.mono (by omega)))
              clear hb hs10 K10 HP10 HA10 HB10 HX10 HY10 HU10 HV10
              cases g4 with
              | true =>
                clear l0 l1 l2 l3 l4 p0 p1 p2
                obtain ⟨u0, u1, u2, u3, u4, -, -, -, -, -⟩ := id HU11
                obtain ⟨v0, v1, v2, v3, v4, -, -, -, -, -⟩ := id HV11
                obtain ⟨a0, a1, a2, a3, a4, af0, af1, af2, af3, af4⟩ := id HA11
                obtain ⟨b0, b1, b2, b3, b4, bf0, bf1, bf2, bf3, bf4⟩ := id HB11
                simp only [zeroL] at a0 a1 a2 a3 a4 b0 b1 b2 b3 b4
                have n1 : n + 1 + 1 ≠ m := by omega
                have n2 : n + 1 + 1 + 1 ≠ m := by omega
                have n3 : n + 1 + 1 ≠ k := by omega
                have n4 : n + 1 + 1 + 1 ≠ k := by omega
                have n5 : n + 1 + 1 ≠ m + 1 := by omega
                have n6 : n + 1 + 1 + 1 ≠ m + 1 := by omega
                have n7 : n + 1 + 1 ≠ k + 1 := by omega
                have n8 : n + 1 + 1 + 1 ≠ k + 1 := by omega
                go_upto_region 10 with fail
                go_region
                go_wp2_with (fail)
                refine exit_name fun V hV => ?_
                have HAV : Box5L V (n + 1 + 1) X2.1 := by rw [hV]; refine ⟨?_, ?_, ?_, ?_, ?_, ?_, ?_, ?_, ?_, ?_⟩ <;> simp [go_sem, a0, a1, a2, a3, a4, af0, af1, af2, af3, af4]
                have HBV : Box5L V (n + 1 + 1 + 1) X2.2 := by rw [hV]; refine ⟨?_, ?_, ?_, ?_, ?_, ?_, ?_, ?_, ?_, ?_⟩ <;> simp [go_sem, b0, b1, b2, b3, b4, bf0, bf1, bf2, bf3, bf4]
                have KV : Below n w V := by
                  rw [hV]
                  repeat (first | with_reducible exact K11.out | with_reducible refine Below.setCell ?_ (by first | (simp; done) | (simp; omega)) _ | with_reducible refine Below.drew ?_)
                clear hV a0 a1 a2 a3 a4 b0 b1 b2 b3 b4 af0 af1 af2 af3 af4 bf0 bf1 bf2 bf3 bf4
                obtain ⟨a0, a1, a2, a3, a4, -, -, -, -, -⟩ := HAV
                obtain ⟨b0, b1, b2, b3, b4, -, -, -, -, -⟩ := HBV
                refine bodyPost_ret (v := .tuple #[.agg (encL X2.1).toArray, .agg (encL X2.2).toArray, .bool true]) (by simp [results, Tryz.results110, go_sem, a0, a1, a2, a3, a4, b0, b1, b2, b3, b4, encL]) rfl ⟨by first | (rw [HR.out]; rfl) | rw [HR.out], by first | exact KV | (rw [HN.out]; exact KV)⟩
              | false =>
                clear l0 l1 l2 l3 l4 p0 p1 p2
                obtain ⟨a0, a1, a2, a3, a4, af0, af1, af2, af3, af4⟩ := id HA11
                obtain ⟨b0, b1, b2, b3, b4, bf0, bf1, bf2, bf3, bf4⟩ := id HB11
                simp only [zeroL] at a0 a1 a2 a3 a4 b0 b1 b2 b3 b4
                go_wp2_with (fail)
                refine exit_name fun V hV => ?_
                have HAV : Box5L V (n + 1 + 1) zeroL := by rw [hV]; refine ⟨?_, ?_, ?_, ?_, ?_, ?_, ?_, ?_, ?_, ?_⟩ <;> simp [go_sem, a0, a1, a2, a3, a4, af0, af1, af2, af3, af4, zeroL]
                have HBV : Box5L V (n + 1 + 1 + 1) zeroL := by rw [hV]; refine ⟨?_, ?_, ?_, ?_, ?_, ?_, ?_, ?_, ?_, ?_⟩ <;> simp [go_sem, b0, b1, b2, b3, b4, bf0, bf1, bf2, bf3, bf4, zeroL]
                have KV : Below n w V := by
                  rw [hV]
                  repeat (first | with_reducible exact K11.out | with_reducible refine Below.setCell ?_ (by first | (simp; done) | (simp; omega)) _ | with_reducible refine Below.drew ?_)
                clear hV a0 a1 a2 a3 a4 b0 b1 b2 b3 b4 af0 af1 af2 af3 af4 bf0 bf1 bf2 bf3 bf4
                obtain ⟨a0, a1, a2, a3, a4, -, -, -, -, -⟩ := HAV
                obtain ⟨b0, b1, b2, b3, b4, -, -, -, -, -⟩ := HBV
                refine bodyPost_ret (v := .tuple #[.agg (encL zeroL).toArray, .agg (encL zeroL).toArray, .bool false]) (by simp [results, Tryz.results110, go_sem, a0, a1, a2, a3, a4, b0, b1, b2, b3, b4, encL]) rfl ⟨by first | (rw [HR.out]; rfl) | rw [HR.out], by first | exact KV | (rw [HN.out]; exact KV)⟩
            | false =>
              clear l0 l1 l2 l3 l4 p0 p1 p2
              obtain ⟨a0, a1, a2, a3, a4, af0, af1, af2, af3, af4⟩ := id HA10
              obtain ⟨b0, b1, b2, b3, b4, bf0, bf1, bf2, bf3, bf4⟩ := id HB10
              simp only [zeroL] at a0 a1 a2 a3 a4 b0 b1 b2 b3 b4
              go_wp2_with (fail)
              refine exit_name fun V hV => ?_
              have HAV : Box5L V (n + 1 + 1) zeroL := by rw [hV]; refine ⟨?_, ?_, ?_, ?_, ?_, ?_, ?_, ?_, ?_, ?_⟩ <;> simp [go_sem, a0, a1, a2, a3, a4, af0, af1, af2, af3, af4, zeroL]
              have HBV : Box5L V (n + 1 + 1 + 1) zeroL := by rw [hV]; refine ⟨?_, ?_, ?_, ?_, ?_, ?_, ?_, ?_, ?_, ?_⟩ <;> simp [go_sem, b0, b1, b2, b3, b4, bf0, bf1, bf2, bf3, bf4, zeroL]
              have KV : Below n w V := by
                rw [hV]
                repeat (first | with_reducible exact K10.out | with_reducible refine Below.setCell ?_ (by first | (simp; done) | (simp; omega)) _ | with_reducible refine Below.drew ?_)
              clear hV a0 a1 a2 a3 a4 b0 b1 b2 b3 b4 af0 af1 af2 af3 af4 bf0 bf1 bf2 bf3 bf4
              obtain ⟨a0, a1, a2, a3, a4, -, -, -, -, -⟩ := HAV
              obtain ⟨b0, b1, b2, b3, b4, -, -, -, -, -⟩ := HBV
              refine bodyPost_ret (v := .tuple #[.agg (encL zeroL).toArray, .agg (encL zeroL).toArray, .bool false]) (by simp [results, Tryz.results110, go_sem, a0, a1, a2, a3, a4, b0, b1, b2, b3, b4, encL]) rfl ⟨by first | (rw [HR.out]; rfl) | rw [HR.out], by first | exact KV | (rw [HN.out]; exact KV)⟩
        | false =>
          try clear p0 p1 p2 l0 l1 l2 l3 l4
          obtain ⟨p0, p1, p2⟩ := id HP8
          obtain ⟨l0, l1, l2, l3, l4, -, -, -, -, -⟩ := id HU8
          try simp only at l0 l1 l2 l3 l4
          go_wp2_with (fail)
          refine (HF3.out _).mono ?_
          rintro e w9 ⟨rfl, hb⟩
          have hs9 : n + 3 < w9.heap.size := by have := hb.size; omega
          have HP9 := HP8.below hb
          have HA9 := HA8.below hb
          have HB9 := HB8.below hb
          have HX9 := HX8.below hb
          have HY9 := HY8.below hb
          have HU9 := HU8.below hb
          have HV9 := HV8.below hb
          have K9 := hide (K8.out.trans (hb.mono (by omega)))
          clear hb hs8 K8 HP8 HA8 HB8 HX8 HY8 HU8 HV8
          cases g3 with
          | true =>
            try clear p0 p1 p2 l0 l1 l2 l3 l4
            obtain ⟨p0, p1, p2⟩ := id HP9
            obtain ⟨l0, l1, l2, l3, l4, -, -, -, -, -⟩ := id HV9
            try simp only at l0 l1 l2 l3 l4
            go_wp2_with (fail)
            refine (HF4.out _).mono ?_
            rintro e w10 ⟨rfl, hb⟩
            have hs10 : n + 3 < w10.heap.size := by have := hb.size; omega
            have HP10 := HP9.below hb
            have HA10 := HA9.below hb
            have HB10 := HB9.below hb
            have HX10 := HX9.below hb
            have HY10 := HY9.below hb
            have HU10 := HU9.below hb
            have HV10 := HV9.below hb
            have K10 := hide (K9.out.trans (hb.mono (by omega)))
            clear hb hs9 K9 HP9 HA9 HB9 HX9 HY9 HU9 HV9
            cases g4 with
            | true =>
              clear l0 l1 l2 l3 l4 p0 p1 p2
              obtain ⟨u0, u1, u2, u3, u4, -, -, -, -, -⟩ := id HU10
              obtain ⟨v0, v1, v2, v3, v4, -, -, -, -, -⟩ := id HV10
              obtain ⟨a0, a1, a2, a3, a4, af0, af1, af2, af3, af4⟩ := id HA10
              obtain ⟨b0, b1, b2, b3, b4, bf0, bf1, bf2, bf3, bf4⟩ := id HB10
              simp only [zeroL] at a0 a1 a2 a3 a4 b0 b1 b2 b3 b4
              have n1 : n + 1 + 1 ≠ m := by omega
              have n2 : n + 1 + 1 + 1 ≠ m := by omega
              have n3 : n + 1 + 1 ≠ k := by omega
              have n4 : n + 1 + 1 + 1 ≠ k := by omega
              have n5 : n + 1 + 1 ≠ m + 1 := by omega
              have n6 : n + 1 + 1 + 1 ≠ m + 1 := by omega
              have n7 : n + 1 + 1 ≠ k + 1 := by omega
              have n8 : n + 1 + 1 + 1 ≠ k + 1 := by omega
              go_upto_region 10 with fail
              go_region
              go_wp2_with (fail)
              refine exit_name fun V hV => ?_
              have HAV : Box5L V (n + 1 + 1) X2.1 := by rw [hV]; refine ⟨?_, ?_, ?_, ?_, ?_, ?_, ?_, ?_, ?_, ?_⟩ <;> simp [go_sem, a0, a1, a2, a3, a4, af0, af1, af2, af3, af4]
              have HBV : Box5L V (n + 1 + 1 + 1) X2.2 := by rw [hV]; refine ⟨?_, ?_, ?_, ?_, ?_, ?_, ?_, ?_, ?_, ?_⟩ <;> simp [go_sem, b0, b1, b2, b3, b4, bf0, bf1, bf2, bf3, bf4]
              have KV : Below n w V := by
                rw [hV]
                repeat (first | with_reducible exact K10.out | with_reducible refine Below.setCell ?_ (by first | (simp; done) | (simp; omega)) _ | with_reducible refine Below.drew ?_)
              clear hV a0 a1 a2 a3 a4 b0 b1 b2 b3 b4 af0 af1 af2 af3 af4 bf0 bf1 bf2 bf3 bf4
              obtain ⟨a0, a1, a2, a3, a4, -, -, -, -, -⟩ := HAV
              obtain ⟨b0, b1, b2, b3, b4, -, -, -, -, -⟩ := HBV
              refine bodyPost_ret (v := .tuple #[.agg (encL X2.1).toArray, .agg (encL X2.2).toArray, .bool true]) (by simp [results, Tryz.results110, go_sem, a0, a1, a2, a3, a4, b0, b1, b2, b3, b4, encL]) rfl ⟨by first | (rw [HR.out]; rfl) | rw [HR.out], by first | exact KV | (rw [HN.out]; exact KV)⟩
            | false =>
              clear l0 l1 l2 l3 l4 p0 p1 p2
              obtain ⟨a0, a1, a2, a3, a4, af0, af1, af2, af3, af4⟩ := id HA10
              obtain ⟨b0, b1, b2, b3, b4, bf0, bf1, bf2, bf3, bf4⟩ := id HB10
              simp only [zeroL] at a0 a1 a2 a3 a4 b0 b1 b2 b3 b4
              go_wp2_with (fail)
              refine exit_name fun V hV => ?_
              have HAV : Box5L V (n + 1 + 1) zeroL := by rw [hV]; refine ⟨?_, ?_, ?_, ?_, ?_, ?_, ?_, ?_, ?_, ?_⟩ <;> simp [go_sem, a0, a1, a2, a3, a4, af0, af1, af2, af3, af4, zeroL]
              have HBV : Box5L V (n + 1 + 1 + 1) zeroL := by rw [hV]; refine ⟨?_, ?_, ?_, ?_, ?_, ?_, ?_, ?_, ?_, ?_⟩ <;> simp [go_sem, b0, b1, b2, b3, b4, bf0, bf1, bf2, bf3, bf4, zeroL]
              have KV : Below n w V := by
                rw [hV]
                repeat (first | with_reducible exact K10.out | with_reducible refine Below.setCell ?_ (by first | (simp; done) | (simp; omega)) _ | with_reducible refine Below.drew ?_)
              clear hV a0 a1 a2 a3 a4 b0 b1 b2 b3 b4 af0 af1 af2 af3 af4 bf0 bf1 bf2 bf3 bf4
              obtain ⟨a0, a1, a2, a3, a4, -, -, -, -, -⟩ := HAV
              obtain ⟨b0, b1, b2, b3, b4, -, -, -, -, -⟩ := HBV
              refine bodyPost_ret (v := .tuple #[.agg (encL zeroL).toArray, .agg (encL zeroL).toArray, .bool false]) (by simp [results, Tryz.results110, go_sem, a0, a1, a2, a3, a4, b0, b1, b2, b3, b4, encL]) rfl ⟨by first | (rw [HR.out]; rfl) | rw [HR.out], by first | exact KV | (rw [HN.out]; exact KV)⟩
          | false =>
            clear l0 l1 l2 l3 l4 p0 p1 p2
            obtain ⟨a0, a1, a2, a3, a4, af0, af1, af2, af3, af4⟩ := id HA9
            obtain ⟨b0, b1, b2, b3, b4, bf0, bf1, bf2, bf3, bf4⟩ := id HB9
            simp only [zeroL] at a0 a1 a2 a3 a4 b0 b1 b2 b3 b4
            go_wp2_with (fail)
            refine exit_name fun V hV => ?_
            have HAV : Box5L V (n + 1 + 1) zeroL := by rw [hV]; refine ⟨?_, ?_, ?_, ?_, ?_, ?_, ?_, ?_, ?_, ?_⟩ <;> simp [go_sem, a0, a1, a2, a3, a4, af0, af1, af2, af3, af4, zeroL]
            have HBV : Box5L V (n + 1 + 1 + 1) zeroL := by rw [hV]; refine ⟨?_, ?_, ?_, ?_, ?_, ?_, ?_, ?_, ?_, ?_⟩ <;> simp [go_sem, b0, b1, b2, b3, b4, bf0, bf1, bf2, bf3, bf4, zeroL]
            have KV : Below n w V := by
              rw [hV]
              repeat (first | with_reducible exact K9.out | with_reducible refine Below.setCell ?_ (by first | (simp; done) | (simp; omega)) _ | with_reducible refine Below.drew ?_)
            clear hV a0 a1 a2 a3 a4 b0 b1 b2 b3 b4 af0 af1 af2 af3 af4 bf0 bf1 bf2 bf3 bf4
            obtain ⟨a0, a1, a2, a3, a4, -, -, -, -, -⟩ := HAV
            obtain ⟨b0, b1, b2, b3, b4, -, -, -, -, -⟩ := HBV
            refine bodyPost_ret (v := .tuple #[.agg (encL zeroL).toArray, .agg (encL zeroL).toArray, .bool false]) (by simp [results, Tryz.results110, go_sem, a0, a1, a2, a3, a4, b0, b1, b2, b3, b4, encL]) rfl ⟨by first | (rw [HR.out]; rfl) | rw [HR.out], by first | exact KV | (rw [HN.out]; exact KV)⟩

end Go.Proofs.YtabogapiecciiaaGreat
