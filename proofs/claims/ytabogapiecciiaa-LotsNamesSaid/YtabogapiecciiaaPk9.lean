/- Texts laid together: LotM, MixTwo, ParT, ParU, ParW, LotN, LotX, LawLParcels, MLotsC, LotH, SlabB. Lemmas for the statements of this seat; no condition. -/
import Derived.Test.YtabogapiecciiaaPk7
import Derived.Test.YtabogapiecciiaaPk8
import Derived.Test.YtabogapiecciiaaPk3
import Derived.Test.YtabogapiecciiaaPk2
import Derived.Test.YtabogapiecciiaaPk1
import Derived.Laws.StructEq
import Derived.Deep.QuietTactic
import Derived.BigQuiet
import Derived.Test.YtabogapiecciiaaPk6

/- The walk of lots.Lots. -/
namespace Go.Proofs.Ytabogapiecciiaa
open Go.RowKit
set_option linter.unusedVariables false
set_option linter.unusedSimpArgs false

/-- A list of parcels and a code come back. -/
def ParsRet (w : World) (R : List Par6 × Int) (e : Ending) (w' : World) : Prop :=
  (∃ A c, e = .returned (.tuple #[.slice A R.1.length c, .int .i64 R.2]) ∧ w'.ownsRow w.heap.size 27 6 (.slice A R.1.length c) R.1.length (R.1.flatMap encQ)) ∧ Below w.heap.size w w'
theorem infoPar : (Try.prog.info? 27).map (fun i => (i.zero, i.size, i.bytes)) = some (some (.agg #[.int .i64 0, .int .i64 0, .int .i64 0, .int .i64 0, .int .i64 0, .int .u8 0]), 6, 48) := by kernel_rfl
structure LI (n : Nat) (w : World) (p : Pl3) (O : List Par6) (ov : Value) (no : Nat) (wr : World) : Prop where
  row : wr.ownsRow (n + 1) 27 6 ov no (O.flatMap encQ)
  below : Below n w wr
  size : n + 1 ≤ wr.heap.size
  box : Box3 wr n (.int .i64 p.mf) (.int .i64 p.ms) (.int .i64 p.ma)
theorem LI.keep {n : Nat} {w wr w' : World} {p : Pl3} {O : List Par6} {ov : Value} {no : Nat} (h : LI n w p O ov no wr) (hb : Below wr.heap.size wr w') : LI n w p O ov no w' :=
  ⟨own_below h.row hb, h.below.trans (hb.mono (by have := h.size; omega)), Nat.le_trans h.size hb.size, h.box.below hb⟩
theorem LI.push {n : Nat} {w wr w' : World} {p : Pl3} {O O' : List Par6} {ov ov' : Value} {no no' : Nat} (h : LI n w p O ov no wr) (hg : wr.grownBy w' ov.ownBlock) (ho : w'.ownsRow (n + 1) 27 6 ov' no' (O'.flatMap encQ)) : LI n w p O' ov' no' w' := by
  have hr : ∀ q, ov.ownBlock = some q → n + 1 ≤ q := fun q hq => (h.row.lt q hq).1
  exact ⟨ho, h.below.grown hg (by have := h.size; omega) (fun q hq => by have := hr q hq; omega), Nat.le_trans h.size hg.size, box_grown h.box hg (fun q hq => by have := hr q hq; omega)⟩
theorem LI.len {n : Nat} {w wr : World} {p : Pl3} {O : List Par6} {ov : Value} {no : Nat} (h : LI n w p O ov no wr) : no = O.length := own_len h.row (fun _ => rfl) (by omega)
theorem lot_par : 25 ≠ 27 := by decide
/-- A rectangle's four cells. -/
structure Cell4 (q : Nat) (r : R4) (wr : World) : Prop where
  d0 : wr.cell? ⟨q, 0, none⟩ = some (.int .i64 r.x0)
  d1 : wr.cell? ⟨q, 1, none⟩ = some (.int .i64 r.y0)
  d2 : wr.cell? ⟨q, 2, none⟩ = some (.int .i64 r.x1)
  d3 : wr.cell? ⟨q, 3, none⟩ = some (.int .i64 r.y1)
  lt : q < wr.heap.size
theorem Cell4.keep {q : Nat} {r : R4} {wr w' : World} (h : Cell4 q r wr) (hb : Below wr.heap.size wr w') : w'.cell? ⟨q, 0, none⟩ = some (.int .i64 r.x0) ∧ w'.cell? ⟨q, 1, none⟩ = some (.int .i64 r.y0) ∧ w'.cell? ⟨q, 2, none⟩ = some (.int .i64 r.x1) ∧ w'.cell? ⟨q, 3, none⟩ = some (.int .i64 r.y1) :=
  ⟨(hb.cell (p := ⟨q, 0, none⟩) h.lt).trans h.d0, (hb.cell (p := ⟨q, 1, none⟩) h.lt).trans h.d1, (hb.cell (p := ⟨q, 2, none⟩) h.lt).trans h.d2, (hb.cell (p := ⟨q, 3, none⟩) h.lt).trans h.d3⟩
/-- A lot in a box of its own. -/
structure BoxL5 (q : Nat) (l : Lot5) (wr : World) : Prop where
  d0 : wr.cell? ⟨q, 0, none⟩ = some (.int .i64 l.r.x0)
  d1 : wr.cell? ⟨q, 1, none⟩ = some (.int .i64 l.r.y0)
  d2 : wr.cell? ⟨q, 2, none⟩ = some (.int .i64 l.r.x1)
  d3 : wr.cell? ⟨q, 3, none⟩ = some (.int .i64 l.r.y1)
  d4 : wr.cell? ⟨q, 4, none⟩ = some (.int .u8 l.f)
  lt : q < wr.heap.size
theorem few_all {s : List R4} {p : Pl3} {bs : List (List R4)} (h : ∀ (m : Nat) (b : List R4), bs[m]? = some b → ∀ (j : Nat) (r : R4), b[j]? = some r → (rectR s p r).2 = 0) : fewF s p bs = true := by
  unfold fewF
  rw [List.all_eq_true]
  intro b hb
  rw [List.all_eq_true]
  intro r hr
  obtain ⟨m, hm⟩ := List.getElem?_of_mem hb
  obtain ⟨j, hj⟩ := List.getElem?_of_mem hr
  exact decide_eq_true (h m b hm j r hj)
structure LotsOk (bs : List (List R4)) (s : List R4) (p : Pl3) : Prop where
  chk : checkF s = 0
  len : bs.length ≤ 400
  bad : badF bs = 0
  ok : okW p = 0
theorem LotsOk.eq {bs : List (List R4)} {s : List R4} {p : Pl3} (h : LotsOk bs s p) : lotsF bs s p = if fewF s p bs = true ∧ (pcA s p 0 bs).length ≤ 600 then (pcA s p 0 bs, 0) else ([], 4) := by
  have := h.len
  unfold lotsF
  rw [if_neg (by rw [h.chk]; simp), if_neg (by omega), if_neg (by rw [h.bad]; simp), if_neg (by rw [h.ok]; simp)]
theorem LotsOk.long {bs : List (List R4)} {s : List R4} {p : Pl3} (h : LotsOk bs s p) (hl : 600 < (pcA s p 0 bs).length) : lotsF bs s p = ([], 4) := by
  rw [h.eq, if_neg (fun g => by omega)]
theorem LotsOk.few {bs : List (List R4)} {s : List R4} {p : Pl3} (h : LotsOk bs s p) (hf : fewF s p bs = false) : lotsF bs s p = ([], 4) := by
  rw [h.eq, if_neg (fun g => by rw [hf] at g; exact Bool.false_ne_true g.1)]
theorem LotsOk.all {bs : List (List R4)} {s : List R4} {p : Pl3} (h : LotsOk bs s p) (hf : fewF s p bs = true) (hl : (pcA s p 0 bs).length ≤ 600) : lotsF bs s p = (pcA s p 0 bs, 0) := by
  rw [h.eq, if_pos ⟨hf, hl⟩]
theorem pars_nil {w w' : World} {R : List Par6 × Int} {k : Int} (h : R = ([], k)) (hb : Below w.heap.size w w') : ParsRet w R (.returned (.tuple #[.slice none 0 0, .int .i64 k])) w' := by
  subst h
  exact ⟨⟨none, 0, rfl, World.ownsRow_nil _ _ _ _⟩, hb⟩
set_option maxRecDepth 100000 in
set_option maxHeartbeats 16000000 in
theorem lots_any {w : World} {vb v : Value} {bs : List (List R4)} {s : List R4} (hb : RdRR w w.heap.size vb bs) (hs : RdK encR 4 w w.heap.size v s) (p : Pl3) (nb : bs.length ≤ 410) (mb : ∀ b ∈ bs, b.length ≤ 420) (ns : s.length ≤ 420) :
    Calls Try.prog 13 #[vb, v, .agg (encP p).toArray] w (ParsRet w (lotsF bs s p)) := by
  obtain ⟨i1, gi, gz0, gz1, gz2⟩ := info_parts infoPar
  have HCK : Hid (∀ W : World, Below w.heap.size w W → Calls Try.prog 16 #[v] W fun e w' => e = .returned (.int .i64 (checkF s)) ∧ Below W.heap.size W w') := hide (fun W hw => check_any ((hs.below hw).mono hw.size) (by omega))
  have HCB : Hid (∀ (b : List R4) (u : Value), b ∈ bs → RdK encR 4 w w.heap.size u b → ∀ W : World, Below w.heap.size w W → Calls Try.prog 16 #[u] W fun e w' => e = .returned (.int .i64 (checkF b)) ∧ Below W.heap.size W w') := hide (fun b u hm hu W hw => check_any ((hu.below hw).mono hw.size) (by have := mb b hm; omega))
  have HPC : Hid (∀ W : World, Calls Try.prog 29 #[.agg #[.int .i64 0, .int .i64 0, .int .i64 1, .int .i64 1, .int .u8 1], .agg #[.int .i64 p.mf, .int .i64 p.ms, .int .i64 p.ma]] W fun e w' => e = .returned (.int .i64 (okW p)) ∧ Below W.heap.size W w') := hide (fun W => checkL_any ⟨⟨0, 0, 1, 1⟩, 1⟩ p (by decide) W)
  have HFR : Hid (checkF s = 0 → ∀ r : R4, okR r → ∀ W : World, Below w.heap.size w W → Calls Try.prog 18 #[.agg #[.int .i64 r.x0, .int .i64 r.y0, .int .i64 r.x1, .int .i64 r.y1], v] W fun e w' => e = .returned (.int .u8 (frF r s)) ∧ Below W.heap.size W w') := hide (fun hc r hr W hw => fronts_any r hr ((hs.below hw).mono hw.size) (fun q hq => (ok_valid q).2 ((checkF_ok hc).2.1 q hq)) (checkF_ok hc).1)
  have HSP : Hid (∀ (r : R4) (f : Int), 0 ≤ f ∧ f ≤ 15 → ∀ W : World, Calls Try.prog 30 #[.agg #[.int .i64 r.x0, .int .i64 r.y0, .int .i64 r.x1, .int .i64 r.y1, .int .u8 f], .agg #[.int .i64 p.mf, .int .i64 p.ms, .int .i64 p.ma]] W (LotsRet W (splitR ⟨r, f⟩ p))) := hide (fun r f hf W => psplit_any ⟨r, f⟩ p ⟨hf.1, by show f ≤ 255; omega⟩ W)
  obtain ⟨Ab, cb, rfl, hbc⟩ := hb
  obtain ⟨As, cs, rfl, _⟩ := hs
  have HRB := hide hbc
  have HMB := hide mb
  have HW0 : Hid (Box3 (w.alloc (.cells #[.int .i64 p.mf, .int .i64 p.ms, .int .i64 p.ma] 50)) w.heap.size (.int .i64 p.mf) (.int .i64 p.ms) (.int .i64 p.ma) ∧ Below w.heap.size w (w.alloc (.cells #[.int .i64 p.mf, .int .i64 p.ms, .int .i64 p.ma] 50)) ∧ w.heap.size + 1 ≤ (w.alloc (.cells #[.int .i64 p.mf, .int .i64 p.ms, .int .i64 p.ma] 50)).heap.size) := hide ⟨⟨by simp [go_sem], by simp [go_sem], by simp [go_sem]⟩, (Below.refl _ _).alloc (Nat.le_refl _) _, by simp⟩
  generalize hW : w.alloc (.cells #[.int .i64 p.mf, .int .i64 p.ms, .int .i64 p.ma] 50) = W at *
  have nz : (bs.length : Int) ≤ 410 := by omega
  clear hbc mb
  have HI : Hid (LI w.heap.size w p [] (.slice none 0 0) 0 W) := hide ⟨World.ownsRow_nil _ _ _ _, HW0.out.2.1, HW0.out.2.2, HW0.out.1⟩
  clear HW0
  generalize hn : w.heap.size = n at *
  have HN := hide hn
  show Calls Try.prog _ #[.slice Ab bs.length cb, .slice As s.length cs, .agg #[.int .i64 p.mf, .int .i64 p.ms, .int .i64 p.ma]] w _
  by_cases hc : checkF s = 0
  · have HFR2 := hide (HFR.out hc)
    have HC := hide hc
    rw [hc] at HCK
    clear HFR hc
    go_enter Try.func13, Try.ntmps13
    go_wp2_with (fail)
    refine (HCK.out _ HI.out.below).mono ?_
    rintro e w1 ⟨rfl, hb⟩
    have HI1 := hide (HI.out.keep hb)
    clear hb hW hn HI HCK
    by_cases h4 : bs.length ≤ 400
    · have hz4 : (bs.length : Int) ≤ 400 := by omega
      have H4 := hide h4
      go_upto_region 6 with fail
      go_wp2_with (fail)
      go_loopw [33] (fun i wr => ∃ m : Nat, m ≤ bs.length ∧ i = .int .i64 m ∧ Hid (∀ j x, j < m → bs[j]? = some x → checkF x = 0) ∧ Hid (LI n w p [] (.slice none 0 0) 0 wr)) (fun i _ => bs.length - (intOf i).toNat)
      case atStart => exact ⟨0, Nat.zero_le _, rfl, hide (fun j x hj => absurd hj (Nat.not_lt_zero _)), HI1⟩
      case round =>
        clear HI1
        obtain ⟨m, hm, rfl, HJ, HI⟩ := hrel
        by_cases hlt : m < bs.length
        · obtain ⟨b, hp⟩ : ∃ p, bs[m]? = some p := ⟨_, List.getElem?_eq_getElem hlt⟩
          obtain ⟨g, og, rfl, hbl, k⟩ := HRB.out (by intro e; rw [e] at hlt; simp at hlt)
          obtain ⟨u, d0, hu⟩ := k m _ hp
          have HCX := hide (HCB.out b u (List.mem_of_getElem? hp) hu)
          obtain ⟨Ax, cx, rfl, _⟩ := hu
          have d0 := (HI.out.below.cell (p := ⟨g, og + m, none⟩) hbl).trans d0
          have mz : (m : Int) < (bs.length : Int) := by omega
          have HP := hide hp
          clear k hp
          by_cases hcb : checkF b = 0
          · have HJS : Hid (∀ j x, j < m + 1 → bs[j]? = some x → checkF x = 0) := hide (fun j x hj hx => by
              rcases Nat.lt_or_ge j m with h | h
              · exact HJ.out j x h hx
              · obtain rfl : j = m := by omega
                rw [HP.out] at hx
                cases hx
                exact hcb)
            rw [hcb] at HCX
            clear hcb HJ
            go_wp2_with (fail)
            refine (HCX.out _ HI.out.below).mono ?_
            rintro e w2 ⟨rfl, hb⟩
            have HI2 := hide (HI.out.keep hb)
            clear hb HI HCX d0
            go_wp2_with (fail)
            go_roundw
            case rel => exact ⟨m + 1, by omega, by go_num, HJS, HI2⟩
            case measure => simp [intOf]; omega
          · have HF : Hid (lotsF bs s p = ([], checkF b)) := hide (by
              have hbad := bad_of HJ.out HP.out hcb
              have := H4.out
              unfold lotsF
              rw [if_neg (by rw [HC.out]; simp), if_neg (by omega), if_pos (by rw [hbad]; exact hcb), hbad])
            have hne : (checkF b != 0) = true := by simpa using hcb
            clear hcb HJ
            generalize checkF b = ck at *
            go_wp2_with (fail)
            refine (HCX.out _ HI.out.below).mono ?_
            rintro e w2 ⟨rfl, hb⟩
            have HI2 := hide (HI.out.keep hb).below
            clear hb HI HCX d0
            go_wp2_with (fail)
            go_ret2
            exact pars_nil HF.out (by rw [HN.out]; exact HI2.out)
        · obtain rfl : m = bs.length := by omega
          have HBAD : Hid (badF bs = 0) := hide (bad_none HJ.out)
          have HALL : Hid (∀ (j : Nat) (b : List R4), bs[j]? = some b → checkF b = 0) := hide (fun j b hj => HJ.out j b (List.getElem?_eq_some_iff.1 hj).1 hj)
          clear HJ HCB
          obtain ⟨p0, p1, p2⟩ := HI.out.box
          go_wp2_with (fail)
          refine (HPC.out _).mono ?_
          rintro e w2 ⟨rfl, hb⟩
          have HI2 := hide (HI.out.keep hb)
          clear hb HI p0 p1 p2 HPC
          by_cases hok : okW p = 0
          · have HOK : Hid (LotsOk bs s p) := hide ⟨HC.out, H4.out, HBAD.out, hok⟩
            have HPW := hide hok
            rw [hok]
            clear hok HBAD
            go_upto_region 17 with fail
            go_wp2_with (fail)
            go_loopw [13, 52] (fun ov i wr => ∃ (m no : Nat) (A : Option Addr) (c : Nat), m ≤ bs.length ∧ no ≤ 600 ∧ i = .int .i64 m ∧ ov = .slice A no c ∧ Hid (∀ (j : Nat) (b : List R4), j < m → bs[j]? = some b → ∀ (i : Nat) (r : R4), b[i]? = some r → (rectR s p r).2 = 0) ∧ Hid (LI n w p (pcA s p 0 (bs.take m)) (.slice A no c) no wr)) (fun _ i _ => bs.length - (intOf i).toNat)
            case atStart => exact ⟨0, 0, none, 0, Nat.zero_le _, Nat.zero_le _, rfl, rfl, hide (fun j x hj => absurd hj (Nat.not_lt_zero _)), HI2⟩
            case round =>
              clear HI2
              obtain ⟨m, no, A, c, hm, hno, rfl, rfl, HJ, HI⟩ := hrel
              have nz6 : (no : Int) ≤ 600 := by omega
              by_cases hlt : m < bs.length
              · obtain ⟨b, hp⟩ : ∃ p, bs[m]? = some p := ⟨_, List.getElem?_eq_getElem hlt⟩
                obtain ⟨g, og, rfl, hbl, k⟩ := HRB.out (by intro e; rw [e] at hlt; simp at hlt)
                obtain ⟨u, d0, hu⟩ := k m _ hp
                obtain ⟨Ax, cx, rfl, hbx⟩ := hu
                have d0 := (HI.out.below.cell (p := ⟨g, og + m, none⟩) hbl).trans d0
                have mz : (m : Int) < (bs.length : Int) := by omega
                have hcb := HALL.out m b hp
                have hbl4 : (b.length : Int) ≤ 400 := by have := (checkF_ok hcb).1; omega
                have HBX := hide hbx
                have HV : Hid (∀ r ∈ b, okR r) := hide (fun r hr => (ok_valid r).2 ((checkF_ok hcb).2.1 r hr))
                have HP := hide hp
                clear k hp hcb hbx
                go_upto_region 20 with fail
                go_wp2_with (fail)
                go_step3
                go_wp2_with (fail)
                go_step3
                go_wp2_with (fail)
                go_loopg [13, 59] (b.length) (fun gg ov i wr => ∃ (j no : Nat) (A : Option Addr) (c : Nat), gg + j = b.length ∧ no ≤ 600 ∧ i = .int .i64 j ∧ ov = .slice A no c ∧ Hid (∀ (i : Nat) (r : R4), i < j → b[i]? = some r → (rectR s p r).2 = 0) ∧ Hid (LI n w p (pcA s p 0 (bs.take m) ++ pcB s p m (b.take j)) (.slice A no c) no wr))
                case atStart => exact ⟨0, no, A, c, rfl, hno, rfl, rfl, hide (fun j x hj => absurd hj (Nat.not_lt_zero _)), by rw [show pcB s p m (b.take 0) = [] from rfl, List.append_nil]; exact HI⟩
                case round =>
                  clear HI d0 nz6
                  obtain ⟨j, no, A, c, hj, hno, rfl, rfl, HK, HI⟩ := hrel
                  have nz6 : (no : Int) ≤ 600 := by omega
                  by_cases hltj : j < b.length
                  · obtain ⟨r, hpr⟩ : ∃ p, b[j]? = some p := ⟨_, List.getElem?_eq_getElem hltj⟩
                    obtain ⟨g2, o2, rfl, hbl2, k⟩ := HBX.out (by intro e; rw [e] at hltj; simp at hltj)
                    have d0 : wr.cell? ⟨g2, o2 + j * 4, none⟩ = some (.int .i64 r.x0) := (HI.out.below.cell (p := ⟨g2, _, none⟩) hbl2).trans (k j _ hpr 0 _ rfl)
                    have d1 : wr.cell? ⟨g2, o2 + j * 4 + 1, none⟩ = some (.int .i64 r.y0) := (HI.out.below.cell (p := ⟨g2, _, none⟩) hbl2).trans (k j _ hpr 1 _ rfl)
                    have d2 : wr.cell? ⟨g2, o2 + j * 4 + 2, none⟩ = some (.int .i64 r.x1) := (HI.out.below.cell (p := ⟨g2, _, none⟩) hbl2).trans (k j _ hpr 2 _ rfl)
                    have d3 : wr.cell? ⟨g2, o2 + j * 4 + 3, none⟩ = some (.int .i64 r.y1) := (HI.out.below.cell (p := ⟨g2, _, none⟩) hbl2).trans (k j _ hpr 3 _ rfl)
                    have jz : (j : Int) < (b.length : Int) := by omega
                    have HR := hide hpr
                    have hr := HV.out r (List.mem_of_getElem? hpr)
                    have HFX := hide (HFR2.out r hr)
                    have HPT : Hid (pcB s p m (b.take (j + 1)) = pcB s p m (b.take j) ++ pcR s p m r) := hide (pcB_at s p m hpr)
                    have HLE : Hid (∀ j, (pcA s p 0 (bs.take m)).length + (pcB s p m (b.take j)).length ≤ (pcA s p 0 bs).length) := hide (pcA_le s p HP.out)
                    have HFEW : Hid ((rectR s p r).2 ≠ 0 → fewF s p bs = false) := hide (fun h => few_at HP.out hpr h)
                    have HNO : Hid (no = (pcA s p 0 (bs.take m) ++ pcB s p m (b.take j)).length) := hide HI.out.len
                    clear k hpr
                    go_upto_region 23 with fail
                    refine wp_name5 fun Z hZ => ?_
                    have hbz : BoxR wr.heap.size wr r Z := by rw [hZ]; exact box_new wr r _
                    have HIZ := hide (HI.out.keep hbz.below)
                    obtain ⟨c0, c1, c2, c3, -, hk⟩ := hbz
                    generalize wr.heap.size = q0 at *
                    clear hZ HI d0 d1 d2 d3
                    obtain ⟨F, hF⟩ : ∃ F, frF r s = F := ⟨_, rfl⟩
                    rw [hF] at HFX
                    have HFF := hide hF
                    have HF15 : Hid (0 ≤ F ∧ F ≤ 15) := hide (by rw [← hF]; obtain ⟨_, _, _, _, a, b⟩ := fr_has r s; exact ⟨a, b⟩)
                    clear hF
                    have HFZ : Hid (∀ W : World, Below Z.heap.size Z W → Calls Try.prog 18 #[.agg #[.int .i64 r.x0, .int .i64 r.y0, .int .i64 r.x1, .int .i64 r.y1], .slice As s.length cs] W fun e w' => e = .returned (.int .u8 F) ∧ Below W.heap.size W w') := hide (fun W hW => HFX.out W (HIZ.out.below.trans (hW.mono (by have := HIZ.out.size; omega))))
                    have HKB : Hid (Cell4 q0 r Z) := hide ⟨c0, c1, c2, c3, hk⟩
                    clear HFX
                    go_cut [18] (fun s18 wx => ∃ g, s18 = .pointer (some ⟨g, 0, none⟩) ∧ Below Z.heap.size Z wx ∧ BoxL5 g ⟨r, F⟩ wx)
                    case first =>
                      go_region_held3 (fun w' => w'.cell? ⟨q0, 0, none⟩ = some (.int .i64 r.x0) ∧ w'.cell? ⟨q0, 1, none⟩ = some (.int .i64 r.y0) ∧ w'.cell? ⟨q0, 2, none⟩ = some (.int .i64 r.x1) ∧ w'.cell? ⟨q0, 3, none⟩ = some (.int .i64 r.y1)) ((refine HKB.out.keep ?_; repeat (first | with_reducible exact Below.refl _ _ | with_reducible exact hbK | with_reducible refine Below.setCell ?_ (by first | omega | (simp; done) | (simp; omega)) _ | with_reducible refine Below.alloc ?_ (by first | omega | (simp; omega) | simp) _ | with_reducible refine Below.drew ?_)))
                        (first
                          | (go_at_call 18; refine (HFZ.out _ (by repeat (first | with_reducible exact Below.refl _ _ | with_reducible refine Below.alloc ?_ (by first | omega | (simp; omega) | simp) _ | with_reducible refine Below.drew ?_))).mono ?_; rintro e w10 ⟨rfl, hb10⟩; have hbK : Below Z.heap.size Z w10 := Below.trans (by repeat (first | with_reducible exact Below.refl _ _ | with_reducible refine Below.alloc ?_ (by first | omega | (simp; omega) | simp) _ | with_reducible refine Below.drew ?_)) (hb10.mono (by simp <;> omega)); have hsK := hbK.size; obtain ⟨hcK, hfK⟩ := bcell hb10; (try have z0 : Z.heap.size < w10.heap.size := by have := hb10.size; simp at this; omega); clear hb10))
                      all_goals (go_wp2_with (fail); go_meet)
                      all_goals
                        refine ⟨_, rfl, ?_, ⟨?_, ?_, ?_, ?_, ?_, ?_⟩⟩
                        · repeat (first | with_reducible exact Below.refl _ _ | with_reducible exact hbK | with_reducible refine Below.setCell ?_ (by first | omega | (simp; done) | (simp; omega)) _ | with_reducible refine Below.alloc ?_ (by first | omega | (simp; omega) | simp) _ | with_reducible refine Below.drew ?_)
                        · simp [go_sem, hcK, hfK]
                        · simp [go_sem, hcK, hfK]
                        · simp [go_sem, hcK, hfK]
                        · simp [go_sem, hcK, hfK]
                        · simp [go_sem, hcK, hfK]
                        · first | (simp; done) | (simp; omega)
                    case rest =>
                      obtain ⟨g, rfl, hb, HBL⟩ := hcut
                      have HI9 := hide (HIZ.out.keep hb)
                      clear hb HIZ HKB HFZ c0 c1 c2 c3 hk
                      obtain ⟨l0, l1, l2, l3, l4, hg⟩ := id HBL
                      simp only at l0 l1 l2 l3 l4
                      have HS1 : n + 1 ≤ wc.heap.size := HI9.out.size
                      by_cases hF0 : F = 0
                      · subst hF0
                        have HRE : Hid (pcR s p m r = [⟨(m : Int), ⟨r, 0⟩⟩] ∧ (rectR s p r).2 = 0) := hide (by unfold pcR rectR; rw [if_pos HFF.out]; exact ⟨rfl, rfl⟩)
                        by_cases h6 : no + 1 ≤ 600
                        · have hz6 : (no : Int) + 1 ≤ 600 := by omega
                          go_wp2_with (at_builtin; go_loud (refine wpList_append_lies _ rfl (.tmp 71) (.tmp 75) 45 rfl (n + 1) 27 i1 (.agg #[.int .i64 0, .int .i64 0, .int .i64 0, .int .i64 0, .int .i64 0, .int .u8 0]) 6 48 Try.underlying45 gi gz0 gz1 gz2 rfl (by decide) _ no _ rfl (World.ownsRow.alloc HI9.out.row _) ⟨wc.heap.size, 0, none⟩ 1 1 [.int .i64 (m : Int), .int .i64 r.x0, .int .i64 r.y0, .int .i64 r.x1, .int .i64 r.y1, .int .u8 0] rfl rfl (news_new wc _ _ _ rfl) (ints_one rfl) (by omega) (by unfold maxLen; omega) (by omega) (by simp; omega) _ rfl ?_))
                          intro g9 cp9 w9 hown hgrow hg2 hlt
                          have HR9 : Hid (LI n w p (pcA s p 0 (bs.take m) ++ pcB s p m (b.take j) ++ [⟨(m : Int), ⟨r, 0⟩⟩]) (.slice (some ⟨g9, 0, none⟩) (no + 1) cp9) (no + 1) w9) := hide ((HI9.out.keep ((Below.refl _ _).alloc (Nat.le_refl _) _)).push hgrow (by rw [List.flatMap_append, List.flatMap_append, List.append_assoc]; exact hown))
                          clear HI9 l0 l1 l2 l3 l4 HBL hown hgrow hg2 hlt
                          go_wp2_with (fail)
                          go_roundg (b.length - (j + 1))
                          case rel => exact ⟨j + 1, no + 1, _, cp9, by omega, h6, by go_num, rfl, hide (fun i x hi hx => by
                            rcases Nat.lt_or_ge i j with h | h
                            · exact HK.out i x h hx
                            · obtain rfl : i = j := by omega
                              rw [HR.out] at hx
                              cases hx
                              exact HRE.out.2), by rw [HPT.out, HRE.out.1, ← List.append_assoc]; exact HR9⟩
                          case measure => omega
                        · have hz6 : (600 : Int) < (no : Int) + 1 := by omega
                          have HLO : Hid (lotsF bs s p = ([], 4)) := hide (HOK.out.long (by
                            have h1 := HLE.out (j + 1)
                            rw [HPT.out, HRE.out.1] at h1
                            have h2 := HNO.out
                            simp only [List.length_append, List.length_singleton] at h1 h2
                            omega))
                          go_wp2_with (at_builtin; go_loud (refine wpList_append_lies _ rfl (.tmp 71) (.tmp 75) 45 rfl (n + 1) 27 i1 (.agg #[.int .i64 0, .int .i64 0, .int .i64 0, .int .i64 0, .int .i64 0, .int .u8 0]) 6 48 Try.underlying45 gi gz0 gz1 gz2 rfl (by decide) _ no _ rfl (World.ownsRow.alloc HI9.out.row _) ⟨wc.heap.size, 0, none⟩ 1 1 [.int .i64 (m : Int), .int .i64 r.x0, .int .i64 r.y0, .int .i64 r.x1, .int .i64 r.y1, .int .u8 0] rfl rfl (news_new wc _ _ _ rfl) (ints_one rfl) (by omega) (by unfold maxLen; omega) (by omega) (by simp; omega) _ rfl ?_))
                          intro g9 cp9 w9 hown hgrow hg2 hlt
                          have HR9 : Hid (LI n w p (pcA s p 0 (bs.take m) ++ pcB s p m (b.take j) ++ [⟨(m : Int), ⟨r, 0⟩⟩]) (.slice (some ⟨g9, 0, none⟩) (no + 1) cp9) (no + 1) w9) := hide ((HI9.out.keep ((Below.refl _ _).alloc (Nat.le_refl _) _)).push hgrow (by rw [List.flatMap_append, List.flatMap_append, List.append_assoc]; exact hown))
                          have HB9 := hide HR9.out.below
                          clear HI9 HR9 l0 l1 l2 l3 l4 HBL hown hgrow hg2 hlt
                          go_wp2_with (fail)
                          go_ret2
                          exact pars_nil HLO.out (by rw [HN.out]; exact HB9.out)
                      · have HFN : Hid (rectR s p r = splitR ⟨r, F⟩ p) := hide (by unfold rectR; rw [if_neg (by rw [HFF.out]; exact hF0), HFF.out])
                        have hf0 : (F == 0) = false := by simpa using hF0
                        have HSX := hide (HSP.out r F HF15.out)
                        obtain ⟨⟨Q, qc⟩, hQ⟩ : ∃ C, splitR ⟨r, F⟩ p = C := ⟨_, rfl⟩
                        rw [hQ] at HSX HFN
                        have HQL : Hid (Q.length ≤ 400) := hide (by have := rect_len s p r; rw [HFN.out] at this; exact this)
                        have hql : (Q.length : Int) ≤ 400 := by have := HQL.out; omega
                        obtain ⟨p0, p1, p2⟩ := HI9.out.box
                        have hn1 : n < wc.heap.size := by omega
                        clear hQ hF0 HSP
                        go_wp2_with (fail)
                        refine (HSX.out _).mono ?_
                        rintro e w8 ⟨⟨A8, c8, rfl, hown8⟩, hb⟩
                        have HI8 := hide (HI9.out.keep hb)
                        have HQR := hide hown8
                        have HS8 : n + 1 ≤ w8.heap.size := HI8.out.size
                        clear hb HI9 HSX p0 p1 p2 hn1 hown8 l0 l1 l2 l3 l4 HBL hg HS1
                        simp only at HQR ⊢
                        by_cases hqc : qc = 0
                        · subst hqc
                          by_cases hsum : no + Q.length ≤ 600
                          · have hzs : (no : Int) + (Q.length : Int) ≤ 600 := by omega
                            go_wp2_with (fail)
                            go_loopw [13, 98] (fun ov i wr => ∃ (k n9 : Nat) (A : Option Addr) (c : Nat), k ≤ Q.length ∧ n9 + Q.length ≤ 600 + k ∧ i = .int .i64 k ∧ ov = .slice A n9 c ∧ Hid (LI n w p (pcA s p 0 (bs.take m) ++ pcB s p m (b.take j) ++ (Q.take k).map (Par6.mk (m : Int))) (.slice A n9 c) n9 wr ∧ wr.ownsRow wc.heap.size 25 5 (.slice A8 Q.length c8) Q.length (Q.flatMap encL))) (fun _ i _ => Q.length - (intOf i).toNat)
                            case atStart => exact ⟨0, no, A, c, Nat.zero_le _, hsum, rfl, rfl, hide ⟨by rw [List.take_zero, List.map_nil, List.append_nil]; exact HI8.out, HQR.out⟩⟩
                            case round =>
                              clear HI8 HQR HS8 hzs nz6
                              obtain ⟨k, n9, A, c, hkq, hn9, rfl, rfl, HIQ⟩ := hrel
                              by_cases hltk : k < Q.length
                              · obtain ⟨x, hpx⟩ : ∃ p, Q[k]? = some p := ⟨_, List.getElem?_eq_getElem hltk⟩
                                obtain ⟨A0, c0, e0, hrd⟩ := own_rd HIQ.out.2 (fun _ => rfl)
                                injection e0 with eA eN eC
                                subst eC
                                obtain ⟨g3, o3, rfl, hbl3, kk⟩ := hrd (by intro e; rw [e] at hltk; simp at hltk)
                                subst eA
                                have d0 : wr.cell? ⟨g3, o3 + k * 5, none⟩ = some (.int .i64 x.r.x0) := kk k _ hpx 0 _ rfl
                                have d1 : wr.cell? ⟨g3, o3 + k * 5 + 1, none⟩ = some (.int .i64 x.r.y0) := kk k _ hpx 1 _ rfl
                                have d2 : wr.cell? ⟨g3, o3 + k * 5 + 2, none⟩ = some (.int .i64 x.r.x1) := kk k _ hpx 2 _ rfl
                                have d3 : wr.cell? ⟨g3, o3 + k * 5 + 3, none⟩ = some (.int .i64 x.r.y1) := kk k _ hpx 3 _ rfl
                                have d4 : wr.cell? ⟨g3, o3 + k * 5 + 4, none⟩ = some (.int .u8 x.f) := kk k _ hpx 4 _ rfl
                                have kz : (k : Int) < (Q.length : Int) := by omega
                                have HTK : Hid ((Q.take (k + 1)).map (Par6.mk (m : Int)) = (Q.take k).map (Par6.mk (m : Int)) ++ [⟨(m : Int), x⟩]) := hide (by rw [List.take_add_one, hpx]; simp)
                                clear kk hrd hpx
                                go_upto_region 34 with fail
                                refine wp_name5 fun Z2 hZ2 => ?_
                                have hbz2 : Below wr.heap.size wr Z2 := by
                                  rw [hZ2]
                                  repeat (first | with_reducible exact Below.refl _ _ | with_reducible refine Below.setCell ?_ (by first | (simp; done) | (simp; omega)) _ | with_reducible refine Below.alloc ?_ (by first | omega | (simp; omega) | simp) _)
                                have HXZ : BoxL5 wr.heap.size x Z2 := by rw [hZ2]; refine ⟨?_, ?_, ?_, ?_, ?_, ?_⟩ <;> simp [go_sem]
                                have HIZ2 := hide (And.intro (HIQ.out.1.keep hbz2) (own_below HIQ.out.2 hbz2))
                                have HS2 : n + 1 ≤ Z2.heap.size := HIZ2.out.1.size
                                generalize wr.heap.size = q3 at *
                                clear hZ2 hbz2 HIQ d0 d1 d2 d3 d4 hbl3
                                obtain ⟨x0, x1, x2, x3, x4, hx5⟩ := HXZ
                                go_wp2_with (at_builtin; go_loud (refine wpList_append_lies _ rfl (.tmp 102) (.tmp 106) 45 rfl (n + 1) 27 i1 (.agg #[.int .i64 0, .int .i64 0, .int .i64 0, .int .i64 0, .int .i64 0, .int .u8 0]) 6 48 Try.underlying45 gi gz0 gz1 gz2 rfl (by decide) _ n9 _ rfl (World.ownsRow.alloc HIZ2.out.1.row _) ⟨Z2.heap.size, 0, none⟩ 1 1 [.int .i64 (m : Int), .int .i64 x.r.x0, .int .i64 x.r.y0, .int .i64 x.r.x1, .int .i64 x.r.y1, .int .u8 x.f] rfl rfl (news_new Z2 _ _ _ rfl) (ints_one rfl) (by omega) (by unfold maxLen; omega) (by omega) (by simp; omega) _ rfl ?_))
                                intro g9 cp9 w9 hown hgrow hg2 hlt9
                                have HR9 : Hid (LI n w p (pcA s p 0 (bs.take m) ++ pcB s p m (b.take j) ++ (Q.take (k + 1)).map (Par6.mk (m : Int))) (.slice (some ⟨g9, 0, none⟩) (n9 + 1) cp9) (n9 + 1) w9 ∧ w9.ownsRow wc.heap.size 25 5 (.slice (some ⟨g3, o3, none⟩) Q.length c8) Q.length (Q.flatMap encL)) := hide ⟨(HIZ2.out.1.keep ((Below.refl _ _).alloc (Nat.le_refl _) _)).push hgrow (by rw [HTK.out, ← List.append_assoc, List.flatMap_append, List.flatMap_append, List.flatMap_append, List.append_assoc, List.append_assoc, List.map_take]; exact hown), (own_below HIZ2.out.2 ((Below.refl _ _).alloc (Nat.le_refl _) _)).kept hgrow (own_apart HIZ2.out.2 HIZ2.out.1.row lot_par)⟩
                                clear HIZ2 HTK x0 x1 x2 x3 x4 hx5 hown hgrow hg2 hlt9
                                go_wp2_with (fail)
                                go_roundw
                                case rel => exact ⟨k + 1, n9 + 1, _, cp9, by omega, by omega, by go_num, rfl, HR9⟩
                                case measure => simp [intOf]; omega
                              · obtain rfl : k = Q.length := by omega
                                have HI7 := hide HIQ.out.1
                                clear HIQ
                                go_wp2_with (fail)
                                go_roundg (b.length - (j + 1))
                                case rel => exact ⟨j + 1, n9, A, c, by omega, by omega, by go_num, rfl, hide (fun i x hi hx => by
                                  rcases Nat.lt_or_ge i j with h | h
                                  · exact HK.out i x h hx
                                  · obtain rfl : i = j := by omega
                                    rw [HR.out] at hx
                                    cases hx
                                    rw [HFN.out]), by rw [HPT.out, show pcR s p m r = (Q.take Q.length).map (Par6.mk (m : Int)) by unfold pcR; rw [HFN.out, List.take_length], ← List.append_assoc]; exact HI7⟩
                                case measure => omega
                          · have hzs : (600 : Int) < (no : Int) + (Q.length : Int) := by omega
                            have HLO : Hid (lotsF bs s p = ([], 4)) := hide (HOK.out.long (by
                              have h1 := HLE.out (j + 1)
                              have h3 : (pcR s p m r).length = Q.length := by unfold pcR; rw [HFN.out, List.length_map]
                              rw [HPT.out, List.length_append, h3] at h1
                              have h2 := HNO.out
                              rw [List.length_append] at h2
                              omega))
                            have HB9 := hide HI8.out.below
                            clear HI8 HQR
                            go_wp2_with (fail)
                            go_ret2
                            exact pars_nil HLO.out (by rw [HN.out]; exact HB9.out)
                        · have hne : (qc != 0) = true := by simpa using hqc
                          have HLO : Hid (lotsF bs s p = ([], 4)) := hide (HOK.out.few (HFEW.out (by rw [HFN.out]; exact hqc)))
                          have HB9 := hide HI8.out.below
                          clear HI8 HQR
                          go_wp2_with (fail)
                          go_ret2
                          exact pars_nil HLO.out (by rw [HN.out]; exact HB9.out)
                  · obtain rfl : j = b.length := by omega
                    have HKA : Hid (∀ (i : Nat) (r : R4), b[i]? = some r → (rectR s p r).2 = 0) := hide (fun i r hi => HK.out i r (List.getElem?_eq_some_iff.1 hi).1 hi)
                    have HIM : Hid (LI n w p (pcA s p 0 (bs.take (m + 1))) (.slice A no c) no wr) := hide (by rw [pcA_at s p HP.out]; have := HI.out; rw [List.take_length] at this; exact this)
                    clear HI HK
                    go_wp2_with (fail)
                    go_simp
                    go_step
                    go_wp2_with (fail)
                    go_roundw
                    case rel => exact ⟨m + 1, no, A, c, by omega, hno, by go_num, rfl, hide (fun i x hi hx => by
                      rcases Nat.lt_or_ge i m with h | h
                      · exact HJ.out i x h hx
                      · obtain rfl : i = m := by omega
                        rw [HP.out] at hx
                        cases hx
                        exact HKA.out), HIM⟩
                    case measure => simp [intOf]; omega
              · obtain rfl : m = bs.length := by omega
                have HALL2 : Hid (lotsF bs s p = (pcA s p 0 bs, 0)) := hide (by
                  have h1 := HI.out.len
                  rw [List.take_length] at h1
                  rw [HOK.out.eq, if_pos ⟨few_all fun i b hi => HJ.out i b (List.getElem?_eq_some_iff.1 hi).1 hi, by omega⟩])
                have HI6 : Hid (LI n w p (pcA s p 0 bs) (.slice A no c) no wr) := hide (by have := HI.out; rw [List.take_length] at this; exact this)
                have HB9 := hide HI6.out.below
                clear HI HJ
                go_wp2_with (fail)
                go_ret2
                have hnl := HI6.out.len
                refine ⟨⟨A, c, ?_, ?_⟩, by rw [HN.out]; exact HB9.out⟩
                · rw [HALL2.out]
                  show _ = Ending.returned (.tuple #[.slice A (pcA s p 0 bs).length c, .int .i64 0])
                  rw [← hnl]
                  rfl
                · rw [HALL2.out]
                  show World.ownsRow _ _ _ _ (.slice A (pcA s p 0 bs).length c) (pcA s p 0 bs).length ((pcA s p 0 bs).flatMap encQ)
                  rw [← hnl, HN.out]
                  exact own_base HI6.out.row (by omega)
          · have HF : Hid (lotsF bs s p = ([], 2)) := hide (by
              have := H4.out
              unfold lotsF
              rw [if_neg (by rw [HC.out]; simp), if_neg (by omega), if_neg (by rw [HBAD.out]; simp), if_pos hok])
            have hw2 : okW p = 2 := by
              have := okW_eq p
              split at this
              · exact absurd this hok
              · exact this
            have HB2 := hide HI2.out.below
            rw [hw2]
            clear hw2 hok HI2
            go_wp2_with (fail)
            go_ret2
            exact pars_nil HF.out (by rw [HN.out]; exact HB2.out)
    · have hz4 : (400 : Int) < (bs.length : Int) := by omega
      have HF : Hid (lotsF bs s p = ([], 4)) := hide (by
        unfold lotsF
        rw [if_neg (by rw [HC.out]; simp), if_pos (by omega)])
      have HI2 := hide HI1.out.below
      go_wp2_with (fail)
      go_ret2
      exact pars_nil HF.out (by rw [HN.out]; exact HI2.out)
  · have HF : Hid (lotsF bs s p = ([], checkF s)) := hide (if_pos hc)
    have hne : (checkF s != 0) = true := by simpa using hc
    clear HFR hc
    generalize checkF s = ck at *
    go_enter Try.func13, Try.ntmps13
    go_wp2_with (fail)
    refine (HCK.out _ HI.out.below).mono ?_
    rintro e w1 ⟨rfl, hb⟩
    have HI1 := hide (HI.out.keep hb).below
    clear hb hW HI HCK
    go_wp2_with (fail)
    go_ret2
    exact pars_nil HF.out (by rw [HN.out]; exact HI1.out)
end Go.Proofs.Ytabogapiecciiaa

/- A region that draws its order: reads, a chain (a call) that keeps their condition, reads of slots in any order, and a last operation. The law, in a round and outside of one. -/
namespace Go.Proofs.Ytabogapiecciiaa
open Go.RowKit
set_option linter.unusedVariables false
set_option linter.unusedSimpArgs false

section
variable {P : Program} {Q : Exit → Act → World → Prop} {md : Region.Mode} {S : World → Prop}

def mixCB (md : Region.Mode) (ops : Array Oper) (R2 T2 : List Nat) : List Nat → Array Bool → Bool
  | [], l => mixRB md ops T2 R2 l
  | t :: r, l => (Region.ready md ops l == [t]) && mixCB md ops R2 T2 r (l.setIfInBounds t true)
def mixHB (md : Region.Mode) (ops : Array Oper) (T R2 T2 : List Nat) : List Nat → Array Bool → Bool
  | [], l => mixCB md ops R2 T2 T l
  | i :: r, l => Region.free md ops l i && (Region.ready md ops l).contains i && waitsFor md ops (ops.size - 1) i && mixHB md ops T R2 T2 r (l.setIfInBounds i true)
def mixTwoB (md : Region.Mode) (ops : Array Oper) (R T R2 T2 : List Nat) : Bool := Region.noSelect ops && decide (R.length + (T.length + (R2.length + T2.length)) = ops.size) && (T2.getLast? == some (ops.size - 1)) && mixHB md ops T R2 T2 R (Array.replicate ops.size false)

/-- One operation behind the other; behind each, S is shown anew. -/
def wpChain (P : Program) (ops : Array Oper) (S : World → Prop) (Q : Exit → Act → World → Prop) (K : Act → World → Prop) : List Oper → Act → World → Prop
  | [], a, w => K a w
  | o :: r, a, w => ∀ K' : Act → World → Prop, (∀ a' w', S w' → wpChain P ops S Q K r a' w' → K' a' w') → if Region.wanted o (yielded ops a.tmps) = true then o.wp P a w K' Q else K' (a.put o.dst undef) w

theorem wpChain_mix {l : List Oper} {R2 T2 : List Nat} (hsel : ∀ (j : Nat) (o : Oper) cs b, l.toArray[j]? = some o → o.op ≠ .select cs b) (hQ : ∀ c a a' w, Q (.panic c) a w → Q (.panic c) a' w) (hL : ∀ t, T2.getLast? = some t → t = l.length - 1) :
    ∀ (T : List Nat) (listed : Array Bool) (a : Act) (w : World), S w → mixCB md l.toArray R2 T2 T listed = true →
      wpChain P l.toArray S Q (fun a w => wpReads P l.toArray S (fun a' => wpTail P l.toArray S Q (T2.map (opAt l)) a' w) (R2.map (opAt l)) a) (T.map (opAt l)) a w →
      wpAnyE P md l.toArray Q S (l.length - 1) (T.length + (R2.length + T2.length)) listed a w
  | [], listed, a, w, hS, hT, h => by
    rw [List.length_nil, Nat.zero_add]
    exact wpReads_mix hsel hQ hL hS R2 listed a hT h
  | t :: r, listed, a, w, hS, hT, h => by
    simp only [mixCB, Bool.and_eq_true, beq_iff_eq] at hT
    rw [List.length_cons, Nat.add_right_comm]
    refine ⟨fun h0 => (by rw [hT.1] at h0; cases h0), fun i hi => ?_⟩
    obtain ⟨_, o, ho, _⟩ := mem_ready.1 hi
    rw [hT.1] at hi
    obtain rfl : i = t := by simpa using hi
    have ho' : l[i]? = some o := by simpa using ho
    simp only [List.map_cons, opAt_some ho'] at h
    refine wpOp_step ho fun K' hK => h K' fun a' w' hS' hT' => hK a' w' ⟨fun _ => hS', ?_⟩
    exact wpChain_mix hsel hQ hL r _ a' w' hS' hT.2 hT'
theorem wpHead_mix {l : List Oper} {T R2 T2 : List Nat} (hsel : ∀ (j : Nat) (o : Oper) cs b, l.toArray[j]? = some o → o.op ≠ .select cs b) (hQ : ∀ c a a' w, Q (.panic c) a w → Q (.panic c) a' w) (hL : ∀ t, T2.getLast? = some t → t = l.length - 1)
    {w : World} (hS : S w) : ∀ (R : List Nat) (listed : Array Bool) (a : Act), mixHB md l.toArray T R2 T2 R listed = true →
      wpReads P l.toArray S (fun a' => wpChain P l.toArray S Q (fun a w => wpReads P l.toArray S (fun a' => wpTail P l.toArray S Q (T2.map (opAt l)) a' w) (R2.map (opAt l)) a) (T.map (opAt l)) a' w) (R.map (opAt l)) a →
      wpAnyE P md l.toArray Q S (l.length - 1) (R.length + (T.length + (R2.length + T2.length))) listed a w
  | [], listed, a, hR, h => by
    rw [List.length_nil, Nat.zero_add]
    exact wpChain_mix hsel hQ hL T listed a w hS hR h
  | i :: r, listed, a, hR, h => by
    simp only [mixHB, Bool.and_eq_true, List.contains_iff_mem] at hR
    obtain ⟨⟨⟨f1, f2⟩, f3⟩, f4⟩ := hR
    obtain ⟨_, o, ho, _⟩ := mem_ready.1 f2
    have ho' : l[i]? = some o := by simpa using ho
    simp only [List.map_cons, opAt_some ho'] at h
    obtain ⟨v, hy, h⟩ := h
    have ih := wpHead_mix hsel hQ hL hS r _ _ f4 h
    rw [List.length_cons, Nat.add_right_comm]
    refine wpAnyE_first ho hsel (fun c a w h => hQ c _ _ w h) ?_ _ _ _ _ (Region.free_spec ho f1) f2 hy hS ih
    intro oL hoL
    unfold waitsFor at f3
    simp only [List.size_toArray] at f3
    rw [hoL] at f3
    obtain ⟨e, he, h2⟩ := Array.any_eq_true'.1 f3
    simp only [Bool.and_eq_true, beq_iff_eq] at h2
    exact ⟨e, he, h2.1, h2.2⟩
theorem wpAny_two {a : Act} {w : World} {l : List Oper} (R T R2 T2 : List Nat) (hB : mixTwoB .any l.toArray R T R2 T2 = true) (hS : S w)
    (h : wpReads P l.toArray S (fun a' => wpChain P l.toArray S (NoPanic Q) (fun a w => wpReads P l.toArray S (fun a' => wpTail P l.toArray S (NoPanic Q) (T2.map (opAt l)) a' w) (R2.map (opAt l)) a) (T.map (opAt l)) a' w) (R.map (opAt l)) a) :
    wpAny P .any l.toArray (NoPanic Q) l.toArray.size (Array.replicate l.toArray.size false) a w := by
  refine wpAny_of_E (S := S) (L := l.length - 1) _ _ _ _ ?_
  simp only [mixTwoB, Bool.and_eq_true, decide_eq_true_eq, beq_iff_eq, List.size_toArray] at hB
  obtain ⟨⟨⟨b1, b2⟩, b3⟩, b4⟩ := hB
  have := wpHead_mix (Q := NoPanic Q) (S := S) (l := l) (T := T) (R2 := R2) (T2 := T2) (w := w) (Region.noSelect_spec b1) (fun _ _ _ _ h => h) (fun t ht => by rw [b3] at ht; injection ht with ht; exact ht.symm) hS R _ a b4 h
  rw [b2] at this
  exact this
theorem wp_region_two {id : Nat} {a : Act} {w : World} {l : List Oper} (R T R2 T2 : List Nat) (S : World → Prop) (hm : P.follows .mixedOrders = true) (hB : mixTwoB .any l.toArray R T R2 T2 = true) (hS : S w.drew)
    (h : wpReads P l.toArray S (fun a' => wpChain P l.toArray S (NoPanic Q) (fun a w => wpReads P l.toArray S (fun a' => wpTail P l.toArray S (NoPanic Q) (T2.map (opAt l)) a' w) (R2.map (opAt l)) a) (T.map (opAt l)) a' w.drew) (R.map (opAt l)) a) :
    (Code.region id l.toArray true).wp P Q a w :=
  wp_region_noPanic (wp_region_any hm (wpAny_two R T R2 T2 hB hS h))
theorem wpIn_region_two {id r m : Nat} {a : Act} {w : World} {l : List Oper} (R T R2 T2 : List Nat) (S : World → Prop) (hm : P.follows .mixedOrders = true) (hB : mixTwoB .any l.toArray R T R2 T2 = true) (hnd : noDefer l = true) (hout : ∀ a w, ¬ Q .outgrown a w) (hS : S w.drew)
    (h : wpReads P l.toArray S (fun a' => wpChain P l.toArray S (NoPanic Q) (fun a w => wpReads P l.toArray S (fun a' => wpTail P l.toArray S (NoPanic Q) (T2.map (opAt l)) a' w) (R2.map (opAt l)) a) (T.map (opAt l)) a' w.drew) (R.map (opAt l)) a) :
    (Code.region id l.toArray true).wpIn (Fence.wide.inRound r) m P Q a w :=
  Code.wpIn_mono NoPanic.imp (wpIn_region_any hm (wpAny_round (noDefer_spec hnd) (fun a w h => hout a w (NoPanic.imp _ _ _ h)) _ _ _ _ (wpAny_two R T R2 T2 hB hS h)))
end
end Go.Proofs.Ytabogapiecciiaa

/- The reference's Wide and High. -/
namespace Go.Proofs.Ytabogapiecciiaa
open Go.RowKit
set_option linter.unusedVariables false
set_option linter.unusedSimpArgs false

theorem Box5.upd {w w' : World} {b o : Nat} {row : Option Nat} {v0 v1 v2 v3 v4 : Value} (h : Box5 w b v0 v1 v2 v3 v4) (U : Upd o row w w') (h1 : b ≠ o) (h2 : row ≠ some b) : Box5 w' b v0 v1 v2 v3 v4 := by
  have hs := lt_of_cell h.c0
  exact ⟨(U.cell hs h1 h2).trans h.c0, (U.cell hs h1 h2).trans h.c1, (U.cell hs h1 h2).trans h.c2, (U.cell hs h1 h2).trans h.c3, (U.cell hs h1 h2).trans h.c4, (U.frozen hs h1 h2).trans h.z0, (U.frozen hs h1 h2).trans h.z1, (U.frozen hs h1 h2).trans h.z2, (U.frozen hs h1 h2).trans h.z3, (U.frozen hs h1 h2).trans h.z4⟩
end Go.Proofs.Ytabogapiecciiaa

/- The reference's parts. -/
namespace Go.Proofs.Ytabogapiecciiaa
open Go.RowKit
set_option linter.unusedVariables false
set_option linter.unusedSimpArgs false

theorem Box3.under {w w' : World} {b B : Nat} {v0 v1 v2 : Value} (h : Box3 w b v0 v1 v2) (hb : Below B w w') (hB : b < B) : Box3 w' b v0 v1 v2 :=
  ⟨(hb.cell (p := ⟨b, 0, none⟩) hB).trans h.c0, (hb.cell (p := ⟨b, 1, none⟩) hB).trans h.c1, (hb.cell (p := ⟨b, 2, none⟩) hB).trans h.c2⟩
theorem Box5L.under {w w' : World} {b B : Nat} {l : Lot5} (h : Box5L w b l) (hb : Below B w w') (hB : b < B) : Box5L w' b l :=
  ⟨(hb.cell (p := ⟨b, 0, none⟩) hB).trans h.c0, (hb.cell (p := ⟨b, 1, none⟩) hB).trans h.c1, (hb.cell (p := ⟨b, 2, none⟩) hB).trans h.c2, (hb.cell (p := ⟨b, 3, none⟩) hB).trans h.c3, (hb.cell (p := ⟨b, 4, none⟩) hB).trans h.c4,
    (hb.frozen (p := ⟨b, 0, none⟩) hB).trans h.z0, (hb.frozen (p := ⟨b, 1, none⟩) hB).trans h.z1, (hb.frozen (p := ⟨b, 2, none⟩) hB).trans h.z2, (hb.frozen (p := ⟨b, 3, none⟩) hB).trans h.z3, (hb.frozen (p := ⟨b, 4, none⟩) hB).trans h.z4⟩
theorem meet_aux {n m : Nat} {w w6 V : World} {v0 v1 v2 : Value} {A B : Lot5} (K : Below n w w6) (hs : n + 3 < w6.heap.size) (HP : Box3 w6 (n + 1) v0 v1 v2) (HA : Box5L w6 (n + 1 + 1) A) (HB : Box5L w6 (n + 1 + 1 + 1) B) (hm : n + 3 < m) (hV : Below m w6 V) {Q : Prop} (q : Q) :
    Below n w V ∧ n + 3 < V.heap.size ∧ Box3 V (n + 1) v0 v1 v2 ∧ Box5L V (n + 1 + 1) A ∧ Box5L V (n + 1 + 1 + 1) B ∧ Q :=
  ⟨K.trans (hV.mono (by omega)), Nat.lt_of_lt_of_le hs hV.size, HP.under hV (by omega), HA.under hV (by omega), HB.under hV (by omega), q⟩
end Go.Proofs.Ytabogapiecciiaa

/- The reference's all (it calls itself) and Split. -/
namespace Go.Proofs.Ytabogapiecciiaa
open Go.RowKit
set_option linter.unusedVariables false
set_option linter.unusedSimpArgs false

/-- What all gives: the lots behind those that were there, no more than 401. -/
def allR (p : Pl3) (l : Lot5) (O : List Lot5) : List Lot5 := (O ++ leaves p l).take 401
theorem take_app (A B C : List Lot5) : ((A ++ B).take 401 ++ C).take 401 = (A ++ (B ++ C)).take 401 := by
  rw [← List.append_assoc]
  generalize A ++ B = D
  rw [List.take_append, List.take_append, List.take_take, Nat.min_self, List.length_take]
  by_cases h : D.length ≤ 401
  · rw [Nat.min_eq_right h]
  · rw [Nat.min_eq_left (by omega), show 401 - 401 = 0 from rfl, show 401 - D.length = 0 by omega]
theorem allR_none {p : Pl3} {l : Lot5} {O : List Lot5} (h : cutL p l = none) (hO : O.length ≤ 400) : allR p l O = O ++ [l] := by
  unfold allR
  rw [leaves_none h, List.take_of_length_le (by simp; omega)]
theorem allR_full {p : Pl3} {l : Lot5} {O : List Lot5} (h1 : 400 < O.length) (h2 : O.length ≤ 401) : allR p l O = O := by
  unfold allR
  rw [List.take_append, List.take_of_length_le h2, show 401 - O.length = 0 by omega]
  simp
theorem allR_some {p : Pl3} {l a b : Lot5} {O : List Lot5} (h : cutL p l = some (a, b)) : allR p b (allR p a O) = allR p l O := by
  unfold allR
  rw [take_app, leaves_some h]
theorem allR_len (p : Pl3) (l : Lot5) (O : List Lot5) : (allR p l O).length ≤ 401 := by
  unfold allR
  rw [List.length_take]
  exact Nat.min_le_left _ _
theorem gtrans {a b c : World} {r s : Option Nat} (h : a.grownBy b r) (k : b.grownBy c s) (hs : ∀ q, s = some q → r = some q ∨ a.heap.size ≤ q) : a.grownBy c r :=
  ⟨k.os.trans h.os, k.tape.trans h.tape, k.output.trans h.output, Nat.le_trans h.size k.size, fun i hi hne => (k.block i (Nat.lt_of_lt_of_le hi h.size) (fun e => by
    rcases hs i e.symm with h1 | h1
    · exact hne h1.symm
    · omega)).trans (h.block i hi hne)⟩
theorem g_below {a b : World} {r : Option Nat} (h : Below a.heap.size a b) : a.grownBy b r := ⟨h.os, h.tape, h.output, h.size, fun i hi _ => h.block i hi⟩
/-- What a call of all leaves. -/
def AllRet (w : World) (B : Nat) (row : Option Nat) (R : List Lot5) (e : Ending) (w' : World) : Prop :=
  ∃ A c, e = .returned (.slice A R.length c) ∧ w'.ownsRow B 25 5 (.slice A R.length c) R.length (R.flatMap encL) ∧ w.grownBy w' row ∧ ∀ q, (Value.slice A R.length c).ownBlock = some q → row = some q ∨ w.heap.size ≤ q
theorem cutR_none {l : Lot5} {p : Pl3} (h : cutL p l = none) : cutR l p = (zeroL, zeroL, false) := by simp [cutR, h]
theorem cutR_some {l a b : Lot5} {p : Pl3} (h : cutL p l = some (a, b)) : cutR l p = (a, b, true) := by simp [cutR, h]
theorem five_grown {A B : World} {r : Option Nat} {b : Nat} {l : Lot5} (h : Box5L A b l) (hg : A.grownBy B r) (hr : ∀ q, r = some q → q ≠ b) : Box5L B b l := by
  have hs := lt_of_cell h.c0
  have hb : B.heap[b]? = A.heap[b]? := hg.block b hs (fun e => hr b e.symm rfl)
  exact ⟨(World.cell?_of_block (a := ⟨b, 0, none⟩) hb).trans h.c0, (World.cell?_of_block (a := ⟨b, 1, none⟩) hb).trans h.c1, (World.cell?_of_block (a := ⟨b, 2, none⟩) hb).trans h.c2, (World.cell?_of_block (a := ⟨b, 3, none⟩) hb).trans h.c3, (World.cell?_of_block (a := ⟨b, 4, none⟩) hb).trans h.c4,
    (World.frozen?_of_block (a := ⟨b, 0, none⟩) hb).trans h.z0, (World.frozen?_of_block (a := ⟨b, 1, none⟩) hb).trans h.z1, (World.frozen?_of_block (a := ⟨b, 2, none⟩) hb).trans h.z2, (World.frozen?_of_block (a := ⟨b, 3, none⟩) hb).trans h.z3, (World.frozen?_of_block (a := ⟨b, 4, none⟩) hb).trans h.z4⟩
theorem three_cells {W : World} {b1 b2 b3 : Nat} {l k : Lot5} {v0 v1 v2 : Value} (h1 : Box5L W b1 l) (h2 : Box3 W b2 v0 v1 v2) (h3 : Box5L W b3 k) :
    (W.cell? ⟨b1, 0, none⟩ = some (.int .i64 l.r.x0) ∧ W.cell? ⟨b1, 1, none⟩ = some (.int .i64 l.r.y0) ∧ W.cell? ⟨b1, 2, none⟩ = some (.int .i64 l.r.x1) ∧ W.cell? ⟨b1, 3, none⟩ = some (.int .i64 l.r.y1) ∧ W.cell? ⟨b1, 4, none⟩ = some (.int .u8 l.f)) ∧ (W.cell? ⟨b2, 0, none⟩ = some v0 ∧ W.cell? ⟨b2, 1, none⟩ = some v1 ∧ W.cell? ⟨b2, 2, none⟩ = some v2) ∧ (W.cell? ⟨b3, 0, none⟩ = some (.int .i64 k.r.x0) ∧ W.cell? ⟨b3, 1, none⟩ = some (.int .i64 k.r.y0) ∧ W.cell? ⟨b3, 2, none⟩ = some (.int .i64 k.r.x1) ∧ W.cell? ⟨b3, 3, none⟩ = some (.int .i64 k.r.y1) ∧ W.cell? ⟨b3, 4, none⟩ = some (.int .u8 k.f)) :=
  ⟨⟨h1.c0, h1.c1, h1.c2, h1.c3, h1.c4⟩, ⟨h2.c0, h2.c1, h2.c2⟩, ⟨h3.c0, h3.c1, h3.c2, h3.c3, h3.c4⟩⟩
theorem allR_nil (p : Pl3) (l : Lot5) : allR p l [] = (leaves p l).take 401 := rfl
end Go.Proofs.Ytabogapiecciiaa

/- The walk of the reference's Lots. -/
namespace Go.Proofs.Ytabogapiecciiaa
open Go.RowKit
set_option linter.unusedVariables false
set_option linter.unusedSimpArgs false

/-- The cells that hold a rectangle of a block, and the block's own. -/
structure CellB (g o : Nat) (v : Value) (g2 o2 : Nat) (r : R4) (wr : World) : Prop where
  b : wr.cell? ⟨g, o, none⟩ = some v
  d0 : wr.cell? ⟨g2, o2, none⟩ = some (.int .i64 r.x0)
  d1 : wr.cell? ⟨g2, o2 + 1, none⟩ = some (.int .i64 r.y0)
  d2 : wr.cell? ⟨g2, o2 + 2, none⟩ = some (.int .i64 r.x1)
  d3 : wr.cell? ⟨g2, o2 + 3, none⟩ = some (.int .i64 r.y1)
  lt : g < wr.heap.size
  lt2 : g2 < wr.heap.size
theorem CellB.keep {g o g2 o2 : Nat} {v : Value} {r : R4} {wr w' : World} (h : CellB g o v g2 o2 r wr) (hb : Below wr.heap.size wr w') : w'.cell? ⟨g, o, none⟩ = some v ∧ w'.cell? ⟨g2, o2, none⟩ = some (.int .i64 r.x0) ∧ w'.cell? ⟨g2, o2 + 1, none⟩ = some (.int .i64 r.y0) ∧ w'.cell? ⟨g2, o2 + 2, none⟩ = some (.int .i64 r.x1) ∧ w'.cell? ⟨g2, o2 + 3, none⟩ = some (.int .i64 r.y1) :=
  ⟨(hb.cell (p := ⟨g, o, none⟩) h.lt).trans h.b, (hb.cell (p := ⟨g2, o2, none⟩) h.lt2).trans h.d0, (hb.cell (p := ⟨g2, o2 + 1, none⟩) h.lt2).trans h.d1, (hb.cell (p := ⟨g2, o2 + 2, none⟩) h.lt2).trans h.d2, (hb.cell (p := ⟨g2, o2 + 3, none⟩) h.lt2).trans h.d3⟩
end Go.Proofs.Ytabogapiecciiaa

/- The reference's Same of parcels: two lists are one. -/
namespace Go.Proofs.Ytabogapiecciiaa
open Go.RowKit
set_option linter.unusedVariables false
set_option linter.unusedSimpArgs false

set_option maxHeartbeats 4000000 in
theorem rSameP_any {w : World} {vs vt : Value} {s t : List Par6} {B C : Nat} (hs : RdK encQ 6 w B vs s) (ht : RdK encQ 6 w C vt t) (ns : s.length ≤ 100000000) (hB : B ≤ w.heap.size) (hC : C ≤ w.heap.size) :
    Calls Try.prog 14 #[vs, vt] w fun e w' => e = .returned (.bool (decide (s = t))) ∧ Below w.heap.size w w' := by
  obtain ⟨A1, c1, rfl, h1⟩ := hs
  obtain ⟨A2, c2, rfl, h2⟩ := ht
  have g : Try.prog.eqGuardType Try.prog.depth 27 = false := by kernel_rfl
  have H1 := hide h1
  have H2 := hide h2
  clear h1 h2
  go_enter Try.func14, Try.ntmps14
  by_cases hl : s.length = t.length
  · have hne : ((s.length : Int) != (t.length : Int)) = false := by rw [hl]; simp
    have HL := hide hl
    clear hl
    go_wp2
    go_loopw [5] (fun i wr => ∃ k : Nat, k ≤ s.length ∧ i = .int .i64 k ∧ Hid (s.take k = t.take k) ∧ Below w.heap.size w wr) (fun i _ => s.length - (intOf i).toNat)
    case atStart => exact ⟨0, Nat.zero_le _, rfl, hide rfl, Below.refl _ _⟩
    case round =>
      obtain ⟨k, hk, rfl, HT, hb⟩ := hrel
      by_cases hlt : k < s.length
      · obtain ⟨⟨a0, ⟨⟨a1, a2, a3, a4⟩, a5⟩⟩, hp⟩ : ∃ p, s[k]? = some p := ⟨_, List.getElem?_eq_getElem hlt⟩
        have hlt2 : k < t.length := by rw [← HL.out]; exact hlt
        obtain ⟨⟨b0, ⟨⟨b1, b2, b3, b4⟩, b5⟩⟩, hq⟩ : ∃ p, t[k]? = some p := ⟨_, List.getElem?_eq_getElem hlt2⟩
        obtain ⟨p1, o1, rfl, hp1, k1⟩ := H1.out (by intro e; rw [e] at hlt; simp at hlt)
        obtain ⟨p2, o2, rfl, hp2, k2⟩ := H2.out (by intro e; rw [e] at hlt2; simp at hlt2)
        have x0 : wr.cell? ⟨p1, o1 + k * 6, none⟩ = some (.int .i64 a0) := (hb.cell (p := ⟨p1, _, none⟩) (by show p1 < _; omega)).trans (k1 k _ hp 0 _ rfl)
        have y0 : wr.cell? ⟨p2, o2 + k * 6, none⟩ = some (.int .i64 b0) := (hb.cell (p := ⟨p2, _, none⟩) (by show p2 < _; omega)).trans (k2 k _ hq 0 _ rfl)
        have x1 : wr.cell? ⟨p1, o1 + k * 6 + 1, none⟩ = some (.int .i64 a1) := (hb.cell (p := ⟨p1, _, none⟩) (by show p1 < _; omega)).trans (k1 k _ hp 1 _ rfl)
        have y1 : wr.cell? ⟨p2, o2 + k * 6 + 1, none⟩ = some (.int .i64 b1) := (hb.cell (p := ⟨p2, _, none⟩) (by show p2 < _; omega)).trans (k2 k _ hq 1 _ rfl)
        have x2 : wr.cell? ⟨p1, o1 + k * 6 + 2, none⟩ = some (.int .i64 a2) := (hb.cell (p := ⟨p1, _, none⟩) (by show p1 < _; omega)).trans (k1 k _ hp 2 _ rfl)
        have y2 : wr.cell? ⟨p2, o2 + k * 6 + 2, none⟩ = some (.int .i64 b2) := (hb.cell (p := ⟨p2, _, none⟩) (by show p2 < _; omega)).trans (k2 k _ hq 2 _ rfl)
        have x3 : wr.cell? ⟨p1, o1 + k * 6 + 3, none⟩ = some (.int .i64 a3) := (hb.cell (p := ⟨p1, _, none⟩) (by show p1 < _; omega)).trans (k1 k _ hp 3 _ rfl)
        have y3 : wr.cell? ⟨p2, o2 + k * 6 + 3, none⟩ = some (.int .i64 b3) := (hb.cell (p := ⟨p2, _, none⟩) (by show p2 < _; omega)).trans (k2 k _ hq 3 _ rfl)
        have x4 : wr.cell? ⟨p1, o1 + k * 6 + 4, none⟩ = some (.int .i64 a4) := (hb.cell (p := ⟨p1, _, none⟩) (by show p1 < _; omega)).trans (k1 k _ hp 4 _ rfl)
        have y4 : wr.cell? ⟨p2, o2 + k * 6 + 4, none⟩ = some (.int .i64 b4) := (hb.cell (p := ⟨p2, _, none⟩) (by show p2 < _; omega)).trans (k2 k _ hq 4 _ rfl)
        have x5 : wr.cell? ⟨p1, o1 + k * 6 + 5, none⟩ = some (.int .u8 a5) := (hb.cell (p := ⟨p1, _, none⟩) (by show p1 < _; omega)).trans (k1 k _ hp 5 _ rfl)
        have y5 : wr.cell? ⟨p2, o2 + k * 6 + 5, none⟩ = some (.int .u8 b5) := (hb.cell (p := ⟨p2, _, none⟩) (by show p2 < _; omega)).trans (k2 k _ hq 5 _ rfl)
        have z1 : (k : Int) < (s.length : Int) := by omega
        have z2 : (k : Int) < (t.length : Int) := by omega
        have HP := hide hp
        have HQ := hide hq
        clear hp hq k1 k2
        by_cases e0 : a0 = b0
        rotate_left 1
        · have hd : decide (s = t) = false := decide_eq_false fun e => by
            subst e
            have := HP.out.symm.trans HQ.out
            simp only [Option.some.injEq, Par6.mk.injEq, Lot5.mk.injEq, R4.mk.injEq] at this
            omega
          have HD := hide hd
          clear hd
          go_wp2
          go_region
          go_wp2
          go_ret
          exact ⟨ret_eq (bool_eq HD.out.symm), hb.drew⟩
        by_cases e1 : a1 = b1
        rotate_left 1
        · have hd : decide (s = t) = false := decide_eq_false fun e => by
            subst e
            have := HP.out.symm.trans HQ.out
            simp only [Option.some.injEq, Par6.mk.injEq, Lot5.mk.injEq, R4.mk.injEq] at this
            omega
          have HD := hide hd
          clear hd
          subst e0
          go_wp2
          go_region
          go_wp2
          go_ret
          exact ⟨ret_eq (bool_eq HD.out.symm), hb.drew⟩
        by_cases e2 : a2 = b2
        rotate_left 1
        · have hd : decide (s = t) = false := decide_eq_false fun e => by
            subst e
            have := HP.out.symm.trans HQ.out
            simp only [Option.some.injEq, Par6.mk.injEq, Lot5.mk.injEq, R4.mk.injEq] at this
            omega
          have HD := hide hd
          clear hd
          subst e0
          subst e1
          go_wp2
          go_region
          go_wp2
          go_ret
          exact ⟨ret_eq (bool_eq HD.out.symm), hb.drew⟩
        by_cases e3 : a3 = b3
        rotate_left 1
        · have hd : decide (s = t) = false := decide_eq_false fun e => by
            subst e
            have := HP.out.symm.trans HQ.out
            simp only [Option.some.injEq, Par6.mk.injEq, Lot5.mk.injEq, R4.mk.injEq] at this
            omega
          have HD := hide hd
          clear hd
          subst e0
          subst e1
          subst e2
          go_wp2
          go_region
          go_wp2
          go_ret
          exact ⟨ret_eq (bool_eq HD.out.symm), hb.drew⟩
        by_cases e4 : a4 = b4
        rotate_left 1
        · have hd : decide (s = t) = false := decide_eq_false fun e => by
            subst e
            have := HP.out.symm.trans HQ.out
            simp only [Option.some.injEq, Par6.mk.injEq, Lot5.mk.injEq, R4.mk.injEq] at this
            omega
          have HD := hide hd
          clear hd
          subst e0
          subst e1
          subst e2
          subst e3
          go_wp2
          go_region
          go_wp2
          go_ret
          exact ⟨ret_eq (bool_eq HD.out.symm), hb.drew⟩
        by_cases e5 : a5 = b5
        rotate_left 1
        · have hd : decide (s = t) = false := decide_eq_false fun e => by
            subst e
            have := HP.out.symm.trans HQ.out
            simp only [Option.some.injEq, Par6.mk.injEq, Lot5.mk.injEq, R4.mk.injEq] at this
            omega
          have HD := hide hd
          clear hd
          subst e0
          subst e1
          subst e2
          subst e3
          subst e4
          go_wp2
          go_region
          go_wp2
          go_ret
          exact ⟨ret_eq (bool_eq HD.out.symm), hb.drew⟩
        subst e0
        subst e1
        subst e2
        subst e3
        subst e4
        subst e5
        go_wp2
        go_region
        go_wp2
        go_roundw
        case rel =>
          refine ⟨k + 1, by omega, by go_num, hide ?_, hb.drew⟩
          obtain ⟨i1, e1⟩ := List.getElem?_eq_some_iff.1 HP.out
          obtain ⟨i2, e2⟩ := List.getElem?_eq_some_iff.1 HQ.out
          rw [List.take_succ_eq_append_getElem i1, List.take_succ_eq_append_getElem i2, HT.out, e1, e2]
        case measure => simp [intOf]; omega
      · have hlz : ¬ (k : Int) < (s.length : Int) := by omega
        have hd : decide (s = t) = true := decide_eq_true (by
          have := HT.out
          rw [List.take_of_length_le (by omega), List.take_of_length_le (by rw [← HL.out]; omega)] at this
          exact this)
        have HD := hide hd
        clear hd
        go_wp2
        go_ret
        exact ⟨ret_eq (bool_eq HD.out.symm), hb⟩
  · have hne : ((s.length : Int) != (t.length : Int)) = true := by simp; omega
    have hd : decide (s = t) = false := decide_eq_false fun e => hl (by rw [e])
    rw [hd]
    clear hl hd
    go_wp2
    go_ret
    exact ⟨rfl, Below.refl _ _⟩
end Go.Proofs.Ytabogapiecciiaa

/- The walk of the law LotsParcels. -/
namespace Go.Proofs.Ytabogapiecciiaa
open Go.RowKit
set_option linter.unusedVariables false
set_option linter.unusedSimpArgs false

/-- The wishes in a box of the law's own. -/
structure BoxW (n : Nat) (w : World) (p : Pl3) (wr : World) : Prop where
  box : Box3 wr n (.int .i64 p.mf) (.int .i64 p.ms) (.int .i64 p.ma)
  below : Below n w wr
  size : n + 1 ≤ wr.heap.size
theorem BoxW.keep {n : Nat} {w wr w' : World} {p : Pl3} (h : BoxW n w p wr) (hb : Below wr.heap.size wr w') : BoxW n w p w' :=
  ⟨h.box.below hb, h.below.trans (hb.mono (by have := h.size; omega)), Nat.le_trans h.size hb.size⟩
theorem boxW_new (w : World) (p : Pl3) (t : TypeId) : BoxW w.heap.size w p (w.alloc (.cells #[.int .i64 p.mf, .int .i64 p.ms, .int .i64 p.ma] t)) :=
  ⟨⟨by simp [go_sem], by simp [go_sem], by simp [go_sem]⟩, (Below.refl _ _).alloc (Nat.le_refl _) _, by simp⟩
theorem rd_ownP {W : World} {R : List Par6} {B : Nat} {A : Option Addr} {c : Nat} (h : W.ownsRow B 27 6 (.slice A R.length c) R.length (R.flatMap encQ)) : RdK encQ 6 W W.heap.size (.slice A R.length c) R := own_rd h (fun _ => rfl)
theorem lots_len (bs : List (List R4)) (s : List R4) (p : Pl3) : (lotsF bs s p).1.length ≤ 600 := by
  unfold lotsF
  repeat' split
  all_goals first | (simp; done) | (rename_i h; exact h.2)
end Go.Proofs.Ytabogapiecciiaa

/- Plain: the parcels of a block fill it; a parcel is good, or a whole rectangle. -/
namespace Go.Proofs.Ytabogapiecciiaa
open Go.RowKit
set_option linter.unusedVariables false
set_option linter.unusedSimpArgs false

theorem pcA_cut (s : List R4) (p : Pl3) {bs : List (List R4)} {m : Nat} {b : List R4} (h : bs[m]? = some b) : pcA s p 0 bs = pcA s p 0 (bs.take m) ++ (pcB s p m b ++ pcA s p (m + 1) (bs.drop (m + 1))) := by
  have hm : m < bs.length := (List.getElem?_eq_some_iff.1 h).1
  have h1 : pcA s p 0 bs = pcA s p 0 (bs.take (m + 1)) ++ pcA s p (0 + (bs.take (m + 1)).length) (bs.drop (m + 1)) := by rw [← pcA_append, List.take_append_drop]
  rw [h1, pcA_at s p h, List.append_assoc, List.length_take, Nat.min_eq_left (by omega), Nat.zero_add]
theorem pcA_in (s : List R4) (p : Pl3) {bs : List (List R4)} {m j : Nat} {b : List R4} (h : bs[m]? = some b) (hj : j < (pcB s p m b).length) : (pcA s p 0 bs)[(pcA s p 0 (bs.take m)).length + j]? = (pcB s p m b)[j]? := by
  rw [pcA_cut s p h, List.getElem?_append_right (by omega), Nat.add_sub_cancel_left, List.getElem?_append_left hj]
theorem pcA_out (s : List R4) (p : Pl3) {bs : List (List R4)} {m : Nat} {b : List R4} (h : bs[m]? = some b) {x : Par6} (hx : (pcA s p 0 bs)[(pcA s p 0 (bs.take m)).length + (pcB s p m b).length]? = some x) : x.b ≠ m := by
  rw [pcA_cut s p h, List.getElem?_append_right (by omega), Nat.add_sub_cancel_left, List.getElem?_append_right (Nat.le_refl _), Nat.sub_self] at hx
  obtain ⟨j, c, _, hb, _⟩ := pcA_mem.1 (List.mem_of_getElem? hx)
  omega
theorem of_ok {s : List R4} {p : Pl3} {r : R4} {l : Lot5} (hr : okR r) (h : ofRect s p r l) : okR l.r ∧ 0 ≤ l.f ∧ l.f ≤ 15 := by
  rcases h with ⟨h0, rfl⟩ | ⟨h0, hl⟩
  · exact ⟨hr, by simp, by simp⟩
  · have hv : validL ⟨r, frF r s⟩ := ⟨hr, fr_pos h0⟩
    have := leaves_valid hv l hl
    exact ⟨this.1, by have := this.2; omega, this.2.2⟩
theorem block_ok {s : List R4} {p : Pl3} {b : List R4} {k : Nat} (hb : ∀ r ∈ b, okR r) (hp : okW p = 0) : ∀ q ∈ pcB s p k b, okR q.l.r ∧ 0 ≤ q.l.f ∧ q.l.f ≤ 15 := fun q hq => by
  obtain ⟨_, r, hr, hl⟩ := pcB_mem.1 hq
  exact of_ok (hb r hr) (rect_of (hb r hr) hp hl)
theorem block_cover {s : List R4} {p : Pl3} {b : List R4} {k : Nat} (hb : ∀ r ∈ b, okR r) (hp : okW p = 0) (hf : ∀ r ∈ b, (rectR s p r).2 = 0) (x y : Int) : pmem ((pcB s p k b).map fun q => q.l.r) x y ↔ pmem b x y := by
  constructor
  · rintro ⟨z, hz, hin⟩
    obtain ⟨q, hq, rfl⟩ := List.mem_map.1 hz
    obtain ⟨_, r, hr, hl⟩ := pcB_mem.1 hq
    exact ⟨r, hr, (of_cover (hb r hr) hp (hf r hr) x y).1 ⟨q.l.r, List.mem_map_of_mem hl, hin⟩⟩
  · rintro ⟨r, hr, hin⟩
    obtain ⟨z, hz, hi⟩ := (of_cover (hb r hr) hp (hf r hr) x y).2 hin
    obtain ⟨l, hl, rfl⟩ := List.mem_map.1 hz
    exact ⟨l.r, List.mem_map.2 ⟨⟨k, l⟩, pcB_mem.2 ⟨rfl, r, hr, hl⟩, rfl⟩, hi⟩
theorem block_make {s : List R4} {p : Pl3} {b : List R4} {k : Nat} (hc : checkF b = 0) (hb : ∀ r ∈ b, okR r) (hp : okW p = 0) (hf : ∀ r ∈ b, (rectR s p r).2 = 0) (hn : (pcB s p k b).length ≤ 400) : makeF ((pcB s p k b).map fun q => q.l.r) = (b, 0) := by
  have hl : ∀ z ∈ (pcB s p k b).map fun q => q.l.r, valid4 z := fun z hz => by
    obtain ⟨q, hq, rfl⟩ := List.mem_map.1 hz
    exact (ok_valid q.l.r).1 (block_ok hb hp q hq).1
  have hw : ∀ z ∈ (pcB s p k b).map fun q => q.l.r, wf4 z := fun z hz => ⟨(hl z hz).1, (hl z hz).2.1⟩
  have e : rjoin hFst ((pcB s p k b).map fun q => q.l.r) [] = b := (rjoin_eq (h := hFst) rfl hw (by simp) (check_rcan hc) fun x y => by
    have := block_cover (k := k) hb hp hf x y
    simp only [hFst, decide_eq_true_eq]
    rw [this]).symm
  have hall : ((pcB s p k b).map fun q => q.l.r).any (fun r => !decide (valid4 r)) = false := by
    rw [List.any_eq_false]
    intro z hz
    simp [hl z hz]
  have h4 := (checkF_ok hc).1
  unfold makeF madeF
  rw [e, hall, List.length_map, if_neg (by omega)]
  simp
  omega
theorem block_area {s : List R4} {p : Pl3} {k : Nat} (hp : okW p = 0) : ∀ {b : List R4}, (∀ r ∈ b, okR r) → (∀ r ∈ b, (rectR s p r).2 = 0) → ((pcB s p k b).map fun q => arQ q.l.r).sum = areaS b
  | [], _, _ => rfl
  | r :: b, hb, hf => by
    have h1 := of_area (hb r (by simp)) hp (hf r (by simp))
    have h2 := block_area hp (k := k) (fun x hx => hb x (List.mem_cons_of_mem _ hx)) (fun x hx => hf x (List.mem_cons_of_mem _ hx))
    have e : pcB s p k (r :: b) = pcR s p k r ++ pcB s p k b := by unfold pcB; rw [List.flatMap_cons]
    have e2 : (pcR s p k r).map (fun q => arQ q.l.r) = (rectR s p r).1.map areaL := by unfold pcR; rw [List.map_map]; rfl
    rw [e, List.map_append, List.sum_append, h2, e2, h1]
    unfold areaS
    rw [List.map_cons, List.sum_cons]
    rfl
theorem arQ_bd {r : R4} (h : okR r) : 0 ≤ arQ r ∧ arQ r ≤ 4000000000000 := by
  unfold okR inR at h
  unfold arQ
  refine ⟨Int.mul_nonneg (by omega) (by omega), ?_⟩
  exact Int.mul_le_mul (show r.x1 - r.x0 ≤ 2000000 by omega) (show r.y1 - r.y0 ≤ 2000000 by omega) (by omega) (by omega)
theorem sum_bd {α : Type} {f : α → Int} {K : Int} (hK : 0 ≤ K) : ∀ (L : List α), (∀ x ∈ L, 0 ≤ f x ∧ f x ≤ K) → 0 ≤ (L.map f).sum ∧ (L.map f).sum ≤ K * L.length
  | [], _ => by simp
  | a :: L, h => by
    have h1 := h a (by simp)
    have h2 := sum_bd hK L fun x hx => h x (List.mem_cons_of_mem _ hx)
    simp only [List.map_cons, List.sum_cons, List.length_cons]
    have : K * ((L.length + 1 : Nat) : Int) = K * L.length + K := by rw [Int.natCast_add, Int.mul_add]; simp
    omega
theorem block_take {s : List R4} {p : Pl3} {b : List R4} {k : Nat} (hb : ∀ r ∈ b, okR r) (hp : okW p = 0) (hn : (pcB s p k b).length ≤ 600) (j : Nat) : 0 ≤ (((pcB s p k b).take j).map fun q => arQ q.l.r).sum ∧ (((pcB s p k b).take j).map fun q => arQ q.l.r).sum ≤ 2400000000000000 := by
  have := sum_bd (f := fun q : Par6 => arQ q.l.r) (K := 4000000000000) (by omega) ((pcB s p k b).take j) fun x hx => arQ_bd (block_ok hb hp x (List.mem_of_mem_take hx)).1
  have h2 : ((pcB s p k b).take j).length ≤ 600 := by rw [List.length_take]; omega
  omega
/-! Good -/
theorem cutE_no {x : Lot5} {p : Pl3} (h : checkL x p = 0) (hc : cutL p x = none) : cutE x p = (zeroL, zeroL, 6) := by
  rw [cutE_ok h, cutR_none hc]
  rfl
theorem of_good {s : List R4} {p : Pl3} {r : R4} {l : Lot5} (hr : okR r) (hp : okW p = 0) (h : ofRect s p r l) : (l.f = 0 → frF r s = 0 ∧ l.r = r) ∧
    (l.f ≠ 0 → checkL ⟨r, frF r s⟩ p = 0 ∧ checkL l p = 0 ∧ (goodL p ⟨r, frF r s⟩ → goodL p l) ∧ cutE l p = (zeroL, zeroL, 6)) ∧ rin r l.r.x0 l.r.y0 := by
  rcases h with ⟨h0, rfl⟩ | ⟨h0, hl⟩
  · refine ⟨fun _ => ⟨h0, rfl⟩, fun h => absurd rfl h, ?_⟩
    unfold okR at hr
    unfold rin
    simp only
    omega
  · have hv : validL ⟨r, frF r s⟩ := ⟨hr, fr_pos h0⟩
    have hx := leaves_valid hv l hl
    have hin := leaves_in p _ hv l hl
    have hck := check_lot hx.1 hx.2 hp
    refine ⟨fun h => absurd hx.2.1 (by omega), fun _ => ⟨check_lot hr (fr_pos h0) hp, hck, fun hg => ?_, cutE_no hck (leaves_end p _ l hl)⟩, ?_⟩
    · rcases leaves_good p _ l hl with e | e
      · rw [e]; exact hg
      · exact e
    · have := hx.1
      unfold okR at this
      unfold rin
      simp only at hin
      omega
theorem whole_has {b : List R4} (hb : checkF b = 0) {i k : Nat} {r q : R4} {x y : Int} (hr : b[i]? = some r) (hq : b[k]? = some q) (hin : rin r x y) : decide (pmem [q] x y) = decide (k = i) := by
  by_cases h : k = i
  · subst h
    rw [hr] at hq
    cases hq
    rw [decide_eq_true rfl]
    exact decide_eq_true ⟨r, by simp, hin⟩
  · rw [decide_eq_false h]
    refine decide_eq_false ?_
    rintro ⟨z, hz, hin2⟩
    rw [List.mem_singleton] at hz
    subst hz
    have ha := (check_rcan hb).apart
    obtain ⟨hi, rfl⟩ := List.getElem?_eq_some_iff.1 hr
    obtain ⟨hk, rfl⟩ := List.getElem?_eq_some_iff.1 hq
    rw [List.pairwise_iff_getElem] at ha
    have : apart4 b[i] b[k] ∨ apart4 b[k] b[i] := by
      rcases Nat.lt_or_gt_of_ne h with g | g
      · exact .inr (ha k i hk hi g)
      · exact .inl (ha i k hi hk g)
    rcases this with g | g
    · exact g x y ⟨hin, hin2⟩
    · exact g x y ⟨hin2, hin⟩
end Go.Proofs.Ytabogapiecciiaa

/- The helpers of the laws of chapter 36: box, wishes, piece, sides, valid; and its examples. -/
namespace Go.Proofs.Ytabogapiecciiaa
open Go.RowKit
set_option linter.unusedVariables false
set_option linter.unusedSimpArgs false

/-- A list of rectangles comes back, as a slice that may be read. -/
def RdRet (w : World) (l : List R4) (e : Ending) (w' : World) : Prop := ∃ A c, e = .returned (.slice A l.length c) ∧ RdK encR 4 w' w'.heap.size (.slice A l.length c) l
theorem box36_any (x0 y0 x1 y1 : Int) (w : World) : Calls Try.prog 11 #[.int .i64 x0, .int .i64 y0, .int .i64 x1, .int .i64 y1] w fun e w' => RdRet w [⟨x0, y0, x1, y1⟩] e w' ∧ Below w.heap.size w w' := by
  go_enter Try.func11, Try.ntmps11
  go_wp2
  go_ret
  exact ⟨⟨_, 1, rfl, rd_lit w [⟨x0, y0, x1, y1⟩] _ 1⟩, (Below.refl _ _).alloc (Nat.le_refl _) _⟩
theorem wishes36_any (w : World) : Calls Try.prog 31 #[] w fun e w' => e = .returned (.agg #[.int .i64 2, .int .i64 2, .int .i64 8]) ∧ Below w.heap.size w w' := by
  go_enter Try.func31, Try.ntmps31
  go_wp2
  exact bodyPost_ret (v := .agg #[.int .i64 2, .int .i64 2, .int .i64 8]) (by simp [results, Try.results31, go_sem]) rfl ⟨rfl, (Below.refl _ _).alloc (Nat.le_refl _) _⟩
theorem piece36_any (i x0 y0 x1 y1 f : Int) (w : World) : Calls Try.prog 12 #[.int .i64 i, .int .i64 x0, .int .i64 y0, .int .i64 x1, .int .i64 y1, .int .u8 f] w fun e w' => e = .returned (.agg #[.int .i64 i, .int .i64 x0, .int .i64 y0, .int .i64 x1, .int .i64 y1, .int .u8 f]) ∧ Below w.heap.size w w' := by
  go_enter Try.func12, Try.ntmps12
  go_wp2
  exact bodyPost_ret (v := .agg #[.int .i64 i, .int .i64 x0, .int .i64 y0, .int .i64 x1, .int .i64 y1, .int .u8 f]) (by simp [results, Try.results12, go_sem]) rfl ⟨rfl, (Below.refl _ _).alloc (Nat.le_refl _) _⟩
def exQ : List Par6 := [⟨0, ⟨⟨0, 2, 4, 4⟩, 4⟩⟩, ⟨0, ⟨⟨4, 2, 8, 4⟩, 4⟩⟩, ⟨1, ⟨⟨6, 2, 12, 4⟩, 0⟩⟩]
theorem exQ_lots : lotsF [[⟨0, 2, 8, 4⟩], [⟨6, 2, 12, 4⟩]] [⟨0, 0, 10, 2⟩] ⟨2, 2, 8⟩ = (exQ, 0) := by kernel_rfl
theorem rd_litP (w : World) (l : List Par6) (t : TypeId) (c : Nat) : RdK encQ 6 (w.alloc (.cells (l.flatMap encQ).toArray t)) (w.alloc (.cells (l.flatMap encQ).toArray t)).heap.size (.slice (some ⟨w.heap.size, 0, none⟩) l.length c) l := by
  refine ⟨_, c, rfl, fun _ => ⟨w.heap.size, 0, rfl, by simp, fun j x hx i u hu => ?_⟩⟩
  have := news_new w (l.flatMap encQ) t w.heap.size rfl _ _ (flat_get (k := 6) (fun _ => rfl) l j x i u hx hu)
  rw [addr_add] at this
  rwa [Nat.zero_add]
/-- Two regions in a literal. -/
theorem rr_two {w : World} {v1 v2 : Value} {a b : List R4} (h1 : RdK encR 4 w w.heap.size v1 a) (h2 : RdK encR 4 w w.heap.size v2 b) (t : TypeId) (c : Nat) : RdRR (w.alloc (.cells #[v1, v2] t)) (w.alloc (.cells #[v1, v2] t)).heap.size (.slice (some ⟨w.heap.size, 0, none⟩) 2 c) [a, b] := by
  have hb : Below w.heap.size w (w.alloc (.cells #[v1, v2] t)) := (Below.refl _ _).alloc (Nat.le_refl _) _
  refine ⟨_, c, rfl, fun _ => ⟨w.heap.size, 0, rfl, by simp, fun j x hx => ?_⟩⟩
  match j, hx with
  | 0, hx =>
    simp at hx
    subst hx
    exact ⟨v1, by simp [go_sem], (h1.below hb).mono hb.size⟩
  | 1, hx =>
    simp at hx
    subst hx
    exact ⟨v2, by simp [go_sem], (h2.below hb).mono hb.size⟩
theorem RdRR.rows {w w' : World} {v : Value} {bs : List (List R4)} (h : RdRR w w.heap.size v bs) (hb : Below w.heap.size w w') : RdRR w' w'.heap.size v bs := (h.below hb).mono hb.size
set_option maxRecDepth 100000 in
set_option maxHeartbeats 8000000 in
theorem alive36_any (w : World) : Calls Try.prog 15 #[] w fun e w' => e = .returned (.bool true) ∧ Below w.heap.size w w' := by
  have HL : Hid (∀ (W : World) (u v : Value), RdRR W W.heap.size u [[⟨0, 2, 8, 4⟩], [⟨6, 2, 12, 4⟩]] → RdK encR 4 W W.heap.size v [⟨0, 0, 10, 2⟩] → Calls Try.prog 13 #[u, v, .agg #[.int .i64 2, .int .i64 2, .int .i64 8]] W (ParsRet W (exQ, 0))) := hide (fun W u v hu hv => by
    have := lots_any hu hv ⟨2, 2, 8⟩ (by decide) (by decide) (by decide)
    rwa [exQ_lots] at this)
  have K := hide (Below.refl w.heap.size w)
  go_enter Try.func15, Try.ntmps15
  go_wp2_with (fail)
  refine (box36_any 0 2 8 4 _).mono ?_
  rintro e v1 ⟨⟨A1, c1, rfl, hr1⟩, hb⟩
  replace K := hide (K.out.trans (hb.mono K.out.size))
  have R1 := hide hr1
  clear hb hr1
  go_wp2_with (fail)
  refine (box36_any 6 2 12 4 _).mono ?_
  rintro e v2 ⟨⟨A2, c2, rfl, hr2⟩, hb⟩
  replace K := hide (K.out.trans (hb.mono K.out.size))
  replace R1 := hide ((R1.out.below hb).mono hb.size)
  have R2 := hide hr2
  clear hb hr2
  go_wp2_with (fail)
  refine calls_name fun v3 hZ => ?_
  have hbz : Below v2.heap.size v2 v3 := by
    rw [hZ]
    repeat (first | with_reducible exact Below.refl _ _ | with_reducible refine Below.setCell ?_ (by first | (simp; done) | (simp; omega)) _ | with_reducible refine Below.alloc ?_ (by first | omega | (simp; omega) | simp) _)
  have RB : Hid (RdRR v3 v3.heap.size (.slice (some ⟨v2.heap.size, 0, none⟩) 2 2) [[⟨0, 2, 8, 4⟩], [⟨6, 2, 12, 4⟩]]) := hide (by rw [hZ]; exact rr_two R1.out R2.out _ 2)
  replace K := hide (K.out.trans (hbz.mono K.out.size))
  replace R1 := hide ((R1.out.below hbz).mono hbz.size)
  replace R2 := hide ((R2.out.below hbz).mono hbz.size)
  clear hZ hbz
  generalize v2.heap.size = gB at *
  clear R1 R2
  refine (box36_any 0 0 10 2 _).mono ?_
  rintro e v4 ⟨⟨A3, c3, rfl, hr3⟩, hb⟩
  replace K := hide (K.out.trans (hb.mono K.out.size))
  replace RB := hide ((RB.out.below hb).mono hb.size)
  have R3 := hide hr3
  clear hb hr3
  go_wp2_with (fail)
  refine (wishes36_any _).mono ?_
  rintro e v5 ⟨rfl, hb⟩
  replace K := hide (K.out.trans (hb.mono K.out.size))
  replace RB := hide ((RB.out.below hb).mono hb.size)
  replace R3 := hide ((R3.out.below hb).mono hb.size)
  clear hb
  go_wp2_with (fail)
  refine (HL.out _ _ _ RB.out R3.out).mono ?_
  rintro e v6 ⟨⟨A4, c4, rfl, ho⟩, hb⟩
  replace K := hide (K.out.trans (hb.mono K.out.size))
  replace RB := hide ((RB.out.below hb).mono hb.size)
  replace R3 := hide ((R3.out.below hb).mono hb.size)
  have RO := hide (rd_ownP ho)
  clear hb ho
  clear RB R3
  go_wp2_with (fail)
  refine (piece36_any 0 0 2 4 4 4 _).mono ?_
  rintro e v7 ⟨rfl, hb⟩
  replace K := hide (K.out.trans (hb.mono K.out.size))
  replace RO := hide ((RO.out.below hb).mono hb.size)
  clear hb
  go_wp2_with (fail)
  refine (piece36_any 0 4 2 8 4 4 _).mono ?_
  rintro e v8 ⟨rfl, hb⟩
  replace K := hide (K.out.trans (hb.mono K.out.size))
  replace RO := hide ((RO.out.below hb).mono hb.size)
  clear hb
  go_wp2_with (fail)
  refine (piece36_any 1 6 2 12 4 0 _).mono ?_
  rintro e v9 ⟨rfl, hb⟩
  replace K := hide (K.out.trans (hb.mono K.out.size))
  replace RO := hide ((RO.out.below hb).mono hb.size)
  clear hb
  go_wp2_with (fail)
  refine calls_name fun v10 hZ => ?_
  have hbz : Below v9.heap.size v9 v10 := by
    rw [hZ]
    repeat (first | with_reducible exact Below.refl _ _ | with_reducible refine Below.setCell ?_ (by first | (simp; done) | (simp; omega)) _ | with_reducible refine Below.alloc ?_ (by first | omega | (simp; omega) | simp) _)
  have RX : Hid (RdK encQ 6 v10 v10.heap.size (.slice (some ⟨v9.heap.size, 0, none⟩) 3 3) exQ) := hide (by rw [hZ]; exact rd_litP v9 exQ _ 3)
  replace K := hide (K.out.trans (hbz.mono K.out.size))
  replace RO := hide ((RO.out.below hbz).mono hbz.size)
  clear hZ hbz
  generalize v9.heap.size = gX at *
  have HS := hide (rSameP_any RO.out RX.out (by decide) (Nat.le_refl _) (Nat.le_refl _))
  rw [decide_eq_true (rfl : exQ = exQ)] at HS
  refine (HS.out).mono ?_
  rintro e v11 ⟨rfl, hb⟩
  replace K := hide (K.out.trans (hb.mono K.out.size))
  replace RO := hide ((RO.out.below hb).mono hb.size)
  replace RX := hide ((RX.out.below hb).mono hb.size)
  clear hb
  go_wp2_with (fail)
  go_ret
  exact ⟨rfl, K.out⟩
/-- The sides' lengths, so far. -/
def sdP (l : Lot5) : Nat → Int
  | 0 => 0
  | m + 1 => sdP l m + if hasS l.f (sideN m) = true then (if m < 2 then l.h else l.w) else 0
theorem sdP_four (l : Lot5) : sdP l 4 = sidesF l := by
  unfold sidesF
  simp [sdP, sideN]
theorem sdP_bd {l : Lot5} (h : okR l.r) (m : Nat) : 0 ≤ sdP l m ∧ sdP l m ≤ 2000000 * m := by
  have : 0 ≤ l.h ∧ l.h ≤ 2000000 ∧ 0 ≤ l.w ∧ l.w ≤ 2000000 := by
    unfold okR inR at h
    unfold Lot5.h Lot5.w
    omega
  induction m with
  | zero => simp [sdP]
  | succ m ih =>
    simp only [sdP]
    split
    · split <;> omega
    · omega
end Go.Proofs.Ytabogapiecciiaa

/- region.slabs at Region, and its iterator. -/
namespace Go.Proofs.Ytabogapiecciiaa
open Go.RowKit
set_option linter.unusedVariables false
set_option linter.unusedSimpArgs false
attribute [local go_sem] Oper.semAt_some

set_option maxHeartbeats 2000000 in
theorem slabsB_any (ls : List (List R4)) (L c : Nat) (w : World) (hL : L < w.heap.size) (hv : ∀ k l, ls[k]? = some l → ∃ v, w.cell? ⟨L, k, none⟩ = some v ∧ RdK encR 4 w w.heap.size v l) (hn : (ls.flatMap cutsL).length ≤ 100000000) (hls : ls.length ≤ 1000) :
    Calls Try.prog 44 #[.slice (some ⟨L, 0, none⟩) ls.length c] w fun e w' => ∃ v, e = .returned (.func (.func 67) #[] #[.pointer (some ⟨w.heap.size + 1, 0, none⟩), .pointer (some ⟨w.heap.size, 0, none⟩)]) ∧
      w'.cell? ⟨w.heap.size, 0, none⟩ = some (.slice (some ⟨L, 0, none⟩) ls.length c) ∧ w'.cell? ⟨w.heap.size + 1, 0, none⟩ = some v ∧ w'.ownsRow (w.heap.size + 2) 3 1 v (cutsOf (ls.flatMap cutsL)).length ((cutsOf (ls.flatMap cutsL)).map iv) ∧ Below w.heap.size w w' := by
  obtain ⟨i0, hi, hz0, hz1, hz2⟩ := info_parts infoIA
  have HV := hide hv
  clear hv
  go_enter Try.func44, Try.ntmps44
  go_wp2
  go_loopw [10] (fun i wr => ∃ k : Nat, k ≤ ls.length ∧ i = .int .i64 k ∧ ∃ v, wr.cell? ⟨w.heap.size + 1, 0, none⟩ = some v ∧ wr.frozen? ⟨w.heap.size + 1, 0, none⟩ = false ∧ wr.cell? ⟨w.heap.size, 0, none⟩ = some (.slice (some ⟨L, 0, none⟩) ls.length c) ∧
      wr.ownsRow (w.heap.size + 2) 3 1 v ((ls.take k).flatMap cutsL).length (((ls.take k).flatMap cutsL).map iv) ∧ Below w.heap.size w wr ∧ w.heap.size + 2 ≤ wr.heap.size)
    (fun i _ => ls.length - (intOf i).toNat)
  case atStart =>
    refine ⟨0, Nat.zero_le _, rfl, .slice none 0 0, by simp [go_sem], by simp [go_sem], by simp [go_sem], World.ownsRow_nil _ _ _ _, ((Below.refl _ _).alloc (Nat.le_refl _) _).alloc (by simp) _, by simp⟩
  case round =>
    obtain ⟨k, hk, rfl, v, hc1, hf1, hc0, hown, hb, hsz⟩ := hrel
    by_cases hlt : k < ls.length
    · obtain ⟨l, hlk⟩ : ∃ l, ls[k]? = some l := ⟨_, List.getElem?_eq_getElem hlt⟩
      obtain ⟨vl, hcl, A, c0, rfl, hrd⟩ := HV.out k l hlk
      have hcl' : wr.cell? ⟨L, k, none⟩ = some (.slice A l.length c0) := (hb.cell (p := ⟨L, k, none⟩) hL).trans hcl
      have hle := len_take ls k l hlk
      have HK := hide (flat_take ls k l hlk)
      have HR := hide hrd
      have hkz : (k : Int) < (ls.length : Int) := by omega
      rw [cutsL_len] at hle
      generalize (ls.take k).flatMap cutsL = P at *
      generalize wr = w1 at *
      clear hcl hrd
      go_wp2
      go_loopw [16] (fun j wi => ∃ m : Nat, m ≤ l.length ∧ j = .int .i64 m ∧ ∃ v, wi.cell? ⟨w.heap.size + 1, 0, none⟩ = some v ∧ wi.frozen? ⟨w.heap.size + 1, 0, none⟩ = false ∧ wi.cell? ⟨w.heap.size, 0, none⟩ = some (.slice (some ⟨L, 0, none⟩) ls.length c) ∧
          wi.ownsRow (w.heap.size + 2) 3 1 v (P ++ cutsL (l.take m)).length ((P ++ cutsL (l.take m)).map iv) ∧ Below w.heap.size w wi ∧ w.heap.size + 2 ≤ wi.heap.size)
        (fun j _ => l.length - (intOf j).toNat)
      case atStart => exact ⟨0, by omega, rfl, v, hc1, hf1, hc0, by simpa [cutsL] using hown, hb, hsz⟩
      case round =>
        clear hc1 hf1 hc0 hown
        obtain ⟨m, hm, rfl, v, hc1, hf1, hc0, hownm, hbm, hszm⟩ := hrel
        by_cases hml : m < l.length
        · obtain ⟨⟨x0, y0, x1, y1⟩, hp⟩ : ∃ p, l[m]? = some p := ⟨_, List.getElem?_eq_getElem hml⟩
          have hne : l ≠ [] := by intro e; rw [e] at hml; simp at hml
          obtain ⟨bk, off, rfl, hbk, hcell⟩ := HR.out hne
          have d0 : wr.cell? ⟨bk, off + m * 4, none⟩ = some (.int .i64 x0) := (hbm.cell hbk).trans (hcell m _ hp 0 _ rfl)
          have d1 : wr.cell? ⟨bk, off + m * 4 + 1, none⟩ = some (.int .i64 y0) := (hbm.cell hbk).trans (hcell m _ hp 1 _ rfl)
          have d2 : wr.cell? ⟨bk, off + m * 4 + 2, none⟩ = some (.int .i64 x1) := (hbm.cell hbk).trans (hcell m _ hp 2 _ rfl)
          have d3 : wr.cell? ⟨bk, off + m * 4 + 3, none⟩ = some (.int .i64 y1) := (hbm.cell hbk).trans (hcell m _ hp 3 _ rfl)
          have hmz : (m : Int) < (l.length : Int) := by omega
          have hlenE : (P ++ cutsL (l.take m)).length ≤ 100000000 := by rw [List.length_append, cutsL_len, List.length_take]; omega
          have HE : Hid (P ++ cutsL (l.take (m + 1)) = P ++ cutsL (l.take m) ++ [x0, x1]) := hide (by rw [cutsL_take l m _ hp, List.append_assoc])
          obtain ⟨Av, cv, rfl⟩ := own_form hownm
          have hlt1 : w.heap.size + 1 < wr.heap.size := by omega
          have hlt0 : w.heap.size < wr.heap.size := by omega
          clear hcell
          generalize P ++ cutsL (l.take m) = E0 at *
          go_wp2_with (at_builtin; go_loud (refine wpList_append_lies _ rfl (.tmp 20) (.tmp 25) 100 rfl (w.heap.size + 2) 3 i0 (.int .i64 0) 1 8 Try.underlying100 hi hz0 hz1 hz2 rfl (by decide) _ _ _ rfl ((hownm.alloc _).alloc _) ⟨wr.heap.size + 1, 0, none⟩ 2 2 [.int .i64 x0, .int .i64 x1] rfl rfl (news_new (wr.alloc _) _ _ _ (by simp)) (ints_one rfl) (by omega) (by unfold maxLen; omega) (by omega) (by simp; omega) _ rfl ?_))
          intro g cap w2 hown2 hgrow _ _
          have hx2 : E0.map iv ++ [.int .i64 x0, .int .i64 x1] = (E0 ++ [x0, x1]).map iv := by simp
          have HL : Hid (E0.length + 2 = (P ++ cutsL (l.take (m + 1))).length) := hide (by rw [HE.out]; simp)
          rw [hx2, ← HE.out] at hown2
          obtain ⟨k3, k4, HF⟩ := box_fin hszm (Nat.lt_succ_self _) hc1 hf1 (((Below.refl _ wr).alloc (Nat.le_refl _) _).alloc (by simp) _) hgrow (fun k h => (hownm.lt k h).1) hown2
          have HC := hide hc0
          clear hown2 hgrow hownm hx2 hc1 hf1 hc0 d0 d1 d2 d3
          go_wp2
          go_roundw
          case rel =>
            obtain ⟨z1, z2, z3, z4, z5, z6⟩ := HF.out
            exact ⟨m + 1, by omega, by go_num, _, z1, z2, (z5 _ _ (by omega) (by omega)).trans HC.out, own_n z3 HL.out, hbm.trans (z4.mono (by omega)), by omega⟩
          case measure => simp [intOf]; omega
        · have hme : ¬ (m : Int) < (l.length : Int) := by omega
          have hmt : l.take m = l := List.take_of_length_le (by omega)
          rw [hmt, ← HK.out] at hownm
          have HO := hide hownm
          clear hmt hownm
          go_wp2
          go_roundw
          case rel => exact ⟨k + 1, by omega, by go_num, v, hc1, hf1, hc0, HO.out, hbm, hszm⟩
          case measure => simp [intOf]; omega
    · have hkz : ¬ (k : Int) < (ls.length : Int) := by omega
      have hkt : ls.take k = ls := List.take_of_length_le (by omega)
      rw [hkt] at hown
      have HO := hide hown
      clear hkt hown
      have hl : (ls.flatMap cutsL).length < 4611686018427387904 := by omega
      have hlm : ((ls.flatMap cutsL).mergeSort fun x y => decide (x ≤ y)).length = (ls.flatMap cutsL).length := List.length_mergeSort _
      have HM := hide hlm
      have HC0 := hide hc0
      clear hc0 hlm
      go_wp2_with (first
        | (go_at_call 65; refine (sortI_any _ v _ wr HO.out hl).mono ?_; rintro e w1 ⟨rfl, ho1, hg1⟩; have hb1 : Below (w.heap.size + 2) wr w1 := (Below.refl _ _).grown hg1 hsz (fun k h => (HO.out.lt k h).1); have e1 := (hb1.cell (p := ⟨w.heap.size + 1, 0, none⟩) (Nat.lt_succ_self _)).trans hc1; have HO1 := hide ho1; have HB1 := hide hb1; clear ho1 hg1 hb1)
        | (go_at_call 66; refine (compI_any _ v _ w1 (own_n HO1.out HM.out.symm) (by rw [HM.out]; exact hl)).mono ?_; rintro e w2 ⟨v2, rfl, hv2, ho2, hg2⟩; have hb2 : Below (w.heap.size + 2) w1 w2 := (Below.refl _ _).grown hg2 (Nat.le_trans hsz HB1.out.size) (fun k h => (HO1.out.lt k h).1); have e2 := (hb2.cell (p := ⟨w.heap.size + 1, 0, none⟩) (Nat.lt_succ_self _)).trans e1; have f2 := ((HB1.out.trans hb2).frozen (p := ⟨w.heap.size + 1, 0, none⟩) (Nat.lt_succ_self _)).trans hf1; have HO2 := hide ho2; have HB2 := hide hb2; clear ho2 hg2 hb2; obtain ⟨Av, cv, hv2⟩ := own_form HO2.out; subst hv2))
      go_ret
      have hB : Below (w.heap.size + 2) wr w2 := HB1.out.trans HB2.out
      refine ⟨_, rfl, ?_, by simp [go_sem, e2], ownsRow_setCell_below HO2.out (Nat.lt_succ_self _) _, (hb.trans (hB.mono (by omega))).setCell (p := ⟨w.heap.size + 1, 0, none⟩) (Nat.le_succ _) _⟩
      exact (World.cell?_of_block (w := w2) (a := ⟨w.heap.size, 0, none⟩) (Below.heap_setCell _ _ _ _ (Nat.ne_of_lt (Nat.lt_succ_self _)))).trans ((hB.cell (p := ⟨w.heap.size, 0, none⟩) (by show w.heap.size < _; omega)).trans HC0.out)

set_option maxRecDepth 100000 in
set_option maxHeartbeats 4000000 in
theorem slabsItB (ls : List (List R4)) (cs : List Int) (bc bl L cc cv bb base : Nat) (A : Option Addr) (w0 : World) (hbl : bl < w0.heap.size) (hbc : bc < w0.heap.size) (hLs : L < w0.heap.size) (n1 : bl ≠ bb) (n2 : bc ≠ bb) (n3 : L ≠ bb) (n4 : bb < base) (n5 : bb ≤ w0.heap.size)
    (hlb : w0.cell? ⟨bl, 0, none⟩ = some (.slice (some ⟨L, 0, none⟩) ls.length cc)) (hcb : w0.cell? ⟨bc, 0, none⟩ = some (.slice A cs.length cv)) (hown : w0.ownsRow base 3 1 (.slice A cs.length cv) cs.length (cs.map iv))
    (hv : ∀ k l, ls[k]? = some l → l.length ≤ 100000000 ∧ ∃ v, w0.cell? ⟨L, k, none⟩ = some v ∧ RdK encR 4 w0 bb v l) (hls : ls.length ≤ 1000) (hcs : cs.length ≤ 100000000) :
    Iter Try.prog 67 #[.pointer (some ⟨bc, 0, none⟩), .pointer (some ⟨bl, 0, none⟩)] (prs cs) (OkSlab ls) (KpX bb w0.heap.size) w0 := by
  intro l J Jx W hW hJ hY h0
  obtain ⟨i0, hi, hz0, hz1, hz2⟩ := info_parts infoSS
  obtain ⟨i1, gi, gz0, gz1, gz2⟩ := info_parts infoSp
  refine callsIn_of_wp Try.func67 rfl trivial ?_
  simp only [Try.ntmps67, List.size_toArray, List.length_cons, List.length_nil, Nat.reduceAdd, Nat.reduceSub, Array.replicate_succ, Array.replicate_zero, List.push_toArray, List.append_toArray, List.nil_append, List.cons_append]
  have HV := hide hv
  have HY := hide hY
  have HJ := hide hJ
  clear hv hY hJ
  gi_wp2
  gi_loopw [4] (fun p wr => ∃ k : Nat, k ≤ (prs cs).length ∧ p = .int .i64 ((k : Int) + 1) ∧ Hid (J ((prs cs).take k) wr) ∧ Hid (∀ b o, b < w0.heap.size → b ≠ bb → wr.cell? ⟨b, o, none⟩ = w0.cell? ⟨b, o, none⟩) ∧ w0.heap.size ≤ wr.heap.size)
    (fun p _ => ((prs cs).length + 1) - (intOf p).toNat)
  case atStart => exact ⟨0, Nat.zero_le _, rfl, hide (by simpa using h0), hide fun b o h _ => hW.cell (p := ⟨b, o, none⟩) h, hW.size⟩
  case round =>
    obtain ⟨k, hk, rfl, HJk, HC, hsz⟩ := hrel
    have hpl := prs_len cs
    have kb := (HC.out bl 0 hbl n1).trans hlb
    have kc := (HC.out bc 0 hbc n2).trans hcb
    by_cases hlt : k < (prs cs).length
    · have hltz : (k : Int) + 1 < (cs.length : Int) := by omega
      obtain ⟨c, hc⟩ : ∃ c, cs[k]? = some c := ⟨_, List.getElem?_eq_getElem (by omega)⟩
      obtain ⟨d, hd⟩ : ∃ d, cs[k + 1]? = some d := ⟨_, List.getElem?_eq_getElem (by omega)⟩
      obtain ⟨g, cv', hf, hbg, hgw⟩ := hown.form (by omega)
      injection hf with e1 _ e3
      subst e1; subst e3
      have kc0 : wr.cell? ⟨g, k, none⟩ = some (.int .i64 c) := by
        have := (hown.cells (g := g) rfl) k (iv c) (by simp [hc])
        rw [addr_add] at this
        exact (HC.out g k hgw (by omega)).trans this
      have kc1 : wr.cell? ⟨g, k + 1, none⟩ = some (.int .i64 d) := by
        have := (hown.cells (g := g) rfl) (k + 1) (iv d) (by simp [hd])
        rw [addr_add] at this
        exact (HC.out g (k + 1) hgw (by omega)).trans this
      have HP := hide (prs_get cs k c d hc hd)
      gi_wp2
      obtain ⟨CS, hCS, hmk⟩ := make_ss ls.length hls
      have HS := hide hCS
      clear hCS
      refine wpIn_wide.2 ?_
      have q1 : (0 : Int) ≤ (k : Int) := by omega
      have q2 : (k : Int) < (cs.length : Int) := by omega
      have q3 : (0 : Int) ≤ (k : Int) + 1 := by omega
      have hcsz : (cs.length : Int) ≤ 100000000 := by omega
      have hw1 : IntKind.i64.wrap (k : Int) = k := by simp [IntKind.wrap, IntKind.bits, IntKind.signed]; omega
      have hw2 : IntKind.i64.wrap ((k : Int) + 1) = (k : Int) + 1 := by simp [IntKind.wrap, IntKind.bits, IntKind.signed]; omega
      have t1 : ((k : Int) + 1).toNat = k + 1 := by omega
      go_region_held3 (fun w' => w'.cell? ⟨bc, 0, none⟩ = some (.slice (some ⟨g, 0, none⟩) cs.length cv) ∧ w'.cell? ⟨bl, 0, none⟩ = some (.slice (some ⟨L, 0, none⟩) ls.length cc) ∧ w'.cell? ⟨g, k, none⟩ = some (.int .i64 c) ∧ w'.cell? ⟨g, k + 1, none⟩ = some (.int .i64 d)) (go_keep) (fail)
      case' refine_2.refine_3.refine_3.refine_3.refine_3.refine_3.refine_3.refine_3.refine_3.refine_3.refine_3.refine_3.refine_1.refine_2.refine_3.refine_1.refine_2.refine_1.refine_2 =>
        have M := smid_first1 (ls := ls) (c := c) (d := d) (w := wr) (t1 := 78) (t2 := 85) HS.out
        generalize World.drew (World.alloc (World.alloc _ _) _) = w3 at M ⊢
        obtain ⟨S, hS⟩ : ∃ S, wr.heap.size + 1 = S := ⟨_, rfl⟩
        obtain ⟨Rw, hR⟩ : ∃ Rw, wr.heap.size = Rw := ⟨_, rfl⟩
        rw [hS] at M ⊢
        rw [hR] at M ⊢
        clear hS hR
      case' refine_2.refine_3.refine_3.refine_3.refine_3.refine_3.refine_3.refine_3.refine_3.refine_3.refine_3.refine_3.refine_2.refine_1.refine_2.refine_1.refine_2.refine_3.refine_1.refine_2 =>
        have M := smid_first2 (ls := ls) (c := c) (d := d) (w := wr) (t1 := 78) (t2 := 85) HS.out
        generalize World.drew (World.alloc (World.alloc _ _) _) = w3 at M ⊢
        obtain ⟨Rw, hR⟩ : ∃ S, wr.heap.size + 1 = S := ⟨_, rfl⟩
        obtain ⟨S, hS⟩ : ∃ Rw, wr.heap.size = Rw := ⟨_, rfl⟩
        rw [hR] at M ⊢
        rw [hS] at M ⊢
        clear hS hR
      all_goals
        generalize wr = wi at *
        clear hlb hcb hmk q1 q2 q3 hw1 hw2 t1 kc kc0 kc1 hltz hown HS h0 hW
        have hlsz : (ls.length : Int) ≤ 1000 := by omega
        have hbl' : bl < wi.heap.size := by omega
        have m0 := (M.below.cell (p := ⟨bl, 0, none⟩) hbl').trans kb
        gi_wp2
        refine wpIn_wide.2 ?_
        go_loopw [31] (fun i wx => ∃ j : Nat, j ≤ ls.length ∧ i = .int .i64 j ∧ SMid ls c d Rw S j wi wx) (fun i _ => ls.length - (intOf i).toNat)
        case atStart => exact ⟨0, Nat.zero_le _, rfl, M⟩
        case round =>
          clear m0 M
          obtain ⟨j, hj, rfl, M⟩ := hrel
          by_cases hjl : j < ls.length
          · have hjz : (j : Int) < (ls.length : Int) := by omega
            obtain ⟨r, hr⟩ : ∃ r, ls[j]? = some r := ⟨_, List.getElem?_eq_getElem hjl⟩
            obtain ⟨hrl, v, hvc, Av, cr, rfl, hrd⟩ := HV.out j r hr
            have hL2 : wr.cell? ⟨L, j, none⟩ = some (.slice Av r.length cr) := (M.below.cell (p := ⟨L, j, none⟩) (by show L < _; omega)).trans ((HC.out L j hLs n3).trans hvc)
            have HR := hide hrd
            clear hvc hrd
            go_wp2
            have hRk := M.topR
            have hSk := M.topS
            have hne := M.ne
            have hwk := M.below.size
            have hlR := M.lowR
            have SS := SIn.start (l := r) M hjl
            have HM := hide M
            have e0 := M.s0
            have e2 := M.s2
            clear M hL2
            generalize wr = wk at *
            go_loopw [38] (fun i wx => ∃ m : Nat, m ≤ r.length ∧ i = .int .i64 m ∧ SIn r c Rw j m wk wx) (fun i _ => r.length - (intOf i).toNat)
            case atStart => exact ⟨0, Nat.zero_le _, rfl, SS⟩
            case round =>
              clear SS
              obtain ⟨m, hm, rfl, SS⟩ := hrel
              by_cases hml : m < r.length
              · obtain ⟨⟨x0, y0, x1, y1⟩, hp⟩ : ∃ p, r[m]? = some p := ⟨_, List.getElem?_eq_getElem hml⟩
                have hner : r ≠ [] := by intro e; rw [e] at hml; simp at hml
                obtain ⟨bk, off, rfl, hbk, hcell⟩ := HR.out hner
                have tr : ∀ o, wr.cell? ⟨bk, o, none⟩ = w0.cell? ⟨bk, o, none⟩ := fun o =>
                  (SS.upd.cell (by omega) (by omega) (by simp)).trans ((HM.out.below.cell (p := ⟨bk, o, none⟩) (by show bk < _; omega)).trans (HC.out bk o (by omega) (by omega)))
                have d0 : wr.cell? ⟨bk, off + m * 4, none⟩ = some (.int .i64 x0) := (tr _).trans (hcell m _ hp 0 _ rfl)
                have d1 : wr.cell? ⟨bk, off + m * 4 + 1, none⟩ = some (.int .i64 y0) := (tr _).trans (hcell m _ hp 1 _ rfl)
                have d2 : wr.cell? ⟨bk, off + m * 4 + 2, none⟩ = some (.int .i64 x1) := (tr _).trans (hcell m _ hp 2 _ rfl)
                have d3 : wr.cell? ⟨bk, off + m * 4 + 3, none⟩ = some (.int .i64 y1) := (tr _).trans (hcell m _ hp 3 _ rfl)
                have f0 := (SS.upd.cell (off := 0) hSk hne (by simp)).trans e0
                have f2 := (SS.upd.cell (off := 2) hSk hne (by simp)).trans e2
                have hws := SS.upd.size
                have hmz : (m : Int) < (r.length : Int) := by omega
                have HE0 := hide e0
                have HE2 := hide e2
                have HSS := hide SS
                have hSw : S < wr.heap.size := by omega
                clear hcell tr e0 e2 SS
                by_cases c1 : x0 ≤ c
                · by_cases c2 : c < x1
                  · go_wp2
                    obtain ⟨wb, hwb⟩ : ∃ wb, wb = wr.alloc (.cells #[.int .i64 x0, .int .i64 y0, .int .i64 x1, .int .i64 y1] 23) := ⟨_, rfl⟩
                    rw [← hwb]
                    obtain ⟨v, v1, v2⟩ := HSS.out.cur
                    obtain ⟨Av2, cv2, hv2⟩ := own_form v2
                    subst hv2
                    have hRw : Rw < wr.heap.size := by omega
                    have hj63 : (0 : Int) ≤ (j : Int) := by omega
                    have g2 : wb.cell? ⟨S, 2, none⟩ = some (.slice (some ⟨Rw, 0, none⟩) ls.length ls.length) := by rw [hwb]; exact (World.cell?_alloc_lt _ _ ⟨S, 2, none⟩ hSw).trans f2
                    have gv : wb.cell? ⟨Rw, j, none⟩ = some (.slice Av2 (crossL (r.take m) c).length cv2) := by rw [hwb]; exact (World.cell?_alloc_lt _ _ ⟨Rw, j, none⟩ hRw).trans v1
                    have gy0 : wb.cell? ⟨wr.heap.size, 1, none⟩ = some (.int .i64 y0) := by rw [hwb]; simp [go_sem]
                    have gy1 : wb.cell? ⟨wr.heap.size, 3, none⟩ = some (.int .i64 y1) := by rw [hwb]; simp [go_sem]
                    have gs : wb.heap.size = wr.heap.size + 1 := by rw [hwb]; simp
                    have hbw : Below wr.heap.size wr wb := by rw [hwb]; exact (Below.refl _ _).alloc (Nat.le_refl _) _
                    have gown : wb.ownsRow wk.heap.size 108 2 (.slice Av2 (crossL (r.take m) c).length cv2) (crossL (r.take m) c).length ((crossL (r.take m) c).flatMap encS) := by rw [hwb]; exact v2.alloc _
                    have hcl : (crossL (r.take m) c).length ≤ 100000000 := by
                      unfold crossL
                      rw [List.length_map]
                      refine Nat.le_trans (List.length_filter_le _ _) ?_
                      rw [List.length_take]; omega
                    have HFZ := hide (HM.out.fz j)
                    have HV1 := hide v1
                    have HV2 := hide v2
                    have HGV := hide gv
                    have HBW := hide hbw
                    have HG2 := hide g2
                    have HY0 := hide gy0
                    have HY1 := hide gy1
                    have HO := hide gown
                    have HGS := hide gs
                    have hRwb : Rw < wb.heap.size := by omega
                    have hSwb : S < wb.heap.size := by omega
                    have hwrb : wr.heap.size < wb.heap.size := by omega
                    have nR1 : Rw ≠ S := fun e => hne e.symm
                    have nR2 : Rw ≠ wr.heap.size := by omega
                    have hwkb : wk.heap.size ≤ wb.heap.size := by omega
                    clear gs d0 d1 d2 d3 f0 f2 v1 v2 gown hwb
                    refine wp_region_reads 13 (fun w' => w'.cell? ⟨S, 2, none⟩ = some (.slice (some ⟨Rw, 0, none⟩) ls.length ls.length) ∧ w'.cell? ⟨Rw, j, none⟩ = some (.slice Av2 (crossL (r.take m) c).length cv2) ∧ w'.cell? ⟨wr.heap.size, 1, none⟩ = some (.int .i64 y0) ∧ w'.cell? ⟨wr.heap.size, 3, none⟩ = some (.int .i64 y1)) (by kernel_rfl) (by kernel_rfl) ⟨g2, gv, gy0, gy1⟩ ?_
                    simp only [List.take_succ_cons, List.take_zero, List.drop_succ_cons, List.drop_zero]
                    iterate 13
                      refine ⟨?_, Or.inl ⟨by rfl, ?_⟩, ?_⟩
                      rotate_left 1
                      · intro w' hSw
                        obtain ⟨z1, z2, z3, z4⟩ := hSw
                        go_simp
                        first | done | with_reducible rfl
                      simp only [Act.put, List.setIfInBounds_toArray, List.set_cons_zero, List.set_cons_succ]
                    simp only [wpReads]
                    intro K hK
                    go_simp
                    refine hK _ _ (fun _ => ⟨by go_keep, by go_keep, by go_keep, by go_keep⟩) ?_
                    clear hK K
                    intro K hK
                    refine step_append_lies _ rfl (.tmp 61) (.tmp 67) 78 rfl wk.heap.size 108 i1 (.agg #[.int .i64 0, .int .i64 0]) 2 16 Try.underlying78 gi gz0 gz1 gz2 rfl (by decide) (.slice Av2 (crossL (r.take m) c).length cv2) (crossL (r.take m) c).length _ rfl (own_drew (World.ownsRow.alloc (w := wb) HO.out _)) ⟨wb.heap.size, 0, none⟩ 1 1 [.int .i64 y0, .int .i64 y1] rfl rfl (news_drew wb _ _ _ rfl) (ints_one rfl) (by omega) (by unfold maxLen; omega) (by omega) (by simp; omega) _ rfl ?_
                    intro g9 cap9 w9 hown9 hgrow9 _ _
                    obtain ⟨s1, s2, s3, s4, s5, HF9⟩ := app_after HSS.out hp ⟨c1, c2⟩ HV1.out hRk HBW.out _ HV2.out hgrow9 hown9 HFZ.out hSk HG2.out HY0.out HY1.out
                    clear hown9 hgrow9
                    refine hK _ _ (fun _ => ⟨s1, s2, s3, s4⟩) ?_
                    clear hK K
                    intro K hK
                    simp only [Act.put, List.setIfInBounds_toArray, List.set_cons_zero, List.set_cons_succ] at hK ⊢
                    go_simp
                    refine hK _ _ (fun _ => ⟨s1, s2, s3, s4⟩) ?_
                    clear hK K
                    intro K hK
                    simp only [Act.put, List.setIfInBounds_toArray, List.set_cons_zero, List.set_cons_succ] at hK ⊢
                    go_simp
                    refine hK _ _ (fun h => absurd rfl h) ?_
                    clear hK K
                    refine NoPanic.normal ?_
                    have HF9' := hide HF9.out
                    go_wp2
                    go_roundw
                    case rel => exact ⟨m + 1, by omega, by go_num, HF9'.out⟩
                    case measure => simp [intOf]; omega
                  · have c2' : x1 ≤ c := by omega
                    go_wp2
                    go_roundw
                    case rel => exact ⟨m + 1, by omega, by go_num, HSS.out.skip hp (fun h => by have := h.2; simp at this; omega) ((Below.refl _ _).alloc (Nat.le_refl _) _) (by omega)⟩
                    case measure => simp [intOf]; omega
                · have c1' : c < x0 := by omega
                  go_wp2
                  go_roundw
                  case rel => exact ⟨m + 1, by omega, by go_num, HSS.out.skip hp (fun h => by have := h.1; simp at this; omega) ((Below.refl _ _).alloc (Nat.le_refl _) _) (by omega)⟩
                  case measure => simp [intOf]; omega
              · obtain rfl : m = r.length := by omega
                have hmz : ¬ (r.length : Int) < (r.length : Int) := by omega
                have HF := hide (SIn.fin HM.out hr SS)
                clear SS e0 e2
                go_wp2
                go_roundw
                case rel => exact ⟨j + 1, by omega, by go_num, HF.out⟩
                case measure => simp [intOf]; omega
          · obtain rfl : j = ls.length := by omega
            have hjz : ¬ (ls.length : Int) < (ls.length : Int) := by omega
            have e0 := M.s0
            have e1 := M.s1
            have e2 := M.s2
            have hJ2 := HJ.out _ _ _ HJk.out M.below
            have hx : (prs cs)[k]? = some (c, d) := HP.out
            obtain ⟨hkp, hxe⟩ := List.getElem?_eq_some_iff.1 hx
            have hfi : (prs cs).take (k + 1) = (prs cs).take k ++ [(c, d)] := by rw [List.take_succ_eq_append_getElem hkp, hxe]
            have hpost : ∃ post, prs cs = (prs cs).take k ++ (c, d) :: post := ⟨(prs cs).drop (k + 1), by rw [← hxe, ← List.drop_eq_getElem_cons hkp, List.take_append_drop]⟩
            have hok : OkSlab ls (c, d) #[.agg #[.int .i64 c, .int .i64 d, .slice (some ⟨Rw, 0, none⟩) ls.length ls.length]] wr := by
              refine ⟨Rw, rfl, M.topR, fun q l hl => ?_⟩
              obtain ⟨v, v1, v2⟩ := M.done q l (List.getElem?_eq_some_iff.1 hl).1 hl
              exact ⟨v, v1, own_rd v2 (fun _ => rfl)⟩
            obtain ⟨fn, tmps, assign, body, hy, hR⟩ := HY.out ((prs cs).take k) (c, d) #[.agg #[.int .i64 c, .int .i64 d, .slice (some ⟨Rw, 0, none⟩) ls.length ls.length]] wr hJ2 hpost hok
            have FI := hide hfi
            have HM := hide M
            clear hx hxe hfi hpost hJ2 hok HJ HY M
            have hk2 : (k : Int) + 1 + 1 ≤ 100000001 := by omega
            have hk3' : (0 : Int) ≤ (k : Int) := by omega
            go_wp2
            gi_wp2
            refine ⟨rfl, hR.mono ?_⟩
            rintro e W3 (⟨rfl, hJ3, hk3⟩ | ⟨rfl, hJx3⟩)
            · have HJ3 := hide hJ3
              have HK3 := hide hk3
              clear hJ3 hk3 hR
              gi_wp2
              go_roundw
              case rel =>
                refine ⟨k + 1, by omega, by go_num, hide (by rw [FI.out]; exact HJ3.out), hide fun b o h1 h2 => (HK3.out.2 b o h1 h2).trans ((HM.out.below.cell (p := ⟨b, o, none⟩) (by show b < _; omega)).trans (HC.out b o h1 h2)), ?_⟩
                have := HK3.out.1
                have := HM.out.below.size
                omega
              case measure => simp [intOf]; omega
            · have HJx := hide hJx3
              clear hJx3 hR
              gi_wp2
              refine bodyPost_ret (results_none rfl _ _ _) rfl ?_
              exact ⟨⟨_, rfl⟩, .inr ⟨_, HJx.out⟩⟩
    · have hltz : ¬ (k : Int) + 1 < (cs.length : Int) := by omega
      have hk' : (prs cs).take k = prs cs := List.take_of_length_le (by omega)
      have HK := hide hk'
      clear hk' HJ HY h0
      gi_wp2
      go_end0
      exact ⟨⟨_, rfl⟩, .inl (by have := HJk.out; rw [HK.out] at this; exact this)⟩
end Go.Proofs.Ytabogapiecciiaa
