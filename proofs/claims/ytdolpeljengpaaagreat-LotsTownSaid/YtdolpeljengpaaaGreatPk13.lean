/- Texts laid together: PartsA, BlkP, MFor, BlkR, StrR, BlkU, MBlkP, MBlkF, MTown, RegsB, OpenS. Lemmas for the statements of this seat; no condition. -/
import Derived.Test.YtdolpeljengpaaaGreatPk12
import Derived.Test.YtdolpeljengpaaaGreatPk5
import Derived.Test.YtdolpeljengpaaaGreatPk9
import Derived.Test.YtdolpeljengpaaaGreatPk11
import Derived.Test.YtdolpeljengpaaaGreatPk10
import Derived.Test.YtdolpeljengpaaaGreatPk3
import Derived.Test.YtdolpeljengpaaaGreatPk8
import Derived.Test.YtdolpeljengpaaaGreatPk7
import Derived.Deep.Strs

/- region.Parts. -/
namespace Go.Proofs.YtdolpeljengpaaaGreat
open Go.RowKit Go.Maps
set_option linter.unusedVariables false
set_option linter.unusedSimpArgs false

theorem Regs.but {w a c : World} {vo : Value} {R : List (List R4)} {bM k : Nat} {D : DataW Unit} (h : Regs w vo R a) (hm : ownsM bM k D a) (hg : a.grownBy c (some bM)) (hb : w.heap.size ≤ bM) : Regs w vo R c := by
  obtain ⟨vs, h1, h2⟩ := h.o
  exact ⟨h.low.grown hg h.low.size (fun q hq => by cases hq; exact hb), vs, h1.kept hg (own_map_apart h1 hm), fun i r hr => by
    obtain ⟨v, h3, h4⟩ := h2 i r hr
    exact ⟨v, h3, h4.kept hg (own_map_apart h4 hm)⟩⟩
theorem own_ranges_apart {w : World} {B n bM rI k cnt : Nat} {size : Nat} {e : TypeId} {v : Value} {xs : List Value} {D : DataW Unit} {left : Lit → Bool} (h : w.ownsRow B e size v n xs) (hm : w.ranges Tryz.prog 3 rectE bM rI k D left cnt) : v.ownBlock = none ∨ v.ownBlock ≠ some rI := by
  rcases h.2 with ⟨rfl, _⟩ | ⟨g, cap, cur, rfl, _, hg, _⟩
  · exact .inl rfl
  · right
    intro he
    obtain ⟨es, c, s1, s2, s3, _, _, _, _, hb, _⟩ := hm
    have : g = rI := by simpa [Value.ownBlock] using he
    subst this
    rw [hg] at hb
    cases hb
theorem apart_ne {v : Value} {q : Nat} (h : v.ownBlock = none ∨ v.ownBlock ≠ some q) : some q ≠ v.ownBlock := by
  rcases h with h | h
  · rw [h]; simp
  · exact fun e => h e.symm
theorem box_cells {w : World} {B : Nat} (hB : w.heap.size = B) (a b c d : Value) (t : TypeId) : (w.alloc (.cells #[a, b, c, d] t)).cell? ⟨B, 0, none⟩ = some a ∧ (w.alloc (.cells #[a, b, c, d] t)).cell? ⟨B, 1, none⟩ = some b ∧ (w.alloc (.cells #[a, b, c, d] t)).cell? ⟨B, 2, none⟩ = some c ∧ (w.alloc (.cells #[a, b, c, d] t)).cell? ⟨B, 3, none⟩ = some d := by
  have h := news_new w [a, b, c, d] t B hB
  have h0 := h 0 a rfl
  have h1 := h 1 b rfl
  have h2 := h 2 c rfl
  have h3 := h 3 d rfl
  simp only [addr_add] at h0 h1 h2 h3
  exact ⟨h0, h1, h2, h3⟩
/-- The part that is being found, the map, and all else as it was at W. -/
structure PS (l : List R4) (W : World) (bM m : Nat) (P : List Nat) (kk : Nat) (v : Value) (D : DataW Unit) (wi : World) : Prop where
  grow : Grow l m P kk
  mp : Mp l (fun k => m ≤ mn l k ∧ k ∉ P) D
  size : P.length + Maps.size D ≤ l.length
  row : wi.ownsRow W.heap.size 69 4 v P.length ((left4 l P).flatMap encR)
  same : W.grownBy wi (some bM)
theorem PS.lt {l : List R4} {W wi : World} {bM m kk : Nat} {P : List Nat} {v : Value} {D : DataW Unit} (h : PS l W bM m P kk v D wi) (hm : m < l.length) : ∀ p ∈ P, p < l.length := fun p hp => (h.grow.1 p hp).lt hm
/-- What the range has left over so far is not beside p. -/
def Off (l : List R4) (p : Nat) (D : DataW Unit) (left : Lit → Bool) : Prop := ∀ n, n < l.length → Maps.has D (.int .i64 (n : Int)) = true → left (.int .i64 (n : Int)) = false → ¬ adj l p n
theorem Off.start (l : List R4) (p : Nat) (D : DataW Unit) : Off l p D (Maps.has D) := fun n _ h1 h2 => by rw [h1] at h2; cases h2
theorem same_false {k n : Nat} (h : k ≠ n) : (Lit.int .i64 (n : Int)).sameKey (.int .i64 (k : Int)) = false := sameKey_ne (key_ne (Ne.symm h))
theorem Off.stay {l : List R4} {p k : Nat} {D : DataW Unit} {left : Lit → Bool} (h : Off l p D left) (hn : ¬ adj l p k) : Off l p D (fun z => left z && !z.sameKey (.int .i64 (k : Int))) := fun n hn1 h1 h2 => by
  by_cases e : k = n
  · subst e; exact hn
  · refine h n hn1 h1 ?_
    simpa [same_false e] using h2
theorem Off.strike {l : List R4} {p k : Nat} {D : DataW Unit} {left : Lit → Bool} (h : Off l p D left) : Off l p (D.del (.int .i64 (k : Int))) (fun z => left z && !z.sameKey (.int .i64 (k : Int))) := fun n hn1 h1 h2 => by
  by_cases e : k = n
  · subst e; rw [has_del_same] at h1; cases h1
  · rw [has_del_other (key_ne (Ne.symm e))] at h1
    refine h n hn1 h1 ?_
    simpa [same_false e] using h2
theorem Off.done {l : List R4} {W wi : World} {bM m kk : Nat} {P : List Nat} {v : Value} {D : DataW Unit} {p : Nat} {left : Lit → Bool} (h : PS l W bM m P kk v D wi) (hm : mn l m = m) (hp : P[kk]? = some p) (ho : Off l p D left) (hl : ∀ kl, left kl = false) : PS l W bM m P (kk + 1) v D wi := by
  refine ⟨h.grow.next hp fun n ha => ?_, h.mp, h.size, h.row, h.same⟩
  by_cases hn : n ∈ P
  · exact hn
  · obtain ⟨_, y, _, hy, _⟩ := id ha
    have hlt := (List.getElem?_eq_some_iff.1 hy).1
    have hc := (h.grow.1 p (List.mem_of_getElem? hp)).step ha
    have hmn := mn_eq hc
    exact absurd ha (ho n hlt ((h.mp.is hlt).2 ⟨by omega, hn⟩) (hl _))

set_option maxRecDepth 100000 in
set_option maxHeartbeats 4000000 in
theorem parts_any {w : World} {v : Value} {l : List R4} (hr : RdK encR 4 w w.heap.size v l) (hl : l.length ≤ 100000000) :
    Calls Tryz.prog 52 #[v] w fun e w' => RegsRet w.heap.size (partsE l) e w' ∧ Below w.heap.size w w' := by
  obtain ⟨i2, fi, fz0, fz1, fz2⟩ := info_parts infoRg
  obtain ⟨i3, ki, kz0, kz1, kz2⟩ := info_parts infoRc
  have hck := check_any hr hl
  have hmm := @run_makeMap Tryz.prog
  have hR := hide hr
  obtain ⟨A0, c0, hv, hc⟩ := id hr
  subst hv
  have HCK := hide hck
  have HRC := hide hc
  clear hck hr hc
  by_cases h0 : checkF l = 0
  · obtain ⟨k1, k2, _⟩ := checkF_ok h0
    have HF : Hid (partsE l = (partsF l, 0)) := hide (if_pos h0)
    have HCAN := hide (check_rcan h0)
    have HV := hide k2
    rw [h0] at HCK
    clear k2 h0
    go_enter Tryz.func52, Tryz.ntmps52
    go_wp2_with (go_at_call 68; refine HCK.out.mono ?_; rintro e w1 ⟨rfl, hb1⟩)
    obtain ⟨bM, hbM⟩ : ∃ bM, bM = w1.heap.size := ⟨_, rfl⟩
    have hbw : w.heap.size ≤ bM := by rw [hbM]; exact hb1.size
    have hM0 : ownsM bM 0 (.map []) (w1.alloc (.map #[] 0)) := by rw [hbM]; exact World.ownsMap_made _ _ _ _
    have hB0 : Below w.heap.size w (w1.alloc (.map #[] 0)) := hb1.alloc hb1.size _
    rw [← hbM]
    have HM0 := hide hM0
    have HB0 := hide hB0
    have HP0 := hide (Mp.start l)
    clear hbM hb1 hM0 hB0 hmm
    go_loopw [27] (fun i wr => ∃ m : Nat, m ≤ l.length ∧ i = .int .i64 m ∧ ∃ D, Hid (ownsM bM m D wr) ∧ Hid (Mp l (fun k => k < m) D) ∧ Hid (Below w.heap.size w wr)) (fun i _ => l.length - (intOf i).toNat)
    case atStart => exact ⟨0, Nat.zero_le _, rfl, _, HM0, HP0, HB0⟩
    case round =>
      clear HM0 HP0 HB0
      obtain ⟨m, hm, rfl, D, HM, HP, HB⟩ := hrel
      by_cases hlt : m < l.length
      · have mz : (m : Int) < (l.length : Int) := by omega
        obtain ⟨⟨p0, p1, p2, p3⟩, hp⟩ : ∃ p, l[m]? = some p := ⟨_, List.getElem?_eq_getElem hlt⟩
        obtain ⟨b, o, rfl, hbl, k⟩ := HRC.out (by intro e; rw [e] at hlt; simp at hlt)
        obtain ⟨d0, d1, d2, d3⟩ := rects_at k (fun q => HB.out.cell (p := ⟨b, q, none⟩) hbl) hp
        have hsz := HB.out.size
        have hbw2 : b < wr.heap.size := by omega
        have HPP := hide hp
        clear k hp
        go_wp2_with (at_mapUpdate; go_loud (refine wpList_mapUpdate_own _ rfl _ _ _ 152 rfl 3 69 lawI Tryz.underlying152 rectE bM m D rfl (World.ownsMap.alloc HM.out _) (by unfold maxLen; omega) _ _ _ rfl rfl (keyOf_int_mk Tryz.underlying3 (WalkArith.wf_i64 (by omega))) _ [] (rectE_mk4 p0 p1 p2 p3) ?_))
        intro w2 hown2 hgrow2
        have HM2 := hide hown2
        have HP2 := hide (HP.out.put HM.out.isMap HPP.out)
        have HB2 := hide ((HB.out.alloc hsz _).grown hgrow2 (by simp; omega) (fun q hq => by cases hq; exact hbw))
        clear hown2 hgrow2
        go_wp2
        go_roundw
        case rel => exact ⟨m + 1, by omega, by go_num, _, HM2, HP2, HB2⟩
        case measure => simp [intOf]; omega
      · have mz : ¬ (m : Int) < (l.length : Int) := by omega
        obtain rfl : m = l.length := by omega
        have HP0 := hide (show Mp l (fun k => 0 ≤ mn l k) D from HP.out.iff fun k hk => ⟨fun _ => Nat.zero_le _, fun _ => hk⟩)
        have HM0 := HM
        have HB0 := HB
        clear HP HM HB mz
        go_wp2
        go_loopw [8, 38] (fun v i wr => ∃ m : Nat, m ≤ l.length ∧ i = .int .i64 m ∧ ∃ Ao no co, v = .slice Ao no co ∧ Hid (no = (partsP l m).length) ∧ Hid (Regs w (.slice Ao no co) (partsP l m) wr) ∧ ∃ D, Hid (ownsM bM l.length D wr) ∧ Hid (Mp l (fun k => m ≤ mn l k) D)) (fun _ i _ => l.length - (intOf i).toNat)
        case atStart => exact ⟨0, Nat.zero_le _, rfl, none, 0, 0, rfl, hide rfl, hide ⟨HB0.out, [], World.ownsRow_nil _ _ _ _, fun i r h => by simp [partsP] at h⟩, D, HM0, HP0⟩
        case round =>
          clear HP0 HM0 HB0
          obtain ⟨m, hm, rfl, Ao, no, co, rfl, HN, HRG, D, HM, HP⟩ := hrel
          by_cases hlt : m < l.length
          · have mz : (m : Int) < (l.length : Int) := by omega
            obtain ⟨⟨p0, p1, p2, p3⟩, hp⟩ : ∃ p, l[m]? = some p := ⟨_, List.getElem?_eq_getElem hlt⟩
            obtain ⟨b, o, rfl, hbl, k⟩ := HRC.out (by intro e; rw [e] at hlt; simp at hlt)
            obtain ⟨d0, d1, d2, d3⟩ := rects_at k (fun q => HRG.out.low.cell (p := ⟨b, q, none⟩) hbl) hp
            have hsz := HRG.out.low.size
            have hbw2 : b < wr.heap.size := by omega
            have HPP := hide hp
            clear k hp
            by_cases hmn : mn l m = m
            · have HAS := hide (show Maps.has D (.int .i64 (m : Int)) = true from (HP.out.is hlt).2 (by omega))
              have HMN := hide hmn
              clear hmn
              go_wp2_with (first
                | (at_lookup; go_loud (refine wpList_look_rect rfl _ _ rfl bM l.length D rfl (World.ownsMap.alloc HM.out _) (m : Int) rfl (by omega) true HAS.out ?_); intro rr; obtain ⟨rr0, rr1, rr2, rr3⟩ := rr)
                | (at_delete; go_loud (refine wpList_delete_own _ rfl _ _ 152 3 rfl 69 lawI Tryz.underlying152 rectE bM l.length D rfl (World.ownsMap.alloc (World.ownsMap.alloc HM.out _) _) _ _ rfl (keyOf_int_mk Tryz.underlying3 (WalkArith.wf_i64 (by omega))) ?_)))
              intro w4 hown4 hturn4
              have HM4 := hide hown4
              have hmlt := HM.out.lt
              obtain ⟨xb0, xb1, xb2, xb3⟩ := box_cells (w := wr) rfl (.int .i64 p0) (.int .i64 p1) (.int .i64 p2) (.int .i64 p3) 69
              have hxk : ∀ q, w4.cell? ⟨wr.heap.size, q, none⟩ = (wr.alloc (.cells #[.int .i64 p0, .int .i64 p1, .int .i64 p2, .int .i64 p3] 69)).cell? ⟨wr.heap.size, q, none⟩ := fun q =>
                (World.cell?_of_block (hturn4.grown.block wr.heap.size (by simp; omega) (by simp; omega))).trans (World.cell?_alloc_lt (wr.alloc _) _ ⟨wr.heap.size, q, none⟩ (by simp))
              have x0 := (hxk 0).trans xb0
              have x1 := (hxk 1).trans xb1
              have x2 := (hxk 2).trans xb2
              have x3 := (hxk 3).trans xb3
              have hs4 : wr.heap.size + 2 ≤ w4.heap.size := by have := hturn4.grown.size; simp at this; omega
              have HRG4 := hide (((HRG.out.below (((Below.refl _ _).alloc (Nat.le_refl _) _).alloc (by simp) _)).but (World.ownsMap.alloc (World.ownsMap.alloc HM.out _) _) hturn4.grown hbw))
              have hrow : (w4.alloc (.cells #[.int .i64 p0, .int .i64 p1, .int .i64 p2, .int .i64 p3] 69)).ownsRow w4.heap.size 69 4 (.slice (some ⟨w4.heap.size, 0, none⟩) 1 1) 1 (encR ⟨p0, p1, p2, p3⟩) :=
                ⟨rfl, .inr ⟨w4.heap.size, 1, _, rfl, Nat.le_refl _, World.alloc_heap_new _ _, Nat.le_refl _, by simp [maxLen], rfl, rfl⟩⟩
              have hl4 : left4 l [m] = [⟨p0, p1, p2, p3⟩] := by simp [left4, HPP.out]
              have HPS := hide (show PS l w4 bM m [m] 0 (.slice (some ⟨w4.heap.size, 0, none⟩) 1 1) (D.del (.int .i64 (m : Int))) (w4.alloc (.cells #[.int .i64 p0, .int .i64 p1, .int .i64 p2, .int .i64 p3] 69)) from by
                refine ⟨Grow.start l m, HP.out.del.iff (fun k _ => by simp), ?_, ?_, (World.grownBy_alloc _ _ _)⟩
                · have h1 := size_del (k := .int .i64 (m : Int)) (HM.out.tidy lawI)
                  rw [if_pos HAS.out] at h1
                  have h2 := HM.out.size_le
                  simp only [List.length_singleton]
                  omega
                · rw [hl4]
                  simpa using hrow)
              have HM5 := hide (World.ownsMap.alloc HM4.out (.cells #[.int .i64 p0, .int .i64 p1, .int .i64 p2, .int .i64 p3] 69))
              have hbM4 : bM < w4.heap.size := HM4.out.lt
              clear hown4 hturn4 xb0 xb1 xb2 xb3 hxk hrow hl4 hmlt HM HP HAS HRG d0 d1 d2 d3
              go_wp2
              go_loopw [13, 14] (fun v q wi => ∃ (kk : Nat) (P : List Nat), kk ≤ P.length ∧ q = .int .i64 kk ∧ ∃ Ap cp, v = .slice Ap P.length cp ∧ ∃ D, Hid (ownsM bM l.length D wi) ∧ Hid (PS l w4 bM m P kk (.slice Ap P.length cp) D wi)) (fun _ q _ => l.length - (intOf q).toNat)
              case atStart => exact ⟨0, [m], by simp, rfl, _, _, rfl, _, HM5, HPS⟩
              case round =>
                clear HM5 HPS x0 x1 x2 x3
                obtain ⟨kk, P, hkP, rfl, Ap, cp, rfl, D, HM, HPS⟩ := hrel
                by_cases hkk : kk < P.length
                · have kz : (kk : Int) < (P.length : Int) := by omega
                  obtain ⟨p, hp⟩ : ∃ p, P[kk]? = some p := ⟨_, List.getElem?_eq_getElem hkk⟩
                  have hpl := HPS.out.lt hlt p (List.mem_of_getElem? hp)
                  have hkl : kk < l.length := by have := HPS.out.size; omega
                  obtain ⟨⟨a0, a1, a2, a3⟩, ha⟩ : ∃ r, l[p]? = some r := ⟨_, List.getElem?_eq_getElem hpl⟩
                  have HPK := hide hp
                  have HPA := hide ha
                  obtain ⟨rI, hrI⟩ : ∃ rI, rI = wr.heap.size := ⟨_, rfl⟩
                  have hrI4 : w4.heap.size ≤ rI := by rw [hrI]; exact HPS.out.same.size
                  clear hp ha
                  go_wp2_with (at_range; go_loud (refine wpList_range_own _ rfl _ 152 rfl 3 69 lawI Tryz.underlying152 rectE bM l.length D rfl HM.out ?_); intro w0 hrg0 hg0 hs0)
                  rw [← hrI] at hrg0 ⊢
                  have HRR := hide hrg0
                  have HPS0 := hide (show PS l w4 bM m P kk (.slice Ap P.length cp) D w0 from ⟨HPS.out.grow, HPS.out.mp, HPS.out.size, HPS.out.row.kept hg0 (Classical.em _), HPS.out.same.andThen hg0 (fun q hq => by cases hq)⟩)
                  have HOF := hide (Off.start l p D)
                  clear hrg0 hg0 hs0 hrI
                  go_frame
                  go_loopw [13] (fun v wi => ∃ P, Hid (P[kk]? = some p) ∧ kk < P.length ∧ ∃ Ap cp, v = .slice Ap P.length cp ∧ ∃ D left cnt, Hid (wi.ranges Tryz.prog 3 rectE bM rI l.length D left cnt) ∧ Hid (PS l w4 bM m P kk (.slice Ap P.length cp) D wi) ∧ Hid (Off l p D left)) (fun _ wi => wi.rangeLeft bM rI)
                  case atStart => exact ⟨P, HPK, hkk, Ap, cp, rfl, D, _, _, HRR, HPS0, HOF⟩
                  case round =>
                    clear HRR HPS0 HOF HPS HM HPK kz
                    obtain ⟨P, HPK, hkk, Ap, cp, rfl, D, left, cnt, HRR, HPS, HOF⟩ := hrel
                    have kz : (kk : Int) < (P.length : Int) := by omega
                    go_wp2_with (at_next; go_loud (refine wpList_next_rect rfl _ rfl bM rI l.length D left cnt rfl HRR.out HPS.out.mp ?_ ?_))
                    · intro hl0
                      have HPS9 := hide (HOF.out.done HPS.out HMN.out HPK.out hl0)
                      have HM9 := hide HRR.out.owns
                      clear hl0
                      go_wp2
                      go_roundw
                      case rel => exact ⟨kk + 1, P, by omega, by go_num, Ap, cp, rfl, D, HM9, HPS9⟩
                      case measure => simp [intOf]; omega
                    · intro k q0 q1 q2 q3 w5 cnt5 hk hS1 hS2 hlk hrg5 hlt5 hg5 hs5 hen
                      have HK := hide hk
                      have HKS := hide (show m ≤ mn l k ∧ k ∉ P from ⟨hS1, hS2⟩)
                      have hkl : k < l.length := (List.getElem?_eq_some_iff.1 hk).1
                      have HKH := hide ((HPS.out.mp.is hkl).2 ⟨hS1, hS2⟩)
                      have hap := own_ranges_apart HPS.out.row HRR.out
                      have HPS5 := hide (show PS l w4 bM m P kk (.slice Ap P.length cp) D w5 from ⟨HPS.out.grow, HPS.out.mp, HPS.out.size, HPS.out.row.kept hg5 hap, HPS.out.same.andThen hg5 (fun q hq => by cases hq; exact .inl hrI4)⟩)
                      have hpls := HPS5.out.lt hlt
                      obtain ⟨g, cpg, hvg, hBg, hgg⟩ := HPS5.out.row.form (by omega)
                      injection hvg with e1 _ e3
                      subst e1; subst e3
                      have hat := left4_at hpls HPK.out HPA.out
                      have hgw : g < w5.heap.size := (HPS5.out.row.lt g rfl).2
                      have hc5 : ∀ i u, (encR ⟨a0, a1, a2, a3⟩)[i]? = some u → w5.cell? ⟨g, kk * 4 + i, none⟩ = some u := fun i u hu => by
                        have := (HPS5.out.row.cells (g := g) rfl) _ _ (flat_get (k := 4) (fun _ => rfl) _ kk _ i u hat hu)
                        rwa [addr_add] at this
                      have HC5 := hide hc5
                      have HRG5 := hide hrg5
                      have HLT5 := hide hlt5
                      have HG5 := hide hg5
                      have hva := HV.out _ (List.mem_of_getElem? HPA.out)
                      have hvk := HV.out _ (List.mem_of_getElem? hk)
                      have hbs := fun W => beside_any ⟨a0, a1, a2, a3⟩ ⟨q0, q1, q2, q3⟩ (valid_mid hva) (valid_mid hvk) W
                      simp only [encR] at hbs
                      have HADJ : Hid (bsd ⟨a0, a1, a2, a3⟩ ⟨q0, q1, q2, q3⟩ = true ↔ adj l p k) := hide (by
                        constructor
                        · exact fun h => ⟨_, _, HPA.out, hk, h⟩
                        · rintro ⟨u, v, h1, h2, h3⟩
                          rw [HPA.out] at h1; rw [hk] at h2
                          injection h1 with h1; injection h2 with h2
                          subst h1; subst h2
                          exact h3)
                      have hkz : (0 : Int) ≤ (kk : Int) := by omega
                      have hk400 : k ≤ 400 := by omega
                      clear hk hS1 hS2 hlk hrg5 hlt5 hg5 hs5 hap hpls hat hc5 hva hvk
                      go_wp2
                      refine wp_name fun w6 hw6 => ?_
                      have hsz6 : w5.heap.size < w6.heap.size := by rw [hw6]; simp
                      obtain ⟨b0, b1, b2, b3⟩ := box_cells (w := w5) rfl (.int .i64 q0) (.int .i64 q1) (.int .i64 q2) (.int .i64 q3) 69
                      rw [← hw6] at b0 b1 b2 b3
                      have c6 : ∀ i u, (encR ⟨a0, a1, a2, a3⟩)[i]? = some u → w6.cell? ⟨g, kk * 4 + i, none⟩ = some u := fun i u hu => by rw [hw6]; exact (World.cell?_alloc_lt w5 _ ⟨g, kk * 4 + i, none⟩ hgw).trans (HC5.out i u hu)
                      have c0 : w6.cell? ⟨g, kk * 4, none⟩ = some (.int .i64 a0) := c6 0 _ rfl
                      have c1 : w6.cell? ⟨g, kk * 4 + 1, none⟩ = some (.int .i64 a1) := c6 1 _ rfl
                      have c2 : w6.cell? ⟨g, kk * 4 + 2, none⟩ = some (.int .i64 a2) := c6 2 _ rfl
                      have c3 : w6.cell? ⟨g, kk * 4 + 3, none⟩ = some (.int .i64 a3) := c6 3 _ rfl
                      have HRG6 := hide (show w6.ranges Tryz.prog 3 rectE bM rI l.length D (fun z => left z && !z.sameKey (.int .i64 (k : Int))) cnt5 by rw [hw6]; exact HRG5.out.alloc _)
                      have HPS6 := hide (show PS l w4 bM m P kk (.slice (some ⟨g, 0, none⟩) P.length cp) D w6 by rw [hw6]; exact ⟨HPS5.out.grow, HPS5.out.mp, HPS5.out.size, World.ownsRow.alloc HPS5.out.row _, HPS5.out.same.andThen (World.grownBy_alloc _ _ none) (fun q hq => by cases hq)⟩)
                      have hg6 : g < w6.heap.size := by omega
                      clear hw6 c6
                      cases hbd : bsd ⟨a0, a1, a2, a3⟩ ⟨q0, q1, q2, q3⟩ with
                      | true =>
                        rw [hbd] at hbs
                        have HBS := hide hbs
                        have HA := hide (HADJ.out.1 hbd)
                        clear hbs hbd
                        refine wp_hab fun hab => ?_
                        refine wp_region_above (by kernel_rfl) (by kernel_rfl) ?_
                        repeat (go_big_quiet_step ((go_at_call 98; exact above_of (HBS.out _))))
                        refine wpQuiet_nil ?_
                        refine above_ends fun w7 hb7 => ?_
                        clear hab c0 c1 c2 c3
                        have j0 := (hb7.cell (p := ⟨w5.heap.size, 0, none⟩) hsz6).trans b0
                        have j1 := (hb7.cell (p := ⟨w5.heap.size, 1, none⟩) hsz6).trans b1
                        have j2 := (hb7.cell (p := ⟨w5.heap.size, 2, none⟩) hsz6).trans b2
                        have j3 := (hb7.cell (p := ⟨w5.heap.size, 3, none⟩) hsz6).trans b3
                        have HRG7 := hide (HRG6.out.kept (below_grown hb7) (by simp) (by simp))
                        have HPS7 := hide (show PS l w4 bM m P kk (.slice (some ⟨g, 0, none⟩) P.length cp) D w7 from ⟨HPS6.out.grow, HPS6.out.mp, HPS6.out.size, own_below HPS6.out.row hb7, HPS6.out.same.andThen (below_grown hb7) (fun q hq => by cases hq)⟩)
                        have hs7 := hb7.size
                        have hP4 : P.length ≤ 400 := by have := HPS7.out.size; omega
                        have h47 := HPS7.out.same.size
                        have HLL := hide (left4_snoc (P := P) HK.out)
                        clear b0 b1 b2 b3 hb7
                        go_wp2_with (first
                          | (at_builtin; go_loud (refine wpList_append_lies _ rfl (.tmp 74) (.tmp 76) 26 rfl w4.heap.size 69 i3 (.agg #[.int .i64 0, .int .i64 0, .int .i64 0, .int .i64 0]) 4 32 Tryz.underlying26 ki kz0 kz1 kz2 rfl (by decide) _ P.length _ rfl (World.ownsRow.alloc HPS7.out.row _) ⟨w7.heap.size, 0, none⟩ 1 1 [.int .i64 q0, .int .i64 q1, .int .i64 q2, .int .i64 q3] rfl rfl (news_new w7 _ _ _ rfl) (ints_one rfl) (by omega) (by unfold maxLen; omega) (by omega) (by simp; omega) _ rfl ?_))
                          | (at_delete; go_loud (refine wpList_delete_ranges _ rfl _ _ 152 3 rfl 69 lawI Tryz.underlying152 rectE bM rI l.length D _ _ rfl HRG9.out _ _ rfl (keyOf_int_mk Tryz.underlying3 (WalkArith.wf_i64 (by omega))) ?_)))
                        intro g9 cap9 w9 hown9 hgrow9 _ _
                        have hx9 : (left4 l P).flatMap encR ++ [.int .i64 q0, .int .i64 q1, .int .i64 q2, .int .i64 q3] = (left4 l (P ++ [k])).flatMap encR := by rw [HLL.out, List.flatMap_append]; rfl
                        rw [hx9] at hown9
                        have HO9 := hide hown9
                        have HRG9 := hide ((HRG7.out.alloc (.cells #[.int .i64 q0, .int .i64 q1, .int .i64 q2, .int .i64 q3] 69)).kept hgrow9 (apart_ne (own_map_apart HPS7.out.row HRG7.out.owns)) (apart_ne (own_ranges_apart HPS7.out.row HRG7.out)))
                        have HSM9 := hide ((HPS7.out.same.andThen (World.grownBy_alloc _ (.cells #[.int .i64 q0, .int .i64 q1, .int .i64 q2, .int .i64 q3] 69) none) (fun q hq => by cases hq)).andThen hgrow9 (fun q hq => .inl (HPS7.out.row.lt q hq).1))
                        clear hown9 hgrow9 hx9 j0 j1 j2 j3
                        go_wp2_with (at_delete; go_loud (refine wpList_delete_ranges _ rfl _ _ 152 3 rfl 69 lawI Tryz.underlying152 rectE bM rI l.length D _ _ rfl HRG9.out _ _ rfl (keyOf_int_mk Tryz.underlying3 (WalkArith.wf_i64 (by omega))) ?_))
                        intro w10 cnt10 hrg10 hle10 hturn10
                        have HRG10 := hide hrg10
                        have HPS10 := hide (show PS l w4 bM m (P ++ [k]) kk (.slice (some ⟨g9, 0, none⟩) (P.length + 1) cap9) (D.del (.int .i64 (k : Int))) w10 from by
                          refine ⟨HPS7.out.grow.push (Nat.le_of_lt hkk) (List.mem_of_getElem? HPK.out) HA.out, HPS7.out.mp.del.iff (fun n _ => by simp only [List.mem_append, List.mem_singleton, not_or, and_assoc]), ?_, ?_, HSM9.out.andThen hturn10.grown (fun q hq => .inr hq)⟩
                          · have h1 := size_del (k := .int .i64 (k : Int)) (HRG7.out.owns.tidy lawI)
                            rw [if_pos HKH.out] at h1
                            have h2 := HPS7.out.size
                            simp only [List.length_append, List.length_singleton]
                            omega
                          · rw [List.length_append]
                            exact HO9.out.kept hturn10.grown (own_map_apart HO9.out HRG9.out.owns))
                        have HOF10 := hide (HOF.out.strike (k := k))
                        have HPK10 := hide (show (P ++ [k])[kk]? = some p by rw [List.getElem?_append_left hkk]; exact HPK.out)
                        have hle := Nat.lt_of_le_of_lt hle10 HLT5.out
                        have HLE := hide hle
                        have e10 : P.length + 1 = (P ++ [k]).length := by simp
                        have HE10 := hide e10
                        clear hrg10 hle10 hturn10 hle e10
                        go_wp2
                        go_roundw
                        case rel => exact ⟨P ++ [k], HPK10, by rw [← HE10.out]; omega, _, cap9, by rw [← HE10.out], _, _, cnt10, HRG10, by rw [← HE10.out]; exact HPS10, HOF10⟩
                        case measure => rw [HRG10.out.left_eq, HRR.out.left_eq]; exact HLE.out
                      | false =>
                        rw [hbd] at hbs
                        have HBS := hide hbs
                        have HA := hide (fun h => Bool.false_ne_true (hbd.symm.trans (HADJ.out.2 h)))
                        clear hbs hbd
                        refine wp_hab fun hab => ?_
                        refine wp_region_above (by kernel_rfl) (by kernel_rfl) ?_
                        repeat (go_big_quiet_step ((go_at_call 98; exact above_of (HBS.out _))))
                        refine wpQuiet_nil ?_
                        refine above_ends fun w7 hb7 => ?_
                        clear hab c0 c1 c2 c3 b0 b1 b2 b3
                        have HRG7 := hide (HRG6.out.kept (below_grown hb7) (by simp) (by simp))
                        have HPS7 := hide (show PS l w4 bM m P kk (.slice (some ⟨g, 0, none⟩) P.length cp) D w7 from ⟨HPS6.out.grow, HPS6.out.mp, HPS6.out.size, own_below HPS6.out.row hb7, HPS6.out.same.andThen (below_grown hb7) (fun q hq => by cases hq)⟩)
                        have HOF7 := hide (HOF.out.stay HA.out)
                        clear hb7
                        go_wp2
                        go_roundw
                        case rel => exact ⟨P, HPK, hkk, _, cp, rfl, D, _, cnt5, HRG7, HPS7, HOF7⟩
                        case measure => rw [HRG7.out.left_eq, HRR.out.left_eq]; exact HLT5.out
                · have kz : ¬ (kk : Int) < (P.length : Int) := by omega
                  have hpls := HPS.out.lt hlt
                  have hlen := left4_len hpls
                  have hP4 : P.length ≤ 400 := by have := HPS.out.size; omega
                  have hvl : ∀ r ∈ left4 l P, valid4 r := fun r hr => by
                    obtain ⟨i, _, hr⟩ := List.mem_filterMap.1 hr
                    exact HV.out r (List.mem_of_getElem? hr)
                  have hmd := made_any (w := wr) (own_rd (own_n HPS.out.row hlen.symm) (fun _ => rfl)) (by omega) hvl
                  rw [grow_made HCAN.out (fun r hr => by have := HV.out r hr; exact ⟨this.1, this.2.1⟩) k1 HPS.out.grow (by omega) HMN.out] at hmd
                  have HMD := hide hmd
                  have HPI := hide (partsP_in HMN.out)
                  have hJL := Nat.le_trans (sub_count HCAN.out (fun r hr => by have := HV.out r hr; exact ⟨this.1, this.2.1⟩) (compL_sub l m)) (compL_sub l m).length_le
                  have HREST := hide (HPS.out.mp.iff fun k _ => grow_rest HPS.out.grow (by omega) HMN.out k)
                  have HRGi := hide (HRG4.out.but HM4.out HPS.out.same hbw)
                  generalize rjoin hFst (compL l m) [] = J at *
                  clear hmd hvl hpls hlen
                  obtain ⟨low, vs, g1, g2⟩ := HRGi.out
                  have HLOW := hide low
                  have HG1 := hide g1
                  have HG2 := hide g2
                  have hno : no ≤ 400 := by have := HN.out; have := partsP_len l m; omega
                  have hlow := low.size
                  clear low g1 g2
                  go_wp2_with (first
                    | (go_at_call 93; refine HMD.out.mono ?_; rintro e w5 ⟨⟨Aj, cj, rfl, ho⟩, hb5⟩; have HJ := hide (own_base ho hlow); have HB5 := hide hb5; clear ho hb5; have hs5 := HB5.out.size)
                    | (at_builtin; go_loud (refine wpList_append_lies _ rfl (.tmp 85) (.tmp 87) 35 rfl w.heap.size 27 i2 (.slice none 0 0) 1 24 Tryz.underlying35 fi fz0 fz1 fz2 rfl (by decide) _ no _ rfl (World.ownsRow.alloc (own_below (own_n HG1.out HN.out.symm) HB5.out) _) ⟨w5.heap.size, 0, none⟩ 1 1 [.slice Aj J.length cj] rfl rfl (news_new w5 _ _ _ rfl) (by intro u hu; rw [List.mem_singleton] at hu; subst hu; rfl) (by omega) (by unfold maxLen; omega) (by omega) (by simp; omega) _ rfl ?_)))
                  intro g9 cap9 w9 hown9 hgrow9 _ _
                  have hpush := Regs.push (w := w) ((HLOW.out.trans (HB5.out.mono hlow)).alloc (Nat.le_trans hlow hs5) _) (World.ownsRow.alloc (own_below HG1.out HB5.out) _) (fun i r hi => by
                    obtain ⟨v, q1, q2⟩ := HG2.out i r hi
                    exact ⟨v, q1, World.ownsRow.alloc (own_below q2 HB5.out) _⟩) (World.ownsRow.alloc HJ.out _) hgrow9 (by rw [← HN.out]; exact hown9)
                  rw [← HPI.out] at hpush
                  have HRG9 := hide hpush
                  have HN9 := hide (show no + 1 = (partsP l (m + 1)).length by rw [HPI.out, List.length_append, ← HN.out]; rfl)
                  have hM5 := HM.out.kept (below_grown HB5.out) (by simp)
                  have HM9 := hide ((World.ownsMap.alloc hM5 (.cells #[.slice Aj J.length cj] 27)).kept hgrow9 (apart_ne (own_map_apart (own_below HG1.out HB5.out) hM5)))
                  clear hown9 hgrow9 hpush hM5
                  go_wp2
                  go_roundw
                  case rel => exact ⟨m + 1, by omega, by go_num, _, _, cap9, rfl, HN9, HRG9, D, HM9, HREST⟩
                  case measure => simp [intOf]; omega
            · have HAS := hide (show Maps.has D (.int .i64 (m : Int)) = false from by
                rw [← Bool.not_eq_true, HP.out.is hlt]
                have := mn_le l m
                omega)
              have HPP2 := hide (partsP_out hmn)
              have HP2 := hide (HP.out.iff fun k _ => rest_skip hmn k)
              clear hmn
              rw [← HPP2.out] at HN HRG
              go_wp2_with (at_lookup; go_loud (refine wpList_look_rect rfl _ _ rfl bM l.length D rfl (World.ownsMap.alloc HM.out _) (m : Int) rfl (by omega) false HAS.out ?_); intro rr; obtain ⟨rr0, rr1, rr2, rr3⟩ := rr)
              have HRG2 := hide (HRG.out.below (((Below.refl _ _).alloc (Nat.le_refl _) (.cells #[.int .i64 p0, .int .i64 p1, .int .i64 p2, .int .i64 p3] 69)).alloc (by simp) (.cells #[.int .i64 rr0, .int .i64 rr1, .int .i64 rr2, .int .i64 rr3] 69)))
              have HM2 := hide (World.ownsMap.alloc (World.ownsMap.alloc HM.out (.cells #[.int .i64 p0, .int .i64 p1, .int .i64 p2, .int .i64 p3] 69)) (.cells #[.int .i64 rr0, .int .i64 rr1, .int .i64 rr2, .int .i64 rr3] 69))
              go_roundw
              case rel => exact ⟨m + 1, by omega, by go_num, Ao, no, co, rfl, HN, HRG2, D, HM2, HP2⟩
              case measure => simp [intOf]; omega
          · have mz : ¬ (m : Int) < (l.length : Int) := by omega
            obtain rfl : m = l.length := by omega
            rw [partsP_all] at HN HRG
            go_wp2
            go_ret2
            obtain ⟨low, vs, h1, h2⟩ := HRG.out
            have hn := HN.out
            subst hn
            refine ⟨⟨Ao, co, vs, by rw [HF.out]; rfl, by rw [HF.out]; exact h1, ?_⟩, low⟩
            rw [HF.out]
            exact h2
  · have HF : Hid (partsE l = ([], checkF l)) := hide (if_neg h0)
    generalize checkF l = ck at *
    have hne : (ck != 0) = true := by simpa using h0
    clear h0
    go_enter Tryz.func52, Tryz.ntmps52
    go_wp2_with (go_at_call 68; refine HCK.out.mono ?_; rintro e w1 ⟨rfl, hb1⟩)
    have HB1 := hide hb1
    clear hb1
    go_ret2
    exact ⟨⟨none, 0, [], by rw [HF.out]; rfl, by rw [HF.out]; exact World.ownsRow_nil _ _ _ _, fun i r hi => by rw [HF.out] at hi; simp at hi⟩, HB1.out⟩
end Go.Proofs.YtdolpeljengpaaaGreat

/- block.Blocks: the walk. -/
namespace Go.Proofs.YtdolpeljengpaaaGreat
open Go.RowKit Go.Maps
set_option linter.unusedVariables false
set_option linter.unusedSimpArgs false

/-- What Blocks gives. -/
noncomputable def blkF (N : List Pt) (E : List Ei) (d : Int) (land : List R4) : List (List R4) × Int := if (strF N E d).2 ≠ 0 then ([], (strF N E d).2) else if (joinF hSub land (strF N E d).1).2 ≠ 0 then ([], (joinF hSub land (strF N E d).1).2) else partsE (joinF hSub land (strF N E d).1).1
theorem strF_len (N : List Pt) (E : List Ei) (d : Int) : (strF N E d).1.length ≤ 400 := by
  unfold strF
  split
  · simp
  · split
    · simp
    · split
      · simp
      · split
        · simp
        · exact makeF_len _
theorem regs_nil (B : Nat) (k : Int) (w : World) : RegsRet B ([], k) (.returned (.tuple #[.slice none 0 0, .int .i64 k])) w := ⟨none, 0, [], rfl, World.ownsRow_nil _ _ _ _, fun i r h => by simp at h⟩
set_option maxRecDepth 100000 in
set_option maxHeartbeats 8000000 in
theorem blocks_any {w : World} {nv ev va : Value} {N : List Pt} {E : List Ei} {d : Int} {land : List R4} (hn : RdK encS 2 w w.heap.size nv N) (he : RdK encS 2 w w.heap.size ev E) (ha : RdK encR 4 w w.heap.size va land) (na : land.length ≤ 100000000) :
    Calls Tryz.prog 13 #[.agg #[nv, ev], .int .i64 d, va] w fun e w' => RegsRet w.heap.size (blkF N E d land) e w' ∧ Below w.heap.size w w' := by
  have HN := hide hn
  have HE := hide he
  have HA := hide ha
  have HNA := hide na
  obtain ⟨An, cn, rfl, _⟩ := hn
  obtain ⟨Ae, ce, rfl, _⟩ := he
  obtain ⟨Aa, ca, rfl, _⟩ := ha
  have hb0 : Below w.heap.size w (w.alloc (.cells #[.slice An N.length cn, .slice Ae E.length ce] 25)) := (Below.refl _ _).alloc (Nat.le_refl _) _
  have HB0 := hide hb0
  clear hb0 na
  go_enter Tryz.func13, Tryz.ntmps13
  go_wp2_with (fail)
  refine (streets_any ((HN.out.below HB0.out).mono HB0.out.size) ((HE.out.below HB0.out).mono HB0.out.size)).mono ?_
  rintro e w1 ⟨⟨A1, c1, rfl, o1⟩, hb1⟩
  have HB1 := hide (HB0.out.trans (hb1.mono HB0.out.size))
  have HR1 := hide (own_rd o1 (fun _ => rfl))
  have HS := hide (strF_len N E d)
  have HF0 : Hid (blkF N E d land = if (strF N E d).2 ≠ 0 then ([], (strF N E d).2) else if (joinF hSub land (strF N E d).1).2 ≠ 0 then ([], (joinF hSub land (strF N E d).1).2) else partsE (joinF hSub land (strF N E d).1).1) := hide rfl
  clear o1 hb1
  generalize strF N E d = F at *
  by_cases h0 : F.2 = 0
  · have HF1 : Hid (blkF N E d land = if (joinF hSub land F.1).2 ≠ 0 then ([], (joinF hSub land F.1).2) else partsE (joinF hSub land F.1).1) := hide (by rw [HF0.out, if_neg (fun h => h h0)])
    rw [h0]
    clear HF0 h0
    go_wp2_with (fail)
    refine (minus_any ((HA.out.below HB1.out).mono HB1.out.size) HR1.out HNA.out (Nat.le_trans HS.out (by omega))).mono ?_
    rintro e w2 ⟨⟨A2, c2, rfl, o2⟩, hb2⟩
    have HB2 := hide (HB1.out.trans (hb2.mono HB1.out.size))
    have HR2 := hide (own_rd o2 (fun _ => rfl))
    have HJ := hide (joinF_len hSub land F.1)
    clear o2 hb2
    generalize joinF hSub land F.1 = J at *
    by_cases h1 : J.2 = 0
    · have HF2 : Hid (blkF N E d land = partsE J.1) := hide (by rw [HF1.out, if_neg (fun h => h h1)])
      rw [h1]
      clear HF1 h1
      go_wp2_with (fail)
      refine (parts_any HR2.out (Nat.le_trans HJ.out (by omega))).mono ?_
      rintro e w3 ⟨⟨A3, c3, vs, rfl, o3, k3⟩, hb3⟩
      have HB3 := hide (HB2.out.trans (hb3.mono HB2.out.size))
      have HO3 : Hid (RegsRet w.heap.size (blkF N E d land) (.returned (.tuple #[.slice A3 (partsE J.1).1.length c3, .int .i64 (partsE J.1).2])) w3) := hide (by
        rw [HF2.out]
        refine ⟨A3, c3, vs, rfl, own_base o3 HB2.out.size, fun i r h => ?_⟩
        obtain ⟨v, h1, h2⟩ := k3 i r h
        exact ⟨v, h1, own_base h2 HB2.out.size⟩)
      clear o3 k3 hb3
      generalize partsE J.1 = P at *
      go_wp2
      go_ret2
      exact ⟨HO3.out, HB3.out⟩
    · have hz : (J.2 != 0) = true := by simpa using h1
      have HF2 : Hid (blkF N E d land = ([], J.2)) := hide (by rw [HF1.out, if_pos h1])
      clear HF1 h1
      go_wp2
      go_ret2
      exact ⟨by rw [HF2.out]; exact regs_nil _ _ _, HB2.out⟩
  · have hz : (F.2 != 0) = true := by simpa using h0
    have HF1 : Hid (blkF N E d land = ([], F.2)) := hide (by rw [HF0.out, if_pos h0])
    clear HF0 h0
    go_wp2
    go_ret2
    exact ⟨by rw [HF1.out]; exact regs_nil _ _ _, HB1.out⟩
end Go.Proofs.YtdolpeljengpaaaGreat

/- Plain: who points where among the nodes of a network, and the first one of each part. -/
namespace Go.Proofs.YtdolpeljengpaaaGreat
set_option linter.unusedVariables false
set_option linter.unusedSimpArgs false

def fset (f : Nat → Option Nat) (b a : Nat) : Nat → Option Nat := fun i => if i = b then some a else f i
/-- What points somewhere points into its own part, and ever lower; what points nowhere is its part's label. -/
structure FOK (n : Nat) (f : Nat → Option Nat) (L : List Nat) (r : Nat → Nat) : Prop where
  rk : ∀ i j, i < n → f i = some j → j < n ∧ r j < r i ∧ lb L j = lb L i
  root : ∀ i, i < n → f i = none → lb L i = i
theorem FOK.start (n : Nat) : FOK n (fun _ => none) (List.range n) (fun _ => 0) :=
  ⟨fun i j _ h => by simp at h, fun i hi _ => by
    unfold lb
    rw [List.getD_eq_getElem?_getD, List.getElem?_range hi]
    rfl⟩
theorem FOK.step {n m : Nat} {f : Nat → Option Nat} {L : List Nat} {r : Nat → Nat} (h : FOK n f L r) (hc : CompOK n L m) {a b : Nat} (ha : a < n) (hb : b < n) (hne : lb L a ≠ lb L b) :
    FOK n (fset f (lb L b) (lb L a)) (joinLb L (lb L a) (lb L b)) (fun i => if lb L i = lb L b then r i + (r (lb L a) + 1) else r i) := by
  have hj : ∀ i, i < n → lb (joinLb L (lb L a) (lb L b)) i = if lb L i = lb L b then lb L a else lb L i := fun i hi => lb_join (by rw [hc.len]; exact hi)
  have la := hc.lt _ ha
  have lbb := hc.lt _ hb
  have ia := hc.idem _ ha
  have ib := hc.idem _ hb
  refine ⟨fun i j hi hf => ?_, fun i hi hf => ?_⟩
  · unfold fset at hf
    by_cases e : i = lb L b
    · rw [if_pos e] at hf
      injection hf with hf
      subst hf
      subst e
      refine ⟨la, ?_, ?_⟩
      · simp only [ia, ib, if_neg hne, if_true]
        omega
      · rw [hj _ la, hj _ hi, ia, ib, if_neg hne, if_pos rfl]
    · rw [if_neg e] at hf
      obtain ⟨h1, h2, h3⟩ := h.rk i j hi hf
      refine ⟨h1, ?_, ?_⟩
      · simp only [h3]
        split <;> omega
      · rw [hj _ h1, hj _ hi, h3]
  · unfold fset at hf
    by_cases e : i = lb L b
    · rw [if_pos e] at hf
      simp at hf
    · rw [if_neg e] at hf
      have := h.root i hi hf
      rw [hj _ hi, this, if_neg e]
/-- As many steps of the code's loop have been made: the labels and the number of parts. -/
def compI (n : Nat) (E : List Ed) (m : Nat) : List Nat × Nat := compF n (E.take m)
end Go.Proofs.YtdolpeljengpaaaGreat

/- block.Parts, block.Loops: the walks. -/
namespace Go.Proofs.YtdolpeljengpaaaGreat
open Go.RowKit Go.Maps
set_option linter.unusedVariables false
set_option linter.unusedSimpArgs false

/-- Block b maps each node i that points somewhere to where it points. -/
def PM (b n : Nat) (f : Nat → Option Nat) (w : World) : Prop := ∃ D : DataW Unit, w.ownsMap Tryz.prog 3 (plainElem Tryz.prog 3) b n D ∧ ∀ k : Nat, Maps.has D (.int .i64 (k : Int)) = (f k).isSome ∧ D.atKey (.int .i64 (k : Int)) (.lit (.int .i64 0)) = .lit (.int .i64 (((f k).getD 0 : Nat) : Int))
theorem PM.made (w : World) : PM w.heap.size 0 (fun _ => none) (w.alloc (.map #[] 0)) := ⟨.map [], World.ownsMap_made w _ _ _, fun k => ⟨rfl, rfl⟩⟩
theorem PM.grown {b n : Nat} {f : Nat → Option Nat} {w w' : World} (h : PM b n f w) {row : Option Nat} (hg : w.grownBy w' row) (h1 : some b ≠ row) : PM b n f w' := by
  obtain ⟨D, d1, d2⟩ := h
  exact ⟨D, d1.kept hg h1, d2⟩
theorem PM.below {b n : Nat} {f : Nat → Option Nat} {w w' : World} (h : PM b n f w) (hb : Below w.heap.size w w') : PM b n f w' := h.grown (below_grow hb) (by simp)
theorem PM.lt {b n : Nat} {f : Nat → Option Nat} {w : World} (h : PM b n f w) : b < w.heap.size := by
  obtain ⟨D, d1, _⟩ := h
  exact d1.lt
theorem PM.look {b n : Nat} {f : Nat → Option Nat} {w : World} (h : PM b n f w) {k : Nat} (hk : k ≤ 1000000) : (Instr.lookup 105 (.map (some b)) (.int .i64 (k : Int)) true).run Tryz.prog w = .ok (.tuple #[.int .i64 (((f k).getD 0 : Nat) : Int), .bool (f k).isSome]) w := by
  obtain ⟨D, d1, d2⟩ := h
  obtain ⟨v, ps, hrun, hat⟩ := d1.look_ok lawIS Tryz.underlying105 (zeroI w) (plainElem_int Tryz.underlying3 (by decide)) (keyI (k := (k : Int)) (by unfold okK; omega))
  obtain ⟨c, rfl, hc, hwc⟩ := plainElem_int_inv Tryz.underlying3 hat
  simp only [Prod.mk.injEq] at hc
  obtain ⟨q1, q2⟩ := d2 k
  rw [q2] at hc
  rw [litInj hc.1, ← q1]
  exact hrun
theorem PM.store {b n : Nat} {f : Nat → Option Nat} {w : World} (h : PM b n f w) {k v : Nat} (hk : k ≤ 1000000) (hv : v ≤ 1000000) (hn : n < maxLen) :
    ∃ w', (Instr.mapUpdate 105 (.map (some b)) (.int .i64 (k : Int)) (.int .i64 (v : Int))).run Tryz.prog w = .ok () w' ∧ w.grownBy w' (some b) ∧ PM b (n + 1) (fset f k v) w' := by
  obtain ⟨D, d1, d2⟩ := h
  have hkk := keyI (k := (k : Int)) (by unfold okK; omega)
  obtain ⟨w', hrun, o3, g3⟩ := d1.update lawIS Tryz.underlying105 hn hkk (plainElem_int Tryz.underlying3 (WalkArith.wf_i64 (by omega)) (a := (v : Int)))
  refine ⟨w', hrun, g3, _, o3, fun k' => ?_⟩
  unfold fset
  by_cases e : k' = k
  · subst e
    simp only [if_true]
    rw [atKey_put_same d1.isMap (lawIS.key hkk), has_put_same d1.isMap (lawIS.key hkk)]
    exact ⟨rfl, rfl⟩
  · simp only [if_neg e]
    have hne : (Lit.int .i64 (k' : Int)) ≠ .int .i64 (k : Int) := fun e2 => by
      injection e2 with _ e2
      omega
    rw [atKey_put_other hne, has_put_other hne]
    exact d2 k'
/-- What Parts gives. -/
def prtF (N : List Pt) (E : List Ei) : Int × Int := if chkN N E = 0 then ((partsN (segsI N E) : Nat), 0) else (0, chkN N E)
/-- The state of the loop over the edges: the box of the network, the map behind its box. -/
structure Pst (w wr : World) (H m : Nat) (f : Nat → Option Nat) (ev : Value) : Prop where
  low : Below w.heap.size w wr
  c1 : wr.cell? ⟨w.heap.size, 1, none⟩ = some ev
  ct : wr.cell? ⟨H + 1, 0, none⟩ = some (.map (some H))
  pm : PM H m f wr
  lt : w.heap.size < H
  sz : H + 2 ≤ wr.heap.size
theorem Pst.below {w wr w' : World} {H m : Nat} {f : Nat → Option Nat} {ev : Value} (h : Pst w wr H m f ev) (hb : Below wr.heap.size wr w') : Pst w w' H m f ev := by
  have h1 := h.lt
  have h2 := h.sz
  exact ⟨h.low.trans (hb.mono h.low.size), (hb.cell (p := ⟨_, 1, none⟩) (by simp only; omega)).trans h.c1, (hb.cell (p := ⟨H + 1, 0, none⟩) (by simp only; omega)).trans h.ct, h.pm.below hb, h.lt, Nat.le_trans h2 hb.size⟩
theorem Pst.put {w wr : World} {H m : Nat} {f : Nat → Option Nat} {ev : Value} (h : Pst w wr H m f ev) {a b : Nat} (ha : a ≤ 1000000) (hb : b ≤ 1000000) (hm : m ≤ 1000000) :
    ∃ w', (Instr.mapUpdate 105 (.map (some H)) (.int .i64 (b : Int)) (.int .i64 (a : Int))).run Tryz.prog wr = .ok () w' ∧ Pst w w' H (m + 1) (fset f b a) ev := by
  obtain ⟨w', hrun, hg, hp⟩ := h.pm.store (k := b) (v := a) hb ha (by unfold maxLen; omega)
  have h1 := h.lt
  have h2 := h.sz
  have hs := hg.size
  refine ⟨w', hrun, h.low.grown hg h.low.size (fun q hq => by injection hq with hq; omega), (cell_grow hg (by omega) (fun e => by injection e with e; omega)).trans h.c1, (cell_grow hg (by omega) (fun e => by injection e with e; omega)).trans h.ct, hp, h.lt, by omega⟩
theorem Pst.start {w w1 : World} {ev : Value} (hb : Below w.heap.size w w1) (hlt : w.heap.size < w1.heap.size) (hc : w1.cell? ⟨w.heap.size, 1, none⟩ = some ev) {w2 : World} {t : TypeId} (hw : w2 = ((w1.alloc (.map #[] 0)).alloc (.cells #[.map (some w1.heap.size)] t))) : Pst w w2 w1.heap.size 0 (fun _ => none) ev := by
  have hb1 : Below w1.heap.size w1 w2 := by
    rw [hw]
    exact ((Below.refl _ _).alloc (Nat.le_refl _) _).alloc (by simp) _
  have e1 : (w1.alloc (.map #[] 0)).heap.size = w1.heap.size + 1 := by simp
  have hb2 : Below (w1.alloc (.map #[] 0)).heap.size (w1.alloc (.map #[] 0)) w2 := by
    rw [hw]
    exact (Below.refl _ _).alloc (Nat.le_refl _) _
  refine ⟨hb.trans (hb1.mono hb.size), (hb1.cell (p := ⟨w.heap.size, 1, none⟩) hlt).trans hc, ?_, (PM.made w1).below hb2, hlt, by rw [hw]; simp⟩
  rw [hw]
  simp [go_sem]
/-- What Loops gives. -/
def lopF (N : List Pt) (E : List Ei) : Int × Int := if (prtF N E).2 = 0 then ((E.length : Int) - N.length + (prtF N E).1, 0) else (0, (prtF N E).2)
end Go.Proofs.YtdolpeljengpaaaGreat

/- The reference's In (33) and Valid (34): what is a segment. -/
namespace Go.Proofs.YtdolpeljengpaaaGreat
open Go.RowKit
set_option linter.unusedVariables false
set_option linter.unusedSimpArgs false

set_option maxHeartbeats 4000000 in
theorem rIn33_any (x y : Int) (w : World) :
    Calls Tryz.prog 49 #[.agg #[.int .i64 x, .int .i64 y]] w fun e w' => e = .returned (.bool (decide (finS x) && decide (finS y))) ∧ Below w.heap.size w w' := by
  have hb : Below w.heap.size w (w.alloc (.cells #[.int .i64 x, .int .i64 y] 51)) := (Below.refl _ _).alloc (Nat.le_refl _) _
  have HB := hide hb
  clear hb
  by_cases t0 : -1000000 ≤ x
  · by_cases t1 : x ≤ 1000000
    · by_cases t2 : -1000000 ≤ y
      · by_cases t3 : y ≤ 1000000
        · have b0 : decide (-1000000 ≤ x) = true := decide_eq_true t0
          have b1 : decide (x ≤ 1000000) = true := decide_eq_true t1
          have b2 : decide (-1000000 ≤ y) = true := decide_eq_true t2
          have b3 : decide (y ≤ 1000000) = true := decide_eq_true t3
          have HT := hide (((⟨t0, t1, t2, t3⟩ : (-1000000 ≤ x) ∧ (x ≤ 1000000) ∧ (-1000000 ≤ y) ∧ (y ≤ 1000000))))
          clear t0 t1 t2 t3
          go_enter Tryz.func49, Tryz.ntmps49
          go_wp2
          go_ret
          refine ⟨ret_eq (bool_eq ?_), HB.out⟩
          have hT := HT.out
          rw [decide_eq_true (show finS x by unfold finS; omega), decide_eq_true (show finS y by unfold finS; omega)]
          rfl
        · have b0 : decide (-1000000 ≤ x) = true := decide_eq_true t0
          have b1 : decide (x ≤ 1000000) = true := decide_eq_true t1
          have b2 : decide (-1000000 ≤ y) = true := decide_eq_true t2
          have b3 : decide (y ≤ 1000000) = false := decide_eq_false t3
          have HT := hide (((⟨t0, t1, t2, t3⟩ : (-1000000 ≤ x) ∧ (x ≤ 1000000) ∧ (-1000000 ≤ y) ∧ ¬ (y ≤ 1000000))))
          clear t0 t1 t2 t3
          go_enter Tryz.func49, Tryz.ntmps49
          go_wp2
          go_ret
          refine ⟨ret_eq (bool_eq ?_), HB.out⟩
          have hT := HT.out
          symm
          rw [Bool.and_eq_false_iff, decide_eq_false_iff_not, decide_eq_false_iff_not]
          unfold finS
          omega
      · have b0 : decide (-1000000 ≤ x) = true := decide_eq_true t0
        have b1 : decide (x ≤ 1000000) = true := decide_eq_true t1
        have b2 : decide (-1000000 ≤ y) = false := decide_eq_false t2
        have HT := hide (((⟨t0, t1, t2⟩ : (-1000000 ≤ x) ∧ (x ≤ 1000000) ∧ ¬ (-1000000 ≤ y))))
        clear t0 t1 t2
        go_enter Tryz.func49, Tryz.ntmps49
        go_wp2
        go_ret
        refine ⟨ret_eq (bool_eq ?_), HB.out⟩
        have hT := HT.out
        symm
        rw [Bool.and_eq_false_iff, decide_eq_false_iff_not, decide_eq_false_iff_not]
        unfold finS
        omega
    · have b0 : decide (-1000000 ≤ x) = true := decide_eq_true t0
      have b1 : decide (x ≤ 1000000) = false := decide_eq_false t1
      have HT := hide (((⟨t0, t1⟩ : (-1000000 ≤ x) ∧ ¬ (x ≤ 1000000))))
      clear t0 t1
      go_enter Tryz.func49, Tryz.ntmps49
      go_wp2
      go_ret
      refine ⟨ret_eq (bool_eq ?_), HB.out⟩
      have hT := HT.out
      symm
      rw [Bool.and_eq_false_iff, decide_eq_false_iff_not, decide_eq_false_iff_not]
      unfold finS
      omega
  · have b0 : decide (-1000000 ≤ x) = false := decide_eq_false t0
    have HT := hide ((t0 : ¬ (-1000000 ≤ x)))
    clear t0
    go_enter Tryz.func49, Tryz.ntmps49
    go_wp2
    go_ret
    refine ⟨ret_eq (bool_eq ?_), HB.out⟩
    have hT := HT.out
    symm
    rw [Bool.and_eq_false_iff, decide_eq_false_iff_not, decide_eq_false_iff_not]
    unfold finS
    omega
set_option maxHeartbeats 8000000 in
theorem rSegValid_any (s : Sg) (w : World) :
    Calls Tryz.prog 27 #[.agg #[.int .i64 s.ax, .int .i64 s.ay, .int .i64 s.cx, .int .i64 s.cy]] w fun e w' => e = .returned (.bool (decide (okSg s))) ∧ Below w.heap.size w w' := by
  obtain ⟨a, b, c, d⟩ := s
  have hv : decide (okSg ⟨a, b, c, d⟩) = ((decide (finS a) && decide (finS b)) && (decide (finS c) && decide (finS d)) && (decide (a = c) != decide (b = d))) := by
    rw [Bool.eq_iff_iff, decide_eq_true_iff]
    unfold okSg
    by_cases h1 : a = c <;> by_cases h2 : b = d <;> simp [h1, h2, and_assoc]
  rw [hv]
  clear hv
  simp only
  have g : Tryz.prog.eqGuardType Tryz.prog.depth 51 = false := by kernel_rfl
  have ha := fun W => rIn33_any a b W
  have hc := fun W => rIn33_any c d W
  generalize (decide (finS a) && decide (finS b)) = f at *
  generalize (decide (finS c) && decide (finS d)) = k at *
  have HA := hide ha
  have HC := hide hc
  clear ha hc
  by_cases t1 : a = c <;> by_cases t2 : b = d
  · subst t1
    subst t2
    go_enter Tryz.func27, Tryz.ntmps27
    go_wp2
    go_ret
    exact ⟨ret_eq (bool_eq (by cases f <;> cases k <;> simp)), ((Below.refl _ _).alloc (Nat.le_refl _) _ : Below w.heap.size w (w.alloc (.cells #[.int .i64 a, .int .i64 b, .int .i64 a, .int .i64 b] 53)))⟩
  · subst t1
    have u2 : (b == d) = false := by simpa using t2
    have hd2 : decide (b = d) = false := decide_eq_false t2
    rw [hd2]
    have hba := ((Below.refl _ _).alloc (Nat.le_refl _) _ : Below w.heap.size w (w.alloc (.cells #[.int .i64 a, .int .i64 b, .int .i64 a, .int .i64 d] 53)))
    have HBA := hide hba
    clear hba
    cases f
    · go_enter Tryz.func27, Tryz.ntmps27
      go_wp2_with (fail)
      refine (HA.out _).mono ?_
      rintro e w1 ⟨rfl, hb1⟩
      have HB1 := hide (HBA.out.trans (hb1.mono HBA.out.size))
      clear hb1
      go_wp2
      go_ret
      exact ⟨ret_eq (bool_eq (by cases k <;> simp)), HB1.out⟩
    · go_enter Tryz.func27, Tryz.ntmps27
      go_wp2_with (fail)
      refine (HA.out _).mono ?_
      rintro e w1 ⟨rfl, hb1⟩
      have HB1 := hide (HBA.out.trans (hb1.mono HBA.out.size))
      have k2 := (hb1.cell (p := ⟨w.heap.size, 2, none⟩) (by simp)).trans (show (w.alloc (.cells #[.int .i64 a, .int .i64 b, .int .i64 a, .int .i64 d] 53)).cell? ⟨w.heap.size, 2, none⟩ = some (.int .i64 a) by simp [go_sem])
      have k3 := (hb1.cell (p := ⟨w.heap.size, 3, none⟩) (by simp)).trans (show (w.alloc (.cells #[.int .i64 a, .int .i64 b, .int .i64 a, .int .i64 d] 53)).cell? ⟨w.heap.size, 3, none⟩ = some (.int .i64 d) by simp [go_sem])
      clear hb1
      go_wp2_with (fail)
      refine (HC.out _).mono ?_
      rintro e w2 ⟨rfl, hb2⟩
      have HB2 := hide (HB1.out.trans (hb2.mono HB1.out.size))
      clear hb2 k2 k3
      go_wp2
      go_ret
      exact ⟨ret_eq (bool_eq (by cases k <;> simp)), HB2.out⟩
  · have u1 : (a == c) = false := by simpa using t1
    have hd1 : decide (a = c) = false := decide_eq_false t1
    rw [hd1]
    subst t2
    have hba := ((Below.refl _ _).alloc (Nat.le_refl _) _ : Below w.heap.size w (w.alloc (.cells #[.int .i64 a, .int .i64 b, .int .i64 c, .int .i64 b] 53)))
    have HBA := hide hba
    clear hba
    cases f
    · go_enter Tryz.func27, Tryz.ntmps27
      go_wp2_with (fail)
      refine (HA.out _).mono ?_
      rintro e w1 ⟨rfl, hb1⟩
      have HB1 := hide (HBA.out.trans (hb1.mono HBA.out.size))
      clear hb1
      go_wp2
      go_ret
      exact ⟨ret_eq (bool_eq (by cases k <;> simp)), HB1.out⟩
    · go_enter Tryz.func27, Tryz.ntmps27
      go_wp2_with (fail)
      refine (HA.out _).mono ?_
      rintro e w1 ⟨rfl, hb1⟩
      have HB1 := hide (HBA.out.trans (hb1.mono HBA.out.size))
      have k2 := (hb1.cell (p := ⟨w.heap.size, 2, none⟩) (by simp)).trans (show (w.alloc (.cells #[.int .i64 a, .int .i64 b, .int .i64 c, .int .i64 b] 53)).cell? ⟨w.heap.size, 2, none⟩ = some (.int .i64 c) by simp [go_sem])
      have k3 := (hb1.cell (p := ⟨w.heap.size, 3, none⟩) (by simp)).trans (show (w.alloc (.cells #[.int .i64 a, .int .i64 b, .int .i64 c, .int .i64 b] 53)).cell? ⟨w.heap.size, 3, none⟩ = some (.int .i64 b) by simp [go_sem])
      clear hb1
      go_wp2_with (fail)
      refine (HC.out _).mono ?_
      rintro e w2 ⟨rfl, hb2⟩
      have HB2 := hide (HB1.out.trans (hb2.mono HB1.out.size))
      clear hb2 k2 k3
      go_wp2
      go_ret
      exact ⟨ret_eq (bool_eq (by cases k <;> simp)), HB2.out⟩
  · have u1 : (a == c) = false := by simpa using t1
    have hd1 : decide (a = c) = false := decide_eq_false t1
    rw [hd1]
    have u2 : (b == d) = false := by simpa using t2
    have hd2 : decide (b = d) = false := decide_eq_false t2
    rw [hd2]
    go_enter Tryz.func27, Tryz.ntmps27
    go_wp2
    go_ret
    exact ⟨ret_eq (bool_eq (by cases f <;> cases k <;> simp)), ((Below.refl _ _).alloc (Nat.le_refl _) _ : Below w.heap.size w (w.alloc (.cells #[.int .i64 a, .int .i64 b, .int .i64 c, .int .i64 d] 53)))⟩
end Go.Proofs.YtdolpeljengpaaaGreat

/- law.go of chapter 35: valid segments; square, land and small. -/
namespace Go.Proofs.YtdolpeljengpaaaGreat
open Go.RowKit
set_option linter.unusedVariables false
set_option linter.unusedSimpArgs false

theorem run_max8 {P : Program} (w : World) (ts : Array TypeId) (t : TypeId) (a b c d e f g h : Int) : (Builtin.max_ ts t #[.int .i64 a, .int .i64 b, .int .i64 c, .int .i64 d, .int .i64 e, .int .i64 f, .int .i64 g, .int .i64 h]).run P w = .ok (.int .i64 (max (max (max (max (max (max (max a b) c) d) e) f) g) h)) w := by
  have k : ∀ x y : Int, (if y > x then y else x) = max x y := fun x y => by
    by_cases h : y > x
    · rw [if_pos h]; omega
    · rw [if_neg h]; omega
  have k2 : ∀ (x y : Int) (v : World), Sem.run P (Builtin.max2 (.int .i64 x) (.int .i64 y)) v = .ok (.int .i64 (max x y)) v := fun x y v => by simp [Builtin.max2, k]
  simp only [Builtin.max_]
  simp [k2, Int.max_assoc]
/-- A segment near the origin. -/
def near35 (s : Sg) : Prop := okSg s ∧ (-100 ≤ s.ax ∧ s.ax ≤ 100) ∧ (-100 ≤ s.ay ∧ s.ay ≤ 100) ∧ (-100 ≤ s.cx ∧ s.cx ≤ 100) ∧ (-100 ≤ s.cy ∧ s.cy ≤ 100)
instance (s : Sg) : Decidable (near35 s) := by unfold near35; infer_instance
def val35 (l : List Sg) : Bool := decide ((∀ s ∈ l, near35 s) ∧ l.length ≤ 12)
def far8 (s : Sg) : Int := max (max (max (max (max (max (max s.ax (IntKind.i64.wrap (-s.ax))) s.ay) (IntKind.i64.wrap (-s.ay))) s.cx) (IntKind.i64.wrap (-s.cx))) s.cy) (IntKind.i64.wrap (-s.cy))
/-- The network of a square. -/
def sqN (n : Int) : List Pt := [(0, 0), (0, n), (n, 0), (n, n)]
def sqE : List Ei := [(0, 1), (0, 2), (1, 3), (2, 3)]
end Go.Proofs.YtdolpeljengpaaaGreat

/- The numbers of parts and loops of networks that street.Make lays. -/
namespace Go.Proofs.YtdolpeljengpaaaGreat
open Go.RowKit
set_option linter.unusedVariables false
set_option linter.unusedSimpArgs false

theorem near_ok {l : List Sg} (h : ∀ s ∈ l, near35 s) : ∀ s ∈ l, okSg s := fun s hs => (h s hs).1
theorem few35 {l : List Sg} (hv : ∀ s ∈ l, okSg s) (h12 : l.length ≤ 12) : (nodesF l).length ≤ 168 := by
  have h := nodes_len hv
  have h2 : l.length * l.length ≤ 12 * 12 := Nat.mul_le_mul h12 h12
  omega
theorem made35 {l : List Sg} (hv : ∀ s ∈ l, okSg s) (h12 : l.length ≤ 12) : madeN l = 0 := by
  have := few35 hv h12
  unfold madeN
  rw [if_neg (by omega), if_neg (fun h => h hv), if_neg (by omega)]
def lopN (l : List Sg) : Int := ((edgesF l).length : Int) - (nodesF l).length + (partsN l : Nat)
/-- street.Make of a few segments. -/
theorem make35_any {w : World} {v : Value} {l : List Sg} (hr : RdK encSg 4 w w.heap.size v l) (hv : ∀ s ∈ l, okSg s) (h12 : l.length ≤ 12) :
    Calls Tryz.prog 23 #[v] w fun e w' => (∃ nv ev, e = .returned (.tuple #[.agg #[nv, ev], .int .i64 0]) ∧ RdK encS 2 w' w'.heap.size nv (nodesF l) ∧ RdK encS 2 w' w'.heap.size ev (edI (edgesF l))) ∧ Below w.heap.size w w' := by
  refine (Make_any hr).mono ?_
  rintro e w' ⟨⟨nv, ev, he, h1, _⟩, hb⟩
  have h0 := made35 hv h12
  rw [h0] at he
  obtain ⟨o1, o2⟩ := h1 h0
  exact ⟨⟨nv, ev, he, own_rd o1 (fun _ => rfl), own_rd o2 (fun _ => rfl)⟩, hb⟩
/-- The first m segments, turned. -/
def firstSg (f : Sg → Sg) (l : List Sg) (m : Nat) : List Sg := (l.take m).map f
/-- The box of a network. -/
def NetAt (b : Nat) (nv ev : Value) (W : World) : Prop := b < W.heap.size ∧ W.cell? ⟨b, 0, none⟩ = some nv ∧ W.cell? ⟨b, 1, none⟩ = some ev
theorem NetAt.keep {b : Nat} {nv ev : Value} {W W' : World} (h : NetAt b nv ev W) (hb : Below W.heap.size W W') : NetAt b nv ev W' := ⟨Nat.lt_of_lt_of_le h.1 hb.size, (hb.cell (p := ⟨b, 0, none⟩) h.1).trans h.2.1, (hb.cell (p := ⟨b, 1, none⟩) h.1).trans h.2.2⟩
theorem calls_nm {P : Program} {F : Nat} {A : Array Value} {W : World} {Q : Ending → World → Prop} (h : ∀ w, w = W → Calls P F A w Q) : Calls P F A W Q := h W rfl
end Go.Proofs.YtdolpeljengpaaaGreat

/- Plain: the blocks of a piece of land and the streets on it: disjoint, and the land together. -/
namespace Go.Proofs.YtdolpeljengpaaaGreat
open Go.RowKit
set_option linter.unusedVariables false
set_option linter.unusedSimpArgs false

/-- What has been laid together: the streets' part and the first parts of the rest. -/
structure FillI (O R A : List R4) (n : Nat) : Prop where
  chk : checkF A = 0
  pts : ∀ x y, pmem A x y ↔ pmem O x y ∨ pmem (partU R n) x y
/-- The land, the streets, what they share, what is left. -/
structure FillH (P S O R : List R4) : Prop where
  p : checkF P = 0
  s : checkF S = 0
  o : joinF hAnd P S = (O, 0)
  r : joinF hSub P S = (R, 0)
section
variable {P S O R A : List R4} {n q : Nat}
theorem FillH.ochk (h : FillH P S O R) : checkF O = 0 := (joinZero rfl h.p h.s h.o).1
theorem FillH.rchk (h : FillH P S O R) : checkF R = 0 := (joinZero rfl h.p h.s h.r).1
theorem FillH.opts (h : FillH P S O R) (x y : Int) : pmem O x y ↔ pmem P x y ∧ pmem S x y := ((joinZero rfl h.p h.s h.o).2.2 x y).trans andP
theorem FillH.rpts (h : FillH P S O R) (x y : Int) : pmem R x y ↔ pmem P x y ∧ ¬ pmem S x y := ((joinZero rfl h.p h.s h.r).2.2 x y).trans subP
theorem FillH.start (h : FillH P S O R) : FillI O R O 0 := ⟨h.ochk, fun x y => by rw [partU_zero h.rchk]; simp [pmem_nil]⟩
theorem part_in (h : FillH P S O R) {x y : Int} (hp : pmem (partJ R q) x y) : pmem R x y := by
  obtain ⟨j, s, _, h2, h3⟩ := (partJ_pts h.rchk q x y).1 hp
  exact ⟨s, List.mem_of_getElem? h2, h3⟩
theorem FillI.next (h : FillH P S O R) (hA : FillI O R A n) (hn : n ≤ q) (hb : ∀ j, n ≤ j → j < q → mn R j ≠ j) :
    joinF hOr A (partJ R q) = ([], 4) ∨ ∃ A', joinF hOr A (partJ R q) = (A', 0) ∧ FillI O R A' (q + 1) ∧ areaS A' = areaS A + areaS (partJ R q) := by
  have kj := partJ_check h.rchk q
  rcases joinTwo (h := hOr) rfl hA.chk kj with e | ⟨A', e, k, _, hp⟩
  · exact .inl e
  · have hp2 : ∀ x y, pmem A' x y ↔ pmem A x y ∨ pmem (partJ R q) x y := fun x y => (hp x y).trans orP
    refine .inr ⟨A', e, ⟨k, fun x y => ?_⟩, ?_⟩
    · have hs := (joinZero rfl (partU_check h.rchk n) kj (partU_step h.rchk hn hb)).2.2 x y
      rw [hp2, hA.pts, hs, orP, or_assoc]
    · have hsum := area_sum hA.chk kj k check_nil hp2 (fun x y => by
        constructor
        · intro e; exact absurd e pmem_nil
        · rintro ⟨h1, h2⟩
          exfalso
          rcases (hA.pts x y).1 h1 with h1 | h1
          · exact ((h.rpts x y).1 (part_in h h2)).2 ((h.opts x y).1 h1).2
          · obtain ⟨j, s, a1, a2, a3⟩ := (partU_pts h.rchk n x y).1 h1
            obtain ⟨i, t, b1, b2, b3⟩ := (partJ_pts h.rchk q x y).1 h2
            by_cases e : j = i
            · subst e; omega
            · exact apart_at (check_rcan h.rchk).apart a2 b2 e x y ⟨a3, b3⟩)
      have h0 : areaS [] = 0 := rfl
      omega
theorem FillI.done (h : FillH P S O R) (hA : FillI O R A n) (hn : ∀ j, n ≤ j → j < R.length → mn R j ≠ j) : A = P := by
  refine can_eq hA.chk h.p fun x y => ?_
  rw [hA.pts, partU_all h.rchk hn, h.opts, h.rpts]
  by_cases hs : pmem S x y <;> simp [hs]
end
/-- The streets of a few segments. -/
theorem node_near {l : List Sg} (hv : ∀ s ∈ l, okSg s) (h : ∀ s ∈ l, near35 s) {p : Pt} (hp : p ∈ nodesF l) : (-100 ≤ p.1 ∧ p.1 ≤ 100) ∧ -100 ≤ p.2 ∧ p.2 ≤ 100 := by
  obtain ⟨x, y⟩ := p
  obtain ⟨h1, h2, _⟩ := node_in hv ((nodesF_ok hv).2 _ |>.1 hp)
  unfold xsOf at h1
  unfold ysOf at h2
  obtain ⟨s, hs, h1⟩ := List.mem_flatMap.1 h1
  obtain ⟨t, ht, h2⟩ := List.mem_flatMap.1 h2
  obtain ⟨_, a1, a2, a3, a4⟩ := h s hs
  obtain ⟨_, b1, b2, b3, b4⟩ := h t ht
  simp only [List.mem_cons, List.not_mem_nil, or_false] at h1 h2
  simp only
  constructor
  · rcases h1 with rfl | rfl <;> omega
  · rcases h2 with rfl | rfl <;> omega
theorem str_made {l : List Sg} (h : ∀ s ∈ l, near35 s) (h12 : l.length ≤ 12) {d : Int} (d1 : 1 ≤ d) (d2 : d ≤ 1000) : ∃ S, strF (nodesF l) (edI (edgesF l)) d = (S, 0) ∧ checkF S = 0 ∧ ∀ x y, pmem S x y ↔ pmem (l.map (thickS d)) x y := by
  have hv := near_ok h
  have hf := few35 hv h12
  have hck := made_chk hv (by omega)
  have he := edges_len (htB l) (vtB l) (nodesF l)
  have he2 : (edI (edgesF l)).length ≤ 336 := by
    unfold edI
    rw [List.length_map]
    show (edgesG (htB l) (vtB l) (nodesF l)).length ≤ 336
    omega
  have hbd : ∀ s ∈ segsI (nodesF l) (edI (edgesF l)), (-100 ≤ s.ax ∧ s.ax ≤ 100) ∧ (-100 ≤ s.ay ∧ s.ay ≤ 100) ∧ (-100 ≤ s.cx ∧ s.cx ≤ 100) ∧ (-100 ≤ s.cy ∧ s.cy ≤ 100) := fun s hs => by
    rw [segs_drawn] at hs
    obtain ⟨e, he, rfl⟩ := List.mem_map.1 hs
    obtain ⟨e1, e2, _⟩ := (net_ok hv).edge_two he
    have n1 := node_near hv h (nd_mem (N := nodesF l) (i := e.1) (by omega))
    have n2 := node_near hv h (nd_mem (N := nodesF l) (i := e.2) e2)
    unfold sgOf
    simp only
    exact ⟨n1.1, n1.2, n2.1, n2.2⟩
  have hfit : ∀ s ∈ segsI (nodesF l) (edI (edgesF l)), fitR (thickS d s) := fun s hs => by
    have := hbd s hs
    unfold fitR thickS
    simp only
    omega
  have hval : ∀ r ∈ (segsI (nodesF l) (edI (edgesF l))).map (thickS d), valid4 r := fun r hr => by
    obtain ⟨s, hs, rfl⟩ := List.mem_map.1 hr
    have := hbd s hs
    unfold thickS valid4 fineP
    simp only
    omega
  have hE : strF (nodesF l) (edI (edgesF l)) d = makeF ((segsI (nodesF l) (edI (edgesF l))).map (thickS d)) := by
    unfold strF
    rw [if_neg (fun x => x hck), if_neg (by omega), if_neg (by omega), if_neg (fun x => x hfit)]
  obtain ⟨c1, c2⟩ := rjoin_ok (h := hFst) rfl (a := (segsI (nodesF l) (edI (edgesF l))).map (thickS d)) (fun r hr => ⟨(hval r hr).1, (hval r hr).2.1⟩) (b := []) (by simp)
  have hp : ∀ x y, pmem (rjoin hFst ((segsI (nodesF l) (edI (edgesF l))).map (thickS d)) []) x y ↔ pmem (l.map (thickS d)) x y := fun x y => by
    rw [c2]
    have e0 : hFst (decide (pmem ((segsI (nodesF l) (edI (edgesF l))).map (thickS d)) x y)) (decide (pmem [] x y)) = true ↔ pmem ((segsI (nodesF l) (edI (edgesF l))).map (thickS d)) x y := by simp [hFst]
    rw [e0, segs_drawn]
    exact str_drawn hv d1 x y
  have hcnt := can_count_of c1 hp
  rw [List.length_map] at hcnt
  have h288 : 2 * l.length * l.length ≤ 2 * 12 * 12 := Nat.mul_le_mul (by omega) h12
  refine ⟨_, ?_, can_check c1 (sub_valid (can_wf c1) hval fun x y hx => by rw [c2] at hx; simpa [hFst] using hx) (by omega), hp⟩
  have hsl : ((segsI (nodesF l) (edI (edgesF l))).map (thickS d)).length ≤ 336 := by
    unfold segsI
    rw [List.length_map, List.length_map]
    exact he2
  have hany : ((segsI (nodesF l) (edI (edgesF l))).map (thickS d)).any (fun r => !decide (valid4 r)) = false := by
    rw [List.any_eq_false]
    intro r hr
    simp [hval r hr]
  rw [hE]
  unfold makeF
  rw [if_neg (by omega), if_neg (by rw [hany]; simp)]
  unfold madeF
  rw [if_neg (by omega)]
end Go.Proofs.YtdolpeljengpaaaGreat

/- Plain: a town: parcels of the blocks and streets are the land; no parcel is on a street. -/
namespace Go.Proofs.YtdolpeljengpaaaGreat
open Go.RowKit
set_option linter.unusedVariables false
set_option linter.unusedSimpArgs false

/-- A segment nearer to the origin. -/
def near20 (s : Sg) : Prop := okSg s ∧ (-20 ≤ s.ax ∧ s.ax ≤ 20) ∧ (-20 ≤ s.ay ∧ s.ay ≤ 20) ∧ (-20 ≤ s.cx ∧ s.cx ≤ 20) ∧ (-20 ≤ s.cy ∧ s.cy ≤ 20)
theorem near20_35 {s : Sg} (h : near20 s) : near35 s := by
  obtain ⟨h0, h1, h2, h3, h4⟩ := h
  exact ⟨h0, by omega, by omega, by omega, by omega⟩
theorem far8_20 {s : Sg} (h : okSg s) : far8 s ≤ 20 ↔ near20 s := by
  have h0 := h
  obtain ⟨⟨⟨a1, a2⟩, ⟨b1, b2⟩, ⟨c1, c2⟩, d1, d2⟩, _⟩ := h
  unfold far8 near20
  rw [show IntKind.i64.wrap (-s.ax) = -s.ax from IntWalk.i64_in _ (by omega), show IntKind.i64.wrap (-s.ay) = -s.ay from IntWalk.i64_in _ (by omega), show IntKind.i64.wrap (-s.cx) = -s.cx from IntWalk.i64_in _ (by omega), show IntKind.i64.wrap (-s.cy) = -s.cy from IntWalk.i64_in _ (by omega)]
  constructor
  · intro h
    exact ⟨h0, by omega, by omega, by omega, by omega⟩
  · rintro ⟨_, h1, h2, h3, h4⟩
    omega
/-- The sum of the parts' areas. -/
theorem ids_area {R : List R4} (h : checkF R = 0) : ∀ (m : Nat), m ≤ (ids R).length → ∃ n, Cut R m n ∧ (((ids R).take m).map fun q => areaS (partJ R q)).sum = areaS (partU R n)
  | 0, _ => ⟨0, Cut.start R, by rw [partU_zero h]; rfl⟩
  | m + 1, hm => by
    obtain ⟨n, hc, hs⟩ := ids_area h m (by omega)
    obtain ⟨q, hq⟩ : ∃ q, (ids R)[m]? = some q := ⟨_, List.getElem?_eq_getElem (by omega)⟩
    obtain ⟨h1, h2, h3⟩ := hc.next hq
    refine ⟨q + 1, h3, ?_⟩
    rw [List.take_add_one, hq, Option.toList_some, List.map_append, List.sum_append, hs]
    have hst := joinZero rfl (partU_check h n) (partJ_check h q) (partU_step h h1 h2)
    have := area_sum (partU_check h n) (partJ_check h q) (partU_check h (q + 1)) check_nil (fun x y => (hst.2.2 x y).trans orP) (fun x y => by
      constructor
      · intro e; exact absurd e pmem_nil
      · rintro ⟨k1, k2⟩
        exfalso
        obtain ⟨j, s, a1, a2, a3⟩ := (partU_pts h n x y).1 k1
        obtain ⟨i, t, b1, b2, b3⟩ := (partJ_pts h q x y).1 k2
        by_cases e : j = i
        · subst e; omega
        · exact apart_at (check_rcan h).apart a2 b2 e x y ⟨a3, b3⟩)
    have h0 : areaS [] = 0 := rfl
    simp only [List.map_cons, List.map_nil, List.sum_cons, List.sum_nil]
    omega
theorem parts_area {R : List R4} (h : checkF R = 0) : ((partsF R).map areaS).sum = areaS R := by
  obtain ⟨n, hc, hs⟩ := ids_area h (ids R).length (Nat.le_refl _)
  rw [List.take_length] at hs
  rw [ids_parts, List.map_map]
  rw [partU_all h hc.done] at hs
  exact hs
theorem badF_zero : ∀ {bs : List (List R4)}, (∀ b ∈ bs, checkF b = 0) → badF bs = 0
  | [], _ => rfl
  | b :: bs, h => by
    unfold badF
    rw [if_pos (h b (by simp))]
    exact badF_zero fun x hx => h x (by simp [hx])
theorem pcA_area {s : List R4} {p : Pl3} (hp : okW p = 0) : ∀ (k : Nat) {bs : List (List R4)}, (∀ b ∈ bs, checkF b = 0) → fewF s p bs = true → ((pcA s p k bs).map fun x => arQ x.l.r).sum = (bs.map areaS).sum
  | _, [], _, _ => rfl
  | k, b :: bs, h, hf => by
    unfold fewF at hf
    rw [List.all_cons, Bool.and_eq_true] at hf
    have ih := pcA_area hp (k + 1) (bs := bs) (fun x hx => h x (by simp [hx])) hf.2
    have h1 := block_area (s := s) (p := p) (k := k) hp (b := b) (fun r hr => (ok_valid r).2 ((checkF_ok (h b (by simp))).2.1 r hr)) (fun r hr => of_decide_eq_true (List.all_eq_true.1 hf.1 r hr))
    unfold pcA
    rw [List.map_append, List.sum_append, ih, h1]
    rfl
def land30 : List R4 := [⟨-30, -30, 30, 30⟩]
theorem land30_chk : checkF land30 = 0 := can_check (can_oneB ⟨by decide, by decide⟩) (by intro r hr; rw [land30, List.mem_singleton] at hr; subst hr; decide) (by simp [land30])
/-- What is left of the land: a region of not too many rectangles. -/
theorem town_rest {l : List Sg} (h8 : l.length ≤ 8) (h : ∀ s ∈ l, near20 s) {d : Int} (d1 : 1 ≤ d) (d3 : d ≤ 3) {S : List R4} (kS : checkF S = 0) (hS : ∀ x y, pmem S x y ↔ pmem (l.map (thickS d)) x y) :
    ∃ R, joinF hSub land30 S = (R, 0) ∧ checkF R = 0 ∧ areaS S + areaS R = 3600 ∧ ∀ x y, pmem R x y → ¬ pmem S x y := by
  have hin : ∀ x y, pmem S x y → pmem land30 x y := fun x y hx => by
    obtain ⟨r, hr, hi⟩ := (hS x y).1 hx
    obtain ⟨s, hs, rfl⟩ := List.mem_map.1 hr
    obtain ⟨_, a1, a2, a3, a4⟩ := h s hs
    unfold land30
    rw [pmem_one]
    unfold rin thickS at *
    simp only at *
    omega
  have hp := join_pts (h := hSub) rfl land30_chk kS
  have hp2 : ∀ x y, pmem (rjoin hSub land30 S) x y ↔ rin ⟨-30, -30, 30, 30⟩ x y ∧ ¬ pmem (l.map (thickS d)) x y := fun x y => by
    rw [hp, subP, hS]
    unfold land30
    rw [pmem_one]
  have hc := (rjoin_ok (h := hSub) rfl (check_wf land30_chk) (check_wf kS)).1
  have hcnt := can_count hc (xs := [-30, 30] ++ (l.map fun s => (thickS d s).x0) ++ (l.map fun s => (thickS d s).x1)) (ys := -30 :: l.map fun s => (thickS d s).y1)
    (fun c ⟨y, hy⟩ => by
      rw [hp2, hp2] at hy
      rw [List.append_assoc, List.mem_append, List.mem_append]
      by_cases e1 : c = -30
      · subst e1; simp
      by_cases e2 : c = 30
      · subst e2; simp
      right
      have hr : rin ⟨-30, -30, 30, 30⟩ (c - 1) y ↔ rin ⟨-30, -30, 30, 30⟩ c y := by unfold rin; simp only; omega
      have hne : ¬ (pmem (l.map (thickS d)) (c - 1) y ↔ pmem (l.map (thickS d)) c y) := fun e => hy (by rw [hr, e])
      by_cases hf : pmem (l.map (thickS d)) c y
      · left
        obtain ⟨r, hr, hi⟩ := hf
        obtain ⟨s, hs, rfl⟩ := List.mem_map.1 hr
        refine List.mem_map.2 ⟨s, hs, Classical.byContradiction fun e => hne ⟨fun _ => ⟨_, hr, hi⟩, fun _ => ⟨_, hr, ?_⟩⟩⟩
        unfold rin at hi ⊢
        omega
      · right
        have hf1 : pmem (l.map (thickS d)) (c - 1) y := Classical.byContradiction fun h1 => hne ⟨fun h2 => absurd h2 h1, fun h2 => absurd h2 hf⟩
        obtain ⟨r, hr, hi⟩ := hf1
        obtain ⟨s, hs, rfl⟩ := List.mem_map.1 hr
        refine List.mem_map.2 ⟨s, hs, Classical.byContradiction fun e => hf ⟨_, hr, ?_⟩⟩
        unfold rin at hi ⊢
        omega)
    (fun x c hno hyes => by
      rw [hp2] at hno hyes
      by_cases e1 : c = -30
      · subst e1; simp
      refine List.mem_cons_of_mem _ ?_
      have hr : rin ⟨-30, -30, 30, 30⟩ x (c - 1) := by have := hyes.1; unfold rin at this ⊢; simp only at *; omega
      have hf : pmem (l.map (thickS d)) x (c - 1) := Classical.byContradiction fun h1 => hno ⟨hr, h1⟩
      obtain ⟨r, hr, hi⟩ := hf
      obtain ⟨s, hs, rfl⟩ := List.mem_map.1 hr
      refine List.mem_map.2 ⟨s, hs, Classical.byContradiction fun e => hyes.2 ⟨_, hr, ?_⟩⟩
      unfold rin at hi ⊢
      omega)
  have hcnt2 : (rjoin hSub land30 S).length ≤ 18 * 9 := by
    refine Nat.le_trans hcnt (Nat.mul_le_mul ?_ ?_)
    · simp; omega
    · simp; omega
  have hk := join_check (h := hSub) rfl land30_chk kS (by omega)
  refine ⟨_, by rw [joinF_ok land30_chk kS, if_neg (by omega)], hk, ?_, fun x y hx => ((hp x y).trans subP).1 hx |>.2⟩
  have hs := area_sum kS hk land30_chk check_nil (fun x y => by
    rw [hp, subP]
    by_cases q : pmem S x y
    · simp [q, hin x y q]
    · simp [q]) (fun x y => by
    rw [hp, subP]
    constructor
    · intro e; exact absurd e pmem_nil
    · rintro ⟨a, _, b⟩; exact absurd a b)
  have h0 : areaS [] = 0 := rfl
  have h1 : areaS land30 = 3600 := by decide
  omega
/-- A parcel is on no street. -/
theorem town_off {S R : List R4} {p : Pl3} (kS : checkF S = 0) (kR : checkF R = 0) (hR : ∀ x y, pmem R x y → ¬ pmem S x y) (hp : okW p = 0) (hf : fewF S p (partsF R) = true) {x : Par6} (hx : x ∈ pcA S p 0 (partsF R)) : okR x.l.r ∧ onF x.l.r S = 0 := by
  obtain ⟨j, b, hj, _, r, hr, hl⟩ := pcA_mem.1 hx
  have hb := List.mem_of_getElem? hj
  rw [ids_parts] at hb
  obtain ⟨q, hq, rfl⟩ := List.mem_map.1 hb
  have hck := partJ_check kR q
  have hro := (ok_valid r).2 ((checkF_ok hck).2.1 r hr)
  have hof := rect_of hro hp hl
  have hok := (of_ok hro hof).1
  refine ⟨hok, ?_⟩
  have hmf : (rectR S p r).2 = 0 := by
    unfold fewF at hf
    have h1 := List.all_eq_true.1 hf _ (by rw [ids_parts]; exact List.mem_map_of_mem hq)
    exact of_decide_eq_true (List.all_eq_true.1 h1 r hr)
  have hsum := on_ref (m := 1000001) (r := x.l.r) (s := S) (by have := (ok_valid x.l.r).1 hok; unfold valid4 fineP at this; unfold inFr; omega) ⟨hok.1, hok.2.1⟩ (check_rcan kS) (check_frame kS (by omega))
  rw [← hsum]
  have hnil : rjoin hAnd [x.l.r] S = [] := (rjoin_eq (h := hAnd) rfl (fun z hz => by rw [List.mem_singleton] at hz; subst hz; exact ⟨hok.1, hok.2.1⟩) (check_wf kS) (check_rcan check_nil) fun u v => by
    rw [andP, pmem_one]
    constructor
    · intro e; exact absurd e pmem_nil
    · rintro ⟨k1, k2⟩
      exfalso
      have h2 : pmem ((rectR S p r).1.map Lot5.r) u v := ⟨x.l.r, List.mem_map_of_mem hl, k1⟩
      rw [of_cover hro hp hmf] at h2
      have h3 : pmem (partJ R q) u v := ⟨r, hr, h2⟩
      obtain ⟨i, t, _, b2, b3⟩ := (partJ_pts kR q u v).1 h3
      exact hR u v ⟨t, List.mem_of_getElem? b2, b3⟩ k2).symm
  rw [hnil]
  rfl
end Go.Proofs.YtdolpeljengpaaaGreat

/- A list of regions that a call has laid, read as such. -/
namespace Go.Proofs.YtdolpeljengpaaaGreat
open Go.RowKit
set_option linter.unusedVariables false
set_option linter.unusedSimpArgs false

theorem regs_rd {B : Nat} {R : List (List R4)} {A : Option Addr} {c : Nat} {vs : List Value} {w : World} (ho : w.ownsRow B 27 1 (.slice A R.length c) R.length vs) (hr : ∀ (i : Nat) (r : List R4), R[i]? = some r → ∃ v, vs[i]? = some v ∧ w.ownsRow B 69 4 v r.length (r.flatMap encR)) : RdRR w w.heap.size (.slice A R.length c) R := by
  refine ⟨A, c, rfl, fun hl => ?_⟩
  have hp : 0 < R.length := List.length_pos_iff.2 hl
  obtain ⟨g, cap, hv, hB, hg⟩ := ho.form (by omega)
  injection hv with e1 _ e3
  subst e1; subst e3
  refine ⟨g, 0, rfl, (ho.lt g rfl).2, fun j x hx => ?_⟩
  obtain ⟨v, h3, h4⟩ := hr j x hx
  refine ⟨v, ?_, own_rd h4 (fun _ => rfl)⟩
  have := (ho.cells (g := g) rfl) j _ h3
  rw [addr_add] at this
  rwa [Nat.zero_add]
theorem RegsRet.rd {B : Nat} {x : List (List R4) × Int} {e : Ending} {w : World} (h : RegsRet B x e w) : ∃ A c, e = .returned (.tuple #[.slice A x.1.length c, .int .i64 x.2]) ∧ RdRR w w.heap.size (.slice A x.1.length c) x.1 := by
  obtain ⟨A, c, vs, h1, h2, h3⟩ := h
  exact ⟨A, c, h1, regs_rd h2 h3⟩
/-- A cell of a list of regions. -/
theorem RdRR.get {w : World} {A : Option Addr} {n c : Nat} {bs : List (List R4)} (h : RdRR w w.heap.size (.slice A n c) bs) {j : Nat} {x : List R4} (hx : bs[j]? = some x) : ∃ b off A2 c2, A = some ⟨b, off, none⟩ ∧ b < w.heap.size ∧ w.cell? ⟨b, off + j, none⟩ = some (.slice A2 x.length c2) ∧ RdK encR 4 w w.heap.size (.slice A2 x.length c2) x := by
  obtain ⟨A1, c1, hv, h⟩ := h
  injection hv with e1 _ _
  subst e1
  obtain ⟨b, off, rfl, hb, k⟩ := h (by intro e; rw [e] at hx; simp at hx)
  obtain ⟨u, h1, h2⟩ := k j x hx
  obtain ⟨A2, c2, rfl, _⟩ := id h2
  exact ⟨b, off, A2, c2, rfl, hb, h1, h2⟩
end Go.Proofs.YtdolpeljengpaaaGreat

/- An argument that is a list of segments, read as such. -/
namespace Go.Proofs.YtdolpeljengpaaaGreat
open Go.ChangeShapes Go.WideShapes Go.ChangeAt Go.RowKit Go.Joins Go.Deep
set_option linter.unusedVariables false
set_option linter.unusedSimpArgs false

theorem point_fields : ∀ (j : Nat) (f : Field), (match Tryz.prog.underlying 51 with | some (.struct fs) => fs | _ => #[])[j]? = some f → Tryz.prog.underlying f.type = some (.int .i64) := by
  rw [Tryz.underlying51]
  intro j f hf
  match j, hf with
  | 0, hf => simp at hf; subst hf; exact Tryz.underlying3
  | 1, hf => simp at hf; subst hf; exact Tryz.underlying3
  | j + 2, hf => simp at hf
section
variable {H : Type} {enc : TypeId × Value → H} {w : World} {base : Nat} {spare : Nat → Bool} {held : Bool}
set_option maxRecDepth 100000 in
/-- The cells of a segment: four ints. -/
theorem trod_seg {n : Nat} {cs : List Value} {y : DataW H × List MemPlace} (hl : cs.length = 4) (h : DataW.trod enc Tryz.prog w base spare held n 53 cs = some y) : ∀ j, j < 4 → ∃ z : Int, cs[j]? = some (.int .i64 z) := by
  have h2 : Tryz.prog.cellsOf 51 = 2 := by kernel_rfl
  obtain ⟨y0, y1, m, _, _, hy0, hy1⟩ := trod_struct2 Tryz.underlying53 h
  simp only [h2] at hy0 hy1
  have hr := trod_int_fields Tryz.underlying51 (by kernel_rfl) point_fields (by simp [List.length_take]; omega) hy0
  have hs := trod_int_fields Tryz.underlying51 (by kernel_rfl) point_fields (by simp [List.length_take, List.length_drop]; omega) hy1
  obtain ⟨a, b, c, d, rfl⟩ : ∃ a b c d, cs = [a, b, c, d] := by
    match cs, hl with
    | [a, b, c, d], _ => exact ⟨a, b, c, d, rfl⟩
  obtain ⟨z1, e1⟩ := hr 0 (by decide)
  obtain ⟨z2, e2⟩ := hr 1 (by decide)
  obtain ⟨z3, e3⟩ := hs 0 (by decide)
  obtain ⟨z4, e4⟩ := hs 1 (by decide)
  simp at e1 e2 e3 e4
  subst e1 e2 e3 e4
  intro j hj
  match j, hj with
  | 0, _ => exact ⟨_, rfl⟩
  | 1, _ => exact ⟨_, rfl⟩
  | 2, _ => exact ⟨_, rfl⟩
  | 3, _ => exact ⟨_, rfl⟩
set_option maxRecDepth 100000 in
theorem trod_segs {v : Value} {d : DataW H} {p : List MemPlace} {r : Reach} {b0 : Nat} (hv : Value.okWide Tryz.prog w r b0 47 v) (h : DataW.Trod enc Tryz.prog w base spare held 47 v d p) :
    ∃ l : List Sg, RdK encSg 4 w w.heap.size v l ∧ l.length ≤ maxLen ∧ ∀ A n c, v = .slice A n c → n ≤ c := by
  obtain ⟨A, n, c, rfl⟩ := okWide_slice Tryz.underlying47 hv
  have hC : Tryz.prog.cellsOf 53 = 4 := by kernel_rfl
  obtain ⟨fuel, hf⟩ := h
  rcases open_slice Tryz.underlying47 hf with ⟨hcs, _⟩ | ⟨a, len, cap, m, nn, D, Pl, hcs, hb, hl, hm, hmm, hx, hi⟩
  · simp [Value.cells] at hcs
    obtain ⟨rfl, rfl, rfl⟩ := hcs
    exact ⟨[], ⟨none, 0, rfl, fun h => absurd rfl h⟩, by simp, fun A n c e => by injection e; omega⟩
  · simp [Value.cells] at hcs
    obtain ⟨rfl, rfl, rfl⟩ := hcs
    have hlm : n ≤ m := by rw [hmm]; split <;> omega
    have key : ∀ i, i < n → ∀ j, j < 4 → ∃ z : Int, w.cell? (a.add (i * 4 + j)) = some (.int .i64 z) := by
      intro i hin j hj
      obtain ⟨cs', hc, ht'⟩ := hi i (by omega)
      rw [hC] at hc
      obtain ⟨_, hcl, hat⟩ := World.cells?_some hc
      obtain ⟨z, hz⟩ := trod_seg hcl ht' j hj
      have := hat j hj
      rw [← Go.Deep.add_add, this, hz]
      exact ⟨z, rfl⟩
    obtain ⟨F, hF⟩ : ∃ F : Nat → Nat → Int, ∀ i, i < n → ∀ j, j < 4 → w.cell? (a.add (i * 4 + j)) = some (.int .i64 (F i j)) :=
      ⟨fun i j => if h : i < n ∧ j < 4 then Classical.choose (key i h.1 j h.2) else 0, fun i hi j hj => by
        simp only [dif_pos (And.intro hi hj)]
        exact Classical.choose_spec (key i hi j hj)⟩
    refine ⟨(List.range n).map fun i => ⟨F i 0, F i 1, F i 2, F i 3⟩, ⟨some a, c, by simp, fun hl => ?_⟩, by simp; omega, fun A n c e => by injection e; omega⟩
    have hn : 0 < n := by
      rcases Nat.eq_zero_or_pos n with h | h
      · subst h; exact absurd rfl hl
      · exact h
    have h0 := hF 0 hn 0 (by omega)
    have hadd0 : a.add (0 * 4 + 0) = a := by simp [Addr.add]
    rw [hadd0] at h0
    obtain ⟨b, off, sp⟩ := a
    have hsp : sp = none := by
      unfold World.cell? at h0
      cases sp with
      | none => rfl
      | some x => split at h0 <;> simp at h0
    subst hsp
    refine ⟨b, off, rfl, ?_, fun j x hj i u hu => ?_⟩
    · unfold World.cell? at h0
      split at h0
      · rename_i hh
        exact (Array.getElem?_eq_some_iff.1 hh).1
      · cases h0
    · have hjn : j < n := by have := (List.getElem?_eq_some_iff.1 hj).1; simpa using this
      rw [List.getElem?_map, List.getElem?_range hjn] at hj
      simp only [Option.map_some, Option.some.injEq] at hj
      subst hj
      have hi4 : i < 4 := (List.getElem?_eq_some_iff.1 hu).1
      have hz := hF j hjn i hi4
      have e1 : (⟨b, off, none⟩ : Addr).add (j * 4 + i) = ⟨b, off + j * 4 + i, none⟩ := by unfold Addr.add; split <;> simp_all [Nat.add_assoc]
      rw [← e1, hz]
      match i, hi4 with
      | 0, _ => exact hu
      | 1, _ => exact hu
      | 2, _ => exact hu
      | 3, _ => exact hu
end
end Go.Proofs.YtdolpeljengpaaaGreat
