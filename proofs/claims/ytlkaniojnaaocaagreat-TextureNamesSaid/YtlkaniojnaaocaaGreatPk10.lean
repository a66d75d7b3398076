/- Texts laid together: SlabB, MixTwo, JoinR, JoinU, Alive12, Fit, MAreas, MTexO, Row, Open, OpenT. Lemmas for the statements of this seat; no condition. -/
import Derived.Test.YtlkaniojnaaocaaGreatPk3
import Derived.Test.YtlkaniojnaaocaaGreatPk2
import Derived.Test.YtlkaniojnaaocaaGreatPk1
import Derived.Test.YtlkaniojnaaocaaGreatPk5
import Derived.Test.YtlkaniojnaaocaaGreatPk9
import Derived.Test.YtlkaniojnaaocaaGreatPk8
import Derived.Test.YtlkaniojnaaocaaGreatPk6
import Derived.Test.YtlkaniojnaaocaaGreatPk7
import Derived.ProofKit
import Derived.Lib.SmallJoins
import Derived.Deep.Slices
import Derived.Deep.Fields
import Derived.ChangeSame

/- region.slabs at Region, and its iterator. -/
namespace Go.Proofs.YtlkaniojnaaocaaGreat
open Go.RowKit
set_option linter.unusedVariables false
set_option linter.unusedSimpArgs false
attribute [local go_sem] Oper.semAt_some

set_option maxHeartbeats 2000000 in
theorem slabsB_any (ls : List (List R4)) (L c : Nat) (w : World) (hL : L < w.heap.size) (hv : ∀ k l, ls[k]? = some l → ∃ v, w.cell? ⟨L, k, none⟩ = some v ∧ RdK encR 4 w w.heap.size v l) (hn : (ls.flatMap cutsL).length ≤ 100000000) (hls : ls.length ≤ 1000) :
    Calls Tryz.prog 67 #[.slice (some ⟨L, 0, none⟩) ls.length c] w fun e w' => ∃ v, e = .returned (.func (.func 97) #[] #[.pointer (some ⟨w.heap.size + 1, 0, none⟩), .pointer (some ⟨w.heap.size, 0, none⟩)]) ∧
      w'.cell? ⟨w.heap.size, 0, none⟩ = some (.slice (some ⟨L, 0, none⟩) ls.length c) ∧ w'.cell? ⟨w.heap.size + 1, 0, none⟩ = some v ∧ w'.ownsRow (w.heap.size + 2) 3 1 v (cutsOf (ls.flatMap cutsL)).length ((cutsOf (ls.flatMap cutsL)).map iv) ∧ Below w.heap.size w w' := by
  obtain ⟨i0, hi, hz0, hz1, hz2⟩ := info_parts infoIA
  have HV := hide hv
  clear hv
  go_enter Tryz.func67, Tryz.ntmps67
  go_wp2
  go_loopw [10] (fun i wr => ∃ k : Nat, k ≤ ls.length ∧ i = .int .i64 k ∧ ∃ v, wr.cell? ⟨w.heap.size + 1, 0, none⟩ = some v ∧ wr.frozen? ⟨w.heap.size + 1, 0, none⟩ = false ∧ wr.cell? ⟨w.heap.size, 0, none⟩ = some (.slice (some ⟨L, 0, none⟩) ls.length c) ∧
      wr.ownsRow (w.heap.size + 2) 3 1 v ((ls.take k).flatMap cutsL).length (((ls.take k).flatMap cutsL).map iv) ∧ Below w.heap.size w wr ∧ w.heap.size + 2 ≤ wr.heap.size)
    (fun i _ => ls.length - (intOf i).toNat)
  case atStart =>
    refine ⟨0, Nat.zero_le _, rfl, .slice none 0 0, by simp [go_sem], by simp [go_sem], by simp [go_sem], World.ownsRow_nil _ _ _ _, ((Below.refl _ _).alloc (Nat.le_refl _) _).alloc (by simp) _, by simp⟩
  case round =>
    obtain ⟨k, hk, rfl, v, hc1, hf1, hc0, hown, hb, hsz⟩ := hrel
    by_cases hlt : k < ls.length
    · obtain ⟨l, hlk⟩ : ∃ l, ls[k]? = some l := ⟨_, List.getElem?_eq_getElem hlt⟩
      obtain ⟨vl, hcl, A, c0, rfl, hrd⟩ := HV.out k l hlk
      have hcl' : wr.cell? ⟨L, k, none⟩ = some (.slice A l.length c0) := (hb.cell (p := ⟨L, k, none⟩) hL).trans hcl
      have hle := len_take ls k l hlk
      have HK := hide (flat_take ls k l hlk)
      have HR := hide hrd
      have hkz : (k : Int) < (ls.length : Int) := by omega
      rw [cutsL_len] at hle
      generalize (ls.take k).flatMap cutsL = P at *
      generalize wr = w1 at *
      clear hcl hrd
      go_wp2
      go_loopw [16] (fun j wi => ∃ m : Nat, m ≤ l.length ∧ j = .int .i64 m ∧ ∃ v, wi.cell? ⟨w.heap.size + 1, 0, none⟩ = some v ∧ wi.frozen? ⟨w.heap.size + 1, 0, none⟩ = false ∧ wi.cell? ⟨w.heap.size, 0, none⟩ = some (.slice (some ⟨L, 0, none⟩) ls.length c) ∧
          wi.ownsRow (w.heap.size + 2) 3 1 v (P ++ cutsL (l.take m)).length ((P ++ cutsL (l.take m)).map iv) ∧ Below w.heap.size w wi ∧ w.heap.size + 2 ≤ wi.heap.size)
        (fun j _ => l.length - (intOf j).toNat)
      case atStart => exact ⟨0, by omega, rfl, v, hc1, hf1, hc0, by simpa [cutsL] using hown, hb, hsz⟩
      case round =>
        clear hc1 hf1 hc0 hown
        obtain ⟨m, hm, rfl, v, hc1, hf1, hc0, hownm, hbm, hszm⟩ := hrel
        by_cases hml : m < l.length
        · obtain ⟨⟨x0, y0, x1, y1⟩, hp⟩ : ∃ p, l[m]? = some p := ⟨_, List.getElem?_eq_getElem hml⟩
          have hne : l ≠ [] := by intro e; rw [e] at hml; simp at hml
          obtain ⟨bk, off, rfl, hbk, hcell⟩ := HR.out hne
          have d0 : wr.cell? ⟨bk, off + m * 4, none⟩ = some (.int .i64 x0) := (hbm.cell hbk).trans (hcell m _ hp 0 _ rfl)
          have d1 : wr.cell? ⟨bk, off + m * 4 + 1, none⟩ = some (.int .i64 y0) := (hbm.cell hbk).trans (hcell m _ hp 1 _ rfl)
          have d2 : wr.cell? ⟨bk, off + m * 4 + 2, none⟩ = some (.int .i64 x1) := (hbm.cell hbk).trans (hcell m _ hp 2 _ rfl)
          have d3 : wr.cell? ⟨bk, off + m * 4 + 3, none⟩ = some (.int .i64 y1) := (hbm.cell hbk).trans (hcell m _ hp 3 _ rfl)
          have hmz : (m : Int) < (l.length : Int) := by omega
          have hlenE : (P ++ cutsL (l.take m)).length ≤ 100000000 := by rw [List.length_append, cutsL_len, List.length_take]; omega
          have HE : Hid (P ++ cutsL (l.take (m + 1)) = P ++ cutsL (l.take m) ++ [x0, x1]) := hide (by rw [cutsL_take l m _ hp, List.append_assoc])
          obtain ⟨Av, cv, rfl⟩ := own_form hownm
          have hlt1 : w.heap.size + 1 < wr.heap.size := by omega
          have hlt0 : w.heap.size < wr.heap.size := by omega
          clear hcell
          generalize P ++ cutsL (l.take m) = E0 at *
          go_wp2_with (at_builtin; go_loud (refine wpList_append_lies _ rfl (.tmp 20) (.tmp 25) 126 rfl (w.heap.size + 2) 3 i0 (.int .i64 0) 1 8 Tryz.underlying126 hi hz0 hz1 hz2 rfl (by decide) _ _ _ rfl ((hownm.alloc _).alloc _) ⟨wr.heap.size + 1, 0, none⟩ 2 2 [.int .i64 x0, .int .i64 x1] rfl rfl (news_new (wr.alloc _) _ _ _ (by simp)) (ints_one rfl) (by omega) (by unfold maxLen; omega) (by omega) (by simp; omega) _ rfl ?_))
          intro g cap w2 hown2 hgrow _ _
          have hx2 : E0.map iv ++ [.int .i64 x0, .int .i64 x1] = (E0 ++ [x0, x1]).map iv := by simp
          have HL : Hid (E0.length + 2 = (P ++ cutsL (l.take (m + 1))).length) := hide (by rw [HE.out]; simp)
          rw [hx2, ← HE.out] at hown2
          obtain ⟨k3, k4, HF⟩ := box_fin hszm (Nat.lt_succ_self _) hc1 hf1 (((Below.refl _ wr).alloc (Nat.le_refl _) _).alloc (by simp) _) hgrow (fun k h => (hownm.lt k h).1) hown2
          have HC := hide hc0
          clear hown2 hgrow hownm hx2 hc1 hf1 hc0 d0 d1 d2 d3
          go_wp2
          go_roundw
          case rel =>
            obtain ⟨z1, z2, z3, z4, z5, z6⟩ := HF.out
            exact ⟨m + 1, by omega, by go_num, _, z1, z2, (z5 _ _ (by omega) (by omega)).trans HC.out, own_n z3 HL.out, hbm.trans (z4.mono (by omega)), by omega⟩
          case measure => simp [intOf]; omega
        · have hme : ¬ (m : Int) < (l.length : Int) := by omega
          have hmt : l.take m = l := List.take_of_length_le (by omega)
          rw [hmt, ← HK.out] at hownm
          have HO := hide hownm
          clear hmt hownm
          go_wp2
          go_roundw
          case rel => exact ⟨k + 1, by omega, by go_num, v, hc1, hf1, hc0, HO.out, hbm, hszm⟩
          case measure => simp [intOf]; omega
    · have hkz : ¬ (k : Int) < (ls.length : Int) := by omega
      have hkt : ls.take k = ls := List.take_of_length_le (by omega)
      rw [hkt] at hown
      have HO := hide hown
      clear hkt hown
      have hl : (ls.flatMap cutsL).length < 4611686018427387904 := by omega
      have hlm : ((ls.flatMap cutsL).mergeSort fun x y => decide (x ≤ y)).length = (ls.flatMap cutsL).length := List.length_mergeSort _
      have HM := hide hlm
      have HC0 := hide hc0
      clear hc0 hlm
      go_wp2_with (first
        | (go_at_call 95; refine (sortI_any _ v _ wr HO.out hl).mono ?_; rintro e w1 ⟨rfl, ho1, hg1⟩; have hb1 : Below (w.heap.size + 2) wr w1 := (Below.refl _ _).grown hg1 hsz (fun k h => (HO.out.lt k h).1); have e1 := (hb1.cell (p := ⟨w.heap.size + 1, 0, none⟩) (Nat.lt_succ_self _)).trans hc1; have HO1 := hide ho1; have HB1 := hide hb1; clear ho1 hg1 hb1)
        | (go_at_call 96; refine (compI_any _ v _ w1 (own_n HO1.out HM.out.symm) (by rw [HM.out]; exact hl)).mono ?_; rintro e w2 ⟨v2, rfl, hv2, ho2, hg2⟩; have hb2 : Below (w.heap.size + 2) w1 w2 := (Below.refl _ _).grown hg2 (Nat.le_trans hsz HB1.out.size) (fun k h => (HO1.out.lt k h).1); have e2 := (hb2.cell (p := ⟨w.heap.size + 1, 0, none⟩) (Nat.lt_succ_self _)).trans e1; have f2 := ((HB1.out.trans hb2).frozen (p := ⟨w.heap.size + 1, 0, none⟩) (Nat.lt_succ_self _)).trans hf1; have HO2 := hide ho2; have HB2 := hide hb2; clear ho2 hg2 hb2; obtain ⟨Av, cv, hv2⟩ := own_form HO2.out; subst hv2))
      go_ret
      have hB : Below (w.heap.size + 2) wr w2 := HB1.out.trans HB2.out
      refine ⟨_, rfl, ?_, by simp [go_sem, e2], ownsRow_setCell_below HO2.out (Nat.lt_succ_self _) _, (hb.trans (hB.mono (by omega))).setCell (p := ⟨w.heap.size + 1, 0, none⟩) (Nat.le_succ _) _⟩
      exact (World.cell?_of_block (w := w2) (a := ⟨w.heap.size, 0, none⟩) (Below.heap_setCell _ _ _ _ (Nat.ne_of_lt (Nat.lt_succ_self _)))).trans ((hB.cell (p := ⟨w.heap.size, 0, none⟩) (by show w.heap.size < _; omega)).trans HC0.out)

set_option maxRecDepth 100000 in
set_option maxHeartbeats 4000000 in
theorem slabsItB (ls : List (List R4)) (cs : List Int) (bc bl L cc cv bb base : Nat) (A : Option Addr) (w0 : World) (hbl : bl < w0.heap.size) (hbc : bc < w0.heap.size) (hLs : L < w0.heap.size) (n1 : bl ≠ bb) (n2 : bc ≠ bb) (n3 : L ≠ bb) (n4 : bb < base) (n5 : bb ≤ w0.heap.size)
    (hlb : w0.cell? ⟨bl, 0, none⟩ = some (.slice (some ⟨L, 0, none⟩) ls.length cc)) (hcb : w0.cell? ⟨bc, 0, none⟩ = some (.slice A cs.length cv)) (hown : w0.ownsRow base 3 1 (.slice A cs.length cv) cs.length (cs.map iv))
    (hv : ∀ k l, ls[k]? = some l → l.length ≤ 100000000 ∧ ∃ v, w0.cell? ⟨L, k, none⟩ = some v ∧ RdK encR 4 w0 bb v l) (hls : ls.length ≤ 1000) (hcs : cs.length ≤ 100000000) :
    Iter Tryz.prog 97 #[.pointer (some ⟨bc, 0, none⟩), .pointer (some ⟨bl, 0, none⟩)] (prs cs) (OkSlab ls) (KpX bb w0.heap.size) w0 := by
  intro l J Jx W hW hJ hY h0
  obtain ⟨i0, hi, hz0, hz1, hz2⟩ := info_parts infoSS
  obtain ⟨i1, gi, gz0, gz1, gz2⟩ := info_parts infoSp
  refine callsIn_of_wp Tryz.func97 rfl trivial ?_
  simp only [Tryz.ntmps97, List.size_toArray, List.length_cons, List.length_nil, Nat.reduceAdd, Nat.reduceSub, Array.replicate_succ, Array.replicate_zero, List.push_toArray, List.append_toArray, List.nil_append, List.cons_append]
  have HV := hide hv
  have HY := hide hY
  have HJ := hide hJ
  clear hv hY hJ
  gi_wp2
  gi_loopw [4] (fun p wr => ∃ k : Nat, k ≤ (prs cs).length ∧ p = .int .i64 ((k : Int) + 1) ∧ Hid (J ((prs cs).take k) wr) ∧ Hid (∀ b o, b < w0.heap.size → b ≠ bb → wr.cell? ⟨b, o, none⟩ = w0.cell? ⟨b, o, none⟩) ∧ w0.heap.size ≤ wr.heap.size)
    (fun p _ => ((prs cs).length + 1) - (intOf p).toNat)
  case atStart => exact ⟨0, Nat.zero_le _, rfl, hide (by simpa using h0), hide fun b o h _ => hW.cell (p := ⟨b, o, none⟩) h, hW.size⟩
  case round =>
    obtain ⟨k, hk, rfl, HJk, HC, hsz⟩ := hrel
    have hpl := prs_len cs
    have kb := (HC.out bl 0 hbl n1).trans hlb
    have kc := (HC.out bc 0 hbc n2).trans hcb
    by_cases hlt : k < (prs cs).length
    · have hltz : (k : Int) + 1 < (cs.length : Int) := by omega
      obtain ⟨c, hc⟩ : ∃ c, cs[k]? = some c := ⟨_, List.getElem?_eq_getElem (by omega)⟩
      obtain ⟨d, hd⟩ : ∃ d, cs[k + 1]? = some d := ⟨_, List.getElem?_eq_getElem (by omega)⟩
      obtain ⟨g, cv', hf, hbg, hgw⟩ := hown.form (by omega)
      injection hf with e1 _ e3
      subst e1; subst e3
      have kc0 : wr.cell? ⟨g, k, none⟩ = some (.int .i64 c) := by
        have := (hown.cells (g := g) rfl) k (iv c) (by simp [hc])
        rw [addr_add] at this
        exact (HC.out g k hgw (by omega)).trans this
      have kc1 : wr.cell? ⟨g, k + 1, none⟩ = some (.int .i64 d) := by
        have := (hown.cells (g := g) rfl) (k + 1) (iv d) (by simp [hd])
        rw [addr_add] at this
        exact (HC.out g (k + 1) hgw (by omega)).trans this
      have HP := hide (prs_get cs k c d hc hd)
      gi_wp2
      obtain ⟨CS, hCS, hmk⟩ := make_ss ls.length hls
      have HS := hide hCS
      clear hCS
      refine wpIn_wide.2 ?_
      have q1 : (0 : Int) ≤ (k : Int) := by omega
      have q2 : (k : Int) < (cs.length : Int) := by omega
      have q3 : (0 : Int) ≤ (k : Int) + 1 := by omega
      have hcsz : (cs.length : Int) ≤ 100000000 := by omega
      have hw1 : IntKind.i64.wrap (k : Int) = k := by simp [IntKind.wrap, IntKind.bits, IntKind.signed]; omega
      have hw2 : IntKind.i64.wrap ((k : Int) + 1) = (k : Int) + 1 := by simp [IntKind.wrap, IntKind.bits, IntKind.signed]; omega
      have t1 : ((k : Int) + 1).toNat = k + 1 := by omega
      go_region_held3 (fun w' => w'.cell? ⟨bc, 0, none⟩ = some (.slice (some ⟨g, 0, none⟩) cs.length cv) ∧ w'.cell? ⟨bl, 0, none⟩ = some (.slice (some ⟨L, 0, none⟩) ls.length cc) ∧ w'.cell? ⟨g, k, none⟩ = some (.int .i64 c) ∧ w'.cell? ⟨g, k + 1, none⟩ = some (.int .i64 d)) (go_keep) (fail)
      case' refine_2.refine_3.refine_3.refine_3.refine_3.refine_3.refine_3.refine_3.refine_3.refine_3.refine_3.refine_3.refine_1.refine_2.refine_3.refine_1.refine_2.refine_1.refine_2 =>
        have M := smid_first1 (ls := ls) (c := c) (d := d) (w := wr) (t1 := 113) (t2 := 120) HS.out
        generalize World.drew (World.alloc (World.alloc _ _) _) = w3 at M ⊢
        obtain ⟨S, hS⟩ : ∃ S, wr.heap.size + 1 = S := ⟨_, rfl⟩
        obtain ⟨Rw, hR⟩ : ∃ Rw, wr.heap.size = Rw := ⟨_, rfl⟩
        rw [hS] at M ⊢
        rw [hR] at M ⊢
        clear hS hR
      case' refine_2.refine_3.refine_3.refine_3.refine_3.refine_3.refine_3.refine_3.refine_3.refine_3.refine_3.refine_3.refine_2.refine_1.refine_2.refine_1.refine_2.refine_3.refine_1.refine_2 =>
        have M := smid_first2 (ls := ls) (c := c) (d := d) (w := wr) (t1 := 113) (t2 := 120) HS.out
        generalize World.drew (World.alloc (World.alloc _ _) _) = w3 at M ⊢
        obtain ⟨Rw, hR⟩ : ∃ S, wr.heap.size + 1 = S := ⟨_, rfl⟩
        obtain ⟨S, hS⟩ : ∃ Rw, wr.heap.size = Rw := ⟨_, rfl⟩
        rw [hR] at M ⊢
        rw [hS] at M ⊢
        clear hS hR
      all_goals
        generalize wr = wi at *
        clear hlb hcb hmk q1 q2 q3 hw1 hw2 t1 kc kc0 kc1 hltz hown HS h0 hW
        have hlsz : (ls.length : Int) ≤ 1000 := by omega
        have hbl' : bl < wi.heap.size := by omega
        have m0 := (M.below.cell (p := ⟨bl, 0, none⟩) hbl').trans kb
        gi_wp2
        refine wpIn_wide.2 ?_
        go_loopw [31] (fun i wx => ∃ j : Nat, j ≤ ls.length ∧ i = .int .i64 j ∧ SMid ls c d Rw S j wi wx) (fun i _ => ls.length - (intOf i).toNat)
        case atStart => exact ⟨0, Nat.zero_le _, rfl, M⟩
        case round =>
          clear m0 M
          obtain ⟨j, hj, rfl, M⟩ := hrel
          by_cases hjl : j < ls.length
          · have hjz : (j : Int) < (ls.length : Int) := by omega
            obtain ⟨r, hr⟩ : ∃ r, ls[j]? = some r := ⟨_, List.getElem?_eq_getElem hjl⟩
            obtain ⟨hrl, v, hvc, Av, cr, rfl, hrd⟩ := HV.out j r hr
            have hL2 : wr.cell? ⟨L, j, none⟩ = some (.slice Av r.length cr) := (M.below.cell (p := ⟨L, j, none⟩) (by show L < _; omega)).trans ((HC.out L j hLs n3).trans hvc)
            have HR := hide hrd
            clear hvc hrd
            go_wp2
            have hRk := M.topR
            have hSk := M.topS
            have hne := M.ne
            have hwk := M.below.size
            have hlR := M.lowR
            have SS := SIn.start (l := r) M hjl
            have HM := hide M
            have e0 := M.s0
            have e2 := M.s2
            clear M hL2
            generalize wr = wk at *
            go_loopw [38] (fun i wx => ∃ m : Nat, m ≤ r.length ∧ i = .int .i64 m ∧ SIn r c Rw j m wk wx) (fun i _ => r.length - (intOf i).toNat)
            case atStart => exact ⟨0, Nat.zero_le _, rfl, SS⟩
            case round =>
              clear SS
              obtain ⟨m, hm, rfl, SS⟩ := hrel
              by_cases hml : m < r.length
              · obtain ⟨⟨x0, y0, x1, y1⟩, hp⟩ : ∃ p, r[m]? = some p := ⟨_, List.getElem?_eq_getElem hml⟩
                have hner : r ≠ [] := by intro e; rw [e] at hml; simp at hml
                obtain ⟨bk, off, rfl, hbk, hcell⟩ := HR.out hner
                have tr : ∀ o, wr.cell? ⟨bk, o, none⟩ = w0.cell? ⟨bk, o, none⟩ := fun o =>
                  (SS.upd.cell (by omega) (by omega) (by simp)).trans ((HM.out.below.cell (p := ⟨bk, o, none⟩) (by show bk < _; omega)).trans (HC.out bk o (by omega) (by omega)))
                have d0 : wr.cell? ⟨bk, off + m * 4, none⟩ = some (.int .i64 x0) := (tr _).trans (hcell m _ hp 0 _ rfl)
                have d1 : wr.cell? ⟨bk, off + m * 4 + 1, none⟩ = some (.int .i64 y0) := (tr _).trans (hcell m _ hp 1 _ rfl)
                have d2 : wr.cell? ⟨bk, off + m * 4 + 2, none⟩ = some (.int .i64 x1) := (tr _).trans (hcell m _ hp 2 _ rfl)
                have d3 : wr.cell? ⟨bk, off + m * 4 + 3, none⟩ = some (.int .i64 y1) := (tr _).trans (hcell m _ hp 3 _ rfl)
                have f0 := (SS.upd.cell (off := 0) hSk hne (by simp)).trans e0
                have f2 := (SS.upd.cell (off := 2) hSk hne (by simp)).trans e2
                have hws := SS.upd.size
                have hmz : (m : Int) < (r.length : Int) := by omega
                have HE0 := hide e0
                have HE2 := hide e2
                have HSS := hide SS
                have hSw : S < wr.heap.size := by omega
                clear hcell tr e0 e2 SS
                by_cases c1 : x0 ≤ c
                · by_cases c2 : c < x1
                  · go_wp2
                    obtain ⟨wb, hwb⟩ : ∃ wb, wb = wr.alloc (.cells #[.int .i64 x0, .int .i64 y0, .int .i64 x1, .int .i64 y1] 42) := ⟨_, rfl⟩
                    rw [← hwb]
                    obtain ⟨v, v1, v2⟩ := HSS.out.cur
                    obtain ⟨Av2, cv2, hv2⟩ := own_form v2
                    subst hv2
                    have hRw : Rw < wr.heap.size := by omega
                    have hj63 : (0 : Int) ≤ (j : Int) := by omega
                    have g2 : wb.cell? ⟨S, 2, none⟩ = some (.slice (some ⟨Rw, 0, none⟩) ls.length ls.length) := by rw [hwb]; exact (World.cell?_alloc_lt _ _ ⟨S, 2, none⟩ hSw).trans f2
                    have gv : wb.cell? ⟨Rw, j, none⟩ = some (.slice Av2 (crossL (r.take m) c).length cv2) := by rw [hwb]; exact (World.cell?_alloc_lt _ _ ⟨Rw, j, none⟩ hRw).trans v1
                    have gy0 : wb.cell? ⟨wr.heap.size, 1, none⟩ = some (.int .i64 y0) := by rw [hwb]; simp [go_sem]
                    have gy1 : wb.cell? ⟨wr.heap.size, 3, none⟩ = some (.int .i64 y1) := by rw [hwb]; simp [go_sem]
                    have gs : wb.heap.size = wr.heap.size + 1 := by rw [hwb]; simp
                    have hbw : Below wr.heap.size wr wb := by rw [hwb]; exact (Below.refl _ _).alloc (Nat.le_refl _) _
                    have gown : wb.ownsRow wk.heap.size 133 2 (.slice Av2 (crossL (r.take m) c).length cv2) (crossL (r.take m) c).length ((crossL (r.take m) c).flatMap encS) := by rw [hwb]; exact v2.alloc _
                    have hcl : (crossL (r.take m) c).length ≤ 100000000 := by
                      unfold crossL
                      rw [List.length_map]
                      refine Nat.le_trans (List.length_filter_le _ _) ?_
                      rw [List.length_take]; omega
                    have HFZ := hide (HM.out.fz j)
                    have HV1 := hide v1
                    have HV2 := hide v2
                    have HGV := hide gv
                    have HBW := hide hbw
                    have HG2 := hide g2
                    have HY0 := hide gy0
                    have HY1 := hide gy1
                    have HO := hide gown
                    have HGS := hide gs
                    have hRwb : Rw < wb.heap.size := by omega
                    have hSwb : S < wb.heap.size := by omega
                    have hwrb : wr.heap.size < wb.heap.size := by omega
                    have nR1 : Rw ≠ S := fun e => hne e.symm
                    have nR2 : Rw ≠ wr.heap.size := by omega
                    have hwkb : wk.heap.size ≤ wb.heap.size := by omega
                    clear gs d0 d1 d2 d3 f0 f2 v1 v2 gown hwb
                    refine wp_region_reads 13 (fun w' => w'.cell? ⟨S, 2, none⟩ = some (.slice (some ⟨Rw, 0, none⟩) ls.length ls.length) ∧ w'.cell? ⟨Rw, j, none⟩ = some (.slice Av2 (crossL (r.take m) c).length cv2) ∧ w'.cell? ⟨wr.heap.size, 1, none⟩ = some (.int .i64 y0) ∧ w'.cell? ⟨wr.heap.size, 3, none⟩ = some (.int .i64 y1)) (by kernel_rfl) (by kernel_rfl) ⟨g2, gv, gy0, gy1⟩ ?_
                    simp only [List.take_succ_cons, List.take_zero, List.drop_succ_cons, List.drop_zero]
                    iterate 13
                      refine ⟨?_, Or.inl ⟨by rfl, ?_⟩, ?_⟩
                      rotate_left 1
                      · intro w' hSw
                        obtain ⟨z1, z2, z3, z4⟩ := hSw
                        go_simp
                        first | done | with_reducible rfl
                      simp only [Act.put, List.setIfInBounds_toArray, List.set_cons_zero, List.set_cons_succ]
                    simp only [wpReads]
                    intro K hK
                    go_simp
                    refine hK _ _ (fun _ => ⟨by go_keep, by go_keep, by go_keep, by go_keep⟩) ?_
                    clear hK K
                    intro K hK
                    refine step_append_lies _ rfl (.tmp 61) (.tmp 67) 113 rfl wk.heap.size 133 i1 (.agg #[.int .i64 0, .int .i64 0]) 2 16 Tryz.underlying113 gi gz0 gz1 gz2 rfl (by decide) (.slice Av2 (crossL (r.take m) c).length cv2) (crossL (r.take m) c).length _ rfl (own_drew (World.ownsRow.alloc (w := wb) HO.out _)) ⟨wb.heap.size, 0, none⟩ 1 1 [.int .i64 y0, .int .i64 y1] rfl rfl (news_drew wb _ _ _ rfl) (ints_one rfl) (by omega) (by unfold maxLen; omega) (by omega) (by simp; omega) _ rfl ?_
                    intro g9 cap9 w9 hown9 hgrow9 _ _
                    obtain ⟨s1, s2, s3, s4, s5, HF9⟩ := app_after HSS.out hp ⟨c1, c2⟩ HV1.out hRk HBW.out _ HV2.out hgrow9 hown9 HFZ.out hSk HG2.out HY0.out HY1.out
                    clear hown9 hgrow9
                    refine hK _ _ (fun _ => ⟨s1, s2, s3, s4⟩) ?_
                    clear hK K
                    intro K hK
                    simp only [Act.put, List.setIfInBounds_toArray, List.set_cons_zero, List.set_cons_succ] at hK ⊢
                    go_simp
                    refine hK _ _ (fun _ => ⟨s1, s2, s3, s4⟩) ?_
                    clear hK K
                    intro K hK
                    simp only [Act.put, List.setIfInBounds_toArray, List.set_cons_zero, List.set_cons_succ] at hK ⊢
                    go_simp
                    refine hK _ _ (fun h => absurd rfl h) ?_
                    clear hK K
                    refine NoPanic.normal ?_
                    have HF9' := hide HF9.out
                    go_wp2
                    go_roundw
                    case rel => exact ⟨m + 1, by omega, by go_num, HF9'.out⟩
                    case measure => simp [intOf]; omega
                  · have c2' : x1 ≤ c := by omega
                    go_wp2
                    go_roundw
                    case rel => exact ⟨m + 1, by omega, by go_num, HSS.out.skip hp (fun h => by have := h.2; simp at this; omega) ((Below.refl _ _).alloc (Nat.le_refl _) _) (by omega)⟩
                    case measure => simp [intOf]; omega
                · have c1' : c < x0 := by omega
                  go_wp2
                  go_roundw
                  case rel => exact ⟨m + 1, by omega, by go_num, HSS.out.skip hp (fun h => by have := h.1; simp at this; omega) ((Below.refl _ _).alloc (Nat.le_refl _) _) (by omega)⟩
                  case measure => simp [intOf]; omega
              · obtain rfl : m = r.length := by omega
                have hmz : ¬ (r.length : Int) < (r.length : Int) := by omega
                have HF := hide (SIn.fin HM.out hr SS)
                clear SS e0 e2
                go_wp2
                go_roundw
                case rel => exact ⟨j + 1, by omega, by go_num, HF.out⟩
                case measure => simp [intOf]; omega
          · obtain rfl : j = ls.length := by omega
            have hjz : ¬ (ls.length : Int) < (ls.length : Int) := by omega
            have e0 := M.s0
            have e1 := M.s1
            have e2 := M.s2
            have hJ2 := HJ.out _ _ _ HJk.out M.below
            have hx : (prs cs)[k]? = some (c, d) := HP.out
            obtain ⟨hkp, hxe⟩ := List.getElem?_eq_some_iff.1 hx
            have hfi : (prs cs).take (k + 1) = (prs cs).take k ++ [(c, d)] := by rw [List.take_succ_eq_append_getElem hkp, hxe]
            have hpost : ∃ post, prs cs = (prs cs).take k ++ (c, d) :: post := ⟨(prs cs).drop (k + 1), by rw [← hxe, ← List.drop_eq_getElem_cons hkp, List.take_append_drop]⟩
            have hok : OkSlab ls (c, d) #[.agg #[.int .i64 c, .int .i64 d, .slice (some ⟨Rw, 0, none⟩) ls.length ls.length]] wr := by
              refine ⟨Rw, rfl, M.topR, fun q l hl => ?_⟩
              obtain ⟨v, v1, v2⟩ := M.done q l (List.getElem?_eq_some_iff.1 hl).1 hl
              exact ⟨v, v1, own_rd v2 (fun _ => rfl)⟩
            obtain ⟨fn, tmps, assign, body, hy, hR⟩ := HY.out ((prs cs).take k) (c, d) #[.agg #[.int .i64 c, .int .i64 d, .slice (some ⟨Rw, 0, none⟩) ls.length ls.length]] wr hJ2 hpost hok
            have FI := hide hfi
            have HM := hide M
            clear hx hxe hfi hpost hJ2 hok HJ HY M
            have hk2 : (k : Int) + 1 + 1 ≤ 100000001 := by omega
            have hk3' : (0 : Int) ≤ (k : Int) := by omega
            go_wp2
            gi_wp2
            refine ⟨rfl, hR.mono ?_⟩
            rintro e W3 (⟨rfl, hJ3, hk3⟩ | ⟨rfl, hJx3⟩)
            · have HJ3 := hide hJ3
              have HK3 := hide hk3
              clear hJ3 hk3 hR
              gi_wp2
              go_roundw
              case rel =>
                refine ⟨k + 1, by omega, by go_num, hide (by rw [FI.out]; exact HJ3.out), hide fun b o h1 h2 => (HK3.out.2 b o h1 h2).trans ((HM.out.below.cell (p := ⟨b, o, none⟩) (by show b < _; omega)).trans (HC.out b o h1 h2)), ?_⟩
                have := HK3.out.1
                have := HM.out.below.size
                omega
              case measure => simp [intOf]; omega
            · have HJx := hide hJx3
              clear hJx3 hR
              gi_wp2
              refine bodyPost_ret (results_none rfl _ _ _) rfl ?_
              exact ⟨⟨_, rfl⟩, .inr ⟨_, HJx.out⟩⟩
    · have hltz : ¬ (k : Int) + 1 < (cs.length : Int) := by omega
      have hk' : (prs cs).take k = prs cs := List.take_of_length_le (by omega)
      have HK := hide hk'
      clear hk' HJ HY h0
      gi_wp2
      go_end0
      exact ⟨⟨_, rfl⟩, .inl (by have := HJk.out; rw [HK.out] at this; exact this)⟩
end Go.Proofs.YtlkaniojnaaocaaGreat

/- A region that draws its order: reads, a chain (a call) that keeps their condition, reads of slots in any order, and a last operation. The law, in a round and outside of one. -/
namespace Go.Proofs.YtlkaniojnaaocaaGreat
open Go.RowKit
set_option linter.unusedVariables false
set_option linter.unusedSimpArgs false

section
variable {P : Program} {Q : Exit → Act → World → Prop} {md : Region.Mode} {S : World → Prop}

def mixCB (md : Region.Mode) (ops : Array Oper) (R2 T2 : List Nat) : List Nat → Array Bool → Bool
  | [], l => mixRB md ops T2 R2 l
  | t :: r, l => (Region.ready md ops l == [t]) && mixCB md ops R2 T2 r (l.setIfInBounds t true)
def mixHB (md : Region.Mode) (ops : Array Oper) (T R2 T2 : List Nat) : List Nat → Array Bool → Bool
  | [], l => mixCB md ops R2 T2 T l
  | i :: r, l => Region.free md ops l i && (Region.ready md ops l).contains i && waitsFor md ops (ops.size - 1) i && mixHB md ops T R2 T2 r (l.setIfInBounds i true)
def mixTwoB (md : Region.Mode) (ops : Array Oper) (R T R2 T2 : List Nat) : Bool := Region.noSelect ops && decide (R.length + (T.length + (R2.length + T2.length)) = ops.size) && (T2.getLast? == some (ops.size - 1)) && mixHB md ops T R2 T2 R (Array.replicate ops.size false)

/-- One operation behind the other; behind each, S is shown anew. -/
def wpChain (P : Program) (ops : Array Oper) (S : World → Prop) (Q : Exit → Act → World → Prop) (K : Act → World → Prop) : List Oper → Act → World → Prop
  | [], a, w => K a w
  | o :: r, a, w => ∀ K' : Act → World → Prop, (∀ a' w', S w' → wpChain P ops S Q K r a' w' → K' a' w') → if Region.wanted o (yielded ops a.tmps) = true then o.wp P a w K' Q else K' (a.put o.dst undef) w

theorem wpChain_mix {l : List Oper} {R2 T2 : List Nat} (hsel : ∀ (j : Nat) (o : Oper) cs b, l.toArray[j]? = some o → o.op ≠ .select cs b) (hQ : ∀ c a a' w, Q (.panic c) a w → Q (.panic c) a' w) (hL : ∀ t, T2.getLast? = some t → t = l.length - 1) :
    ∀ (T : List Nat) (listed : Array Bool) (a : Act) (w : World), S w → mixCB md l.toArray R2 T2 T listed = true →
      wpChain P l.toArray S Q (fun a w => wpReads P l.toArray S (fun a' => wpTail P l.toArray S Q (T2.map (opAt l)) a' w) (R2.map (opAt l)) a) (T.map (opAt l)) a w →
      wpAnyE P md l.toArray Q S (l.length - 1) (T.length + (R2.length + T2.length)) listed a w
  | [], listed, a, w, hS, hT, h => by
    rw [List.length_nil, Nat.zero_add]
    exact wpReads_mix hsel hQ hL hS R2 listed a hT h
  | t :: r, listed, a, w, hS, hT, h => by
    simp only [mixCB, Bool.and_eq_true, beq_iff_eq] at hT
    rw [List.length_cons, Nat.add_right_comm]
    refine ⟨fun h0 => (by rw [hT.1] at h0; cases h0), fun i hi => ?_⟩
    obtain ⟨_, o, ho, _⟩ := mem_ready.1 hi
    rw [hT.1] at hi
    obtain rfl : i = t := by simpa using hi
    have ho' : l[i]? = some o := by simpa using ho
    simp only [List.map_cons, opAt_some ho'] at h
    refine wpOp_step ho fun K' hK => h K' fun a' w' hS' hT' => hK a' w' ⟨fun _ => hS', ?_⟩
    exact wpChain_mix hsel hQ hL r _ a' w' hS' hT.2 hT'
theorem wpHead_mix {l : List Oper} {T R2 T2 : List Nat} (hsel : ∀ (j : Nat) (o : Oper) cs b, l.toArray[j]? = some o → o.op ≠ .select cs b) (hQ : ∀ c a a' w, Q (.panic c) a w → Q (.panic c) a' w) (hL : ∀ t, T2.getLast? = some t → t = l.length - 1)
    {w : World} (hS : S w) : ∀ (R : List Nat) (listed : Array Bool) (a : Act), mixHB md l.toArray T R2 T2 R listed = true →
      wpReads P l.toArray S (fun a' => wpChain P l.toArray S Q (fun a w => wpReads P l.toArray S (fun a' => wpTail P l.toArray S Q (T2.map (opAt l)) a' w) (R2.map (opAt l)) a) (T.map (opAt l)) a' w) (R.map (opAt l)) a →
      wpAnyE P md l.toArray Q S (l.length - 1) (R.length + (T.length + (R2.length + T2.length))) listed a w
  | [], listed, a, hR, h => by
    rw [List.length_nil, Nat.zero_add]
    exact wpChain_mix hsel hQ hL T listed a w hS hR h
  | i :: r, listed, a, hR, h => by
    simp only [mixHB, Bool.and_eq_true, List.contains_iff_mem] at hR
    obtain ⟨⟨⟨f1, f2⟩, f3⟩, f4⟩ := hR
    obtain ⟨_, o, ho, _⟩ := mem_ready.1 f2
    have ho' : l[i]? = some o := by simpa using ho
    simp only [List.map_cons, opAt_some ho'] at h
    obtain ⟨v, hy, h⟩ := h
    have ih := wpHead_mix hsel hQ hL hS r _ _ f4 h
    rw [List.length_cons, Nat.add_right_comm]
    refine wpAnyE_first ho hsel (fun c a w h => hQ c _ _ w h) ?_ _ _ _ _ (Region.free_spec ho f1) f2 hy hS ih
    intro oL hoL
    unfold waitsFor at f3
    simp only [List.size_toArray] at f3
    rw [hoL] at f3
    obtain ⟨e, he, h2⟩ := Array.any_eq_true'.1 f3
    simp only [Bool.and_eq_true, beq_iff_eq] at h2
    exact ⟨e, he, h2.1, h2.2⟩
theorem wpAny_two {a : Act} {w : World} {l : List Oper} (R T R2 T2 : List Nat) (hB : mixTwoB .any l.toArray R T R2 T2 = true) (hS : S w)
    (h : wpReads P l.toArray S (fun a' => wpChain P l.toArray S (NoPanic Q) (fun a w => wpReads P l.toArray S (fun a' => wpTail P l.toArray S (NoPanic Q) (T2.map (opAt l)) a' w) (R2.map (opAt l)) a) (T.map (opAt l)) a' w) (R.map (opAt l)) a) :
    wpAny P .any l.toArray (NoPanic Q) l.toArray.size (Array.replicate l.toArray.size false) a w := by
  refine wpAny_of_E (S := S) (L := l.length - 1) _ _ _ _ ?_
  simp only [mixTwoB, Bool.and_eq_true, decide_eq_true_eq, beq_iff_eq, List.size_toArray] at hB
  obtain ⟨⟨⟨b1, b2⟩, b3⟩, b4⟩ := hB
  have := wpHead_mix (Q := NoPanic Q) (S := S) (l := l) (T := T) (R2 := R2) (T2 := T2) (w := w) (Region.noSelect_spec b1) (fun _ _ _ _ h => h) (fun t ht => by rw [b3] at ht; injection ht with ht; exact ht.symm) hS R _ a b4 h
  rw [b2] at this
  exact this
theorem wp_region_two {id : Nat} {a : Act} {w : World} {l : List Oper} (R T R2 T2 : List Nat) (S : World → Prop) (hm : P.follows .mixedOrders = true) (hB : mixTwoB .any l.toArray R T R2 T2 = true) (hS : S w.drew)
    (h : wpReads P l.toArray S (fun a' => wpChain P l.toArray S (NoPanic Q) (fun a w => wpReads P l.toArray S (fun a' => wpTail P l.toArray S (NoPanic Q) (T2.map (opAt l)) a' w) (R2.map (opAt l)) a) (T.map (opAt l)) a' w.drew) (R.map (opAt l)) a) :
    (Code.region id l.toArray true).wp P Q a w :=
  wp_region_noPanic (wp_region_any hm (wpAny_two R T R2 T2 hB hS h))
theorem wpIn_region_two {id r m : Nat} {a : Act} {w : World} {l : List Oper} (R T R2 T2 : List Nat) (S : World → Prop) (hm : P.follows .mixedOrders = true) (hB : mixTwoB .any l.toArray R T R2 T2 = true) (hnd : noDefer l = true) (hout : ∀ a w, ¬ Q .outgrown a w) (hS : S w.drew)
    (h : wpReads P l.toArray S (fun a' => wpChain P l.toArray S (NoPanic Q) (fun a w => wpReads P l.toArray S (fun a' => wpTail P l.toArray S (NoPanic Q) (T2.map (opAt l)) a' w) (R2.map (opAt l)) a) (T.map (opAt l)) a' w.drew) (R.map (opAt l)) a) :
    (Code.region id l.toArray true).wpIn (Fence.wide.inRound r) m P Q a w :=
  Code.wpIn_mono NoPanic.imp (wpIn_region_any hm (wpAny_round (noDefer_spec hnd) (fun a w h => hout a w (NoPanic.imp _ _ _ h)) _ _ _ _ (wpAny_two R T R2 T2 hB hS h)))
end
end Go.Proofs.YtlkaniojnaaocaaGreat

/- region.joined: two regions joined, slab by slab. -/
namespace Go.Proofs.YtlkaniojnaaocaaGreat
open Go.RowKit
set_option linter.unusedVariables false
set_option linter.unusedSimpArgs false
attribute [local go_sem] Oper.semAt_some

/-- A slab with too many spans is a region with too many rectangles. -/
theorem slab_many {h : Bool → Bool → Bool} (h0 : h false false = false) {a b : List R4} (ha : ∀ r ∈ a, wf4 r) (hb : ∀ r ∈ b, wf4 r) (c : Int) : (sjoin h (crossL a c) (crossL b c)).length ≤ (rjoin h a b).length := by
  obtain ⟨r1, r2⟩ := rjoin_ok h0 ha hb
  obtain ⟨s1, s2⟩ := sjoin_ok h0 (crossL_wf ha c) (crossL_wf hb c)
  have e : crossL (rjoin h a b) c = sjoin h (crossL a c) (crossL b c) := (crossL_can r1 c).ext s1 fun y => by
    rw [smem_crossL, r2, s2, decide_eq_decide.2 (smem_crossL (l := a)), decide_eq_decide.2 (smem_crossL (l := b))]
  rw [← e]
  exact crossL_len _ _
theorem crossL_valid {l : List R4} (h : ∀ r ∈ l, valid4 r) (c : Int) : ∀ p ∈ crossL l c, validS p := by
  intro p hp
  obtain ⟨r, hr, rfl⟩ := List.mem_map.1 hp
  have hvr := h r (List.mem_filter.1 hr).1
  exact ⟨hvr.2.1, hvr.2.2.2.2.1.1, hvr.2.2.2.2.2.2⟩

theorem keepsFrom_set {n : Nat} {A B : World} (h : KeepsFrom n A B) {p : Addr} (hp : p.block < n) (v : Value) : KeepsFrom n A (B.setCell p v) := by
  refine ⟨Nat.le_trans h.1 (by simp), fun k o hk h1 h2 => ?_⟩
  have := h.2 k o hk h1 h2
  exact (Below.heap_setCell _ _ _ _ (by omega)).trans this
set_option maxRecDepth 100000 in
set_option maxHeartbeats 4000000 in
theorem joined_any {h : Bool → Bool → Bool} (h0 : h false false = false) {f : Nat} (hf : SpJoin f h) (ef : ∀ args w, (callFunc f args).run Tryz.prog w = .ok (.enter f args) w) {a b : List R4} {va vb : Value} {w : World} (ra : RdK encR 4 w w.heap.size va a) (rb : RdK encR 4 w w.heap.size vb b) (na : a.length ≤ 100000000) (nb : b.length ≤ 100000000) :
    Calls Tryz.prog 42 #[va, vb, .func (.func f) #[] #[]] w fun e w' => RegRet w.heap.size (joinF h a b) e w' ∧ Below w.heap.size w w' := by
  have hbo := fun (W : World) (hW : Below w.heap.size w W) => both_any (w := W) ((ra.below hW).mono hW.size) ((rb.below hW).mono hW.size) na nb
  have HBO := hide hbo
  have RA := hide ra
  have RB := hide rb
  obtain ⟨A1, c1, hva, _⟩ := id ra
  obtain ⟨A2, c2, hvb, _⟩ := id rb
  subst hva; subst hvb
  clear hbo ra rb
  have HSP := hide hf
  have HEF := hide ef
  have k3 : Below w.heap.size w (((w.alloc (.cells #[.func (.func f) #[] #[]] 86)).alloc (.cells #[.slice none 0 0] 47)).alloc (.cells #[.int .i64 0] 30)) := (((Below.refl _ _).alloc (Nat.le_refl _) _).alloc (by simp) _).alloc (by simp; omega) _
  have K3 := hide k3
  clear k3 hf ef
  by_cases hb0 : bothF a b = 0
  · obtain ⟨ca, cb⟩ := bothF_ok hb0
    have HWA := hide (check_wf ca)
    have HWB := hide (check_wf cb)
    obtain ⟨la, va4, _⟩ := checkF_ok ca
    obtain ⟨lb, vb4, _⟩ := checkF_ok cb
    have HVA := hide va4
    have HVB := hide vb4
    have HCA := hide (check_rcan ca)
    have HCB := hide (check_rcan cb)
    have hcl : (List.flatMap cutsL [a, b]).length ≤ 100000000 := by simp [cutsL_len]; omega
    have hcs := cutsOf_ok (List.flatMap cutsL [a, b])
    have hl2 : (List.flatMap cutsL [a, b]).length = 2 * a.length + 2 * b.length := by simp [cutsL_len]
    have hcn : (cutsOf (List.flatMap cutsL [a, b])).length ≤ 1600 := by
      have h1 := cutsOf_len (List.flatMap cutsL [a, b])
      omega
    clear hl2
    have hfin := swp_join h0 HWA.out HWB.out hcs.1 (fun c hc => (hcs.2 c).2 (by simp [hc])) (fun c hc => (hcs.2 c).2 (by simp [hc]))
    have hgl : ∀ c, (sjoin h (crossL a c) (crossL b c)).length ≤ 1600 := by
      intro c
      have h1 := sjoin_len h (crossL a c) (crossL b c)
      have h2 := crossL_len a c
      have h3 := crossL_len b c
      omega
    have hjl := rjoin_len2 h a b la lb
    have hslab : ∀ (W : World) (L : Nat), L < W.heap.size → (∃ v, W.cell? ⟨L, 0, none⟩ = some v ∧ RdK encR 4 W W.heap.size v a) → (∃ v, W.cell? ⟨L, 1, none⟩ = some v ∧ RdK encR 4 W W.heap.size v b) → _ := fun W L h1 h2 h3 =>
      slabsB_any [a, b] L 2 W h1 (fun k l' hk => by
        match k, hk with
        | 0, hk => simp at hk; subst hk; exact h2
        | 1, hk => simp at hk; subst hk; exact h3
        | k + 2, hk => simp at hk) hcl (by simp)
    simp only [List.length_cons, List.length_nil, Nat.zero_add, Nat.reduceAdd] at hslab
    have hJF : joinF h a b = if 400 < (rjoin h a b).length then ([], 4) else (rjoin h a b, 0) := if_pos hb0
    rw [hb0] at HBO
    have HMANY := hide (fun c => slab_many h0 HWA.out HWB.out c)
    generalize hcsd : cutsOf (List.flatMap cutsL [a, b]) = cs at *
    clear hcsd
    have HS := hide hslab
    have HF := hide hfin
    have HG := hide hgl
    have HC := hide hcs
    have HJF := hide hJF
    clear hslab hfin hgl hcs hJF ca cb hb0 va4 vb4
    refine (callsIn_wide (n := 0)).1 ?_
    refine callsIn_of_wp_marks Tryz.func42 rfl trivial ?_
    simp only [Tryz.ntmps42, List.size_toArray, List.length_cons, List.length_nil, Nat.reduceAdd, Nat.reduceSub, Array.replicate_succ, Array.replicate_zero, List.push_toArray, List.append_toArray, List.nil_append, List.cons_append]
    refine wpIn_wide.2 ?_
    go_wp2_with (fail)
    refine (HBO.out _ K3.out).mono ?_
    rintro e w1 ⟨rfl, hb1⟩
    have hs1 := hb1.size
    simp at hs1
    have c5 : w1.cell? ⟨w.heap.size, 0, none⟩ = some (.func (.func f) #[] #[]) := (hb1.cell (p := ⟨w.heap.size, 0, none⟩) (by simp; omega)).trans (by simp [go_sem])
    have k6 : w1.cell? ⟨w.heap.size + 1, 0, none⟩ = some (.slice none 0 0) := (hb1.cell (p := ⟨w.heap.size + 1, 0, none⟩) (by simp)).trans (by simp [go_sem])
    have k7 : w1.cell? ⟨w.heap.size + 1 + 1, 0, none⟩ = some (.int .i64 0) := (hb1.cell (p := ⟨w.heap.size + 1 + 1, 0, none⟩) (by simp)).trans (by simp [go_sem])
    have f6 : w1.frozen? ⟨w.heap.size + 1, 0, none⟩ = false := (hb1.frozen (p := ⟨w.heap.size + 1, 0, none⟩) (by simp)).trans (by simp [go_sem])
    have f7 : w1.frozen? ⟨w.heap.size + 1 + 1, 0, none⟩ = false := (hb1.frozen (p := ⟨w.heap.size + 1 + 1, 0, none⟩) (by simp)).trans (by simp [go_sem])
    have KB := hide (K3.out.trans (hb1.mono (by simp; omega)))
    have HBX := hide (And.intro c5 (And.intro (And.intro k6 k7) (And.intro f6 f7)))
    clear hb1 c5 k6 k7 f6 f7 HBO
    go_wp2_with (fail)
    have hb2 : Below w1.heap.size w1 ((w1.alloc (.cells #[.slice none 0 0, .slice none 0 0, .int .i64 0, .int .i64 0] 115)).alloc (.cells #[.slice A1 a.length c1, .slice A2 b.length c2] 47)) := ((Below.refl _ _).alloc (Nat.le_refl _) _).alloc (by simp) _
    have hL1 : ((w1.alloc (.cells #[.slice none 0 0, .slice none 0 0, .int .i64 0, .int .i64 0] 115)).alloc (.cells #[.slice A1 a.length c1, .slice A2 b.length c2] 47)).cell? ⟨w1.heap.size + 1, 0, none⟩ = some (.slice A1 a.length c1) := by simp [go_sem]
    have hL2 : ((w1.alloc (.cells #[.slice none 0 0, .slice none 0 0, .int .i64 0, .int .i64 0] 115)).alloc (.cells #[.slice A1 a.length c1, .slice A2 b.length c2] 47)).cell? ⟨w1.heap.size + 1, 1, none⟩ = some (.slice A2 b.length c2) := by simp [go_sem]
    have hs := HS.out ((w1.alloc (.cells #[.slice none 0 0, .slice none 0 0, .int .i64 0, .int .i64 0] 115)).alloc (.cells #[.slice A1 a.length c1, .slice A2 b.length c2] 47)) (w1.heap.size + 1) (by simp)
      ⟨_, hL1, (((RA.out.below KB.out).mono KB.out.size).below hb2).mono hb2.size⟩ ⟨_, hL2, (((RB.out.below KB.out).mono KB.out.size).below hb2).mono hb2.size⟩
    simp only [World.size_alloc, Nat.add_assoc, Nat.reduceAdd] at hs
    have hbc : ∀ j u, (#[Value.slice none 0 0, .slice none 0 0, .int .i64 0, .int .i64 0] : Array Value)[j]? = some u → ((w1.alloc (.cells #[.slice none 0 0, .slice none 0 0, .int .i64 0, .int .i64 0] 115)).alloc (.cells #[.slice A1 a.length c1, .slice A2 b.length c2] 47)).cell? ⟨w1.heap.size, j, none⟩ = some u := by
      intro j u hj
      refine (World.cell?_alloc_lt (w1.alloc _) _ ⟨w1.heap.size, j, none⟩ (by simp)).trans ?_
      have := news_new w1 [Value.slice none 0 0, .slice none 0 0, .int .i64 0, .int .i64 0] 115 w1.heap.size rfl j u (by simpa using hj)
      rwa [addr_add] at this
    refine hs.mono ?_
    clear hs
    rintro e wS ⟨vc, rfl, hbl, hbc2, hown, hbS⟩
    have hsz1 : ((w1.alloc (.cells #[.slice none 0 0, .slice none 0 0, .int .i64 0, .int .i64 0] 115)).alloc (.cells #[.slice A1 a.length c1, .slice A2 b.length c2] 47)).heap.size = w1.heap.size + 2 := by simp
    have hz1 : ∀ j, ((w1.alloc (.cells #[.slice none 0 0, .slice none 0 0, .int .i64 0, .int .i64 0] 115)).alloc (.cells #[.slice A1 a.length c1, .slice A2 b.length c2] 47)).frozen? ⟨w1.heap.size, j, none⟩ = false := fun j => by simp [go_sem]
    go_wp2_with (fail)
    obtain ⟨w2, hw2⟩ : ∃ w2, (w1.alloc (.cells #[.slice none 0 0, .slice none 0 0, .int .i64 0, .int .i64 0] 115)).alloc (.cells #[.slice A1 a.length c1, .slice A2 b.length c2] 47) = w2 := ⟨_, rfl⟩
    rw [hw2] at hb2 hL1 hL2 hbc hbS hsz1 hz1
    clear hw2
    have hcsz := hbS.size
    obtain ⟨Ac, cc, hvc⟩ := own_form hown
    subst hvc
    have hbS2 : Below (w1.heap.size + 2) w2 wS := hbS.mono (by omega)
    have hlow : Below w1.heap.size w1 wS := hb2.trans (hbS.mono (by omega))
    have kS : ∀ j, wS.cell? ⟨w1.heap.size, j, none⟩ = w2.cell? ⟨w1.heap.size, j, none⟩ := fun j => hbS2.cell (p := ⟨w1.heap.size, j, none⟩) (by show w1.heap.size < _; omega)
    have zS : ∀ j, wS.frozen? ⟨w1.heap.size, j, none⟩ = w2.frozen? ⟨w1.heap.size, j, none⟩ := fun j => hbS2.frozen (p := ⟨w1.heap.size, j, none⟩) (by show w1.heap.size < _; omega)
    have hbw0 : BW w1.heap.size wS.heap.size (swp (fun c => sjoin h (crossL a c) (crossL b c)) []) [] 0 0 wS :=
      ⟨by omega, Nat.le_refl _, ⟨_, (kS 0).trans (hbc 0 _ rfl), World.ownsRow_nil _ _ _ _⟩, ⟨_, (kS 1).trans (hbc 1 _ rfl), World.ownsRow_nil _ _ _ _⟩, (kS 2).trans (hbc 2 _ rfl), (kS 3).trans (hbc 3 _ rfl), fun j => (zS j).trans (hz1 j), BInv.start⟩
    have hL1S := (hbS2.cell (p := ⟨w1.heap.size + 1, 0, none⟩) (by show w1.heap.size + 1 < _; omega)).trans hL1
    have hL2S := (hbS2.cell (p := ⟨w1.heap.size + 1, 1, none⟩) (by show w1.heap.size + 1 < _; omega)).trans hL2
    have hit := slabsItB [a, b] cs (w1.heap.size + 3) (w1.heap.size + 2) (w1.heap.size + 1) 2 cc w1.heap.size (w1.heap.size + 4) Ac wS (lt_of_cell hbl) (lt_of_cell hbc2) (by omega) (by omega) (by omega) (by omega) (by omega) (by omega)
      hbl hbc2 hown (fun k l' hk => by
        match k, hk with
        | 0, hk => simp at hk; subst hk; exact ⟨by omega, _, hL1S, ((RA.out.below KB.out).mono KB.out.size).below hlow⟩
        | 1, hk => simp at hk; subst hk; exact ⟨by omega, _, hL2S, ((RB.out.below KB.out).mono KB.out.size).below hlow⟩
        | k + 2, hk => simp at hk) (by simp) (by omega)
    have hws : w1.heap.size + 4 ≤ wS.heap.size := lt_of_cell hbc2
    have hI0 : MI w1.heap.size wS.heap.size (fun c => sjoin h (crossL a c) (crossL b c)) 1600 w1 [] wS := ⟨⟨[], 0, 0, hbw0, by simp, .inl rfl⟩, hlow⟩
    clear hb2 hL1 hL2 hbc hbS hsz1 hz1 hcsz hbS2 hlow kS zS hbw0 hL1S hL2S hbl hbc2 hown
    refine (wpIn_wide (n := 0)).1 ?_
    refine wp_range rfl (enters_of Tryz.func97 (by kernel_rfl) rfl) hit (Below.refl _ _) (fun x args A hx => by obtain ⟨Rw, rfl, _⟩ := hx; rfl) KpX.trans ?_
      (MI w1.heap.size wS.heap.size (fun c => sjoin h (crossL a c) (crossL b c)) 1600 w1) (fun _ W => 400 < (rjoin h a b).length ∧ W.cell? ⟨w.heap.size + 1, 0, none⟩ = some (.slice none 0 0) ∧ W.cell? ⟨w.heap.size + 1 + 1, 0, none⟩ = some (.int .i64 4) ∧ Below w.heap.size w W)
      (fun pre A B h hb => h.below hb) (fun pre A l o o' h hw hl ho ho' => h.putObj (by omega) hl ho ho') (fun pre A l o o' h hw hl ho ho' => ⟨h.1, (cell_putObj hl ho ho' _).1.trans h.2.1, (cell_putObj hl ho ho' _).1.trans h.2.2.1, below_putObj h.2.2.2 (by have := KB.out.size; omega) _⟩) hI0 ?_ ?_ ?_
    · intro A l o o' _ h1 h2 h3
      exact ⟨by simp, fun b off _ _ => (cell_putObj h1 h2 h3 _).1⟩
    · rintro l2 pre ⟨c, d⟩ args A hMI ⟨post, hpost⟩ ⟨Rw, rfl, hRw, hrows⟩ hl1 ⟨ol, hl2, hl3⟩
      have hll : l2 < A.heap.size := (Array.getElem?_eq_some_iff.1 hl2).1
      obtain ⟨vx, hx1, hx2⟩ := hrows 0 a rfl
      obtain ⟨vy, hy1, hy2⟩ := hrows 1 b rfl
      have hlo := hMI.low.size
      have hBoA : wS.heap.size ≤ A.heap.size := by obtain ⟨_, _, _, h1, _⟩ := hMI.bw; exact h1.size
      have hM := hide hMI
      have HX1 := hide hx1
      have HX2 := hide hx2
      have HY1 := hide hy1
      have HY2 := hide hy2
      have HL2 := hide hl2
      have HP := hide hpost
      clear hMI hrows hx1 hx2 hy1 hy2 hit hI0 hl2 hpost
      gi_wp2
      refine ⟨KeepsFrom.of_below' ((Below.refl _ _).alloc (Nat.le_refl _) _), KpX.below hBoA ((Below.refl _ _).alloc (Nat.le_refl _) _), ?_⟩
      intro A2 g2 s2 e2 f2
      have c20 : A2.cell? ⟨A.heap.size, 0, none⟩ = some (.int .i64 c) := (e2 _).trans (by simp [go_sem])
      have c21 : A2.cell? ⟨A.heap.size, 1, none⟩ = some (.int .i64 d) := (e2 _).trans (by simp [go_sem])
      have c22 : A2.cell? ⟨A.heap.size, 2, none⟩ = some (.slice (some ⟨Rw, 0, none⟩) 2 2) := (e2 _).trans (by simp [go_sem])
      have s3 : A2.heap.size = A.heap.size + 1 := by rw [s2]; simp
      have cR0 : A2.cell? ⟨Rw, 0, none⟩ = some vx := (e2 _).trans ((World.cell?_alloc_lt A _ ⟨Rw, 0, none⟩ hRw).trans HX1.out)
      have cR1 : A2.cell? ⟨Rw, 1, none⟩ = some vy := (e2 _).trans ((World.cell?_alloc_lt A _ ⟨Rw, 1, none⟩ hRw).trans HY1.out)
      have rd0 : RdK encS 2 A2 A2.heap.size vx (crossL a c) := (HX2.out.keep fun b o hb => (e2 _).trans (World.cell?_alloc_lt A _ ⟨b, o, none⟩ hb)).mono (by omega)
      have rd1 : RdK encS 2 A2 A2.heap.size vy (crossL b c) := (HY2.out.keep fun b o hb => (e2 _).trans (World.cell?_alloc_lt A _ ⟨b, o, none⟩ hb)).mono (by omega)
      have M2 := (hM.out.below ((Below.refl _ _).alloc (Nat.le_refl _) (.cells #[.int .i64 c, .int .i64 d, .slice (some ⟨Rw, 0, none⟩) 2 2] 120))).grown (by omega) g2 ((Below.heap_alloc _ _ _ hll).trans HL2.out) hl3
      have c5 : A2.cell? ⟨w.heap.size, 0, none⟩ = some (.func (.func f) #[] #[]) := (M2.low.cell (p := ⟨w.heap.size, 0, none⟩) (by show w.heap.size < _; omega)).trans HBX.out.1
      have k6 : A2.cell? ⟨w.heap.size + 1, 0, none⟩ = some (.slice none 0 0) := (M2.low.cell (p := ⟨w.heap.size + 1, 0, none⟩) (by show w.heap.size + 1 < _; omega)).trans HBX.out.2.1.1
      have k7 : A2.cell? ⟨w.heap.size + 1 + 1, 0, none⟩ = some (.int .i64 0) := (M2.low.cell (p := ⟨w.heap.size + 1 + 1, 0, none⟩) (by show w.heap.size + 1 + 1 < _; omega)).trans HBX.out.2.1.2
      have f6 : A2.frozen? ⟨w.heap.size + 1, 0, none⟩ = false := (M2.low.frozen (p := ⟨w.heap.size + 1, 0, none⟩) (by show w.heap.size + 1 < _; omega)).trans HBX.out.2.2.1
      have f7 : A2.frozen? ⟨w.heap.size + 1 + 1, 0, none⟩ = false := (M2.low.frozen (p := ⟨w.heap.size + 1 + 1, 0, none⟩) (by show w.heap.size + 1 + 1 < _; omega)).trans HBX.out.2.2.2
      obtain ⟨av, cv, hvx, _⟩ := id rd0
      obtain ⟨aw, cw, hvy, _⟩ := id rd1
      subst hvx; subst hvy
      have hcall := fun (W : World) (hW : Below A2.heap.size A2 W) => HSP.out (crossL a c) (crossL b c) _ _ W ((rd0.below hW).mono hW.size) ((rd1.below hW).mono hW.size) (Nat.le_trans (crossL_len a c) la) (Nat.le_trans (crossL_len b c) lb) (crossL_can HCA.out c) (crossL_can HCB.out c) (crossL_valid HVA.out c) (crossL_valid HVB.out c)
      have HCALL := hide hcall
      obtain ⟨last, first, e, B2, q1, q2⟩ := M2.bw
      have hprs := HP.out
      have hlt := prs_lt cs HC.out.1 (c, d) (by rw [hprs]; simp)
      have hnx := prs_next cs pre (c, d) post hprs
      have hplen : pre.length ≤ 1600 := by
        have h1 := prs_len cs
        rw [hprs] at h1
        simp at h1
        omega
      have hfl := swp_len (fun c => sjoin h (crossL a c) (crossL b c)) 1600 HG.out pre
      have hfl2 : (flat (swp (fun c => sjoin h (crossL a c) (crossL b c)) pre)).length ≤ 100000000 := by have := Nat.mul_le_mul_right 1600 hplen; omega
      have hsl := HG.out c
      have hef : swp (fun c => sjoin h (crossL a c) (crossL b c)) pre = [] ∨ e ≤ c := by
        rcases q2 with rfl | ⟨p, hp, rfl⟩
        · exact .inl rfl
        · exact .inr (by rw [hnx p hp]; exact Int.le_refl _)
      have hadd : ∀ (A3 : World) (Am : Option Addr) (cm : Nat), Below A2.heap.size A2 A3 → A3.ownsRow wS.heap.size 133 2 (.slice Am (sjoin h (crossL a c) (crossL b c)).length cm) (sjoin h (crossL a c) (crossL b c)).length ((sjoin h (crossL a c) (crossL b c)).flatMap encS) → _ := fun A3 Am cm hb ho =>
        add_any (s := sjoin h (crossL a c) (crossL b c)) (f := c) (t := d) (B2.below hb) ho hfl2 (Nat.le_trans hsl (by omega)) (by omega) hef hlt.1
      have HA := hide hadd
      have HM2 := hide M2.low
      have HMC := hide (HMANY.out c)
      have hsj : sjF h (crossL a c) (crossL b c) = if 400 < (sjoin h (crossL a c) (crossL b c)).length then ([], 4) else (sjoin h (crossL a c) (crossL b c), 0) := rfl
      have HSJ := hide hsj
      have HBLT := hide (show w.heap.size + 3 ≤ A2.heap.size by omega)
      have hRw2 : Rw < A2.heap.size := by omega
      have hws2 : wS.heap.size ≤ A2.heap.size := by omega
      clear g2 s2 e2 f2 M2 B2 hadd hlt hnx hef hprs q2 hcall rd0 rd1 hsj hfl hfl2
      gi_wp2_with (refine ⟨trivial, rfl, ?_⟩)
      refine wpIn_region_two [0, 1, 2, 3, 4, 5, 6, 7, 8] [9, 10] [11, 12, 13] [14] (fun w' => (w'.cell? ⟨w.heap.size, 0, none⟩ = some (.func (.func f) #[] #[]) ∧ w'.cell? ⟨A.heap.size, 2, none⟩ = some (.slice (some ⟨Rw, 0, none⟩) 2 2)) ∧ w'.cell? ⟨Rw, 0, none⟩ = some (.slice av (crossL a c).length cv) ∧ w'.cell? ⟨Rw, 1, none⟩ = some (.slice aw (crossL b c).length cw)) (by kernel_rfl) (by kernel_rfl) rfl (fun a w h => h) ⟨⟨c5, c22⟩, cR0, cR1⟩ ?_
      simp only [List.map_cons, List.map_nil, opAt, List.getElem?_cons_succ, List.getElem?_cons_zero, Option.getD_some]
      iterate 9
        refine ⟨?_, Or.inl ⟨by rfl, ?_⟩, ?_⟩
        rotate_left 1
        · intro w' hSw
          obtain ⟨⟨z0, z1⟩, z2, z3⟩ := hSw
          go_simp
          first | done | with_reducible rfl
        simp only [Act.put, List.setIfInBounds_toArray, List.set_cons_zero, List.set_cons_succ]
      simp only [wpReads, wpChain]
      intro K hK
      simp only [Act.put, List.setIfInBounds_toArray, List.set_cons_zero, List.set_cons_succ] at hK ⊢
      go_simp
      rw [HEF.out]
      have hcd := HCALL.out A2.drew (Below.refl _ _).drew
      rw [HSJ.out] at hcd
      refine hcd.mono ?_
      clear hcd
      rintro e' A4 ⟨⟨Am, cm, rfl, ho4⟩, hb4'⟩
      have hb4 : Below A2.heap.size A2 A4 := (Below.refl _ _).drew.trans hb4'
      have hkc : ∀ p : Addr, p.block < A2.heap.size → A4.cell? p = A2.cell? p := fun p hp => hb4.cell hp
      have hkf : ∀ p : Addr, p.block < A2.heap.size → A4.frozen? p = A2.frozen? p := fun p hp => hb4.frozen hp
      have n5 := (hkc ⟨w.heap.size, 0, none⟩ (by show w.heap.size < _; omega)).trans c5
      have n6 := (hkc ⟨w.heap.size + 1, 0, none⟩ (by show w.heap.size + 1 < _; omega)).trans k6
      have n7 := (hkc ⟨w.heap.size + 1 + 1, 0, none⟩ (by show w.heap.size + 1 + 1 < _; omega)).trans k7
      have m6 := (hkf ⟨w.heap.size + 1, 0, none⟩ (by show w.heap.size + 1 < _; omega)).trans f6
      have m7 := (hkf ⟨w.heap.size + 1 + 1, 0, none⟩ (by show w.heap.size + 1 + 1 < _; omega)).trans f7
      have n20 := (hkc ⟨A.heap.size, 0, none⟩ (by show A.heap.size < _; omega)).trans c20
      have n21 := (hkc ⟨A.heap.size, 1, none⟩ (by show A.heap.size < _; omega)).trans c21
      have n22 := (hkc ⟨A.heap.size, 2, none⟩ (by show A.heap.size < _; omega)).trans c22
      have nR0 := (hkc ⟨Rw, 0, none⟩ (by show Rw < _; omega)).trans cR0
      have nR1 := (hkc ⟨Rw, 1, none⟩ (by show Rw < _; omega)).trans cR1
      have HB4 := hide hb4
      have HO4 := hide ho4
      clear hkc hkf c5 k6 k7 f6 f7 c20 c21 c22 cR0 cR1 hb4 hb4' ho4
      refine hK _ _ ⟨⟨n5, n22⟩, nR0, nR1⟩ ?_
      clear hK K
      intro K hK
      simp only [Act.put, List.setIfInBounds_toArray, List.set_cons_zero, List.set_cons_succ] at hK ⊢
      go_simp
      refine hK _ _ ⟨⟨n5, n22⟩, nR0, nR1⟩ ?_
      clear hK K n5 n22 nR0 nR1
      iterate 3
        refine ⟨?_, Or.inl ⟨by rfl, ?_⟩, ?_⟩
        rotate_left 1
        · intro w' hSw
          clear hSw
          go_simp
          first | done | with_reducible rfl
        try simp only [Act.put, List.setIfInBounds_toArray, List.set_cons_zero, List.set_cons_succ]
      intro K hK
      simp only [Act.put, List.setIfInBounds_toArray, List.set_cons_zero, List.set_cons_succ] at hK ⊢
      go_simp
      refine hK _ _ (fun h => absurd rfl h) ?_
      clear hK K
      refine NoPanic.normal ?_
      by_cases h4 : 400 < (sjoin h (crossL a c) (crossL b c)).length
      · have HO5 := HO4.out
        simp only [if_pos h4] at HO5 ⊢
        have hmany := Nat.lt_of_lt_of_le h4 HMC.out
        gi_wp2_with (fail)
        have hb4 := HB4.out
        refine ⟨keepsFrom_set (keepsFrom_set (KeepsFrom.of_below' hb4) (by show w.heap.size + 1 < _; omega) _) (by show w.heap.size + 1 + 1 < _; omega) _, hmany, by simp [go_sem, n6, n7, m6, m7], by simp [go_sem, n6, n7, m6, m7], ?_⟩
        exact (((KB.out.trans (HM2.out.mono (by omega))).trans (hb4.mono (by omega))).setCell (p := ⟨w.heap.size + 1, 0, none⟩) (Nat.le_succ _) _).setCell (p := ⟨w.heap.size + 1 + 1, 0, none⟩) (by show w.heap.size ≤ w.heap.size + 1 + 1; omega) _
      · have HO5 := HO4.out
        simp only [if_neg h4] at HO5 ⊢
        have hadd := HA.out A4 Am cm HB4.out (own_base HO5 (by show wS.heap.size ≤ A2.heap.size; omega))
        gi_wp2_with (first
          | (refine ⟨trivial, rfl, ?_⟩)
          | (gi_at_call 68; refine (CallsIn.inRound l2 (callsIn_wide.2 hadd)).mono ?_; rintro e' A5 ⟨rfl, first', hbw5, hb5, hblk5, hk5⟩))
        have hb4 := HB4.out
        refine ⟨(KeepsFrom.of_below' hb4).trans (hk5.from _), (KpX.below (by omega) hb4).trans ⟨hk5.size, fun b o h1 h2 => World.cell?_of_block (w := A4) (hblk5 b h1 h2)⟩, ⟨_, first', d, by rw [swp_snoc]; exact hbw5, hsl, .inr ⟨(c, d), by simp, rfl⟩⟩, ?_⟩
        exact (HM2.out.trans (hb4.mono (by omega))).trans hb5
    · rintro D W hD hMI hK
      obtain ⟨last, first, e, hB, _, _⟩ := hMI.bw
      have hplen : (prs cs).length ≤ 1600 := by
        have h1 := prs_len cs
        omega
      have hfl := swp_len (fun c => sjoin h (crossL a c) (crossL b c)) 1600 HG.out (prs cs)
      have hfl2 := Nat.mul_le_mul_right 1600 hplen
      have hres := result_any hB (by omega)
      rw [HF.out] at hres
      have hws2 := hB.size
      have HM := hide hMI.low
      have HK := hide hK
      have hD2 : D < W.heap.size := (Array.getElem?_eq_some_iff.1 hK).1
      have hlw : w1.heap.size ≤ W.heap.size := hMI.low.size
      have k6 : W.cell? ⟨w.heap.size + 1, 0, none⟩ = some (.slice none 0 0) := (HM.out.cell (p := ⟨w.heap.size + 1, 0, none⟩) (by show w.heap.size + 1 < _; omega)).trans HBX.out.2.1.1
      have k7 : W.cell? ⟨w.heap.size + 1 + 1, 0, none⟩ = some (.int .i64 0) := (HM.out.cell (p := ⟨w.heap.size + 1 + 1, 0, none⟩) (by show w.heap.size + 1 + 1 < _; omega)).trans HBX.out.2.1.2
      have f6 : W.frozen? ⟨w.heap.size + 1, 0, none⟩ = false := (HM.out.frozen (p := ⟨w.heap.size + 1, 0, none⟩) (by show w.heap.size + 1 < _; omega)).trans HBX.out.2.2.1
      have f7 : W.frozen? ⟨w.heap.size + 1 + 1, 0, none⟩ = false := (HM.out.frozen (p := ⟨w.heap.size + 1 + 1, 0, none⟩) (by show w.heap.size + 1 + 1 < _; omega)).trans HBX.out.2.2.2
      clear hB hMI hfl hfl2 hit hI0 hK
      simp only [Exit.inBlock, Exit.then]
      by_cases h4 : 400 < (rjoin h a b).length
      · have HMF : Hid (joinF h a b = ([], 4)) := hide (HJF.out.trans (if_pos h4))
        go_wp2_with (go_at_call 69; refine hres.mono ?_; rintro e' w' ⟨rfl, hq⟩; obtain rfl : e' = .returned (.tuple #[.slice none 0 0, .int .i64 4]) := hq.elim (fun q => q.2) (fun q => absurd q.1 (by omega)); clear hq)
        have c6 : ((W.setCell ⟨w.heap.size + 1, 0, none⟩ (.slice none 0 0)).setCell ⟨w.heap.size + 1 + 1, 0, none⟩ (.int .i64 4)).cell? ⟨w.heap.size + 1, 0, none⟩ = some (.slice none 0 0) := by simp [go_sem, k6, k7, f6, f7]
        have c7 : ((W.setCell ⟨w.heap.size + 1, 0, none⟩ (.slice none 0 0)).setCell ⟨w.heap.size + 1 + 1, 0, none⟩ (.int .i64 4)).cell? ⟨w.heap.size + 1 + 1, 0, none⟩ = some (.int .i64 4) := by simp [go_sem, k6, k7, f6, f7]
        have cD : ((W.setCell ⟨w.heap.size + 1, 0, none⟩ (.slice none 0 0)).setCell ⟨w.heap.size + 1 + 1, 0, none⟩ (.int .i64 4)).heap[D]? = some (.deferred (some [])) := (Below.heap_setCell _ _ _ _ (by show D ≠ w.heap.size + 1 + 1; omega)).trans ((Below.heap_setCell _ _ _ _ (by show D ≠ w.heap.size + 1; omega)).trans HK.out)
        have hbL : Below w.heap.size w ((W.setCell ⟨w.heap.size + 1, 0, none⟩ (.slice none 0 0)).setCell ⟨w.heap.size + 1 + 1, 0, none⟩ (.int .i64 4)) := ((KB.out.trans (HM.out.mono (by omega))).setCell (p := ⟨w.heap.size + 1, 0, none⟩) (Nat.le_succ _) _).setCell (p := ⟨w.heap.size + 1 + 1, 0, none⟩) (by show w.heap.size ≤ w.heap.size + 1 + 1; omega) _
        obtain ⟨W3, hW3⟩ : ∃ W3, (W.setCell ⟨w.heap.size + 1, 0, none⟩ (.slice none 0 0)).setCell ⟨w.heap.size + 1 + 1, 0, none⟩ (.int .i64 4) = W3 := ⟨_, rfl⟩
        rw [hW3] at c6 c7 cD hbL
        rw [hW3]
        clear hW3 k6 k7 f6 f7
        refine ⟨by simp, .inl ⟨_, _, rfl, run_takeDeferred cD, ?_⟩⟩
        have e6 := (cell_putObj (o' := .deferred none) cD rfl rfl ⟨w.heap.size + 1, 0, none⟩).1.trans c6
        have e7 := (cell_putObj (o' := .deferred none) cD rfl rfl ⟨w.heap.size + 1 + 1, 0, none⟩).1.trans c7
        refine ⟨.tuple #[(.slice none 0 0), .int .i64 4], by simp [results, Tryz.results42, go_sem, e6, e7], ⟨none, 0, by rw [HMF.out]; rfl, by rw [HMF.out]; exact World.ownsRow_nil _ _ _ _⟩, below_putObj hbL (by omega) _⟩
      · have HMF : Hid (joinF h a b = (rjoin h a b, 0)) := hide (HJF.out.trans (if_neg h4))
        generalize rjoin h a b = R at *
        go_wp2_with (go_at_call 69; refine hres.mono ?_; rintro e' w' ⟨rfl, hq⟩; obtain ⟨Ar, cr, rfl, hor⟩ := hq.elim (fun q => absurd q.1 h4) (fun q => q.2); have HOR := hide hor; clear hq hor)
        have c6 : ((W.setCell ⟨w.heap.size + 1, 0, none⟩ (.slice Ar R.length cr)).setCell ⟨w.heap.size + 1 + 1, 0, none⟩ (.int .i64 0)).cell? ⟨w.heap.size + 1, 0, none⟩ = some (.slice Ar R.length cr) := by simp [go_sem, k6, k7, f6, f7]
        have c7 : ((W.setCell ⟨w.heap.size + 1, 0, none⟩ (.slice Ar R.length cr)).setCell ⟨w.heap.size + 1 + 1, 0, none⟩ (.int .i64 0)).cell? ⟨w.heap.size + 1 + 1, 0, none⟩ = some (.int .i64 0) := by simp [go_sem, k6, k7, f6, f7]
        have cD : ((W.setCell ⟨w.heap.size + 1, 0, none⟩ (.slice Ar R.length cr)).setCell ⟨w.heap.size + 1 + 1, 0, none⟩ (.int .i64 0)).heap[D]? = some (.deferred (some [])) := (Below.heap_setCell _ _ _ _ (by show D ≠ w.heap.size + 1 + 1; omega)).trans ((Below.heap_setCell _ _ _ _ (by show D ≠ w.heap.size + 1; omega)).trans HK.out)
        have hbL : Below w.heap.size w ((W.setCell ⟨w.heap.size + 1, 0, none⟩ (.slice Ar R.length cr)).setCell ⟨w.heap.size + 1 + 1, 0, none⟩ (.int .i64 0)) := ((KB.out.trans (HM.out.mono (by omega))).setCell (p := ⟨w.heap.size + 1, 0, none⟩) (Nat.le_succ _) _).setCell (p := ⟨w.heap.size + 1 + 1, 0, none⟩) (by show w.heap.size ≤ w.heap.size + 1 + 1; omega) _
        have hoL : ((W.setCell ⟨w.heap.size + 1, 0, none⟩ (.slice Ar R.length cr)).setCell ⟨w.heap.size + 1 + 1, 0, none⟩ (.int .i64 0)).ownsRow wS.heap.size 42 4 (.slice Ar R.length cr) R.length (R.flatMap encR) := ownsRow_setCell_below (ownsRow_setCell_below HOR.out (by show w.heap.size + 1 < _; omega) _) (by show w.heap.size + 1 + 1 < _; omega) _
        obtain ⟨W3, hW3⟩ : ∃ W3, (W.setCell ⟨w.heap.size + 1, 0, none⟩ (.slice Ar R.length cr)).setCell ⟨w.heap.size + 1 + 1, 0, none⟩ (.int .i64 0) = W3 := ⟨_, rfl⟩
        rw [hW3] at c6 c7 cD hbL hoL
        rw [hW3]
        clear hW3 k6 k7 f6 f7
        refine ⟨by simp, .inl ⟨_, _, rfl, run_takeDeferred cD, ?_⟩⟩
        have e6 := (cell_putObj (o' := .deferred none) cD rfl rfl ⟨w.heap.size + 1, 0, none⟩).1.trans c6
        have e7 := (cell_putObj (o' := .deferred none) cD rfl rfl ⟨w.heap.size + 1 + 1, 0, none⟩).1.trans c7
        refine ⟨.tuple #[(.slice Ar R.length cr), .int .i64 0], by simp [results, Tryz.results42, go_sem, e6, e7], ⟨Ar, cr, by rw [HMF.out], by rw [HMF.out]; exact own_base (own_putObj hoL cD rfl) (by omega)⟩, below_putObj hbL (by omega) _⟩
    · rintro D pre W hD ⟨hmany, hc6, hc7, hlowW⟩ hK
      have HMF : Hid (joinF h a b = ([], 4)) := hide (HJF.out.trans (if_pos hmany))
      have HK := hide hK
      have hD2 : D < W.heap.size := (Array.getElem?_eq_some_iff.1 hK).1
      clear hit hI0 hK
      simp only [Exit.inBlock, Exit.then]
      refine ⟨by simp, .inl ⟨_, _, rfl, run_takeDeferred HK.out, ?_⟩⟩
      have e6 := (cell_putObj (o' := .deferred none) HK.out rfl rfl ⟨w.heap.size + 1, 0, none⟩).1.trans hc6
      have e7 := (cell_putObj (o' := .deferred none) HK.out rfl rfl ⟨w.heap.size + 1 + 1, 0, none⟩).1.trans hc7
      refine ⟨.tuple #[.slice none 0 0, .int .i64 4], by simp [results, Tryz.results42, go_sem, e6, e7], ⟨none, 0, by rw [HMF.out]; rfl, by rw [HMF.out]; exact World.ownsRow_nil _ _ _ _⟩, below_putObj hlowW (by omega) _⟩
  · have HF : Hid (joinF h a b = ([], bothF a b)) := hide (if_neg hb0)
    generalize bothF a b = ck at *
    have hne : (ck != 0) = true := by simpa using hb0
    clear hb0
    refine (callsIn_wide (n := 0)).1 ?_
    refine callsIn_of_wp_marks Tryz.func42 rfl trivial ?_
    simp only [Tryz.ntmps42, List.size_toArray, List.length_cons, List.length_nil, Nat.reduceAdd, Nat.reduceSub, Array.replicate_succ, Array.replicate_zero, List.push_toArray, List.append_toArray, List.nil_append, List.cons_append]
    refine wpIn_wide.2 ?_
    go_wp2_with (fail)
    refine (HBO.out _ K3.out).mono ?_
    rintro e w1 ⟨rfl, hb1⟩
    have hs1 := hb1.size
    simp at hs1
    have k6 : w1.cell? ⟨w.heap.size + 1, 0, none⟩ = some (.slice none 0 0) := (hb1.cell (p := ⟨w.heap.size + 1, 0, none⟩) (by simp)).trans (by simp [go_sem])
    have k7 : w1.cell? ⟨w.heap.size + 1 + 1, 0, none⟩ = some (.int .i64 0) := (hb1.cell (p := ⟨w.heap.size + 1 + 1, 0, none⟩) (by simp)).trans (by simp [go_sem])
    have f6 : w1.frozen? ⟨w.heap.size + 1, 0, none⟩ = false := (hb1.frozen (p := ⟨w.heap.size + 1, 0, none⟩) (by simp)).trans (by simp [go_sem])
    have f7 : w1.frozen? ⟨w.heap.size + 1 + 1, 0, none⟩ = false := (hb1.frozen (p := ⟨w.heap.size + 1 + 1, 0, none⟩) (by simp)).trans (by simp [go_sem])
    have KB := hide (K3.out.trans (hb1.mono (by simp; omega)))
    clear hb1
    go_wp2_with (fail)
    refine ⟨.tuple #[.slice none 0 0, .int .i64 ck], by simp [results, Tryz.results42, go_sem, k6, k7], ⟨none, 0, by rw [HF.out]; rfl, by rw [HF.out]; exact World.ownsRow_nil _ _ _ _⟩, ?_⟩
    exact (KB.out.setCell (p := ⟨w.heap.size + 1, 0, none⟩) (Nat.le_succ _) _).setCell (p := ⟨w.heap.size + 1 + 1, 0, none⟩) (by show w.heap.size ≤ w.heap.size + 1 + 1; omega) _
end Go.Proofs.YtlkaniojnaaocaaGreat

/- region.Union, Meet and Minus. -/
namespace Go.Proofs.YtlkaniojnaaocaaGreat
open Go.RowKit
set_option linter.unusedVariables false
set_option linter.unusedSimpArgs false

theorem hk_or : hk 2 = hOr := by funext p q; cases p <;> cases q <;> rfl
theorem hk_and : hk 1 = hAnd := by funext p q; cases p <;> cases q <;> rfl
theorem hk_sub : hk 3 = hSub := by funext p q; cases p <;> cases q <;> rfl
theorem joinF_len (h : Bool → Bool → Bool) (a b : List R4) : (joinF h a b).1.length ≤ 400 := by
  unfold joinF
  split
  · split
    · simp
    · simp only; omega
  · simp
set_option maxHeartbeats 1000000 in
theorem meet_any {a b : List R4} {va vb : Value} {w : World} (ra : RdK encR 4 w w.heap.size va a) (rb : RdK encR 4 w w.heap.size vb b) (na : a.length ≤ 100000000) (nb : b.length ≤ 100000000) :
    Calls Tryz.prog 20 #[va, vb] w fun e w' => RegRet w.heap.size (joinF hAnd a b) e w' ∧ Below w.heap.size w w' := by
  have hc := joined_any (h := hAnd) rfl spAnd_any enter_spAnd ra rb na nb
  obtain ⟨A1, c1, hva, _⟩ := ra
  obtain ⟨A2, c2, hvb, _⟩ := rb
  subst hva; subst hvb
  have HC := hide hc
  clear hc
  generalize joinF hAnd a b = R at *
  obtain ⟨R1, R2⟩ := R
  go_enter Tryz.func20, Tryz.ntmps20
  go_wp2_with (fail)
  refine HC.out.mono ?_
  rintro e w1 ⟨⟨A3, c3, rfl, ho⟩, hb⟩
  have HO := hide ho
  clear ho
  go_wp2_with (fail)
  go_ret2
  exact ⟨⟨A3, c3, rfl, HO.out⟩, hb⟩
set_option maxHeartbeats 1000000 in
theorem minus_any {a b : List R4} {va vb : Value} {w : World} (ra : RdK encR 4 w w.heap.size va a) (rb : RdK encR 4 w w.heap.size vb b) (na : a.length ≤ 100000000) (nb : b.length ≤ 100000000) :
    Calls Tryz.prog 27 #[va, vb] w fun e w' => RegRet w.heap.size (joinF hSub a b) e w' ∧ Below w.heap.size w w' := by
  have hc := joined_any (h := hSub) rfl spSub_any enter_spSub ra rb na nb
  obtain ⟨A1, c1, hva, _⟩ := ra
  obtain ⟨A2, c2, hvb, _⟩ := rb
  subst hva; subst hvb
  have HC := hide hc
  clear hc
  generalize joinF hSub a b = R at *
  obtain ⟨R1, R2⟩ := R
  go_enter Tryz.func27, Tryz.ntmps27
  go_wp2_with (fail)
  refine HC.out.mono ?_
  rintro e w1 ⟨⟨A3, c3, rfl, ho⟩, hb⟩
  have HO := hide ho
  clear ho
  go_wp2_with (fail)
  go_ret2
  exact ⟨⟨A3, c3, rfl, HO.out⟩, hb⟩
end Go.Proofs.YtlkaniojnaaocaaGreat

/- The chapter's examples hold: law.go's steps and alive. -/
namespace Go.Proofs.YtlkaniojnaaocaaGreat
open Go.RowKit
set_option linter.unusedVariables false
set_option linter.unusedSimpArgs false

/-- Rectangles of which no two lie side by side are the parts. -/
theorem mn_self {l : List R4} (h : ∀ i j, ¬ adj l i j) (i : Nat) : mn l i = i := by
  have key : ∀ k, Conn l i k → k = i := fun k hk => by
    cases hk with
    | refl => rfl
    | step _ a => exact absurd a (h _ _)
  exact key _ (mn_conn l i)
def stepsL : List R4 := ([⟨0, 0, 1, 2⟩, ⟨1, 0, 2, 3⟩, ⟨2, 1, 3, 3⟩] : List R4)
def restL : List R4 := ([⟨0, 0, 1, 2⟩, ⟨2, 1, 3, 3⟩] : List R4)
theorem ex_make : makeF [⟨0, 0, 2, 2⟩, ⟨1, 1, 3, 3⟩] = (stepsL, 0) := by kernel_rfl
theorem ex_area : areaF stepsL = (7, 0) := by kernel_rfl
theorem ex_minus : joinF hSub stepsL [⟨1, 0, 2, 3⟩] = (restL, 0) := by kernel_rfl
theorem ex_touch : touchF [⟨0, 0, 1, 2⟩] [⟨2, 1, 3, 3⟩] = (false, 0) := by kernel_rfl
theorem ex_parts : partsE restL = ([[⟨0, 0, 1, 2⟩], [⟨2, 1, 3, 3⟩]], 0) := by
  have h0 : checkF restL = 0 := by kernel_rfl
  have ha : ∀ i j, ¬ adj restL i j := by
    rintro i j ⟨x, y, h1, h2, h3⟩
    have hi := (List.getElem?_eq_some_iff.1 h1).1
    have hj := (List.getElem?_eq_some_iff.1 h2).1
    have e1 : i = 0 ∨ i = 1 := by simp [restL] at hi; omega
    have e2 : j = 0 ∨ j = 1 := by simp [restL] at hj; omega
    rcases e1 with rfl | rfl <;> rcases e2 with rfl | rfl <;> (simp [restL] at h1 h2; subst h1; subst h2; revert h3; decide)
  unfold partsE
  rw [if_pos h0]
  have hm : mn restL = fun i => i := funext fun i => mn_self ha i
  unfold partsF compL
  rw [hm]
  have e1 : rjoin hFst [⟨0, 0, 1, 2⟩] [] = [⟨0, 0, 1, 2⟩] := by kernel_rfl
  have e2 : rjoin hFst [⟨2, 1, 3, 3⟩] [] = [⟨2, 1, 3, 3⟩] := by kernel_rfl
  simp [restL, List.range_succ, e1, e2]
end Go.Proofs.YtlkaniojnaaocaaGreat

/- law.go's fit; what a join of two regions is. -/
namespace Go.Proofs.YtlkaniojnaaocaaGreat
open Go.RowKit
set_option linter.unusedVariables false
set_option linter.unusedSimpArgs false

def fitB (a b : List R4) : Bool := decide (a.length ≤ 60) && (decide (b.length ≤ 60) && decide (bothF a b = 0))
theorem fitB_ok {a b : List R4} (h : fitB a b = true) : a.length ≤ 60 ∧ b.length ≤ 60 ∧ checkF a = 0 ∧ checkF b = 0 := by
  unfold fitB at h
  simp only [Bool.and_eq_true, decide_eq_true_eq] at h
  exact ⟨h.1, h.2.1, bothF_ok h.2.2⟩
/-- What a join of two regions is. -/
theorem join_two {h : Bool → Bool → Bool} (h0 : h false false = false) {a b : List R4} (ha : checkF a = 0) (hb : checkF b = 0) :
    joinF h a b = ([], 4) ∨ ∃ R, joinF h a b = (R, 0) ∧ checkF R = 0 ∧ R.length ≤ 400 ∧ ∀ x y, pmem R x y ↔ h (decide (pmem a x y)) (decide (pmem b x y)) = true := by
  rw [joinF_ok ha hb]
  by_cases hl : 400 < (rjoin h a b).length
  · rw [if_pos hl]; exact .inl rfl
  · rw [if_neg hl]
    exact .inr ⟨_, rfl, join_check h0 ha hb (by omega), by omega, join_pts h0 ha hb⟩
theorem dec_join {h : Bool → Bool → Bool} {a b R : List R4} {x y : Int} (hp : ∀ x y, pmem R x y ↔ h (decide (pmem a x y)) (decide (pmem b x y)) = true) : decide (pmem R x y) = h (decide (pmem a x y)) (decide (pmem b x y)) := by
  have e := hp x y
  cases hh : h (decide (pmem a x y)) (decide (pmem b x y)) with
  | true => exact decide_eq_true (e.2 hh)
  | false => exact decide_eq_false (fun q => by rw [e.1 q] at hh; cases hh)
end Go.Proofs.YtlkaniojnaaocaaGreat

/- Plain law: areas of union and common part; the two parts of a region. -/
namespace Go.Proofs.YtlkaniojnaaocaaGreat
open Go.RowKit
set_option linter.unusedVariables false
set_option linter.unusedSimpArgs false

theorem join_is {h : Bool → Bool → Bool} (h0 : h false false = false) {a b c : List R4} (ha : checkF a = 0) (hb : checkF b = 0) (hc : checkF c = 0) (hp : ∀ x y, pmem c x y ↔ h (decide (pmem a x y)) (decide (pmem b x y)) = true) : joinF h a b = (c, 0) := by
  have e : rjoin h a b = c := (rjoin_eq h0 (check_wf ha) (check_wf hb) (check_rcan hc) hp).symm
  rw [joinF_ok ha hb, e, if_neg (by have := (checkF_ok hc).1; omega)]
theorem check_nil : checkF [] = 0 := by kernel_rfl
theorem area_le {l : List R4} (h : checkF l = 0) : 0 ≤ areaS l ∧ areaS l ≤ 1600000000000000 := by
  have h1 := areaS_bd (l := l) fun r hr => (checkF_ok h).2.1 r hr
  have h2 := (checkF_ok h).1
  omega
/-- What the law of areas needs of three joins. -/
theorem areas_law {a b u c d : List R4} (ha : checkF a = 0) (hb : checkF b = 0) (hu : checkF u = 0) (hc : checkF c = 0) (hd : checkF d = 0)
    (pu : ∀ x y, pmem u x y ↔ hOr (decide (pmem a x y)) (decide (pmem b x y)) = true) (pc : ∀ x y, pmem c x y ↔ hAnd (decide (pmem a x y)) (decide (pmem b x y)) = true) (pd : ∀ x y, pmem d x y ↔ hSub (decide (pmem a x y)) (decide (pmem b x y)) = true) :
    areaS u + areaS c = areaS a + areaS b ∧ joinF hOr c d = (a, 0) ∧ joinF hAnd c d = ([], 0) := by
  refine ⟨area_sum ha hb hu hc (fun x y => by rw [pu]; simp [hOr]) (fun x y => by rw [pc]; simp [hAnd]), join_is rfl hc hd ha fun x y => ?_, join_is rfl hc hd check_nil fun x y => ?_⟩
  · rw [dec_join (x := x) (y := y) pc, dec_join (x := x) (y := y) pd]
    by_cases h1 : pmem a x y <;> by_cases h2 : pmem b x y <;> simp [hOr, hAnd, hSub, h1, h2]
  · rw [dec_join (x := x) (y := y) pc, dec_join (x := x) (y := y) pd]
    by_cases h1 : pmem a x y <;> by_cases h2 : pmem b x y <;> simp [hAnd, hSub, h1, h2, pmem_nil]
end Go.Proofs.YtlkaniojnaaocaaGreat

/- Plain law: pieces of a tiling are in order, valid, not empty, parts of the region and of their bricks, and have the region's area together. -/
namespace Go.Proofs.YtlkaniojnaaocaaGreat
set_option linter.unusedVariables false
set_option linter.unusedSimpArgs false

theorem tileF_err {W H S : Int} (hp : okPat W H S) {l : List R4} (h : checkF l = 0) : (tileF W H S l).2 = 0 ∨ (tileF W H S l).2 = 4 := by
  unfold tileF
  rw [if_pos h, if_pos hp]
  split
  · exact .inr rfl
  · exact .inl rfl
theorem tileF_srt (W H S : Int) (l : List R4) : (tileF W H S l).1.Pairwise fun a b => klt a.1 b.1 := by
  unfold tileF
  split
  · split
    · split
      · simp
      · rw [List.pairwise_map]
        exact keysT_srt W H S l
    · simp
  · simp
theorem tileF_chk {W H S : Int} {l : List R4} {q : Ky × List R4} (h : q ∈ (tileF W H S l).1) : checkF q.2 = 0 := by
  obtain ⟨h1, h2, h3, h4⟩ := tileF_mem h
  rw [h4]
  exact piece_check h2 h1 _
theorem tileF_ne {W H S : Int} {l : List R4} {q : Ky × List R4} (h : q ∈ (tileF W H S l).1) : q.2 ≠ [] := by
  obtain ⟨h1, h2, h3, h4⟩ := tileF_mem h
  rw [h4]
  exact piece_ne h2 (check_wfs h1) h3
theorem tileF_out {W H S : Int} {l : List R4} {q : Ky × List R4} (h : q ∈ (tileF W H S l).1) : joinF hSub q.2 l = ([], 0) := by
  obtain ⟨h1, h2, h3, h4⟩ := tileF_mem h
  rw [h4]
  exact piece_out h2 h1 h1 _ (fun _ _ => rfl) fun x y hx _ => hx
theorem tileF_off {W H S : Int} {l : List R4} {q : Ky × List R4} (h : q ∈ (tileF W H S l).1) : (joinF hSub q.2 [brR W H S q.1]).2 = 0 → (joinF hSub q.2 [brR W H S q.1]).1 = [] := by
  obtain ⟨h1, h2, h3, h4⟩ := tileF_mem h
  intro hz
  by_cases hc : checkF [brR W H S q.1] = 0
  · have : joinF hSub (pieceR W H S l q.1) [brR W H S q.1] = ([], 0) := piece_out h2 h1 hc _ (fun _ _ => rfl) fun x y hx hk => ⟨_, by simp, (rin_brR h2 _ x y).2 hk⟩
    rw [h4, this]
  · have hb : ¬ bothF q.2 [brR W H S q.1] = 0 := fun h0 => hc (bothF_ok h0).2
    unfold joinF
    rw [if_neg hb]
theorem tileF_sum {W H S : Int} (hp : okPat W H S) {l : List R4} (h : checkF l = 0) (hE : (tileF W H S l).2 = 0) : ((tileF W H S l).1.map fun q => areaS q.2).sum = areaS l := by
  rw [← sum_pieces hp h]
  unfold tileF at hE ⊢
  rw [if_pos h, if_pos hp] at hE ⊢
  split
  · rename_i hm
    rw [if_pos hm] at hE
    cases hE
  · rw [List.map_map]
    rfl
end Go.Proofs.YtlkaniojnaaocaaGreat

/- The last step from a walk to a given statement, for every law of the seat: the call returns true, and what lay in memory lies as it lay. -/
namespace Go.Proofs.YtlkaniojnaaocaaGreat
open Go.ChangeShapes Go.WideShapes Go.ChangeAt Go.RowKit Go.Joins Go.Deep
set_option linter.unusedVariables false
set_option linter.unusedSimpArgs false

theorem own : ownKnob Tryz.prog.godebug = none := by kernel_rfl
theorem laidOut : laidOutB Tryz.prog = true := by kernel_rfl

section
variable {H : Type} {enc : TypeId × Value → H}
theorem trodAll_carry {P : Program} (hl : laidOutB P = true) {W W' : World} (hb : Below W.heap.size W W') :
    ∀ (ts : List TypeId) (vs : List Value) (ds : List (DataW H)) (ps : List MemPlace), (ts.all fun t => P.readableRec t && decide (t < P.types.size)) = true →
      DataW.TrodAll enc P W 0 (fun _ => true) true ts vs ds ps → (∀ x ∈ ps, x.block < W.heap.size) → DataW.TrodAll enc P W' 0 (fun b => decide (b < W.heap.size)) true ts vs ds ps
  | [], [], [], ps, _, h, _ => h
  | [], [], _ :: _, _, _, h, _ => h.elim
  | [], _ :: _, _, _, _, h, _ => h.elim
  | _ :: _, [], _, _, _, h, _ => h.elim
  | _ :: _, _ :: _, [], _, _, h, _ => h.elim
  | t :: ts, v :: vs, d :: ds, ps, hr, h, hlt => by
    obtain ⟨p, q, h1, h2, rfl⟩ := h
    simp only [List.all_cons, Bool.and_eq_true, decide_eq_true_eq] at hr
    refine ⟨p, q, Below.trod hl hr.1.1 hr.1.2 h1 hb (fun x hx => hlt x (by simp [hx])), trodAll_carry hl hb ts vs ds q ?_ h2 (fun x hx => hlt x (by simp [hx])), rfl⟩
    simpa using hr.2

theorem law_post {P : Program} {f : Func} {s : ChangeSpec} {W W' : World} {args : Array Value} {ds gs : List (DataW H)} {before : List MemPlace} {tb : TypeId}
    (hl : laidOutB P = true) (hr : (f.params.toList.all fun t => P.readableRec t && decide (t < P.types.size)) = true) (hres : f.resultTypes = #[tb]) (hbool : P.underlying tb = some .bool)
    (hvars : s.vars = []) (hW : DataW.Whole enc P f.params.toList s.vars false W args.toList ds gs before)
    (hsr : (s.fn H (ds ++ gs)).results = [.lit (.bool true)]) (hsa : (s.fn H (ds ++ gs)).args = ds) (hsv : (s.fn H (ds ++ gs)).vars = [])
    (hb : Below W.heap.size W W') : s.post enc P f false true false false W args (.bool true) W' := by
  have hlt : ∀ p ∈ before, p.block < W.heap.size := fun p hp => hW.lt p hp
  have hW0 := hW
  obtain ⟨p, q, hA, hV, rfl, hz, hn⟩ := hW
  refine ⟨ds, gs, p ++ q, [], p, [], hW0, ?_, ?_, ?_, hb.frame _, fun h => by cases h⟩
  · rw [hsr, hres]
    exact trodAll_mk1 (shut_bool hbool true)
  · rw [hsa]
    exact trodAll_carry hl hb _ _ _ _ hr hA (fun x hx => hlt x (by simp [hx]))
  · rw [hsv, hvars]
    rfl
end
end Go.Proofs.YtlkaniojnaaocaaGreat

/- An argument that is a list of structs of ints, read as a list. -/
namespace Go.Proofs.YtlkaniojnaaocaaGreat
open Go.ChangeShapes Go.WideShapes Go.ChangeAt Go.RowKit Go.Joins Go.Deep
set_option linter.unusedVariables false
set_option linter.unusedSimpArgs false

section
variable {H : Type} {enc : TypeId × Value → H} {P : Program} {w : World} {base : Nat} {spare : Nat → Bool} {held : Bool}
/-- The fields of a struct of ints: each one cell, an int. -/
theorem trod_int_fields {t : TypeId} {fs : Array Field} {n : Nat} {cs : List Value} {y : DataW H × List MemPlace} (he : P.underlying t = some (.struct fs)) (hone : oneCellFields P fs = true) (hint : ∀ (j : Nat) (f : Field), fs[j]? = some f → P.underlying f.type = some (.int .i64))
    (hl : cs.length = fs.size) (h : DataW.trod enc P w base spare held n t cs = some y) : ∀ j, j < fs.size → ∃ z : Int, cs[j]? = some (.int .i64 z) := by
  obtain ⟨ys, n', _, _, _, hyl, hf⟩ := DataW.trod_struct he h
  intro j hj
  have hjf : fs[j]? = some fs[j] := Array.getElem?_eq_getElem hj
  obtain ⟨ho, hk⟩ := hone_of hone j _ hjf
  have h1 := hf j _ hjf
  rw [ho, hk] at h1
  have hd : (cs.drop j).take 1 = [cs[j]'(by omega)] := by rw [List.drop_eq_getElem_cons (by omega)]; rfl
  rw [hd] at h1
  have hy : ys[j]? = some (ys[j]'(by omega)) := List.getElem?_eq_getElem (by omega)
  rw [hy] at h1
  obtain ⟨z, hz, _⟩ := DataW.trod_int (hint j _ hjf) h1
  have hz' : cs[j]'(by omega) = .int .i64 z := by simpa using hz
  exact ⟨z, by rw [List.getElem?_eq_getElem (by omega), hz']⟩
/-- A slice of structs of k ints: its cells. -/
theorem trod_rows {t e : TypeId} {fs : Array Field} {v : Value} {d : DataW H} {p : List MemPlace} {r : Reach} {b0 : Nat} (ht : P.underlying t = some (.slice e)) (he : P.underlying e = some (.struct fs)) (hone : oneCellFields P fs = true)
    (hint : ∀ (j : Nat) (f : Field), fs[j]? = some f → P.underlying f.type = some (.int .i64)) (hC : P.cellsOf e = fs.size) (hk : 0 < fs.size) (hv : Value.okWide P w r b0 t v) (h : DataW.Trod enc P w base spare held t v d p) :
    ∃ (A : Option Addr) (n c : Nat) (F : Nat → Nat → Int), v = .slice A n c ∧ n ≤ maxLen ∧ (0 < n → ∃ b off, A = some ⟨b, off, none⟩ ∧ b < w.heap.size ∧ ∀ i j, i < n → j < fs.size → w.cell? ⟨b, off + i * fs.size + j, none⟩ = some (.int .i64 (F i j))) := by
  obtain ⟨A, n, c, rfl⟩ := okWide_slice ht hv
  obtain ⟨fuel, hf⟩ := h
  rcases open_slice ht hf with ⟨hcs, _⟩ | ⟨a, len, cap, m, nn, D, Pl, hcs, hb, hl, hm, hmm, hx, hi⟩
  · simp [Value.cells] at hcs
    obtain ⟨rfl, rfl, rfl⟩ := hcs
    exact ⟨none, 0, 0, fun _ _ => 0, rfl, Nat.zero_le _, fun h => absurd h (Nat.lt_irrefl 0)⟩
  · simp [Value.cells] at hcs
    obtain ⟨rfl, rfl, rfl⟩ := hcs
    have hlm : n ≤ m := by rw [hmm]; split <;> omega
    have key : ∀ i, i < n → ∀ j, j < fs.size → ∃ z : Int, w.cell? (a.add (i * fs.size + j)) = some (.int .i64 z) := by
      intro i hin j hj
      obtain ⟨cs', hc, ht'⟩ := hi i (by omega)
      rw [hC] at hc
      obtain ⟨_, hcl, hat⟩ := World.cells?_some hc
      obtain ⟨z, hz⟩ := trod_int_fields he hone hint hcl ht' j hj
      have := hat j hj
      rw [← Go.Deep.add_add, this, hz]
      exact ⟨z, rfl⟩
    refine ⟨some a, n, c, fun i j => if h : i < n ∧ j < fs.size then Classical.choose (key i h.1 j h.2) else 0, rfl, by omega, fun hn => ?_⟩
    obtain ⟨z0, h0⟩ := key 0 hn 0 hk
    have hadd0 : a.add (0 * fs.size + 0) = a := by simp [Addr.add]
    rw [hadd0] at h0
    obtain ⟨b, off, sp⟩ := a
    have hsp : sp = none := by
      unfold World.cell? at h0
      cases sp with
      | none => rfl
      | some x => split at h0 <;> simp at h0
    subst hsp
    refine ⟨b, off, rfl, ?_, fun i j hin hj => ?_⟩
    · unfold World.cell? at h0
      split at h0
      · rename_i hh
        exact (Array.getElem?_eq_some_iff.1 hh).1
      · cases h0
    · have hz := Classical.choose_spec (key i hin j hj)
      have e1 : (⟨b, off, none⟩ : Addr).add (i * fs.size + j) = ⟨b, off + i * fs.size + j, none⟩ := by unfold Addr.add; split <;> simp_all [Nat.add_assoc]
      rw [← e1]
      simp only [dif_pos (And.intro hin hj)]
      exact hz
/-- .. rectangles. -/
theorem trod_rects {t e : TypeId} {fs : Array Field} {v : Value} {d : DataW H} {p : List MemPlace} {r : Reach} {b0 : Nat} (ht : P.underlying t = some (.slice e)) (he : P.underlying e = some (.struct fs)) (hone : oneCellFields P fs = true)
    (hint : ∀ (j : Nat) (f : Field), fs[j]? = some f → P.underlying f.type = some (.int .i64)) (hC : P.cellsOf e = 4) (hk : fs.size = 4) (hv : Value.okWide P w r b0 t v) (h : DataW.Trod enc P w base spare held t v d p) :
    ∃ l : List R4, RdK encR 4 w w.heap.size v l ∧ l.length ≤ maxLen := by
  obtain ⟨A, n, c, F, rfl, hn, hF⟩ := trod_rows ht he hone hint (hC.trans hk.symm) (by omega) hv h
  rw [hk] at hF
  refine ⟨(List.range n).map fun i => ⟨F i 0, F i 1, F i 2, F i 3⟩, ⟨A, c, by simp, fun hl => ?_⟩, by simpa using hn⟩
  have hn0 : 0 < n := by
    rcases Nat.eq_zero_or_pos n with h | h
    · subst h; exact absurd rfl hl
    · exact h
  obtain ⟨b, off, hA, hb, hc⟩ := hF hn0
  refine ⟨b, off, hA, hb, fun j x hj i u hu => ?_⟩
  have hjn : j < n := by have := (List.getElem?_eq_some_iff.1 hj).1; simpa using this
  rw [List.getElem?_map, List.getElem?_range hjn] at hj
  simp only [Option.map_some, Option.some.injEq] at hj
  subst hj
  have hi : i < 4 := (List.getElem?_eq_some_iff.1 hu).1
  rw [hc j i hjn hi]
  match i, hi with
  | 0, _ => exact hu
  | 1, _ => exact hu
  | 2, _ => exact hu
  | 3, _ => exact hu
end
theorem int_bd {n : Int} (h : (Lit.int .i64 n).wf = true) : -9223372036854775808 ≤ n ∧ n ≤ 9223372036854775807 := by
  simp [Lit.wf, IntKind.min, IntKind.max, IntKind.signed, IntKind.bits] at h
  omega
theorem rect_fields : ∀ (j : Nat) (f : Field), (match Tryz.prog.underlying 42 with | some (.struct fs) => fs | _ => #[])[j]? = some f → Tryz.prog.underlying f.type = some (.int .i64) := by
  rw [Tryz.underlying42]
  intro j f hf
  match j, hf with
  | 0, hf => simp at hf; subst hf; exact Tryz.underlying3
  | 1, hf => simp at hf; subst hf; exact Tryz.underlying3
  | 2, hf => simp at hf; subst hf; exact Tryz.underlying3
  | 3, hf => simp at hf; subst hf; exact Tryz.underlying3
  | j + 4, hf => simp at hf
end Go.Proofs.YtlkaniojnaaocaaGreat

/- An argument that is a pattern, read as such. -/
namespace Go.Proofs.YtlkaniojnaaocaaGreat
open Go.ChangeShapes Go.WideShapes Go.ChangeAt Go.RowKit Go.Joins Go.Deep
set_option linter.unusedVariables false
set_option linter.unusedSimpArgs false

section
variable {H : Type} {enc : TypeId × Value → H} {w : World} {base : Nat} {spare : Nat → Bool} {held : Bool}
set_option maxRecDepth 100000 in
theorem open_pat {v : Value} {d : DataW H} {p : List MemPlace} {r : Reach} {b0 : Nat} (hv : Value.okWide Tryz.prog w r b0 27 v) (h : DataW.Trod enc Tryz.prog w base spare held 27 v d p) : ∃ a b c : Int, v = .agg #[.int .i64 a, .int .i64 b, .int .i64 c] := by
  have h3 : Tryz.prog.cellsOf 27 = 3 := by kernel_rfl
  obtain ⟨c0, c1, c2, y0, y1, y2, m, rfl, _, _, hy0, hy1, hy2⟩ := open_agg3 Tryz.underlying27 (by kernel_rfl) h3 hv h
  obtain ⟨a, e0, _, _⟩ := DataW.trod_int Tryz.underlying3 hy0
  obtain ⟨b, e1, _, _⟩ := DataW.trod_int Tryz.underlying3 hy1
  obtain ⟨c, e2, _, _⟩ := DataW.trod_int Tryz.underlying3 hy2
  simp at e0 e1 e2
  subst e0 e1 e2
  exact ⟨a, b, c, rfl⟩
end
end Go.Proofs.YtlkaniojnaaocaaGreat
