/- Texts laid together: SlabWA, StrA, StrB, MStrF. Lemmas for the statements of this seat; no condition. -/
import Derived.Test.YtmnhlcbmoibahaaGreatPk3
import Derived.Deep.RegionHeld3
import Derived.Test.YtmnhlcbmoibahaaGreatPk1
import Derived.Test.YtmnhlcbmoibahaaGreatPk2
import Derived.Deep.DeepCutAuto

/- region.slabs's iterator: the walk. -/
namespace Go.Proofs.YtmnhlcbmoibahaaGreat
open Go.RowKit
set_option linter.unusedVariables false
set_option linter.unusedSimpArgs false
attribute [local go_sem] Oper.semAt_some

theorem infoSS : (Tryz.prog.info? 137).map (fun i => (i.zero, i.size, i.bytes)) = some (some (.slice none 0 0), 1, 24) := by kernel_rfl
theorem infoSp : (Tryz.prog.info? 143).map (fun i => (i.zero, i.size, i.bytes)) = some (some (.agg #[.int .i64 0, .int .i64 0]), 2, 16) := by kernel_rfl

theorem own_drew {w : World} {base size : Nat} {e : TypeId} {v : Value} {n : Nat} {xs : List Value} (h : w.ownsRow base e size v n xs) : w.drew.ownsRow base e size v n xs := h
theorem news_drew (w : World) (cs : List Value) (t : TypeId) (B : Nat) (hB : w.heap.size = B) : ∀ j u, cs[j]? = some u → (w.alloc (.cells cs.toArray t)).drew.cell? ((⟨B, 0, none⟩ : Addr).add j) = some u := news_new w cs t B hB
theorem app_after {l : List R4} {c : Int} {Rw k m n S : Nat} {wk wr wb w2 : World} {r : R4} {v v2 a b1 b3 : Value} (g : SIn l c Rw k m wk wr) (hr : l[m]? = some r) (hc : r.x0 ≤ c ∧ c < r.x1) (hv : wr.cell? ⟨Rw, k, none⟩ = some v) (hR : Rw < wk.heap.size) (hbw : Below wr.heap.size wr wb) (o : Obj)
    (hvo : wr.ownsRow wk.heap.size 143 2 v (crossL (l.take m) c).length ((crossL (l.take m) c).flatMap encS)) (hgrow : (wb.alloc o).drew.grownBy w2 v.ownBlock) (hown2 : w2.ownsRow wk.heap.size 143 2 v2 n ((crossL (l.take m) c).flatMap encS ++ [.int .i64 r.y0, .int .i64 r.y1])) (hf : wk.frozen? ⟨Rw, k, none⟩ = false)
    (hS : S < wk.heap.size) (f2 : wb.cell? ⟨S, 2, none⟩ = some a) (f1 : wb.cell? ⟨wr.heap.size, 1, none⟩ = some b1) (f3 : wb.cell? ⟨wr.heap.size, 3, none⟩ = some b3) :
    w2.cell? ⟨S, 2, none⟩ = some a ∧ w2.cell? ⟨Rw, k, none⟩ = some v ∧ w2.cell? ⟨wr.heap.size, 1, none⟩ = some b1 ∧ w2.cell? ⟨wr.heap.size, 3, none⟩ = some b3 ∧ w2.frozen? ⟨Rw, k, none⟩ = false ∧ Hid (SIn l c Rw k (m + 1) wk (w2.setCell ⟨Rw, k, none⟩ v2)) := by
  have hrow := hvo.lt
  have ha : Below wr.heap.size wr (wb.alloc o).drew := (hbw.alloc hbw.size o).drew
  have hx : (crossL (l.take m) c).flatMap encS ++ [.int .i64 r.y0, .int .i64 r.y1] = (crossL (l.take m) c ++ [(r.y0, r.y1)]).flatMap encS := by simp [encS]
  rw [hx] at hown2
  obtain ⟨p1, p2, p3⟩ := g.push hr hc hv hR ha hgrow (fun q hq => (hrow q hq).1) hown2 hf
  have far : ∀ (q i : Nat) (u : Value), wb.cell? ⟨q, i, none⟩ = some u → v.ownBlock ≠ some q → w2.cell? ⟨q, i, none⟩ = some u := fun q i u hu hq =>
    World.grownBy.cell hgrow (a := ⟨q, i, none⟩) ((World.cell?_alloc_lt wb o ⟨q, i, none⟩ (lt_of_cell hu)).trans hu) (fun e => hq e.symm)
  exact ⟨far S 2 a f2 (fun e => by have := hrow S e; omega), p1, far _ 1 b1 f1 (fun e => by have := hrow _ e; omega), far _ 3 b3 f3 (fun e => by have := hrow _ e; omega), p2, p3⟩
/-- 'make([][]Span, n)', to the cell. -/
theorem make_ss (n : Nat) (hn : n ≤ 1000) : ∃ CS : Array Value, (∀ j, j < n → CS[j]? = some (.slice none 0 0)) ∧ ∀ W : World, (Instr.makeSlice 149 (.int .i64 (n : Int)) (.int .i64 (n : Int))).run Tryz.prog W = .ok (.slice (some ⟨W.heap.size, 0, none⟩) n n) (W.alloc (.cells CS 137)) := by
  obtain ⟨i0, hi, hz0, hz1, hz2⟩ := info_parts infoSS
  refine ⟨madeCells (Value.slice none 0 0).cells (n * i0.size), ?_, fun W => ?_⟩
  · intro j hj
    rw [hz1]
    have : (madeCells #[Value.slice none 0 0] n).toList[j]? = some (.slice none 0 0) := by rw [toList_madeCells_one]; simp [hj]
    rw [Nat.mul_one]
    rw [Array.getElem?_toList] at this
    exact this
  · have := run_make (P := Tryz.prog) W 149 137 i0 _ Tryz.underlying149 hi hz0 .i64 .i64 (n : Int) (n : Int) (by omega) (Int.le_refl _) (by rw [hz2]; omega) (by omega)
    simpa using this

set_option maxRecDepth 100000 in
set_option maxHeartbeats 4000000 in
theorem slabsItA (ls : List (List R4)) (cs : List Int) (bc bl L cc cv bb base : Nat) (A : Option Addr) (w0 : World) (hbl : bl < w0.heap.size) (hbc : bc < w0.heap.size) (hLs : L < w0.heap.size) (n1 : bl ≠ bb) (n2 : bc ≠ bb) (n3 : L ≠ bb) (n4 : bb < base) (n5 : bb ≤ w0.heap.size)
    (hlb : w0.cell? ⟨bl, 0, none⟩ = some (.slice (some ⟨L, 0, none⟩) ls.length cc)) (hcb : w0.cell? ⟨bc, 0, none⟩ = some (.slice A cs.length cv)) (hown : w0.ownsRow base 3 1 (.slice A cs.length cv) cs.length (cs.map iv))
    (hv : ∀ k l, ls[k]? = some l → l.length ≤ 100000000 ∧ ∃ v, w0.cell? ⟨L, k, none⟩ = some v ∧ RdK encR 4 w0 bb v l) (hls : ls.length ≤ 1000) (hcs : cs.length ≤ 100000000) :
    Iter Tryz.prog 145 #[.pointer (some ⟨bc, 0, none⟩), .pointer (some ⟨bl, 0, none⟩)] (prs cs) (OkSlab ls) (KpX bb w0.heap.size) w0 := by
  intro l J Jx W hW hJ hY h0
  obtain ⟨i0, hi, hz0, hz1, hz2⟩ := info_parts infoSS
  obtain ⟨i1, gi, gz0, gz1, gz2⟩ := info_parts infoSp
  refine callsIn_of_wp Tryz.func145 rfl trivial ?_
  simp only [Tryz.ntmps145, List.size_toArray, List.length_cons, List.length_nil, Nat.reduceAdd, Nat.reduceSub, Array.replicate_succ, Array.replicate_zero, List.push_toArray, List.append_toArray, List.nil_append, List.cons_append]
  have HV := hide hv
  have HY := hide hY
  have HJ := hide hJ
  clear hv hY hJ
  gi_wp2
  gi_loopw [4] (fun p wr => ∃ k : Nat, k ≤ (prs cs).length ∧ p = .int .i64 ((k : Int) + 1) ∧ Hid (J ((prs cs).take k) wr) ∧ Hid (∀ b o, b < w0.heap.size → b ≠ bb → wr.cell? ⟨b, o, none⟩ = w0.cell? ⟨b, o, none⟩) ∧ w0.heap.size ≤ wr.heap.size)
    (fun p _ => ((prs cs).length + 1) - (intOf p).toNat)
  case atStart => exact ⟨0, Nat.zero_le _, rfl, hide (by simpa using h0), hide fun b o h _ => hW.cell (p := ⟨b, o, none⟩) h, hW.size⟩
  case round =>
    obtain ⟨k, hk, rfl, HJk, HC, hsz⟩ := hrel
    have hpl := prs_len cs
    have kb := (HC.out bl 0 hbl n1).trans hlb
    have kc := (HC.out bc 0 hbc n2).trans hcb
    by_cases hlt : k < (prs cs).length
    · have hltz : (k : Int) + 1 < (cs.length : Int) := by omega
      obtain ⟨c, hc⟩ : ∃ c, cs[k]? = some c := ⟨_, List.getElem?_eq_getElem (by omega)⟩
      obtain ⟨d, hd⟩ : ∃ d, cs[k + 1]? = some d := ⟨_, List.getElem?_eq_getElem (by omega)⟩
      obtain ⟨g, cv', hf, hbg, hgw⟩ := hown.form (by omega)
      injection hf with e1 _ e3
      subst e1; subst e3
      have kc0 : wr.cell? ⟨g, k, none⟩ = some (.int .i64 c) := by
        have := (hown.cells (g := g) rfl) k (iv c) (by simp [hc])
        rw [addr_add] at this
        exact (HC.out g k hgw (by omega)).trans this
      have kc1 : wr.cell? ⟨g, k + 1, none⟩ = some (.int .i64 d) := by
        have := (hown.cells (g := g) rfl) (k + 1) (iv d) (by simp [hd])
        rw [addr_add] at this
        exact (HC.out g (k + 1) hgw (by omega)).trans this
      have HP := hide (prs_get cs k c d hc hd)
      gi_wp2
      obtain ⟨CS, hCS, hmk⟩ := make_ss ls.length hls
      have HS := hide hCS
      clear hCS
      refine wpIn_wide.2 ?_
      have q1 : (0 : Int) ≤ (k : Int) := by omega
      have q2 : (k : Int) < (cs.length : Int) := by omega
      have q3 : (0 : Int) ≤ (k : Int) + 1 := by omega
      have hcsz : (cs.length : Int) ≤ 100000000 := by omega
      have hw1 : IntKind.i64.wrap (k : Int) = k := by simp [IntKind.wrap, IntKind.bits, IntKind.signed]; omega
      have hw2 : IntKind.i64.wrap ((k : Int) + 1) = (k : Int) + 1 := by simp [IntKind.wrap, IntKind.bits, IntKind.signed]; omega
      have t1 : ((k : Int) + 1).toNat = k + 1 := by omega
      go_region_held3 (fun w' => w'.cell? ⟨bc, 0, none⟩ = some (.slice (some ⟨g, 0, none⟩) cs.length cv) ∧ w'.cell? ⟨bl, 0, none⟩ = some (.slice (some ⟨L, 0, none⟩) ls.length cc) ∧ w'.cell? ⟨g, k, none⟩ = some (.int .i64 c) ∧ w'.cell? ⟨g, k + 1, none⟩ = some (.int .i64 d)) (go_keep) (fail)
      case' refine_2.refine_3.refine_3.refine_3.refine_3.refine_3.refine_3.refine_3.refine_3.refine_3.refine_3.refine_3.refine_1.refine_2.refine_3.refine_1.refine_2.refine_1.refine_2 =>
        have M := smid_first1 (ls := ls) (c := c) (d := d) (w := wr) (t1 := 137) (t2 := 151) HS.out
        generalize World.drew (World.alloc (World.alloc _ _) _) = w3 at M ⊢
        obtain ⟨S, hS⟩ : ∃ S, wr.heap.size + 1 = S := ⟨_, rfl⟩
        obtain ⟨Rw, hR⟩ : ∃ Rw, wr.heap.size = Rw := ⟨_, rfl⟩
        rw [hS] at M ⊢
        rw [hR] at M ⊢
        clear hS hR
      case' refine_2.refine_3.refine_3.refine_3.refine_3.refine_3.refine_3.refine_3.refine_3.refine_3.refine_3.refine_3.refine_2.refine_1.refine_2.refine_1.refine_2.refine_3.refine_1.refine_2 =>
        have M := smid_first2 (ls := ls) (c := c) (d := d) (w := wr) (t1 := 137) (t2 := 151) HS.out
        generalize World.drew (World.alloc (World.alloc _ _) _) = w3 at M ⊢
        obtain ⟨Rw, hR⟩ : ∃ S, wr.heap.size + 1 = S := ⟨_, rfl⟩
        obtain ⟨S, hS⟩ : ∃ Rw, wr.heap.size = Rw := ⟨_, rfl⟩
        rw [hR] at M ⊢
        rw [hS] at M ⊢
        clear hS hR
      all_goals
        generalize wr = wi at *
        clear hlb hcb hmk q1 q2 q3 hw1 hw2 t1 kc kc0 kc1 hltz hown HS h0 hW
        have hlsz : (ls.length : Int) ≤ 1000 := by omega
        have hbl' : bl < wi.heap.size := by omega
        have m0 := (M.below.cell (p := ⟨bl, 0, none⟩) hbl').trans kb
        gi_wp2
        refine wpIn_wide.2 ?_
        go_loopw [31] (fun i wx => ∃ j : Nat, j ≤ ls.length ∧ i = .int .i64 j ∧ SMid ls c d Rw S j wi wx) (fun i _ => ls.length - (intOf i).toNat)
        case atStart => exact ⟨0, Nat.zero_le _, rfl, M⟩
        case round =>
          clear m0 M
          obtain ⟨j, hj, rfl, M⟩ := hrel
          by_cases hjl : j < ls.length
          · have hjz : (j : Int) < (ls.length : Int) := by omega
            obtain ⟨r, hr⟩ : ∃ r, ls[j]? = some r := ⟨_, List.getElem?_eq_getElem hjl⟩
            obtain ⟨hrl, v, hvc, Av, cr, rfl, hrd⟩ := HV.out j r hr
            have hL2 : wr.cell? ⟨L, j, none⟩ = some (.slice Av r.length cr) := (M.below.cell (p := ⟨L, j, none⟩) (by show L < _; omega)).trans ((HC.out L j hLs n3).trans hvc)
            have HR := hide hrd
            clear hvc hrd
            go_wp2
            have hRk := M.topR
            have hSk := M.topS
            have hne := M.ne
            have hwk := M.below.size
            have hlR := M.lowR
            have SS := SIn.start (l := r) M hjl
            have HM := hide M
            have e0 := M.s0
            have e2 := M.s2
            clear M hL2
            generalize wr = wk at *
            go_loopw [38] (fun i wx => ∃ m : Nat, m ≤ r.length ∧ i = .int .i64 m ∧ SIn r c Rw j m wk wx) (fun i _ => r.length - (intOf i).toNat)
            case atStart => exact ⟨0, Nat.zero_le _, rfl, SS⟩
            case round =>
              clear SS
              obtain ⟨m, hm, rfl, SS⟩ := hrel
              by_cases hml : m < r.length
              · obtain ⟨⟨x0, y0, x1, y1⟩, hp⟩ : ∃ p, r[m]? = some p := ⟨_, List.getElem?_eq_getElem hml⟩
                have hner : r ≠ [] := by intro e; rw [e] at hml; simp at hml
                obtain ⟨bk, off, rfl, hbk, hcell⟩ := HR.out hner
                have tr : ∀ o, wr.cell? ⟨bk, o, none⟩ = w0.cell? ⟨bk, o, none⟩ := fun o =>
                  (SS.upd.cell (by omega) (by omega) (by simp)).trans ((HM.out.below.cell (p := ⟨bk, o, none⟩) (by show bk < _; omega)).trans (HC.out bk o (by omega) (by omega)))
                have d0 : wr.cell? ⟨bk, off + m * 4, none⟩ = some (.int .i64 x0) := (tr _).trans (hcell m _ hp 0 _ rfl)
                have d1 : wr.cell? ⟨bk, off + m * 4 + 1, none⟩ = some (.int .i64 y0) := (tr _).trans (hcell m _ hp 1 _ rfl)
                have d2 : wr.cell? ⟨bk, off + m * 4 + 2, none⟩ = some (.int .i64 x1) := (tr _).trans (hcell m _ hp 2 _ rfl)
                have d3 : wr.cell? ⟨bk, off + m * 4 + 3, none⟩ = some (.int .i64 y1) := (tr _).trans (hcell m _ hp 3 _ rfl)
                have f0 := (SS.upd.cell (off := 0) hSk hne (by simp)).trans e0
                have f2 := (SS.upd.cell (off := 2) hSk hne (by simp)).trans e2
                have hws := SS.upd.size
                have hmz : (m : Int) < (r.length : Int) := by omega
                have HE0 := hide e0
                have HE2 := hide e2
                have HSS := hide SS
                have hSw : S < wr.heap.size := by omega
                clear hcell tr e0 e2 SS
                by_cases c1 : x0 ≤ c
                · by_cases c2 : c < x1
                  · go_wp2
                    obtain ⟨wb, hwb⟩ : ∃ wb, wb = wr.alloc (.cells #[.int .i64 x0, .int .i64 y0, .int .i64 x1, .int .i64 y1] 65) := ⟨_, rfl⟩
                    rw [← hwb]
                    obtain ⟨v, v1, v2⟩ := HSS.out.cur
                    obtain ⟨Av2, cv2, hv2⟩ := own_form v2
                    subst hv2
                    have hRw : Rw < wr.heap.size := by omega
                    have hj63 : (0 : Int) ≤ (j : Int) := by omega
                    have g2 : wb.cell? ⟨S, 2, none⟩ = some (.slice (some ⟨Rw, 0, none⟩) ls.length ls.length) := by rw [hwb]; exact (World.cell?_alloc_lt _ _ ⟨S, 2, none⟩ hSw).trans f2
                    have gv : wb.cell? ⟨Rw, j, none⟩ = some (.slice Av2 (crossL (r.take m) c).length cv2) := by rw [hwb]; exact (World.cell?_alloc_lt _ _ ⟨Rw, j, none⟩ hRw).trans v1
                    have gy0 : wb.cell? ⟨wr.heap.size, 1, none⟩ = some (.int .i64 y0) := by rw [hwb]; simp [go_sem]
                    have gy1 : wb.cell? ⟨wr.heap.size, 3, none⟩ = some (.int .i64 y1) := by rw [hwb]; simp [go_sem]
                    have gs : wb.heap.size = wr.heap.size + 1 := by rw [hwb]; simp
                    have hbw : Below wr.heap.size wr wb := by rw [hwb]; exact (Below.refl _ _).alloc (Nat.le_refl _) _
                    have gown : wb.ownsRow wk.heap.size 143 2 (.slice Av2 (crossL (r.take m) c).length cv2) (crossL (r.take m) c).length ((crossL (r.take m) c).flatMap encS) := by rw [hwb]; exact v2.alloc _
                    have hcl : (crossL (r.take m) c).length ≤ 100000000 := by
                      unfold crossL
                      rw [List.length_map]
                      refine Nat.le_trans (List.length_filter_le _ _) ?_
                      rw [List.length_take]; omega
                    have HFZ := hide (HM.out.fz j)
                    have HV1 := hide v1
                    have HV2 := hide v2
                    have HGV := hide gv
                    have HBW := hide hbw
                    have HG2 := hide g2
                    have HY0 := hide gy0
                    have HY1 := hide gy1
                    have HO := hide gown
                    have HGS := hide gs
                    have hRwb : Rw < wb.heap.size := by omega
                    have hSwb : S < wb.heap.size := by omega
                    have hwrb : wr.heap.size < wb.heap.size := by omega
                    have nR1 : Rw ≠ S := fun e => hne e.symm
                    have nR2 : Rw ≠ wr.heap.size := by omega
                    have hwkb : wk.heap.size ≤ wb.heap.size := by omega
                    clear gs d0 d1 d2 d3 f0 f2 v1 v2 gown hwb
                    refine wp_region_reads 13 (fun w' => w'.cell? ⟨S, 2, none⟩ = some (.slice (some ⟨Rw, 0, none⟩) ls.length ls.length) ∧ w'.cell? ⟨Rw, j, none⟩ = some (.slice Av2 (crossL (r.take m) c).length cv2) ∧ w'.cell? ⟨wr.heap.size, 1, none⟩ = some (.int .i64 y0) ∧ w'.cell? ⟨wr.heap.size, 3, none⟩ = some (.int .i64 y1)) (by kernel_rfl) (by kernel_rfl) ⟨g2, gv, gy0, gy1⟩ ?_
                    simp only [List.take_succ_cons, List.take_zero, List.drop_succ_cons, List.drop_zero]
                    iterate 13
                      refine ⟨?_, Or.inl ⟨by rfl, ?_⟩, ?_⟩
                      rotate_left 1
                      · intro w' hSw
                        obtain ⟨z1, z2, z3, z4⟩ := hSw
                        go_simp
                        first | done | with_reducible rfl
                      simp only [Act.put, List.setIfInBounds_toArray, List.set_cons_zero, List.set_cons_succ]
                    simp only [wpReads]
                    intro K hK
                    go_simp
                    refine hK _ _ (fun _ => ⟨by go_keep, by go_keep, by go_keep, by go_keep⟩) ?_
                    clear hK K
                    intro K hK
                    refine step_append_lies _ rfl (.tmp 61) (.tmp 67) 137 rfl wk.heap.size 143 i1 (.agg #[.int .i64 0, .int .i64 0]) 2 16 Tryz.underlying137 gi gz0 gz1 gz2 rfl (by decide) (.slice Av2 (crossL (r.take m) c).length cv2) (crossL (r.take m) c).length _ rfl (own_drew (World.ownsRow.alloc (w := wb) HO.out _)) ⟨wb.heap.size, 0, none⟩ 1 1 [.int .i64 y0, .int .i64 y1] rfl rfl (news_drew wb _ _ _ rfl) (ints_one rfl) (by omega) (by unfold maxLen; omega) (by omega) (by simp; omega) _ rfl ?_
                    intro g9 cap9 w9 hown9 hgrow9 _ _
                    obtain ⟨s1, s2, s3, s4, s5, HF9⟩ := app_after HSS.out hp ⟨c1, c2⟩ HV1.out hRk HBW.out _ HV2.out hgrow9 hown9 HFZ.out hSk HG2.out HY0.out HY1.out
                    clear hown9 hgrow9
                    refine hK _ _ (fun _ => ⟨s1, s2, s3, s4⟩) ?_
                    clear hK K
                    intro K hK
                    simp only [Act.put, List.setIfInBounds_toArray, List.set_cons_zero, List.set_cons_succ] at hK ⊢
                    go_simp
                    refine hK _ _ (fun _ => ⟨s1, s2, s3, s4⟩) ?_
                    clear hK K
                    intro K hK
                    simp only [Act.put, List.setIfInBounds_toArray, List.set_cons_zero, List.set_cons_succ] at hK ⊢
                    go_simp
                    refine hK _ _ (fun h => absurd rfl h) ?_
                    clear hK K
                    refine NoPanic.normal ?_
                    have HF9' := hide HF9.out
                    go_wp2
                    go_roundw
                    case rel => exact ⟨m + 1, by omega, by go_num, HF9'.out⟩
                    case measure => simp [intOf]; omega
                  · have c2' : x1 ≤ c := by omega
                    go_wp2
                    go_roundw
                    case rel => exact ⟨m + 1, by omega, by go_num, HSS.out.skip hp (fun h => by have := h.2; simp at this; omega) ((Below.refl _ _).alloc (Nat.le_refl _) _) (by omega)⟩
                    case measure => simp [intOf]; omega
                · have c1' : c < x0 := by omega
                  go_wp2
                  go_roundw
                  case rel => exact ⟨m + 1, by omega, by go_num, HSS.out.skip hp (fun h => by have := h.1; simp at this; omega) ((Below.refl _ _).alloc (Nat.le_refl _) _) (by omega)⟩
                  case measure => simp [intOf]; omega
              · obtain rfl : m = r.length := by omega
                have hmz : ¬ (r.length : Int) < (r.length : Int) := by omega
                have HF := hide (SIn.fin HM.out hr SS)
                clear SS e0 e2
                go_wp2
                go_roundw
                case rel => exact ⟨j + 1, by omega, by go_num, HF.out⟩
                case measure => simp [intOf]; omega
          · obtain rfl : j = ls.length := by omega
            have hjz : ¬ (ls.length : Int) < (ls.length : Int) := by omega
            have e0 := M.s0
            have e1 := M.s1
            have e2 := M.s2
            have hJ2 := HJ.out _ _ _ HJk.out M.below
            have hx : (prs cs)[k]? = some (c, d) := HP.out
            obtain ⟨hkp, hxe⟩ := List.getElem?_eq_some_iff.1 hx
            have hfi : (prs cs).take (k + 1) = (prs cs).take k ++ [(c, d)] := by rw [List.take_succ_eq_append_getElem hkp, hxe]
            have hpost : ∃ post, prs cs = (prs cs).take k ++ (c, d) :: post := ⟨(prs cs).drop (k + 1), by rw [← hxe, ← List.drop_eq_getElem_cons hkp, List.take_append_drop]⟩
            have hok : OkSlab ls (c, d) #[.agg #[.int .i64 c, .int .i64 d, .slice (some ⟨Rw, 0, none⟩) ls.length ls.length]] wr := by
              refine ⟨Rw, rfl, M.topR, fun q l hl => ?_⟩
              obtain ⟨v, v1, v2⟩ := M.done q l (List.getElem?_eq_some_iff.1 hl).1 hl
              exact ⟨v, v1, own_rd v2 (fun _ => rfl)⟩
            obtain ⟨fn, tmps, assign, body, hy, hR⟩ := HY.out ((prs cs).take k) (c, d) #[.agg #[.int .i64 c, .int .i64 d, .slice (some ⟨Rw, 0, none⟩) ls.length ls.length]] wr hJ2 hpost hok
            have FI := hide hfi
            have HM := hide M
            clear hx hxe hfi hpost hJ2 hok HJ HY M
            have hk2 : (k : Int) + 1 + 1 ≤ 100000001 := by omega
            have hk3' : (0 : Int) ≤ (k : Int) := by omega
            go_wp2
            gi_wp2
            refine ⟨rfl, hR.mono ?_⟩
            rintro e W3 (⟨rfl, hJ3, hk3⟩ | ⟨rfl, hJx3⟩)
            · have HJ3 := hide hJ3
              have HK3 := hide hk3
              clear hJ3 hk3 hR
              gi_wp2
              go_roundw
              case rel =>
                refine ⟨k + 1, by omega, by go_num, hide (by rw [FI.out]; exact HJ3.out), hide fun b o h1 h2 => (HK3.out.2 b o h1 h2).trans ((HM.out.below.cell (p := ⟨b, o, none⟩) (by show b < _; omega)).trans (HC.out b o h1 h2)), ?_⟩
                have := HK3.out.1
                have := HM.out.below.size
                omega
              case measure => simp [intOf]; omega
            · have HJx := hide hJx3
              clear hJx3 hR
              gi_wp2
              refine bodyPost_ret (results_none rfl _ _ _) rfl ?_
              exact ⟨⟨_, rfl⟩, .inr ⟨_, HJx.out⟩⟩
    · have hltz : ¬ (k : Int) + 1 < (cs.length : Int) := by omega
      have hk' : (prs cs).take k = prs cs := List.take_of_length_le (by omega)
      have HK := hide hk'
      clear hk' HJ HY h0
      gi_wp2
      go_end0
      exact ⟨⟨_, rfl⟩, .inl (by have := HJk.out; rw [HK.out] at this; exact this)⟩
end Go.Proofs.YtmnhlcbmoibahaaGreat

/- street.collect: the lines of segments, in two maps. -/
namespace Go.Proofs.YtmnhlcbmoibahaaGreat
open Go.RowKit Go.Maps
set_option linter.unusedVariables false
set_option linter.unusedSimpArgs false

def encSg (s : Sg) : List Value := [.int .i64 s.ax, .int .i64 s.ay, .int .i64 s.cx, .int .i64 s.cy]
def spR (s : Sg) : Sp := (min s.ax s.cx, max s.ax s.cx)
def spC (s : Sg) : Sp := (min s.ay s.cy, max s.ay s.cy)
def rowC (l : List Sg) (y : Int) : List Sp := sjoin hFst (rowSp l y) []
def colC (l : List Sg) (x : Int) : List Sp := sjoin hFst (colSp l x) []
theorem rowSp_take {l : List Sg} {m : Nat} {s : Sg} (h : l[m]? = some s) (y : Int) : rowSp (l.take (m + 1)) y = if s.ay = s.cy ∧ s.ay = y then rowSp (l.take m) y ++ [spR s] else rowSp (l.take m) y := by
  unfold rowSp
  rw [List.take_add_one, h, Option.toList_some, List.filter_append, List.map_append]
  by_cases e : s.ay = s.cy ∧ s.ay = y
  · have hf : (decide (s.ay = s.cy) && decide (s.ay = y)) = true := by rw [decide_eq_true e.1, decide_eq_true e.2]; rfl
    rw [List.filter_cons_of_pos (p := fun s : Sg => decide (s.ay = s.cy) && decide (s.ay = y)) hf, if_pos e]
    rfl
  · have hf : ¬ (decide (s.ay = s.cy) && decide (s.ay = y)) = true := fun hh => e (by rw [Bool.and_eq_true, decide_eq_true_eq, decide_eq_true_eq] at hh; exact hh)
    rw [List.filter_cons_of_neg (p := fun s : Sg => decide (s.ay = s.cy) && decide (s.ay = y)) hf, if_neg e]
    simp
theorem colSp_take {l : List Sg} {m : Nat} {s : Sg} (h : l[m]? = some s) (x : Int) : colSp (l.take (m + 1)) x = if ¬ s.ay = s.cy ∧ s.ax = x then colSp (l.take m) x ++ [spC s] else colSp (l.take m) x := by
  unfold colSp
  rw [List.take_add_one, h, Option.toList_some, List.filter_append, List.map_append]
  by_cases e : ¬ s.ay = s.cy ∧ s.ax = x
  · have hf : (!decide (s.ay = s.cy) && decide (s.ax = x)) = true := by rw [decide_eq_false e.1, decide_eq_true e.2]; rfl
    rw [List.filter_cons_of_pos (p := fun s : Sg => !decide (s.ay = s.cy) && decide (s.ax = x)) hf, if_pos e]
    rfl
  · have hf : ¬ (!decide (s.ay = s.cy) && decide (s.ax = x)) = true := fun hh => e (by rw [Bool.and_eq_true, Bool.not_eq_true', decide_eq_false_iff_not, decide_eq_true_eq] at hh; exact hh)
    rw [List.filter_cons_of_neg (p := fun s : Sg => !decide (s.ay = s.cy) && decide (s.ax = x)) hf, if_neg e]
    simp
theorem rowSp_len (l : List Sg) (y : Int) : (rowSp l y).length ≤ l.length := by
  unfold rowSp
  rw [List.length_map]
  exact List.length_filter_le _ _
theorem colSp_len (l : List Sg) (x : Int) : (colSp l x).length ≤ l.length := by
  unfold colSp
  rw [List.length_map]
  exact List.length_filter_le _ _
theorem rowSp_ok {l : List Sg} (hv : ∀ s ∈ l, okSg s) (y : Int) : ∀ p ∈ rowSp l y, validS p := by
  intro p hp
  obtain ⟨s, hs, rfl⟩ := List.mem_map.1 hp
  rw [List.mem_filter] at hs
  simp only [Bool.and_eq_true, decide_eq_true_eq] at hs
  obtain ⟨⟨⟨a1, a2⟩, ⟨a3, a4⟩, ⟨a5, a6⟩, a7, a8⟩, h2⟩ := hv s hs.1
  unfold validS
  simp only
  omega
theorem colSp_ok {l : List Sg} (hv : ∀ s ∈ l, okSg s) (x : Int) : ∀ p ∈ colSp l x, validS p := by
  intro p hp
  obtain ⟨s, hs, rfl⟩ := List.mem_map.1 hp
  rw [List.mem_filter] at hs
  simp only [Bool.and_eq_true, Bool.not_eq_true', decide_eq_false_iff_not, decide_eq_true_eq] at hs
  obtain ⟨⟨⟨a1, a2⟩, ⟨a3, a4⟩, ⟨a5, a6⟩, a7, a8⟩, h2⟩ := hv s hs.1
  unfold validS
  simp only
  omega
/-- Keys are those with lines. -/
def KeysOk (K : List Int) (p : Int → List Sp) : Prop := ∀ k, k ∈ K ↔ p k ≠ []
theorem keys_push {K : List Int} {p : Int → List Sp} (h : KeysOk K p) (k : Int) (s : Sp) : KeysOk (addI K k) (fun k' => if k' = k then p k ++ [s] else p k') := by
  intro k'
  rw [mem_addI]
  by_cases e : k' = k
  · simp [e]
  · simp only [e, if_false, false_or]
    exact h k'
theorem addI_len (K : List Int) (k : Int) : (addI K k).length ≤ K.length + 1 := by
  unfold addI
  split
  · omega
  · simp
/-- No row of the one map is a row of the other. -/
def Apart2 (K1 : List Int) (v1 : Int → Value) (K2 : List Int) (v2 : Int → Value) : Prop := ∀ a ∈ K1, ∀ b ∈ K2, ((v1 a).ownBlock = none ∨ (v1 a).ownBlock ≠ (v2 b).ownBlock) ∧ ((v2 b).ownBlock = none ∨ (v2 b).ownBlock ≠ (v1 a).ownBlock)
theorem Apart2.symm {K1 K2 : List Int} {v1 v2 : Int → Value} (h : Apart2 K1 v1 K2 v2) : Apart2 K2 v2 K1 v1 := fun a ha b hb => ⟨(h b hb a ha).2, (h b hb a ha).1⟩
theorem gv_in {K : List Int} {vals : Int → Value} {k : Int} (h : k ∈ K) : gvI K vals k = vals k := if_pos h
theorem gv_out {K : List Int} {vals : Int → Value} {k : Int} (h : k ∉ K) : gvI K vals k = .slice none 0 0 := if_neg h
theorem Apart2.push {K1 K2 : List Int} {v1 v2 : Int → Value} (h : Apart2 K1 v1 K2 v2) {B2 : Nat} {p2 : Int → List Sp} {w : World} (h2 : MV B2 K2 p2 v2 w) {k : Int} {v : Value} (hv : v.ownBlock = none ∨ v.ownBlock = (gvI K1 v1 k).ownBlock ∨ ∀ g, v.ownBlock = some g → w.heap.size ≤ g) : Apart2 (addI K1 k) (fun k' => if k' = k then v else v1 k') K2 v2 := by
  intro a ha b hb
  by_cases e : a = k
  · subst e
    simp only [if_true]
    rcases hv with hv | hv | hv
    · refine ⟨.inl hv, ?_⟩
      rcases own_none_or (v := v2 b) with h4 | h4
      · exact .inl h4
      · exact .inr fun e => h4 (e.trans hv)
    · by_cases hm : a ∈ K1
      · rw [hv, gv_in hm]
        exact h a hm b hb
      · rw [gv_out hm] at hv
        have hv' : v.ownBlock = none := hv
        refine ⟨.inl hv', ?_⟩
        rcases own_none_or (v := v2 b) with h4 | h4
        · exact .inl h4
        · exact .inr fun e => h4 (e.trans hv')
    · rcases hb2 : (v2 b).ownBlock with _ | g
      · refine ⟨?_, .inl rfl⟩
        exact own_none_or
      · have h1 := (h2.vs b hb).lt g hb2
        constructor
        · right
          intro e
          have := hv g e
          omega
        · right
          intro e
          have := hv g e.symm
          omega
  · rcases mem_addI.1 ha with h1 | h1
    · exact absurd h1 e
    · simp only [if_neg e]
      exact h a h1 b hb
theorem Ms.same {B bM : Nat} {K : List Int} {p q : Int → List Sp} {vals : Int → Value} {w : World} (h : Ms B bM K p vals w) (e : ∀ k ∈ K, p k = q k) : Ms B bM K q vals w :=
  ⟨h.map, fun k hk => by rw [← e k hk]; exact h.mv.vs k hk, h.mv.apart, h.mv.rng, h.mv.nd⟩
theorem Ms.base {B B0 bM : Nat} {K : List Int} {p : Int → List Sp} {vals : Int → Value} {w : World} (h : Ms B bM K p vals w) (hB : B0 ≤ B) : Ms B0 bM K p vals w :=
  ⟨h.map, fun k hk => own_base (h.mv.vs k hk) hB, h.mv.apart, h.mv.rng, h.mv.nd⟩
theorem Ms.row_ge {B bM : Nat} {K : List Int} {p : Int → List Sp} {vals : Int → Value} {w : World} (h : Ms B bM K p vals w) (k : Int) : ∀ q, (gvI K vals k).ownBlock = some q → B ≤ q ∧ q < w.heap.size := fun q hq => by
  by_cases hm : k ∈ K
  · rw [gv_in hm] at hq
    exact (h.mv.vs k hm).lt q hq
  · rw [gv_out hm] at hq
    cases hq
theorem Ms.own {B bM : Nat} {K : List Int} {p : Int → List Sp} {vals : Int → Value} {w : World} (h : Ms B bM K p vals w) (hp : ∀ k, k ∉ K → p k = []) (k : Int) : w.ownsRow B 143 2 (gvI K vals k) (p k).length ((p k).flatMap encS) := by
  by_cases hm : k ∈ K
  · rw [gv_in hm]
    exact h.mv.vs k hm
  · rw [gv_out hm, hp k hm]
    exact World.ownsRow_nil _ _ _ _
theorem Ms.others {B bM : Nat} {K : List Int} {p : Int → List Sp} {vals : Int → Value} {w : World} (h : Ms B bM K p vals w) (k : Int) : ∀ k' ∈ K, k' ≠ k → (vals k').ownBlock = none ∨ (vals k').ownBlock ≠ (gvI K vals k).ownBlock := fun k' hk' hne => by
  by_cases hm : k ∈ K
  · rw [gv_in hm]
    exact h.mv.apart k' hk' k hm hne
  · rw [gv_out hm]
    exact own_none_or
theorem Apart2.rows {K1 K2 : List Int} {v1 v2 : Int → Value} (h : Apart2 K1 v1 K2 v2) (k : Int) : ∀ b ∈ K2, (v2 b).ownBlock = none ∨ (v2 b).ownBlock ≠ (gvI K1 v1 k).ownBlock := fun b hb => by
  by_cases hm : k ∈ K1
  · rw [gv_in hm]
    exact (h k hm b hb).2
  · rw [gv_out hm]
    exact own_none_or
theorem Ms.map_ge {B bM : Nat} {K : List Int} {p : Int → List Sp} {vals : Int → Value} {w : World} (h : Ms B bM K p vals w) {k : Int} : some bM ≠ (gvI K vals k).ownBlock := by
  by_cases hm : k ∈ K
  · rw [gv_in hm]
    exact h.not_map (h.mv.vs k hm)
  · rw [gv_out hm]
    simp [Value.ownBlock]
/-- The two maps, the box that holds them. -/
structure Col (w0 wr : World) (h0 : Nat) (K1 K2 : List Int) (p1 p2 : Int → List Sp) (v1 v2 : Int → Value) : Prop where
  m1 : Ms (h0 + 4) (h0 + 1) K1 p1 v1 wr
  m2 : Ms (h0 + 4) (h0 + 1 + 1) K2 p2 v2 wr
  ap : Apart2 K1 v1 K2 v2
  c0 : wr.cell? ⟨h0 + 1 + 1 + 1, 0, none⟩ = some (.map (some (h0 + 1)))
  c1 : wr.cell? ⟨h0 + 1 + 1 + 1, 1, none⟩ = some (.map (some (h0 + 1 + 1)))
  low : Below h0 w0 wr
  sz : h0 + 4 ≤ wr.heap.size
  rb : wr.heap[h0]? = some (Obj.cells #[.map none, .map none] 159)
theorem Col.below {w0 wr w' : World} {h0 : Nat} {K1 K2 : List Int} {p1 p2 : Int → List Sp} {v1 v2 : Int → Value} (h : Col w0 wr h0 K1 K2 p1 p2 v1 v2) (hb : Below wr.heap.size wr w') : Col w0 w' h0 K1 K2 p1 p2 v1 v2 :=
  ⟨h.m1.below hb, h.m2.below hb, h.ap, (hb.cell (p := ⟨h0 + 1 + 1 + 1, 0, none⟩) (by have := h.sz; show h0 + 1 + 1 + 1 < _; omega)).trans h.c0, (hb.cell (p := ⟨h0 + 1 + 1 + 1, 1, none⟩) (by have := h.sz; show h0 + 1 + 1 + 1 < _; omega)).trans h.c1, h.low.trans (hb.mono (by have := h.sz; omega)), Nat.le_trans h.sz hb.size, (hb.block h0 (by have := h.sz; omega)).trans h.rb⟩
theorem cell_grow {w w' : World} {row : Option Nat} (h : w.grownBy w' row) {b o : Nat} (hb : b < w.heap.size) (hne : some b ≠ row) : w'.cell? ⟨b, o, none⟩ = w.cell? ⟨b, o, none⟩ := World.cell?_of_block (h.block b hb hne)
/-- One more span in the rows. -/
theorem Col.push1 {w0 wr w5 w9 : World} {h0 : Nat} {K1 K2 : List Int} {p1 p2 : Int → List Sp} {v1 v2 : Int → Value} (h : Col w0 wr h0 K1 K2 p1 p2 v1 v2) (hb : Below wr.heap.size wr w5) {k : Int} (hk : okK k) (hn : K1.length < maxLen) (hg : w5.grownBy w9 (gvI K1 v1 k).ownBlock) {g n cap : Nat} {s : Sp} (hl : n = (p1 k ++ [s]).length)
    (ho : w9.ownsRow (h0 + 4) 143 2 (.slice (some ⟨g, 0, none⟩) n cap) n ((p1 k ++ [s]).flatMap encS)) (hloc : (gvI K1 v1 k).ownBlock = some g ∨ w5.heap.size ≤ g) :
    ∃ wz, (Instr.mapUpdate 157 (.map (some (h0 + 1))) (.int .i64 k) (.slice (some ⟨g, 0, none⟩) n cap)).run Tryz.prog w9 = .ok () wz ∧ ∃ v1', Col w0 wz h0 (addI K1 k) K2 (fun k' => if k' = k then p1 k ++ [s] else p1 k') p2 v1' v2 := by
  subst hl
  have h5 := h.below hb
  have hloc' : (Value.slice (some ⟨g, 0, none⟩) (p1 k ++ [s]).length cap).ownBlock = none ∨ (Value.slice (some ⟨g, 0, none⟩) (p1 k ++ [s]).length cap).ownBlock = (gvI K1 v1 k).ownBlock ∨ ∀ g', (Value.slice (some ⟨g, 0, none⟩) (p1 k ++ [s]).length cap).ownBlock = some g' → w5.heap.size ≤ g' := by
    right
    rcases hloc with hl | hl
    · exact .inl (by rw [hl]; rfl)
    · refine .inr fun g' hg' => ?_
      have : g = g' := by simpa [Value.ownBlock] using hg'
      omega
  obtain ⟨wz, hrun, hgz, hmz⟩ := h5.m1.store hk hn hg h5.m1.map_ge (h5.m1.others k) ho hloc'
  refine ⟨wz, hrun, _, hmz, ?_, h5.ap.push h5.m2.mv hloc', ?_, ?_, ?_, ?_, ?_⟩
  · have h2 := h5.m2.grown hg (fun e => by have := (h5.m1.row_ge k _ e.symm).1; omega) (h5.ap.rows k)
    exact h2.grown hgz (fun e => by injection e with e; omega) fun b hb => .inr fun e => by have := (h2.mv.vs b hb).lt _ e; omega
  · have e1 := cell_grow hg (b := h0 + 1 + 1 + 1) (o := 0) (by have := h5.sz; omega) (fun e => by have := (h5.m1.row_ge k _ e.symm).1; omega)
    exact (cell_grow hgz (by have := h5.sz; have := hg.size; omega) (fun e => by injection e with e; omega)).trans (e1.trans h5.c0)
  · have e1 := cell_grow hg (b := h0 + 1 + 1 + 1) (o := 1) (by have := h5.sz; omega) (fun e => by have := (h5.m1.row_ge k _ e.symm).1; omega)
    exact (cell_grow hgz (by have := h5.sz; have := hg.size; omega) (fun e => by injection e with e; omega)).trans (e1.trans h5.c1)
  · exact (h5.low.grown hg (by have := h5.sz; omega) fun q hq => by have := (h5.m1.row_ge k q hq).1; omega).grown hgz (by have := h5.sz; have := hg.size; omega) fun q hq => by injection hq with hq; omega
  · have := h5.sz
    have := hg.size
    have := hgz.size
    omega
  · exact (hgz.block h0 (by have := h5.sz; have := hg.size; omega) (fun e => by injection e with e; omega)).trans ((hg.block h0 (by have := h5.sz; omega) (fun e => by have := (h5.m1.row_ge k _ e.symm).1; omega)).trans h5.rb)
theorem Col.push2 {w0 wr w5 w9 : World} {h0 : Nat} {K1 K2 : List Int} {p1 p2 : Int → List Sp} {v1 v2 : Int → Value} (h : Col w0 wr h0 K1 K2 p1 p2 v1 v2) (hb : Below wr.heap.size wr w5) {k : Int} (hk : okK k) (hn : K2.length < maxLen) (hg : w5.grownBy w9 (gvI K2 v2 k).ownBlock) {g n cap : Nat} {s : Sp} (hl : n = (p2 k ++ [s]).length)
    (ho : w9.ownsRow (h0 + 4) 143 2 (.slice (some ⟨g, 0, none⟩) n cap) n ((p2 k ++ [s]).flatMap encS)) (hloc : (gvI K2 v2 k).ownBlock = some g ∨ w5.heap.size ≤ g) :
    ∃ wz, (Instr.mapUpdate 157 (.map (some (h0 + 1 + 1))) (.int .i64 k) (.slice (some ⟨g, 0, none⟩) n cap)).run Tryz.prog w9 = .ok () wz ∧ ∃ v2', Col w0 wz h0 K1 (addI K2 k) p1 (fun k' => if k' = k then p2 k ++ [s] else p2 k') v1 v2' := by
  subst hl
  have h5 := h.below hb
  have hloc' : (Value.slice (some ⟨g, 0, none⟩) (p2 k ++ [s]).length cap).ownBlock = none ∨ (Value.slice (some ⟨g, 0, none⟩) (p2 k ++ [s]).length cap).ownBlock = (gvI K2 v2 k).ownBlock ∨ ∀ g', (Value.slice (some ⟨g, 0, none⟩) (p2 k ++ [s]).length cap).ownBlock = some g' → w5.heap.size ≤ g' := by
    right
    rcases hloc with hl | hl
    · exact .inl (by rw [hl]; rfl)
    · refine .inr fun g' hg' => ?_
      have : g = g' := by simpa [Value.ownBlock] using hg'
      omega
  obtain ⟨wz, hrun, hgz, hmz⟩ := h5.m2.store hk hn hg h5.m2.map_ge (h5.m2.others k) ho hloc'
  refine ⟨wz, hrun, _, ?_, hmz, (h5.ap.symm.push h5.m1.mv hloc').symm, ?_, ?_, ?_, ?_, ?_⟩
  · have h2 := h5.m1.grown hg (fun e => by have := (h5.m2.row_ge k _ e.symm).1; omega) (h5.ap.symm.rows k)
    exact h2.grown hgz (fun e => by injection e with e; omega) fun b hb => .inr fun e => by have := (h2.mv.vs b hb).lt _ e; omega
  · have e1 := cell_grow hg (b := h0 + 1 + 1 + 1) (o := 0) (by have := h5.sz; omega) (fun e => by have := (h5.m2.row_ge k _ e.symm).1; omega)
    exact (cell_grow hgz (by have := h5.sz; have := hg.size; omega) (fun e => by injection e with e; omega)).trans (e1.trans h5.c0)
  · have e1 := cell_grow hg (b := h0 + 1 + 1 + 1) (o := 1) (by have := h5.sz; omega) (fun e => by have := (h5.m2.row_ge k _ e.symm).1; omega)
    exact (cell_grow hgz (by have := h5.sz; have := hg.size; omega) (fun e => by injection e with e; omega)).trans (e1.trans h5.c1)
  · exact (h5.low.grown hg (by have := h5.sz; omega) fun q hq => by have := (h5.m2.row_ge k q hq).1; omega).grown hgz (by have := h5.sz; have := hg.size; omega) fun q hq => by injection hq with hq; omega
  · have := h5.sz
    have := hg.size
    have := hgz.size
    omega
  · exact (hgz.block h0 (by have := h5.sz; have := hg.size; omega) (fun e => by injection e with e; omega)).trans ((hg.block h0 (by have := h5.sz; omega) (fun e => by have := (h5.m2.row_ge k _ e.symm).1; omega)).trans h5.rb)
theorem iter_ne {w : World} {b r n : Nat} {D : DataW Unit} {left : Lit → Bool} {cnt : Nat} (h : w.ranges Tryz.prog 3 slD b r n D left cnt) {B m : Nat} {e : TypeId} {s : Nat} {v : Value} {xs : List Value} (ho : w.ownsRow B e s v m xs) : v.ownBlock = none ∨ v.ownBlock ≠ some r := by
  obtain ⟨es, clock, since, seen, c0, _, _, _, _, hr, _⟩ := h
  rcases ho.2 with ⟨rfl, _⟩ | ⟨g, cap, cur, rfl, _, hg, _⟩
  · exact .inl rfl
  · right
    intro e1
    have : g = r := by simpa [Value.ownBlock] using e1
    subst this
    rw [hg] at hr
    cases hr
theorem Col.grown {w0 wr w' : World} {h0 : Nat} {K1 K2 : List Int} {p1 p2 : Int → List Sp} {v1 v2 : Int → Value} (h : Col w0 wr h0 K1 K2 p1 p2 v1 v2) {row : Option Nat} (hg : wr.grownBy w' row) (n : ∀ q, row = some q → h0 < q ∧ q ≠ h0 + 1 ∧ q ≠ h0 + 1 + 1 ∧ q ≠ h0 + 1 + 1 + 1)
    (r1 : ∀ k ∈ K1, (v1 k).ownBlock = none ∨ (v1 k).ownBlock ≠ row) (r2 : ∀ k ∈ K2, (v2 k).ownBlock = none ∨ (v2 k).ownBlock ≠ row) : Col w0 w' h0 K1 K2 p1 p2 v1 v2 :=
  ⟨h.m1.grown hg (fun e => (n _ e.symm).2.1 rfl) r1, h.m2.grown hg (fun e => (n _ e.symm).2.2.1 rfl) r2, h.ap, (cell_grow hg (by have := h.sz; omega) (fun e => (n _ e.symm).2.2.2 rfl)).trans h.c0, (cell_grow hg (by have := h.sz; omega) (fun e => (n _ e.symm).2.2.2 rfl)).trans h.c1,
    h.low.grown hg (by have := h.sz; omega) (fun q hq => Nat.le_of_lt (n q hq).1), Nat.le_trans h.sz hg.size, (hg.block h0 (by have := h.sz; omega) (fun e => Nat.lt_irrefl _ (n _ e.symm).1)).trans h.rb⟩
/-- A step of the range over the rows: the iterator's block turns. -/
theorem Col.step1 {w0 wr w' : World} {h0 r : Nat} {K1 K2 : List Int} {p1 p2 : Int → List Sp} {v1 v2 : Int → Value} {left : Lit → Bool} {cnt : Nat} (h : Col w0 wr h0 K1 K2 p1 p2 v1 v2) (hm : Mr (h0 + 4) (h0 + 1) r K1 p1 v1 left cnt wr) (hr : h0 + 4 ≤ r) (hg : wr.grownBy w' (some r)) : Col w0 w' h0 K1 K2 p1 p2 v1 v2 := by
  obtain ⟨D, d1, _⟩ := hm.map
  exact h.grown hg (fun q hq => by injection hq with hq; omega) (fun k hk => iter_ne d1 (h.m1.mv.vs k hk)) (fun k hk => iter_ne d1 (h.m2.mv.vs k hk))
theorem Col.step2 {w0 wr w' : World} {h0 r : Nat} {K1 K2 : List Int} {p1 p2 : Int → List Sp} {v1 v2 : Int → Value} {left : Lit → Bool} {cnt : Nat} (h : Col w0 wr h0 K1 K2 p1 p2 v1 v2) (hm : Mr (h0 + 4) (h0 + 1 + 1) r K2 p2 v2 left cnt wr) (hr : h0 + 4 ≤ r) (hg : wr.grownBy w' (some r)) : Col w0 w' h0 K1 K2 p1 p2 v1 v2 := by
  obtain ⟨D, d1, _⟩ := hm.map
  exact h.grown hg (fun q hq => by injection hq with hq; omega) (fun k hk => iter_ne d1 (h.m1.mv.vs k hk)) (fun k hk => iter_ne d1 (h.m2.mv.vs k hk))
/-- The rows' value at a key is laid anew, while the range over them is under way. -/
theorem Col.upd1 {w0 wr w2 : World} {h0 r : Nat} {K1 K2 : List Int} {p1 p2 : Int → List Sp} {v1 v2 : Int → Value} {left : Lit → Bool} {cnt : Nat} (h : Col w0 wr h0 K1 K2 p1 p2 v1 v2) (hm : Mr (h0 + 4) (h0 + 1) r K1 p1 v1 left cnt wr) {x : Int} (hx : x ∈ K1) (hn : K1.length < maxLen) (hb : Below wr.heap.size wr w2) {q : List Sp} {v : Value} (hv : w2.ownsRow wr.heap.size 143 2 v q.length (q.flatMap encS)) :
    ∃ w3, (Instr.mapUpdate 157 (.map (some (h0 + 1))) (.int .i64 x) v).run Tryz.prog w2 = .ok () w3 ∧ w2.grownBy w3 (some (h0 + 1)) ∧ Mr (h0 + 4) (h0 + 1) r K1 (fun k' => if k' = x then q else p1 k') (fun k' => if k' = x then v else v1 k') left cnt w3 ∧ Col w0 w3 h0 K1 K2 (fun k' => if k' = x then q else p1 k') p2 (fun k' => if k' = x then v else v1 k') v2 := by
  obtain ⟨w3, hrun, hg3, hs3, hm3⟩ := hm.store hx hn hb hv h.sz
  have h2 := h.below hb
  have hap := h.ap.push (k := x) h.m2.mv (v := v) (.inr (.inr fun g hg => (hv.lt g hg).1))
  rw [show addI K1 x = K1 from if_pos hx] at hap
  refine ⟨w3, hrun, hg3, hm3, hm3.ms, ?_, hap, ?_, ?_, ?_, ?_, ?_⟩
  · exact h2.m2.grown hg3 (fun e => by injection e with e; omega) fun b hb' => .inr fun e => by have := (h2.m2.mv.vs b hb').lt _ e; omega
  · exact (cell_grow hg3 (by have := h2.sz; omega) (fun e => by injection e with e; omega)).trans h2.c0
  · exact (cell_grow hg3 (by have := h2.sz; omega) (fun e => by injection e with e; omega)).trans h2.c1
  · exact h2.low.grown hg3 (by have := h2.sz; omega) fun q hq => by injection hq with hq; omega
  · have := h2.sz; have := hg3.size; omega
  · exact (hg3.block h0 (by have := h2.sz; omega) (fun e => by injection e with e; omega)).trans h2.rb
theorem Col.upd2 {w0 wr w2 : World} {h0 r : Nat} {K1 K2 : List Int} {p1 p2 : Int → List Sp} {v1 v2 : Int → Value} {left : Lit → Bool} {cnt : Nat} (h : Col w0 wr h0 K1 K2 p1 p2 v1 v2) (hm : Mr (h0 + 4) (h0 + 1 + 1) r K2 p2 v2 left cnt wr) {x : Int} (hx : x ∈ K2) (hn : K2.length < maxLen) (hb : Below wr.heap.size wr w2) {q : List Sp} {v : Value} (hv : w2.ownsRow wr.heap.size 143 2 v q.length (q.flatMap encS)) :
    ∃ w3, (Instr.mapUpdate 157 (.map (some (h0 + 1 + 1))) (.int .i64 x) v).run Tryz.prog w2 = .ok () w3 ∧ w2.grownBy w3 (some (h0 + 1 + 1)) ∧ Mr (h0 + 4) (h0 + 1 + 1) r K2 (fun k' => if k' = x then q else p2 k') (fun k' => if k' = x then v else v2 k') left cnt w3 ∧ Col w0 w3 h0 K1 K2 p1 (fun k' => if k' = x then q else p2 k') v1 (fun k' => if k' = x then v else v2 k') := by
  obtain ⟨w3, hrun, hg3, hs3, hm3⟩ := hm.store hx hn hb hv h.sz
  have h2 := h.below hb
  have hap := h.ap.symm.push (k := x) h.m1.mv (v := v) (.inr (.inr fun g hg => (hv.lt g hg).1))
  rw [show addI K2 x = K2 from if_pos hx] at hap
  refine ⟨w3, hrun, hg3, hm3, ?_, hm3.ms, hap.symm, ?_, ?_, ?_, ?_, ?_⟩
  · exact h2.m1.grown hg3 (fun e => by injection e with e; omega) fun b hb' => .inr fun e => by have := (h2.m1.mv.vs b hb').lt _ e; omega
  · exact (cell_grow hg3 (by have := h2.sz; omega) (fun e => by injection e with e; omega)).trans h2.c0
  · exact (cell_grow hg3 (by have := h2.sz; omega) (fun e => by injection e with e; omega)).trans h2.c1
  · exact h2.low.grown hg3 (by have := h2.sz; omega) fun q hq => by injection hq with hq; omega
  · have := h2.sz; have := hg3.size; omega
  · exact (hg3.block h0 (by have := h2.sz; omega) (fun e => by injection e with e; omega)).trans h2.rb
end Go.Proofs.YtmnhlcbmoibahaaGreat

/- street.collect: the walk. -/
namespace Go.Proofs.YtmnhlcbmoibahaaGreat
open Go.RowKit Go.Maps
set_option linter.unusedVariables false
set_option linter.unusedSimpArgs false

def KeysUp (K : List Int) (p : Int → List Sp) : Prop := ∀ k, p k ≠ [] → k ∈ K
/-- span.Make of at most 800 valid spans: too many give nothing. -/
def thinS (l : List Sp) : List Sp := if l.length ≤ 400 then sjoin hFst l [] else []
def rowD (l : List Sg) (y : Int) : List Sp := thinS (rowSp l y)
def colD (l : List Sg) (x : Int) : List Sp := thinS (colSp l x)
/-- Without the lines that have too many. -/
def thin (l : List Sg) : List Sg := l.filter fun s => if s.ay = s.cy then decide ((rowSp l s.ay).length ≤ 400) else decide ((colSp l s.ax).length ≤ 400)
theorem thin_row (l : List Sg) (y : Int) : rowSp (thin l) y = if (rowSp l y).length ≤ 400 then rowSp l y else [] := by
  unfold thin
  rw [rowSp, List.filter_filter]
  split
  · rename_i h
    conv => rhs; rw [rowSp]
    congr 1
    refine List.filter_congr fun s _ => ?_
    by_cases h1 : s.ay = s.cy <;> by_cases h2 : s.ay = y <;> simp_all
  · rename_i h
    rw [List.map_eq_nil_iff, List.filter_eq_nil_iff]
    intro s _
    by_cases h1 : s.ay = s.cy <;> by_cases h2 : s.ay = y <;> simp_all
theorem thin_col (l : List Sg) (x : Int) : colSp (thin l) x = if (colSp l x).length ≤ 400 then colSp l x else [] := by
  unfold thin
  rw [colSp, List.filter_filter]
  split
  · rename_i h
    conv => rhs; rw [colSp]
    congr 1
    refine List.filter_congr fun s _ => ?_
    by_cases h1 : s.ay = s.cy <;> by_cases h2 : s.ax = x <;> simp_all
  · rename_i h
    rw [List.map_eq_nil_iff, List.filter_eq_nil_iff]
    intro s _
    by_cases h1 : s.ay = s.cy <;> by_cases h2 : s.ax = x <;> simp_all
theorem rowD_thin (l : List Sg) : rowD l = rowC (thin l) := funext fun y => by
  unfold rowD thinS rowC
  rw [thin_row]
  split
  · rfl
  · rfl
theorem colD_thin (l : List Sg) : colD l = colC (thin l) := funext fun x => by
  unfold colD thinS colC
  rw [thin_col]
  split
  · rfl
  · rfl
theorem thin_all {l : List Sg} (h : l.length ≤ 400) : thin l = l := by
  unfold thin
  rw [List.filter_eq_self]
  intro s _
  have h1 := rowSp_len l s.ay
  have h2 := colSp_len l s.ax
  split <;> simp <;> omega
theorem thin_mem {l : List Sg} {s : Sg} (h : s ∈ thin l) : s ∈ l := (List.mem_filter.1 h).1
theorem thin_len (l : List Sg) : (thin l).length ≤ l.length := List.length_filter_le _ _
theorem keys_thin {K : List Int} {l : List Sg} (h : KeysOk K (rowSp l)) : KeysUp K (rowSp (thin l)) := fun k hk => (h k).2 (fun e => hk (by rw [thin_row, e]; simp))
theorem keys_thinC {K : List Int} {l : List Sg} (h : KeysOk K (colSp l)) : KeysUp K (colSp (thin l)) := fun k hk => (h k).2 (fun e => hk (by rw [thin_col, e]; simp))
theorem spanMake_thin {w : World} {v : Value} {l : List Sp} (hr : RdK encS 2 w w.heap.size v l) (hv : ∀ p ∈ l, validS p) :
    Calls Tryz.prog 119 #[v] w fun e w' => ∃ A c er, e = .returned (.tuple #[.slice A (thinS l).length c, .int .i64 er]) ∧ w'.ownsRow w.heap.size 143 2 (.slice A (thinS l).length c) (thinS l).length ((thinS l).flatMap encS) ∧ Below w.heap.size w w' := by
  by_cases hl : l.length ≤ 400
  · refine (spanMake_ok hr hl hv).mono ?_
    rintro e w' ⟨A, c, rfl, h2⟩
    have e1 : thinS l = sjoin hFst l [] := by unfold thinS; rw [if_pos hl]
    rw [e1]
    exact ⟨A, c, 0, rfl, h2⟩
  · have e1 : thinS l = [] := by unfold thinS; rw [if_neg hl]
    rw [e1]
    obtain ⟨A, c, rfl, _⟩ := hr
    have hlz : ¬ (l.length : Int) ≤ 400 := by omega
    have hlz2 : (400 : Int) < (l.length : Int) := by omega
    clear hv hl e1
    go_enter Tryz.func119, Tryz.ntmps119
    go_wp2
    go_ret2
    exact ⟨none, 0, ⟨4, rfl⟩, World.ownsRow_nil _ _ _ _, Below.refl _ _⟩
/-- What collect gives: two maps with the canonical lines. -/
def Roads (B : Nat) (l : List Sg) (v : Value) (w : World) : Prop := ∃ b1 b2 K1 K2 v1 v2, v = .agg #[.map (some b1), .map (some b2)] ∧ Ms B b1 K1 (rowC l) v1 w ∧ Ms B b2 K2 (colC l) v2 w ∧ KeysUp K1 (rowSp l) ∧ KeysUp K2 (colSp l) ∧ B ≤ b1 ∧ B ≤ b2
theorem col_start {w w0 : World} (h : w0 = (((w.alloc (Obj.cells #[.map none, .map none] 159)).alloc (Obj.map #[] 0)).alloc (Obj.map #[] 0)).alloc (Obj.cells #[Value.map (some (w.heap.size + 1)), Value.map (some (w.heap.size + 1 + 1))] 159)) (hb : Below w.heap.size w w0) :
    Col w w0 w.heap.size [] [] (rowSp []) (colSp []) (fun _ => .slice none 0 0) (fun _ => .slice none 0 0) := by
  have e1 : (w.alloc (Obj.cells #[.map none, .map none] 159)).heap.size = w.heap.size + 1 := by simp
  have e2 : ((w.alloc (Obj.cells #[.map none, .map none] 159)).alloc (Obj.map #[] 0)).heap.size = w.heap.size + 1 + 1 := by simp
  have m1 := Ms.made (w.alloc (Obj.cells #[.map none, .map none] 159)) (w.heap.size + 4) (rowSp []) (fun _ => .slice none 0 0)
  have m2 := Ms.made ((w.alloc (Obj.cells #[.map none, .map none] 159)).alloc (Obj.map #[] 0)) (w.heap.size + 4) (colSp []) (fun _ => .slice none 0 0)
  rw [e1] at m1
  rw [e2] at m2
  refine ⟨?_, ?_, fun a ha => (List.not_mem_nil ha).elim, ?_, ?_, hb, ?_, ?_⟩
  · rw [h]
    exact m1.below (((Below.refl _ _).alloc (Nat.le_refl _) _).alloc (by simp) _)
  · rw [h]
    exact m2.below ((Below.refl _ _).alloc (Nat.le_refl _) _)
  · rw [h]; simp [go_sem]
  · rw [h]; simp [go_sem]
  · rw [h]; simp
  · rw [h]
    have e3 := (MapKept.heap_alloc w (Obj.cells #[.map none, .map none] 159)).1
    have hb3 := (((Below.refl (w.alloc (Obj.cells #[.map none, .map none] 159)).heap.size (w.alloc (Obj.cells #[.map none, .map none] 159))).alloc (Nat.le_refl _) (Obj.map #[] 0)).alloc (by simp) (Obj.map #[] 0)).alloc (by simp) (Obj.cells #[Value.map (some (w.heap.size + 1)), Value.map (some (w.heap.size + 1 + 1))] 159)
    exact (hb3.block w.heap.size (by simp)).trans e3
set_option maxRecDepth 100000 in
set_option maxHeartbeats 8000000 in
theorem collect_any {w : World} {v : Value} {l : List Sg} (hr : RdK encSg 4 w w.heap.size v l) (hl : l.length ≤ 800) (hv : ∀ s ∈ l, okSg s) :
    Calls Tryz.prog 105 #[v] w fun e w' => ∃ u, e = .returned u ∧ Roads w.heap.size (thin l) u w' ∧ Below w.heap.size w w' := by
  obtain ⟨i1, gi, gz0, gz1, gz2⟩ := info_parts infoSp
  obtain ⟨A, c, rfl, hc⟩ := hr
  have HRC := hide hc
  have HV := hide hv
  clear hc hv
  have hmm := @run_makeMap Tryz.prog
  go_enter Tryz.func105, Tryz.ntmps105
  go_upto_region 2 with fail
  refine wp_name fun w0 hw0 => ?_
  clear hmm
  have hb0 : Below w.heap.size w w0 := by
    rw [hw0]
    repeat (first | with_reducible exact Below.refl _ _ | with_reducible refine Below.setCell ?_ (by first | (simp; done) | (simp; omega)) _ | with_reducible refine Below.alloc ?_ (by first | omega | (simp; omega) | simp) _)
  have hcol : Col w w0 w.heap.size [] [] (rowSp []) (colSp []) (fun _ => .slice none 0 0) (fun _ => .slice none 0 0) := by
    exact col_start hw0 hb0
  have HC0 := hide hcol
  clear hw0 hb0 hcol
  go_wp2
  go_loopw [15] (fun i wr => ∃ m : Nat, m ≤ l.length ∧ i = .int .i64 m ∧ Hid (∃ K1 K2 v1 v2, Col w wr w.heap.size K1 K2 (rowSp (l.take m)) (colSp (l.take m)) v1 v2 ∧ KeysOk K1 (rowSp (l.take m)) ∧ KeysOk K2 (colSp (l.take m)) ∧ K1.length ≤ m ∧ K2.length ≤ m)) (fun i _ => l.length - (intOf i).toNat)
  case atStart => exact ⟨0, Nat.zero_le _, rfl, hide ⟨[], [], _, _, HC0.out, fun k => by simp [rowSp], fun k => by simp [colSp], Nat.zero_le _, Nat.zero_le _⟩⟩
  case round =>
    obtain ⟨m, hm, rfl, HCC⟩ := hrel
    by_cases hlt : m < l.length
    · obtain ⟨s, hs⟩ : ∃ p, l[m]? = some p := ⟨_, List.getElem?_eq_getElem hlt⟩
      obtain ⟨K1, K2, v1, v2, hcol, hk1, hk2, hn1, hn2⟩ := HCC.out
      obtain ⟨b, o, rfl, hbl, k⟩ := HRC.out (by intro e; rw [e] at hlt; simp at hlt)
      have hb := hcol.low
      have d0 : wr.cell? ⟨b, o + m * 4, none⟩ = some (.int .i64 s.ax) := (hb.cell (p := ⟨b, _, none⟩) hbl).trans (k m _ hs 0 _ rfl)
      have d1 : wr.cell? ⟨b, o + m * 4 + 1, none⟩ = some (.int .i64 s.ay) := (hb.cell (p := ⟨b, _, none⟩) hbl).trans (k m _ hs 1 _ rfl)
      have d2 : wr.cell? ⟨b, o + m * 4 + 2, none⟩ = some (.int .i64 s.cx) := (hb.cell (p := ⟨b, _, none⟩) hbl).trans (k m _ hs 2 _ rfl)
      have d3 : wr.cell? ⟨b, o + m * 4 + 3, none⟩ = some (.int .i64 s.cy) := (hb.cell (p := ⟨b, _, none⟩) hbl).trans (k m _ hs 3 _ rfl)
      have hsv := HV.out s (List.mem_of_getElem? hs)
      have hky : okK s.ay := by obtain ⟨⟨_, ⟨_, _⟩, _⟩, _⟩ := hsv; unfold okK; omega
      have hkx : okK s.ax := by obtain ⟨⟨⟨_, _⟩, _⟩, _⟩ := hsv; unfold okK; omega
      have HSR := hide (rowSp_take hs)
      have HSC := hide (colSp_take hs)
      have hlr := fun y => rowSp_len (l.take m) y
      have hlc := fun y => colSp_len (l.take m) y
      have Hp1l : Hid (∀ y, (rowSp (l.take m) y).length ≤ 800) := hide (fun y => by have := hlr y; rw [List.length_take] at this; omega)
      have Hp2l : Hid (∀ y, (colSp (l.take m) y).length ≤ 800) := hide (fun y => by have := hlc y; rw [List.length_take] at this; omega)
      have Hp10 : Hid (∀ k, k ∉ K1 → rowSp (l.take m) k = []) := hide (fun k hk => Classical.byContradiction fun h => hk ((hk1 k).2 h))
      have Hp20 : Hid (∀ k, k ∉ K2 → colSp (l.take m) k = []) := hide (fun k hk => Classical.byContradiction fun h => hk ((hk2 k).2 h))
      have HK1 := hide hk1
      have HK2 := hide hk2
      have HCOL := hide hcol
      have mz : (m : Int) < (l.length : Int) := by omega
      clear k hs hb hsv hlr hlc hk1 hk2 hcol HCC
      generalize rowSp (l.take m) = p1 at *
      generalize colSp (l.take m) = p2 at *
      go_upto_region 5 with fail
      refine wp_name fun w5 hw5 => ?_
      obtain ⟨g5, hg5⟩ : ∃ g, g = wr.heap.size := ⟨_, rfl⟩
      have hb5 : Below wr.heap.size wr w5 := by
        rw [hw5]
        repeat (first | with_reducible exact Below.refl _ _ | with_reducible refine Below.setCell ?_ (by first | (simp; done) | (simp; omega)) _ | with_reducible refine Below.alloc ?_ (by first | omega | (simp; omega) | simp) _)
      have s0 : w5.cell? ⟨g5, 0, none⟩ = some (.int .i64 s.ax) := by rw [hw5, hg5]; simp [go_sem]
      have s1 : w5.cell? ⟨g5, 1, none⟩ = some (.int .i64 s.ay) := by rw [hw5, hg5]; simp [go_sem]
      have s2 : w5.cell? ⟨g5, 2, none⟩ = some (.int .i64 s.cx) := by rw [hw5, hg5]; simp [go_sem]
      have s3 : w5.cell? ⟨g5, 3, none⟩ = some (.int .i64 s.cy) := by rw [hw5, hg5]; simp [go_sem]
      have hlt5 : g5 < w5.heap.size := by rw [hw5, hg5]; simp
      have HC5 := hide (HCOL.out.below hb5)
      have hgR : w.heap.size + 4 ≤ g5 := by rw [hg5]; exact HCOL.out.sz
      have HB5 := hide hb5
      rw [← hg5]
      have HG5 := hide hg5
      clear hw5 hb5 hg5 d0 d1 d2 d3
      by_cases hrow : s.ay = s.cy
      · have hcc : (s.ay == s.cy) = true := by simpa using hrow
        have HROW := hide hrow
        clear hrow
        go_upto_region 6 with fail
        have HKK : Hid (okK s.ay) := hide hky
        have HOWN := hide (HC5.out.m1.own Hp10.out s.ay)
        have HGE := hide (HCOL.out.m1.row_ge s.ay)
        have HNM : Hid (some (w.heap.size + 1) ≠ (gvI K1 v1 s.ay).ownBlock) := hide HC5.out.m1.map_ge
        have HSL := hide HC5.out.m1.mv.sl
        obtain ⟨Ag, cg, hgv⟩ := own_form HOWN.out
        have hpl : (p1 s.ay).length ≤ 800 := Hp1l.out s.ay
        obtain ⟨ps, hps⟩ : ∃ ps, p1 s.ay = ps := ⟨_, rfl⟩
        rw [hps] at hgv
        have HGV := hide hgv
        rw [hps] at HOWN hpl
        rw [hgv] at HOWN HGE HNM
        have HPS := hide hps
        have HS : Hid (∀ w' : World, Below w5.heap.size w5 w' → (w'.cell? ⟨w.heap.size + 1 + 1 + 1, 0, none⟩ = some (.map (some (w.heap.size + 1))) ∧ w'.cell? ⟨w.heap.size + 1 + 1 + 1, 1, none⟩ = some (.map (some (w.heap.size + 1 + 1)))) ∧ (w'.cell? ⟨g5, 0, none⟩ = some (.int .i64 s.ax) ∧ w'.cell? ⟨g5, 1, none⟩ = some (.int .i64 s.ay) ∧ w'.cell? ⟨g5, 2, none⟩ = some (.int .i64 s.cx) ∧ w'.cell? ⟨g5, 3, none⟩ = some (.int .i64 s.cy)) ∧ MsL (w.heap.size + 1) K1 v1 w') := hide (fun w' h => ⟨⟨(HC5.out.below h).c0, (HC5.out.below h).c1⟩, ⟨(h.cell (p := ⟨g5, 0, none⟩) hlt5).trans s0, (h.cell (p := ⟨g5, 1, none⟩) hlt5).trans s1, (h.cell (p := ⟨g5, 2, none⟩) hlt5).trans s2, (h.cell (p := ⟨g5, 3, none⟩) hlt5).trans s3⟩, (HC5.out.below h).m1.map⟩)
        clear hgv hps
        refine wp_region_mix [0, 1, 2, 3, 4, 5, 6, 7, 8, 9, 10, 11, 12, 13, 14, 15, 16, 17, 18, 19, 20, 21, 22, 23, 24, 25] [26, 27, 28] (fun w' => (w'.cell? ⟨w.heap.size + 1 + 1 + 1, 0, none⟩ = some (.map (some (w.heap.size + 1))) ∧ w'.cell? ⟨w.heap.size + 1 + 1 + 1, 1, none⟩ = some (.map (some (w.heap.size + 1 + 1)))) ∧ (w'.cell? ⟨g5, 0, none⟩ = some (.int .i64 s.ax) ∧ w'.cell? ⟨g5, 1, none⟩ = some (.int .i64 s.ay) ∧ w'.cell? ⟨g5, 2, none⟩ = some (.int .i64 s.cx) ∧ w'.cell? ⟨g5, 3, none⟩ = some (.int .i64 s.cy)) ∧ MsL (w.heap.size + 1) K1 v1 w') (by kernel_rfl) (by kernel_rfl) (HS.out _ (Below.refl _ _).drew) ?_
        simp only [List.map_cons, List.map_nil, opAt, List.getElem?_cons_succ, List.getElem?_cons_zero, Option.getD_some]
        clear s0 s1 s2 s3
        iterate 26
          refine ⟨?_, Or.inl ⟨by rfl, ?_⟩, ?_⟩
          rotate_left 1
          · intro w' hSw
            obtain ⟨⟨z0, z1⟩, ⟨z2, z3, z4, z5⟩, z6⟩ := hSw
            have z7 := MsL.look z6 HSL.out HKK.out
            rw [HGV.out] at z7
            clear z6
            go_simp
            first | done | with_reducible rfl
          simp only [Act.put, List.setIfInBounds_toArray, List.set_cons_zero, List.set_cons_succ]
        simp only [wpReads]
        intro K hK
        simp only [Act.put, List.setIfInBounds_toArray, List.set_cons_zero, List.set_cons_succ] at hK ⊢
        go_simp
        refine hK _ _ (fun _ => HS.out _ ((Below.refl _ _).alloc (Nat.le_refl _) _).drew) ?_
        clear hK K
        intro K hK
        refine step_append_lies _ rfl (.tmp 36) (.tmp 52) 137 rfl (w.heap.size + 4) 143 i1 (.agg #[.int .i64 0, .int .i64 0]) 2 16 Tryz.underlying137 gi gz0 gz1 gz2 rfl (by decide) _ ps.length _ rfl (own_drew (World.ownsRow.alloc (w := w5) HOWN.out _)) ⟨w5.heap.size, 0, none⟩ 1 1 [.int .i64 (min s.ax s.cx), .int .i64 (max s.ax s.cx)] rfl rfl (news_drew w5 _ _ _ rfl) (ints_one rfl) (by omega) (by unfold maxLen; omega) (by omega) (by simp; omega) _ rfl ?_
        intro g9 cap9 w9 hown9 hgrow9 hor9 hlt9
        have hS5 := HS.out _ (((Below.refl w5.heap.size w5).alloc (Nat.le_refl _) (.cells #[.int .i64 (min s.ax s.cx), .int .i64 (max s.ax s.cx)] 143)).drew)
        have hcg : ∀ b o, b < w5.heap.size → (b < w.heap.size + 4 ∨ b = g5) → w9.cell? ⟨b, o, none⟩ = ((w5.alloc (.cells #[.int .i64 (min s.ax s.cx), .int .i64 (max s.ax s.cx)] 143)).drew).cell? ⟨b, o, none⟩ := fun b o hb hne => cell_grow hgrow9 (by show b < (w5.alloc _).heap.size; simp; omega) (fun e => by have := HGE.out _ e.symm; have := HG5.out; omega)
        have hS9 : (w9.cell? ⟨w.heap.size + 1 + 1 + 1, 0, none⟩ = some (.map (some (w.heap.size + 1))) ∧ w9.cell? ⟨w.heap.size + 1 + 1 + 1, 1, none⟩ = some (.map (some (w.heap.size + 1 + 1)))) ∧ (w9.cell? ⟨g5, 0, none⟩ = some (.int .i64 s.ax) ∧ w9.cell? ⟨g5, 1, none⟩ = some (.int .i64 s.ay) ∧ w9.cell? ⟨g5, 2, none⟩ = some (.int .i64 s.cx) ∧ w9.cell? ⟨g5, 3, none⟩ = some (.int .i64 s.cy)) ∧ MsL (w.heap.size + 1) K1 v1 w9 := ⟨⟨(hcg _ _ (by omega) (by omega)).trans hS5.1.1, (hcg _ _ (by omega) (by omega)).trans hS5.1.2⟩, ⟨(hcg _ _ hlt5 (.inr rfl)).trans hS5.2.1.1, (hcg _ _ hlt5 (.inr rfl)).trans hS5.2.1.2.1, (hcg _ _ hlt5 (.inr rfl)).trans hS5.2.1.2.2.1, (hcg _ _ hlt5 (.inr rfl)).trans hS5.2.1.2.2.2⟩, hS5.2.2.grown hgrow9 HNM.out⟩
        have HS9 := hide hS9
        refine hK _ _ (fun _ => HS9.out) ?_
        clear hK K hS5 hcg hS9
        have hx9 : ps.flatMap encS ++ [.int .i64 (min s.ax s.cx), .int .i64 (max s.ax s.cx)] = (p1 s.ay ++ [spR s]).flatMap encS := by rw [HPS.out]; simp [encS, spR]
        rw [hx9] at hown9
        have hlen9 : ps.length + 1 = (p1 s.ay ++ [spR s]).length := by rw [HPS.out]; simp
        rw [← HGV.out] at hgrow9 hor9
        obtain ⟨wz, hrun, v9, hcol9⟩ := HCOL.out.push1 (HB5.out.trans ((((Below.refl w5.heap.size w5).alloc (Nat.le_refl _) (.cells #[.int .i64 (min s.ax s.cx), .int .i64 (max s.ax s.cx)] 143)).drew).mono HB5.out.size)) HKK.out (by unfold maxLen; omega) hgrow9 (s := spR s) hlen9 hown9 (by rcases hor9 with h | h; exact .inl h; exact .inr (by rw [← h]; exact Nat.le_refl _))
        have HCOL9 := hide hcol9
        clear hcol9 hown9 hgrow9 hor9 hx9 hlen9
        intro K hK
        simp only [Act.put, List.setIfInBounds_toArray, List.set_cons_zero, List.set_cons_succ] at hK ⊢
        obtain ⟨⟨z0, z1⟩, ⟨z2, z3, z4, z5⟩, -⟩ := HS9.out
        go_simp
        refine hK _ _ (fun h => absurd rfl h) ?_
        clear hK K hrun z0 z1 z2 z3 z4 z5
        refine NoPanic.normal ?_
        go_wp2
        go_roundw
        case rel =>
          have e1 : rowSp (l.take (m + 1)) = fun k' => if k' = s.ay then p1 s.ay ++ [spR s] else p1 k' := funext fun y => by
            rw [HSR.out y]
            by_cases e : y = s.ay
            · subst e
              rw [if_pos ⟨HROW.out, rfl⟩, if_pos rfl]
            · rw [if_neg (fun h => e h.2.symm), if_neg e]
          have e2 : colSp (l.take (m + 1)) = p2 := funext fun y => by
            rw [HSC.out y, if_neg (fun h => h.1 HROW.out)]
          have h1 := addI_len K1 s.ay
          refine ⟨m + 1, by omega, by go_num, ?_⟩
          rw [e1, e2]
          exact hide ⟨addI K1 s.ay, K2, v9, v2, HCOL9.out, keys_push HK1.out _ _, HK2.out, by omega, by omega⟩
        case measure => simp [intOf]; omega
      · have hcc : (s.ay == s.cy) = false := by simpa using hrow
        have HROW := hide hrow
        clear hrow
        go_upto_region 7 with fail
        have HKK : Hid (okK s.ax) := hide hkx
        have HOWN := hide (HC5.out.m2.own Hp20.out s.ax)
        have HGE := hide (HCOL.out.m2.row_ge s.ax)
        have HNM : Hid (some (w.heap.size + 1 + 1) ≠ (gvI K2 v2 s.ax).ownBlock) := hide HC5.out.m2.map_ge
        have HSL := hide HC5.out.m2.mv.sl
        obtain ⟨Ag, cg, hgv⟩ := own_form HOWN.out
        have hpl : (p2 s.ax).length ≤ 800 := Hp2l.out s.ax
        obtain ⟨ps, hps⟩ : ∃ ps, p2 s.ax = ps := ⟨_, rfl⟩
        rw [hps] at hgv
        have HGV := hide hgv
        rw [hps] at HOWN hpl
        rw [hgv] at HOWN HGE HNM
        have HPS := hide hps
        have HS : Hid (∀ w' : World, Below w5.heap.size w5 w' → (w'.cell? ⟨w.heap.size + 1 + 1 + 1, 0, none⟩ = some (.map (some (w.heap.size + 1))) ∧ w'.cell? ⟨w.heap.size + 1 + 1 + 1, 1, none⟩ = some (.map (some (w.heap.size + 1 + 1)))) ∧ (w'.cell? ⟨g5, 0, none⟩ = some (.int .i64 s.ax) ∧ w'.cell? ⟨g5, 1, none⟩ = some (.int .i64 s.ay) ∧ w'.cell? ⟨g5, 2, none⟩ = some (.int .i64 s.cx) ∧ w'.cell? ⟨g5, 3, none⟩ = some (.int .i64 s.cy)) ∧ MsL (w.heap.size + 1 + 1) K2 v2 w') := hide (fun w' h => ⟨⟨(HC5.out.below h).c0, (HC5.out.below h).c1⟩, ⟨(h.cell (p := ⟨g5, 0, none⟩) hlt5).trans s0, (h.cell (p := ⟨g5, 1, none⟩) hlt5).trans s1, (h.cell (p := ⟨g5, 2, none⟩) hlt5).trans s2, (h.cell (p := ⟨g5, 3, none⟩) hlt5).trans s3⟩, (HC5.out.below h).m2.map⟩)
        clear hgv hps
        refine wp_region_mix [0, 1, 2, 3, 4, 5, 6, 7, 8, 9, 10, 11, 12, 13, 14, 15, 16, 17, 18, 19, 20, 21, 22, 23, 24, 25] [26, 27, 28] (fun w' => (w'.cell? ⟨w.heap.size + 1 + 1 + 1, 0, none⟩ = some (.map (some (w.heap.size + 1))) ∧ w'.cell? ⟨w.heap.size + 1 + 1 + 1, 1, none⟩ = some (.map (some (w.heap.size + 1 + 1)))) ∧ (w'.cell? ⟨g5, 0, none⟩ = some (.int .i64 s.ax) ∧ w'.cell? ⟨g5, 1, none⟩ = some (.int .i64 s.ay) ∧ w'.cell? ⟨g5, 2, none⟩ = some (.int .i64 s.cx) ∧ w'.cell? ⟨g5, 3, none⟩ = some (.int .i64 s.cy)) ∧ MsL (w.heap.size + 1 + 1) K2 v2 w') (by kernel_rfl) (by kernel_rfl) (HS.out _ (Below.refl _ _).drew) ?_
        simp only [List.map_cons, List.map_nil, opAt, List.getElem?_cons_succ, List.getElem?_cons_zero, Option.getD_some]
        clear s0 s1 s2 s3
        iterate 26
          refine ⟨?_, Or.inl ⟨by rfl, ?_⟩, ?_⟩
          rotate_left 1
          · intro w' hSw
            obtain ⟨⟨z0, z1⟩, ⟨z2, z3, z4, z5⟩, z6⟩ := hSw
            have z7 := MsL.look z6 HSL.out HKK.out
            rw [HGV.out] at z7
            clear z6
            go_simp
            first | done | with_reducible rfl
          simp only [Act.put, List.setIfInBounds_toArray, List.set_cons_zero, List.set_cons_succ]
        simp only [wpReads]
        intro K hK
        simp only [Act.put, List.setIfInBounds_toArray, List.set_cons_zero, List.set_cons_succ] at hK ⊢
        go_simp
        refine hK _ _ (fun _ => HS.out _ ((Below.refl _ _).alloc (Nat.le_refl _) _).drew) ?_
        clear hK K
        intro K hK
        refine step_append_lies _ rfl (.tmp 64) (.tmp 80) 137 rfl (w.heap.size + 4) 143 i1 (.agg #[.int .i64 0, .int .i64 0]) 2 16 Tryz.underlying137 gi gz0 gz1 gz2 rfl (by decide) _ ps.length _ rfl (own_drew (World.ownsRow.alloc (w := w5) HOWN.out _)) ⟨w5.heap.size, 0, none⟩ 1 1 [.int .i64 (min s.ay s.cy), .int .i64 (max s.ay s.cy)] rfl rfl (news_drew w5 _ _ _ rfl) (ints_one rfl) (by omega) (by unfold maxLen; omega) (by omega) (by simp; omega) _ rfl ?_
        intro g9 cap9 w9 hown9 hgrow9 hor9 hlt9
        have hS5 := HS.out _ (((Below.refl w5.heap.size w5).alloc (Nat.le_refl _) (.cells #[.int .i64 (min s.ay s.cy), .int .i64 (max s.ay s.cy)] 143)).drew)
        have hcg : ∀ b o, b < w5.heap.size → (b < w.heap.size + 4 ∨ b = g5) → w9.cell? ⟨b, o, none⟩ = ((w5.alloc (.cells #[.int .i64 (min s.ay s.cy), .int .i64 (max s.ay s.cy)] 143)).drew).cell? ⟨b, o, none⟩ := fun b o hb hne => cell_grow hgrow9 (by show b < (w5.alloc _).heap.size; simp; omega) (fun e => by have := HGE.out _ e.symm; have := HG5.out; omega)
        have hS9 : (w9.cell? ⟨w.heap.size + 1 + 1 + 1, 0, none⟩ = some (.map (some (w.heap.size + 1))) ∧ w9.cell? ⟨w.heap.size + 1 + 1 + 1, 1, none⟩ = some (.map (some (w.heap.size + 1 + 1)))) ∧ (w9.cell? ⟨g5, 0, none⟩ = some (.int .i64 s.ax) ∧ w9.cell? ⟨g5, 1, none⟩ = some (.int .i64 s.ay) ∧ w9.cell? ⟨g5, 2, none⟩ = some (.int .i64 s.cx) ∧ w9.cell? ⟨g5, 3, none⟩ = some (.int .i64 s.cy)) ∧ MsL (w.heap.size + 1 + 1) K2 v2 w9 := ⟨⟨(hcg _ _ (by omega) (by omega)).trans hS5.1.1, (hcg _ _ (by omega) (by omega)).trans hS5.1.2⟩, ⟨(hcg _ _ hlt5 (.inr rfl)).trans hS5.2.1.1, (hcg _ _ hlt5 (.inr rfl)).trans hS5.2.1.2.1, (hcg _ _ hlt5 (.inr rfl)).trans hS5.2.1.2.2.1, (hcg _ _ hlt5 (.inr rfl)).trans hS5.2.1.2.2.2⟩, hS5.2.2.grown hgrow9 HNM.out⟩
        have HS9 := hide hS9
        refine hK _ _ (fun _ => HS9.out) ?_
        clear hK K hS5 hcg hS9
        have hx9 : ps.flatMap encS ++ [.int .i64 (min s.ay s.cy), .int .i64 (max s.ay s.cy)] = (p2 s.ax ++ [spC s]).flatMap encS := by rw [HPS.out]; simp [encS, spC]
        rw [hx9] at hown9
        have hlen9 : ps.length + 1 = (p2 s.ax ++ [spC s]).length := by rw [HPS.out]; simp
        rw [← HGV.out] at hgrow9 hor9
        obtain ⟨wz, hrun, v9, hcol9⟩ := HCOL.out.push2 (HB5.out.trans ((((Below.refl w5.heap.size w5).alloc (Nat.le_refl _) (.cells #[.int .i64 (min s.ay s.cy), .int .i64 (max s.ay s.cy)] 143)).drew).mono HB5.out.size)) HKK.out (by unfold maxLen; omega) hgrow9 (s := spC s) hlen9 hown9 (by rcases hor9 with h | h; exact .inl h; exact .inr (by rw [← h]; exact Nat.le_refl _))
        have HCOL9 := hide hcol9
        clear hcol9 hown9 hgrow9 hor9 hx9 hlen9
        intro K hK
        simp only [Act.put, List.setIfInBounds_toArray, List.set_cons_zero, List.set_cons_succ] at hK ⊢
        obtain ⟨⟨z0, z1⟩, ⟨z2, z3, z4, z5⟩, -⟩ := HS9.out
        go_simp
        refine hK _ _ (fun h => absurd rfl h) ?_
        clear hK K hrun z0 z1 z2 z3 z4 z5
        refine NoPanic.normal ?_
        go_wp2
        go_roundw
        case rel =>
          have e1 : colSp (l.take (m + 1)) = fun k' => if k' = s.ax then p2 s.ax ++ [spC s] else p2 k' := funext fun y => by
            rw [HSC.out y]
            by_cases e : y = s.ax
            · subst e
              rw [if_pos ⟨HROW.out, rfl⟩, if_pos rfl]
            · rw [if_neg (fun h => e h.2.symm), if_neg e]
          have e2 : rowSp (l.take (m + 1)) = p1 := funext fun y => by
            rw [HSR.out y, if_neg (fun h => HROW.out h.1)]
          have h1 := addI_len K2 s.ax
          refine ⟨m + 1, by omega, by go_num, ?_⟩
          rw [e1, e2]
          exact hide ⟨K1, addI K2 s.ax, v1, v9, HCOL9.out, HK1.out, keys_push HK2.out _ _, by omega, by omega⟩
        case measure => simp [intOf]; omega
    · obtain rfl : m = l.length := by omega
      rw [List.take_length] at HCC
      obtain ⟨K1, K2, v10, v20, hcol, hk1, hk2, hn1, hn2⟩ := HCC.out
      have HK1 := hide hk1
      have HK2 := hide hk2
      have HCOL := hide hcol
      obtain ⟨gS, hgS⟩ : ∃ g, wr.heap.size = g := ⟨_, rfl⟩
      clear hk1 hk2 hcol HCC
      have z0 := HCOL.out.c0
      have z1 := HCOL.out.c1
      go_wp2
      clear z0 z1
      have HC3 := hide (HCOL.out.below ((Below.refl _ _).alloc (Nat.le_refl _) (.cells #[.map (some (w.heap.size + 1)), .map (some (w.heap.size + 1 + 1))] 157)))
      go_loopw [89] (fun q wr2 => ∃ m : Nat, m ≤ 2 ∧ q = .int .i64 m ∧ Hid (∃ p1 p2 v1 v2, Col w wr2 w.heap.size K1 K2 p1 p2 v1 v2 ∧ (∀ k ∈ K1, p1 k = if 1 ≤ m then rowD l k else rowSp l k) ∧ (∀ k ∈ K2, p2 k = if 2 ≤ m then colD l k else colSp l k)) ∧ Hid (wr2.cell? ⟨gS, 0, none⟩ = some (.map (some (w.heap.size + 1))) ∧ wr2.cell? ⟨gS, 1, none⟩ = some (.map (some (w.heap.size + 1 + 1))) ∧ gS < wr2.heap.size ∧ w.heap.size + 4 ≤ gS)) (fun q _ => 2 - (intOf q).toNat)
      case atStart =>
        exact ⟨0, by omega, rfl, hide ⟨_, _, _, _, HC3.out, fun k _ => rfl, fun k _ => rfl⟩, hide ⟨by rw [← hgS]; simp [go_sem], by rw [← hgS]; simp [go_sem], by rw [← hgS]; simp, by rw [← hgS]; exact HCOL.out.sz⟩⟩
      case round =>
        clear HC3 HCOL
        obtain ⟨m, hm, rfl, HCC, HGS⟩ := hrel
        obtain ⟨p1, p2, v1, v2, hc2, hp1, hp2⟩ := HCC.out
        have HC2 := hide hc2
        obtain ⟨s0, s1, -, -⟩ := HGS.out
        have hms : m = 0 ∨ m = 1 ∨ m = 2 := by omega
        clear HCC hc2
        rcases hms with rfl | rfl | rfl
        · skip
          have HP1 : Hid (∀ k ∈ K1, p1 k = rowSp l k) := hide (fun k hk => by rw [hp1 k hk, if_neg (by omega)])
          have HP2 : Hid (∀ k ∈ K2, p2 k = colSp l k) := hide (fun k hk => by rw [hp2 k hk, if_neg (by omega)])
          clear hp1 hp2 hm
          rw [show ((0 : Nat) : Int) = 0 from rfl]
          go_upto_region 12 with fail
          clear s0 s1
          go_wp2_with (at_range; refine wpList_range_ms rfl _ rfl rfl HC2.out.m1 ?_; intro w4 left hmr hleft hgr hs4)
          go_frame
          have HC4 := hide (HC2.out.grown hgr (fun q hq => by cases hq) (fun k hk => own_none_or) (fun k hk => own_none_or))
          have HG4 : Hid (w4.cell? ⟨gS, 0, none⟩ = some (.map (some (w.heap.size + 1))) ∧ w4.cell? ⟨gS, 1, none⟩ = some (.map (some (w.heap.size + 1 + 1))) ∧ gS < w4.heap.size) := hide ⟨(cell_grow hgr HGS.out.2.2.1 (by simp)).trans HGS.out.1, (cell_grow hgr HGS.out.2.2.1 (by simp)).trans HGS.out.2.1, Nat.lt_of_lt_of_le HGS.out.2.2.1 hgr.size⟩
          obtain ⟨r, hrE⟩ : ∃ r, wr.heap.size = r := ⟨_, rfl⟩
          rw [hrE] at hmr ⊢
          have hr4 : w.heap.size + 4 ≤ r := by rw [← hrE]; exact HC2.out.sz
          have hrg : gS < r := by rw [← hrE]; exact HGS.out.2.2.1
          have hgS4 : w.heap.size + 4 ≤ gS := HGS.out.2.2.2
          have HMR := hide hmr
          have HLF := hide hleft
          clear hmr hleft hgr hs4 hrE HGS HC2
          go_loopw [8] (fun _ wr3 => ∃ left cnt, Hid (∃ p v, Mr (w.heap.size + 4) (w.heap.size + 1) r K1 p v left cnt wr3 ∧ (∀ k ∈ K1, p k = if left (.int .i64 k) = true then rowSp l k else rowD l k) ∧ Col w wr3 w.heap.size K1 K2 p p2 v v2 ∧ (wr3.cell? ⟨gS, 0, none⟩ = some (.map (some (w.heap.size + 1))) ∧ wr3.cell? ⟨gS, 1, none⟩ = some (.map (some (w.heap.size + 1 + 1))) ∧ gS < wr3.heap.size))) (fun _ wr3 => wr3.rangeLeft (w.heap.size + 1) r)
          case atStart => exact ⟨left, _, hide ⟨_, _, HMR.out, fun k hk => by rw [HLF.out k hk, if_pos rfl]; exact HP1.out k hk, HC4.out, HG4.out⟩⟩
          case round =>
            clear HMR HLF HC4 HG4
            obtain ⟨left, cnt, HH⟩ := hrel
            obtain ⟨p, v, hmr, hpp, hco, hgs⟩ := HH.out
            have HMR := hide hmr
            have HPP := hide hpp
            have HCO := hide hco
            have HGT := hide hgs
            have HLE : Hid (wr.rangeLeft (w.heap.size + 1) r = cnt) := hide (by obtain ⟨D, d, _⟩ := hmr.map; exact d.left_eq)
            clear hmr hpp hco hgs HH
            go_wp2_with (at_next; refine wpList_next_ms rfl _ rfl rfl HMR.out ?_ ?_)
            · intro _ hl0
              have HPX : Hid (∀ k ∈ K1, p k = rowD l k) := hide (fun k hk => by rw [HPP.out k hk, hl0, if_neg (by simp)])
              clear HPP hl0
              go_wp2
              go_roundw
              case rel => exact ⟨1, by omega, by first | rfl | go_num, hide ⟨p, p2, v, v2, HCO.out, fun k hk => by rw [HPX.out k hk, if_pos (by omega)], fun k hk => by rw [HP2.out k hk, if_neg (by omega)]⟩, hide ⟨HGT.out.1, HGT.out.2.1, HGT.out.2.2, hgS4⟩⟩
              case measure => simp [intOf]
            · intro x w5 cnt5 hx hlx hmr5 hlt5 hg5 hs5 hen
              have HC5 := hide (HCO.out.step1 HMR.out hr4 hg5)
              have HG5 : Hid (w5.cell? ⟨gS, 0, none⟩ = some (.map (some (w.heap.size + 1))) ∧ w5.cell? ⟨gS, 1, none⟩ = some (.map (some (w.heap.size + 1 + 1))) ∧ gS < w5.heap.size) := hide ⟨(cell_grow hg5 HGT.out.2.2 (fun e => by injection e with e; omega)).trans HGT.out.1, (cell_grow hg5 HGT.out.2.2 (fun e => by injection e with e; omega)).trans HGT.out.2.1, Nat.lt_of_lt_of_le HGT.out.2.2 hg5.size⟩
              have hpx : p x = rowSp l x := by rw [HPP.out x hx, if_pos hlx]
              have hrd := own_rd (hmr5.mv.vs x hx) (fun _ => rfl)
              rw [hpx] at hrd
              have HMK := hide (spanMake_thin hrd (rowSp_ok HV.out x))
              have HMR5 := hide hmr5
              have HX : Hid (x ∈ K1) := hide hx
              clear hmr5 hrd hpx HCO HMR HGT hg5 hx hlx hs5
              generalize v x = vx at *
              go_wp2_with (fail)
              refine HMK.out.mono ?_
              rintro e w6 ⟨A6, c6, er6, rfl, ho6, hb6⟩
              obtain ⟨w7, hrun, hg7, hm7, hc7⟩ := HC5.out.upd1 HMR5.out HX.out (by unfold maxLen; omega) hb6 ho6
              have HM7 := hide hm7
              have HC7 := hide hc7
              have HG7 : Hid (w7.cell? ⟨gS, 0, none⟩ = some (.map (some (w.heap.size + 1))) ∧ w7.cell? ⟨gS, 1, none⟩ = some (.map (some (w.heap.size + 1 + 1))) ∧ gS < w7.heap.size) := hide ⟨(cell_grow hg7 (Nat.lt_of_lt_of_le HG5.out.2.2 hb6.size) (fun e => by injection e with e; omega)).trans ((hb6.cell (p := ⟨gS, 0, none⟩) HG5.out.2.2).trans HG5.out.1), (cell_grow hg7 (Nat.lt_of_lt_of_le HG5.out.2.2 hb6.size) (fun e => by injection e with e; omega)).trans ((hb6.cell (p := ⟨gS, 1, none⟩) HG5.out.2.2).trans HG5.out.2.1), Nat.lt_of_lt_of_le (Nat.lt_of_lt_of_le HG5.out.2.2 hb6.size) hg7.size⟩
              clear hm7 hc7 hg7 ho6 hb6 HMR5 HMK hen
              have HL7 : Hid (w7.rangeLeft (w.heap.size + 1) r = cnt5) := hide (by obtain ⟨D, d, _⟩ := HM7.out.map; exact d.left_eq)
              go_wp2_with (fail)
              clear hrun
              go_roundw
              case rel =>
                refine ⟨_, cnt5, hide ⟨_, _, HM7.out, fun k hk => ?_, HC7.out, HG7.out⟩⟩
                by_cases e : k = x
                · subst e
                  rw [if_pos rfl, if_neg (by simp [Lit.sameKey])]
                  rfl
                · rw [if_neg e, HPP.out k hk]
                  have e2 : (left (.int .i64 k) && !(Lit.int .i64 k).sameKey (.int .i64 x)) = left (.int .i64 k) := by
                    rw [show (Lit.int .i64 k).sameKey (.int .i64 x) = false by simp [Lit.sameKey, e]]
                    simp
                  rw [e2]
              case measure => rw [HL7.out, HLE.out]; exact hlt5
        · skip
          have HP1 : Hid (∀ k ∈ K1, p1 k = rowD l k) := hide (fun k hk => by rw [hp1 k hk, if_pos (by omega)])
          have HP2 : Hid (∀ k ∈ K2, p2 k = colSp l k) := hide (fun k hk => by rw [hp2 k hk, if_neg (by omega)])
          clear hp1 hp2 hm
          rw [show ((1 : Nat) : Int) = 1 from rfl]
          go_upto_region 12 with fail
          clear s0 s1
          go_wp2_with (at_range; refine wpList_range_ms rfl _ rfl rfl HC2.out.m2 ?_; intro w4 left hmr hleft hgr hs4)
          go_frame
          have HC4 := hide (HC2.out.grown hgr (fun q hq => by cases hq) (fun k hk => own_none_or) (fun k hk => own_none_or))
          have HG4 : Hid (w4.cell? ⟨gS, 0, none⟩ = some (.map (some (w.heap.size + 1))) ∧ w4.cell? ⟨gS, 1, none⟩ = some (.map (some (w.heap.size + 1 + 1))) ∧ gS < w4.heap.size) := hide ⟨(cell_grow hgr HGS.out.2.2.1 (by simp)).trans HGS.out.1, (cell_grow hgr HGS.out.2.2.1 (by simp)).trans HGS.out.2.1, Nat.lt_of_lt_of_le HGS.out.2.2.1 hgr.size⟩
          obtain ⟨r, hrE⟩ : ∃ r, wr.heap.size = r := ⟨_, rfl⟩
          rw [hrE] at hmr ⊢
          have hr4 : w.heap.size + 4 ≤ r := by rw [← hrE]; exact HC2.out.sz
          have hrg : gS < r := by rw [← hrE]; exact HGS.out.2.2.1
          have hgS4 : w.heap.size + 4 ≤ gS := HGS.out.2.2.2
          have HMR := hide hmr
          have HLF := hide hleft
          clear hmr hleft hgr hs4 hrE HGS HC2
          go_loopw [8] (fun _ wr3 => ∃ left cnt, Hid (∃ p v, Mr (w.heap.size + 4) (w.heap.size + 1 + 1) r K2 p v left cnt wr3 ∧ (∀ k ∈ K2, p k = if left (.int .i64 k) = true then colSp l k else colD l k) ∧ Col w wr3 w.heap.size K1 K2 p1 p v1 v ∧ (wr3.cell? ⟨gS, 0, none⟩ = some (.map (some (w.heap.size + 1))) ∧ wr3.cell? ⟨gS, 1, none⟩ = some (.map (some (w.heap.size + 1 + 1))) ∧ gS < wr3.heap.size))) (fun _ wr3 => wr3.rangeLeft (w.heap.size + 1 + 1) r)
          case atStart => exact ⟨left, _, hide ⟨_, _, HMR.out, fun k hk => by rw [HLF.out k hk, if_pos rfl]; exact HP2.out k hk, HC4.out, HG4.out⟩⟩
          case round =>
            clear HMR HLF HC4 HG4
            obtain ⟨left, cnt, HH⟩ := hrel
            obtain ⟨p, v, hmr, hpp, hco, hgs⟩ := HH.out
            have HMR := hide hmr
            have HPP := hide hpp
            have HCO := hide hco
            have HGT := hide hgs
            have HLE : Hid (wr.rangeLeft (w.heap.size + 1 + 1) r = cnt) := hide (by obtain ⟨D, d, _⟩ := hmr.map; exact d.left_eq)
            clear hmr hpp hco hgs HH
            go_wp2_with (at_next; refine wpList_next_ms rfl _ rfl rfl HMR.out ?_ ?_)
            · intro _ hl0
              have HPX : Hid (∀ k ∈ K2, p k = colD l k) := hide (fun k hk => by rw [HPP.out k hk, hl0, if_neg (by simp)])
              clear HPP hl0
              go_wp2
              go_roundw
              case rel => exact ⟨2, by omega, by first | rfl | go_num, hide ⟨p1, p, v1, v, HCO.out, fun k hk => by rw [HP1.out k hk, if_pos (by omega)], fun k hk => by rw [HPX.out k hk, if_pos (by omega)]⟩, hide ⟨HGT.out.1, HGT.out.2.1, HGT.out.2.2, hgS4⟩⟩
              case measure => simp [intOf]
            · intro x w5 cnt5 hx hlx hmr5 hlt5 hg5 hs5 hen
              have HC5 := hide (HCO.out.step2 HMR.out hr4 hg5)
              have HG5 : Hid (w5.cell? ⟨gS, 0, none⟩ = some (.map (some (w.heap.size + 1))) ∧ w5.cell? ⟨gS, 1, none⟩ = some (.map (some (w.heap.size + 1 + 1))) ∧ gS < w5.heap.size) := hide ⟨(cell_grow hg5 HGT.out.2.2 (fun e => by injection e with e; omega)).trans HGT.out.1, (cell_grow hg5 HGT.out.2.2 (fun e => by injection e with e; omega)).trans HGT.out.2.1, Nat.lt_of_lt_of_le HGT.out.2.2 hg5.size⟩
              have hpx : p x = colSp l x := by rw [HPP.out x hx, if_pos hlx]
              have hrd := own_rd (hmr5.mv.vs x hx) (fun _ => rfl)
              rw [hpx] at hrd
              have HMK := hide (spanMake_thin hrd (colSp_ok HV.out x))
              have HMR5 := hide hmr5
              have HX : Hid (x ∈ K2) := hide hx
              clear hmr5 hrd hpx HCO HMR HGT hg5 hx hlx hs5
              generalize v x = vx at *
              go_wp2_with (fail)
              refine HMK.out.mono ?_
              rintro e w6 ⟨A6, c6, er6, rfl, ho6, hb6⟩
              obtain ⟨w7, hrun, hg7, hm7, hc7⟩ := HC5.out.upd2 HMR5.out HX.out (by unfold maxLen; omega) hb6 ho6
              have HM7 := hide hm7
              have HC7 := hide hc7
              have HG7 : Hid (w7.cell? ⟨gS, 0, none⟩ = some (.map (some (w.heap.size + 1))) ∧ w7.cell? ⟨gS, 1, none⟩ = some (.map (some (w.heap.size + 1 + 1))) ∧ gS < w7.heap.size) := hide ⟨(cell_grow hg7 (Nat.lt_of_lt_of_le HG5.out.2.2 hb6.size) (fun e => by injection e with e; omega)).trans ((hb6.cell (p := ⟨gS, 0, none⟩) HG5.out.2.2).trans HG5.out.1), (cell_grow hg7 (Nat.lt_of_lt_of_le HG5.out.2.2 hb6.size) (fun e => by injection e with e; omega)).trans ((hb6.cell (p := ⟨gS, 1, none⟩) HG5.out.2.2).trans HG5.out.2.1), Nat.lt_of_lt_of_le (Nat.lt_of_lt_of_le HG5.out.2.2 hb6.size) hg7.size⟩
              clear hm7 hc7 hg7 ho6 hb6 HMR5 HMK hen
              have HL7 : Hid (w7.rangeLeft (w.heap.size + 1 + 1) r = cnt5) := hide (by obtain ⟨D, d, _⟩ := HM7.out.map; exact d.left_eq)
              go_wp2_with (fail)
              clear hrun
              go_roundw
              case rel =>
                refine ⟨_, cnt5, hide ⟨_, _, HM7.out, fun k hk => ?_, HC7.out, HG7.out⟩⟩
                by_cases e : k = x
                · subst e
                  rw [if_pos rfl, if_neg (by simp [Lit.sameKey])]
                  rfl
                · rw [if_neg e, HPP.out k hk]
                  have e2 : (left (.int .i64 k) && !(Lit.int .i64 k).sameKey (.int .i64 x)) = left (.int .i64 k) := by
                    rw [show (Lit.int .i64 k).sameKey (.int .i64 x) = false by simp [Lit.sameKey, e]]
                    simp
                  rw [e2]
              case measure => rw [HL7.out, HLE.out]; exact hlt5
        · have HP1 : Hid (∀ k ∈ K1, p1 k = rowD l k) := hide (fun k hk => by rw [hp1 k hk, if_pos (by omega)])
          have HP2 : Hid (∀ k ∈ K2, p2 k = colD l k) := hide (fun k hk => by rw [hp2 k hk, if_pos (by omega)])
          clear hp1 hp2 hm s0 s1 HGS
          rw [show ((2 : Nat) : Int) = 2 from rfl]
          have z0 := HC2.out.c0
          have z1 := HC2.out.c1
          have z2 : wr.cell? ⟨w.heap.size, 0, none⟩ = some (.map none) := by simp [World.cell?, HC2.out.rb]
          have z3 : wr.cell? ⟨w.heap.size, 1, none⟩ = some (.map none) := by simp [World.cell?, HC2.out.rb]
          have z4 : wr.frozen? ⟨w.heap.size, 0, none⟩ = false := by simp [World.frozen?, HC2.out.rb]
          have z5 : wr.frozen? ⟨w.heap.size, 1, none⟩ = false := by simp [World.frozen?, HC2.out.rb]
          go_wp2
          clear z0 z1
          have hs0 : w.heap.size < wr.heap.size := by have := HC2.out.sz; omega
          refine bodyPost_ret (v := .agg #[.map (some (w.heap.size + 1)), .map (some (w.heap.size + 1 + 1))]) (by simp [results, Tryz.results105, go_sem, z2, z3, hs0]) rfl ⟨_, rfl, ?_, ?_⟩
          · have hset : ∀ (o : Nat) (u : Value) (W : World), w.heap.size < W.heap.size → W.grownBy (W.setCell ⟨w.heap.size, o, none⟩ u) (some w.heap.size) := fun o u W _ => ⟨rfl, rfl, rfl, by simp, fun k _ hk => Below.heap_setCell _ _ _ _ (fun e => hk (by rw [e]))⟩
            have g1 := hset 0 (.map (some (w.heap.size + 1))) wr hs0
            have g2 := hset 1 (.map (some (w.heap.size + 1 + 1))) (wr.setCell ⟨w.heap.size, 0, none⟩ (.map (some (w.heap.size + 1)))) (by simpa using hs0)
            have a1 := HC2.out.m1.grown g1 (fun e => by injection e with e; omega) (fun k hk => .inr fun e => by have := (HC2.out.m1.mv.vs k hk).lt _ e; omega)
            have a2 := HC2.out.m2.grown g1 (fun e => by injection e with e; omega) (fun k hk => .inr fun e => by have := (HC2.out.m2.mv.vs k hk).lt _ e; omega)
            have b1 := a1.grown g2 (fun e => by injection e with e; omega) (fun k hk => .inr fun e => by have := (a1.mv.vs k hk).lt _ e; omega)
            have b2 := a2.grown g2 (fun e => by injection e with e; omega) (fun k hk => .inr fun e => by have := (a2.mv.vs k hk).lt _ e; omega)
            exact ⟨_, _, K1, K2, _, _, rfl, by rw [← rowD_thin]; exact (b1.same HP1.out).base (by omega), by rw [← colD_thin]; exact (b2.same HP2.out).base (by omega), keys_thin HK1.out, keys_thinC HK2.out, by omega, by omega⟩
          · exact Below.setCell (Below.setCell HC2.out.low (Nat.le_refl _) _) (Nat.le_refl _) _
end Go.Proofs.YtmnhlcbmoibahaaGreat

/- Plain: a segment more adds at most one part; networks that are moved. -/
namespace Go.Proofs.YtmnhlcbmoibahaaGreat
set_option linter.unusedVariables false
set_option linter.unusedSimpArgs false

/-- A point lies on an edge, ends included. -/
def onE (N : List Pt) (e : Ed) (p : Pt) : Prop := ((nd N e.1).1 = (nd N e.2).1 ∧ p.1 = (nd N e.1).1 ∧ (nd N e.1).2 ≤ p.2 ∧ p.2 ≤ (nd N e.2).2) ∨ ((nd N e.1).2 = (nd N e.2).2 ∧ p.2 = (nd N e.1).2 ∧ (nd N e.1).1 ≤ p.1 ∧ p.1 ≤ (nd N e.2).1)
/-- The label of the edges at a point. -/
def pcls (N : List Pt) (E : List Ed) (L : List Nat) (c : Nat) (p : Pt) : Prop := ∃ e ∈ E, onE N e p ∧ lb L e.1 = c
section
variable {h v : Int → Int → Bool} {N : List Pt} (H : NetOK h v N)
include H
omit H in
theorem nxt_same {f : Pt → Int} {a b c : Nat} (h1 : nxt f N a b) (h2 : nxt f N a c) : b = c := by
  obtain ⟨a1, a2, a3, a4⟩ := h1
  obtain ⟨b1, b2, b3, b4⟩ := h2
  rcases Nat.lt_trichotomy b c with e | e | e
  · exact absurd a3 (b4 b a1 e)
  · exact e
  · exact absurd b3 (a4 c b1 e)
/-- Where a point on an edge is a node, it is an end. -/
theorem NetOK.on_node {e : Ed} (he : e ∈ edgesG h v N) {p : Pt} (hp : onE N e p) : p = nd N e.1 ∨ p = nd N e.2 ∨ nodeG h v p = false := by
  obtain ⟨e1, e2, k | k⟩ := H.edge_two he
  · obtain ⟨k1, k2, k3, k4⟩ := k
    rcases hp with ⟨q1, q2, q3, q4⟩ | ⟨q1, _⟩
    · by_cases c1 : p.2 = (nd N e.1).2
      · exact .inl (Prod.ext q2 c1)
      · by_cases c2 : p.2 = (nd N e.2).2
        · exact .inr (.inl (Prod.ext (q2.trans q1) c2))
        · right; right
          have := (H.col_nodes k4).2 p.2 (by omega) (by omega)
          rw [← q2] at this
          exact this
    · omega
  · obtain ⟨k1, k2, k3, k4⟩ := k
    rcases hp with ⟨q1, _⟩ | ⟨q1, q2, q3, q4⟩
    · omega
    · by_cases c1 : p.1 = (nd N e.1).1
      · exact .inl (Prod.ext c1 q2)
      · by_cases c2 : p.1 = (nd N e.2).1
        · exact .inr (.inl (Prod.ext c2 (q2.trans q1)))
        · right; right
          have := (H.row_nodes k4).2 p.1 (by omega) (by omega)
          rw [← q2] at this
          exact this
theorem NetOK.edges_lt : ∀ e ∈ edgesG h v N, e.1 < N.length ∧ e.2 < N.length := fun e he => by
  obtain ⟨e1, e2, _⟩ := H.edge_two he
  exact ⟨by omega, e2⟩
theorem NetOK.nd_inj {i j : Nat} (hi : i < N.length) (hj : j < N.length) (e : nd N i = nd N j) : i = j := by
  rcases Nat.lt_trichotomy i j with g | g | g
  · have := nd_lt H.srt hj g
    rw [e] at this
    exact absurd this (ptLt_irrefl _)
  · exact g
  · have := nd_lt H.srt hi g
    rw [e] at this
    exact absurd this (ptLt_irrefl _)
/-- An edge along x that passes a point with a line to the right of it and one to the left. -/
theorem NetOK.row_mid {e : Ed} (he : e ∈ edgesG h v N) {p : Pt} (hp : onE N e p) (n1 : p ≠ nd N e.1) (n2 : p ≠ nd N e.2) : ((nd N e.1).1 = (nd N e.2).1 ∧ v p.1 p.2 = true ∧ nxt Prod.fst N e.1 e.2 ∧ p.1 = (nd N e.1).1 ∧ (nd N e.1).2 < p.2 ∧ p.2 < (nd N e.2).2) ∨ ((nd N e.1).2 = (nd N e.2).2 ∧ h p.1 p.2 = true ∧ nxt Prod.snd N e.1 e.2 ∧ p.2 = (nd N e.1).2 ∧ (nd N e.1).1 < p.1 ∧ p.1 < (nd N e.2).1) := by
  obtain ⟨e1, e2, k | k⟩ := H.edge_two he
  · obtain ⟨k1, k2, k3, k4⟩ := k
    rcases hp with ⟨q1, q2, q3, q4⟩ | ⟨q1, _⟩
    · left
      have c1 : p.2 ≠ (nd N e.1).2 := fun c => n1 (Prod.ext q2 c)
      have c2 : p.2 ≠ (nd N e.2).2 := fun c => n2 (Prod.ext (q2.trans q1) c)
      refine ⟨k1, ?_, k4, q2, by omega, by omega⟩
      have := H.col_line k4 (y := p.2) (by omega) (by omega)
      rw [q2, this]
      exact k3
    · omega
  · obtain ⟨k1, k2, k3, k4⟩ := k
    rcases hp with ⟨q1, _⟩ | ⟨q1, q2, q3, q4⟩
    · omega
    · right
      have c1 : p.1 ≠ (nd N e.1).1 := fun c => n1 (Prod.ext c q2)
      have c2 : p.1 ≠ (nd N e.2).1 := fun c => n2 (Prod.ext c (q2.trans q1))
      refine ⟨k1, ?_, k4, q2, by omega, by omega⟩
      have := H.row_line k4 (x := p.1) (by omega) (by omega)
      rw [q2, this]
      exact k3
omit H in
/-- Two edges that pass one point which is no end of both are one. -/
theorem mid_same {f : Pt → Int} {a b c d : Nat} (h1 : nxt f N a b) (h2 : nxt f N c d) (hf : f (nd N a) = f (nd N c)) (h3 : c < b) (h4 : a < d) : a = c := by
  obtain ⟨a1, a2, a3, a4⟩ := h1
  obtain ⟨b1, b2, b3, b4⟩ := h2
  rcases Nat.lt_trichotomy a c with g | g | g
  · exact absurd hf.symm (a4 c g h3)
  · exact g
  · exact absurd hf (b4 a g h4)
theorem NetOK.pcls_one {c d : Nat} {p : Pt} (h1 : pcls N (edgesG h v N) (compF N.length (edgesG h v N)).1 c p) (h2 : pcls N (edgesG h v N) (compF N.length (edgesG h v N)).1 d p) : c = d := by
  obtain ⟨e, he, pe, rfl⟩ := h1
  obtain ⟨f, hf, pf, rfl⟩ := h2
  have hsame := comp_same (n := N.length) (E := edgesG h v N) H.edges_lt
  obtain ⟨e1, e2⟩ := H.edges_lt e he
  obtain ⟨f1, f2⟩ := H.edges_lt f hf
  have endL : ∀ g ∈ edgesG h v N, ∀ i, i < N.length → onE N g p → p = nd N i → lb (compF N.length (edgesG h v N)).1 g.1 = lb (compF N.length (edgesG h v N)).1 i := fun g hg i hi pg pi => by
    obtain ⟨g1, g2⟩ := H.edges_lt g hg
    rcases H.on_node hg pg with k | k | k
    · rw [H.nd_inj g1 hi (k.symm.trans pi)]
    · rw [hsame g hg, H.nd_inj g2 hi (k.symm.trans pi)]
    · rw [pi, (H.mem _).1 (nd_mem hi)] at k
      cases k
  by_cases n1 : p = nd N e.1
  · exact (endL f hf e.1 e1 pf n1).symm
  by_cases n2 : p = nd N e.2
  · rw [hsame e he]; exact (endL f hf e.2 e2 pf n2).symm
  by_cases n3 : p = nd N f.1
  · exact endL e he f.1 f1 pe n3
  by_cases n4 : p = nd N f.2
  · rw [hsame f hf]; exact endL e he f.2 f2 pe n4
  have hnode : nodeG h v p = false := by
    rcases H.on_node he pe with k | k | k
    · exact absurd k n1
    · exact absurd k n2
    · exact k
  have hno : ¬ (h p.1 p.2 = true ∧ v p.1 p.2 = true) := by
    rintro ⟨c1, c2⟩
    unfold nodeG at hnode
    rw [c1, c2] at hnode
    simp at hnode
  rcases H.row_mid he pe n1 n2 with ⟨a1, a2, a3, a4, a5, a6⟩ | ⟨a1, a2, a3, a4, a5, a6⟩ <;> rcases H.row_mid hf pf n3 n4 with ⟨b1, b2, b3, b4, b5, b6⟩ | ⟨b1, b2, b3, b4, b5, b6⟩
  · rw [mid_same a3 b3 (a4.symm.trans b4) ((H.ord_col f1 e2 (by omega)).2 (by omega)) ((H.ord_col e1 f2 (by omega)).2 (by omega))]
  · exact absurd ⟨b2, a2⟩ hno
  · exact absurd ⟨a2, b2⟩ hno
  · rw [mid_same a3 b3 (a4.symm.trans b4) ((H.ord_row f1 e2 (by omega)).2 (by omega)) ((H.ord_row e1 f2 (by omega)).2 (by omega))]
/-- A unit line lies on an edge, with both of its ends. -/
theorem NetOK.row_on {x y : Int} (hx : h x y = true) : ∃ e ∈ edgesG h v N, onE N e (x, y) ∧ onE N e (x + 1, y) := by
  have := H.drawn_row x y
  rw [hx, row_mem] at this
  obtain ⟨s, hs, e1, e2, e3, e4⟩ := this
  obtain ⟨e, he, rfl⟩ := List.mem_map.1 hs
  obtain ⟨k0, _, k | ⟨k1, k2, k3, k4⟩⟩ := H.edge_two he
  · have : (nd N e.1).2 = (nd N e.2).2 := e1
    omega
  · have e3' : min (nd N e.1).1 (nd N e.2).1 ≤ x := e3
    have e4' : x < max (nd N e.1).1 (nd N e.2).1 := e4
    have e2' : (nd N e.1).2 = y := e2
    exact ⟨e, he, .inr ⟨k1, e2'.symm, by simp only; omega, by simp only; omega⟩, .inr ⟨k1, e2'.symm, by simp only; omega, by simp only; omega⟩⟩
theorem NetOK.col_on {x y : Int} (hx : v x y = true) : ∃ e ∈ edgesG h v N, onE N e (x, y) ∧ onE N e (x, y + 1) := by
  have := H.drawn_col x y
  rw [hx, col_mem] at this
  obtain ⟨s, hs, e1, e2, e3, e4⟩ := this
  obtain ⟨e, he, rfl⟩ := List.mem_map.1 hs
  obtain ⟨k0, _, ⟨k1, k2, k3, k4⟩ | k⟩ := H.edge_two he
  · have e3' : min (nd N e.1).2 (nd N e.2).2 ≤ y := e3
    have e4' : y < max (nd N e.1).2 (nd N e.2).2 := e4
    have e2' : (nd N e.1).1 = x := e2
    exact ⟨e, he, .inl ⟨k1, e2'.symm, by simp only; omega, by simp only; omega⟩, .inl ⟨k1, e2'.symm, by simp only; omega, by simp only; omega⟩⟩
  · exact absurd k.1 e1
end
abbrev labF (l : List Sg) : List Nat := (compF (nodesF l).length (edgesF l)).1
abbrev partsN (l : List Sg) : Nat := (compF (nodesF l).length (edgesF l)).2
def clsF (l : List Sg) (c : Nat) (p : Pt) : Prop := pcls (nodesF l) (edgesF l) (labF l) c p
theorem cls_one {l : List Sg} (hv : ∀ s ∈ l, okSg s) {c d : Nat} {p : Pt} (h1 : clsF l c p) (h2 : clsF l d p) : c = d := (net_ok hv).pcls_one h1 h2
theorem cls_row {l : List Sg} (hv : ∀ s ∈ l, okSg s) {x y : Int} (hx : htB l x y = true) : ∃ c, clsF l c (x, y) ∧ clsF l c (x + 1, y) := by
  obtain ⟨e, he, h1, h2⟩ := (net_ok hv).row_on hx
  exact ⟨_, ⟨e, he, h1, rfl⟩, ⟨e, he, h2, rfl⟩⟩
theorem cls_col {l : List Sg} (hv : ∀ s ∈ l, okSg s) {x y : Int} (hx : vtB l x y = true) : ∃ c, clsF l c (x, y) ∧ clsF l c (x, y + 1) := by
  obtain ⟨e, he, h1, h2⟩ := (net_ok hv).col_on hx
  exact ⟨_, ⟨e, he, h1, rfl⟩, ⟨e, he, h2, rfl⟩⟩
/-- Along lines the label stays. -/
theorem cls_rows {l : List Sg} (hv : ∀ s ∈ l, okSg s) {y x0 : Int} {c : Nat} : ∀ n : Nat, (∀ x, x0 ≤ x → x < x0 + n → htB l x y = true) → clsF l c (x0, y) → clsF l c (x0 + n, y)
  | 0, _, h => by rw [show x0 + ((0 : Nat) : Int) = x0 by omega]; exact h
  | n + 1, hl, h => by
    have ih := cls_rows hv n (fun x a b => hl x a (by omega)) h
    obtain ⟨d, d1, d2⟩ := cls_row hv (hl (x0 + n) (by omega) (by omega))
    rw [cls_one hv ih d1, show x0 + ((n + 1 : Nat) : Int) = x0 + n + 1 by omega]
    exact d2
theorem cls_rows' {l : List Sg} (hv : ∀ s ∈ l, okSg s) {y x0 : Int} {c : Nat} : ∀ n : Nat, (∀ x, x0 ≤ x → x < x0 + n → htB l x y = true) → clsF l c (x0 + n, y) → clsF l c (x0, y)
  | 0, _, h => by rw [show x0 + ((0 : Nat) : Int) = x0 by omega] at h; exact h
  | n + 1, hl, h => by
    obtain ⟨d, d1, d2⟩ := cls_row hv (hl (x0 + n) (by omega) (by omega))
    rw [show x0 + ((n + 1 : Nat) : Int) = x0 + n + 1 by omega] at h
    exact cls_rows' hv n (fun x a b => hl x a (by omega)) (by rw [cls_one hv h d2]; exact d1)
theorem cls_cols {l : List Sg} (hv : ∀ s ∈ l, okSg s) {x y0 : Int} {c : Nat} : ∀ n : Nat, (∀ y, y0 ≤ y → y < y0 + n → vtB l x y = true) → clsF l c (x, y0) → clsF l c (x, y0 + n)
  | 0, _, h => by rw [show y0 + ((0 : Nat) : Int) = y0 by omega]; exact h
  | n + 1, hl, h => by
    have ih := cls_cols hv n (fun x a b => hl x a (by omega)) h
    obtain ⟨d, d1, d2⟩ := cls_col hv (hl (y0 + n) (by omega) (by omega))
    rw [cls_one hv ih d1, show y0 + ((n + 1 : Nat) : Int) = y0 + n + 1 by omega]
    exact d2
theorem cls_cols' {l : List Sg} (hv : ∀ s ∈ l, okSg s) {x y0 : Int} {c : Nat} : ∀ n : Nat, (∀ y, y0 ≤ y → y < y0 + n → vtB l x y = true) → clsF l c (x, y0 + n) → clsF l c (x, y0)
  | 0, _, h => by rw [show y0 + ((0 : Nat) : Int) = y0 by omega] at h; exact h
  | n + 1, hl, h => by
    obtain ⟨d, d1, d2⟩ := cls_col hv (hl (y0 + n) (by omega) (by omega))
    rw [show y0 + ((n + 1 : Nat) : Int) = y0 + n + 1 by omega] at h
    exact cls_cols' hv n (fun x a b => hl x a (by omega)) (by rw [cls_one hv h d2]; exact d1)
theorem cls_rowTo {l : List Sg} (hv : ∀ s ∈ l, okSg s) {y x0 x1 : Int} {c : Nat} (hle : x0 ≤ x1) (hl : ∀ x, x0 ≤ x → x < x1 → htB l x y = true) : clsF l c (x0, y) ↔ clsF l c (x1, y) := by
  have e : x0 + ((x1 - x0).toNat : Int) = x1 := by omega
  constructor
  · intro h
    have := cls_rows hv (x1 - x0).toNat (fun x a b => hl x a (by omega)) h
    rwa [e] at this
  · intro h
    exact cls_rows' hv (x1 - x0).toNat (fun x a b => hl x a (by omega)) (by rw [e]; exact h)
theorem cls_colTo {l : List Sg} (hv : ∀ s ∈ l, okSg s) {x y0 y1 : Int} {c : Nat} (hle : y0 ≤ y1) (hl : ∀ y, y0 ≤ y → y < y1 → vtB l x y = true) : clsF l c (x, y0) ↔ clsF l c (x, y1) := by
  have e : y0 + ((y1 - y0).toNat : Int) = y1 := by omega
  constructor
  · intro h
    have := cls_cols hv (y1 - y0).toNat (fun x a b => hl x a (by omega)) h
    rwa [e] at this
  · intro h
    exact cls_cols' hv (y1 - y0).toNat (fun x a b => hl x a (by omega)) (by rw [e]; exact h)
/-- A node has its own label, and a line. -/
theorem node_line {h v : Int → Int → Bool} {x y : Int} (hn : nodeG h v (x, y) = true) : h x y = true ∨ v x y = true ∨ h (x - 1) y = true ∨ v x (y - 1) = true := by
  unfold nodeG at hn
  simp only at hn
  cases a0 : h x y <;> cases a2 : h (x - 1) y <;> cases a1 : v x y <;> cases a3 : v x (y - 1) <;> rw [a0, a1, a2, a3] at hn <;> simp_all
theorem edge_in {l : List Sg} (hv : ∀ s ∈ l, okSg s) {e : Ed} (he : e ∈ edgesF l) {p : Pt} (hp : onE (nodesF l) e p) {m : List Sg} (hm : ∀ s ∈ m, okSg s) (h1 : ∀ x y, htB l x y = true → htB m x y = true) (h2 : ∀ x y, vtB l x y = true → vtB m x y = true) {c : Nat} : clsF m c p ↔ clsF m c (nd (nodesF l) e.1) := by
  have H := net_ok hv
  obtain ⟨e1, e2, k | k⟩ := H.edge_two he
  · obtain ⟨k1, k2, k3, k4⟩ := k
    rcases hp with ⟨q1, q2, q3, q4⟩ | ⟨q1, _⟩
    · obtain ⟨px, py⟩ := p
      simp only at q2 q3 q4
      subst q2
      exact (cls_colTo hm q3 fun y a b => h2 _ _ (by rw [H.col_line k4 a (by omega)]; exact k3)).symm
    · omega
  · obtain ⟨k1, k2, k3, k4⟩ := k
    rcases hp with ⟨q1, _⟩ | ⟨q1, q2, q3, q4⟩
    · omega
    · obtain ⟨px, py⟩ := p
      simp only at q2 q3 q4
      subst q2
      exact (cls_rowTo hm q3 fun y a b => h1 _ _ (by rw [H.row_line k4 a (by omega)]; exact k3)).symm
theorem own_cls {l : List Sg} (hv : ∀ s ∈ l, okSg s) {i : Nat} (hi : i < (nodesF l).length) : clsF l (lb (labF l) i) (nd (nodesF l) i) := by
  have H := net_ok hv
  have hsame := comp_same (n := (nodesF l).length) (E := edgesF l) H.edges_lt
  have hn := (H.mem _).1 (nd_mem hi)
  have key : ∀ e ∈ edgesF l, onE (nodesF l) e (nd (nodesF l) i) → clsF l (lb (labF l) i) (nd (nodesF l) i) := fun e he hp => by
    refine ⟨e, he, hp, ?_⟩
    obtain ⟨g1, g2⟩ := H.edges_lt e he
    rcases H.on_node he hp with k | k | k
    · rw [H.nd_inj hi g1 k]
    · rw [hsame e he, H.nd_inj hi g2 k]
    · rw [hn] at k; cases k
  rcases node_line (x := (nd (nodesF l) i).1) (y := (nd (nodesF l) i).2) hn with h | h | h | h
  · obtain ⟨e, he, p1, _⟩ := H.row_on h
    exact key e he p1
  · obtain ⟨e, he, p1, _⟩ := H.col_on h
    exact key e he p1
  · obtain ⟨e, he, _, p1⟩ := H.row_on h
    rw [Int.sub_add_cancel] at p1
    exact key e he p1
  · obtain ⟨e, he, _, p1⟩ := H.col_on h
    rw [Int.sub_add_cancel] at p1
    exact key e he p1
theorem countP_ne (p : Nat → Bool) (K : Nat) : ∀ n : Nat, (List.range n).countP p ≤ (List.range n).countP (fun i => p i && decide (i ≠ K)) + (if K < n then 1 else 0)
  | 0 => by simp
  | n + 1 => by
    have ih := countP_ne p K n
    rw [List.range_succ, List.countP_append, List.countP_append, List.countP_singleton, List.countP_singleton]
    by_cases e : n = K
    · subst e
      rw [if_neg (Nat.lt_irrefl _)] at ih
      have h1 : (if n < n + 1 then (1 : Nat) else 0) = 1 := if_pos (Nat.lt_succ_self _)
      rw [h1]
      split <;> split <;> omega
    · have hd : (p n && decide (n ≠ K)) = p n := by rw [decide_eq_true e, Bool.and_true]
      rw [hd]
      by_cases hk : K < n
      · rw [if_pos hk] at ih
        have h1 : (if K < n + 1 then (1 : Nat) else 0) = 1 := if_pos (by omega)
        rw [h1]
        omega
      · rw [if_neg hk] at ih
        have h1 : (if K < n + 1 then (1 : Nat) else 0) = 0 := if_neg (by omega)
        rw [h1]
        omega
/-- **A segment more adds at most one part.** -/
theorem parts_more {s : Sg} {t : List Sg} (hs : okSg s) (ht : ∀ q ∈ t, okSg q) : partsN (s :: t) ≤ partsN t + 1 := by
  have hv : ∀ q ∈ s :: t, okSg q := fun q hq => by
    rcases List.mem_cons.1 hq with rfl | hq
    · exact hs
    · exact ht q hq
  have H := net_ok hv
  have T := net_ok ht
  have cl := comp_ok (n := (nodesF (s :: t)).length) (E := edgesF (s :: t)) H.edges_lt
  have ct := comp_ok (n := (nodesF t).length) (E := edgesF t) T.edges_lt
  have hsub : ∀ x y, htB t x y = true → htB (s :: t) x y = true := fun x y h => by
    rw [row_mem] at h ⊢
    obtain ⟨q, hq, hh⟩ := h
    exact ⟨q, List.mem_cons_of_mem _ hq, hh⟩
  have vsub : ∀ x y, vtB t x y = true → vtB (s :: t) x y = true := fun x y h => by
    rw [col_mem] at h ⊢
    obtain ⟨q, hq, hh⟩ := h
    exact ⟨q, List.mem_cons_of_mem _ hq, hh⟩
  -- all points of the new segment have one label
  have hK : ∃ K, ∀ c, ∀ x y, ((s.ay = s.cy ∧ s.ay = y ∧ min s.ax s.cx ≤ x ∧ x ≤ max s.ax s.cx) ∨ (¬ s.ay = s.cy ∧ s.ax = x ∧ min s.ay s.cy ≤ y ∧ y ≤ max s.ay s.cy)) → clsF (s :: t) c (x, y) → c = K := by
    obtain ⟨_, h2⟩ := hs
    by_cases hh : s.ay = s.cy
    · have hlt : min s.ax s.cx < max s.ax s.cx := by omega
      have hall : ∀ x, min s.ax s.cx ≤ x → x < max s.ax s.cx → htB (s :: t) x s.ay = true := fun x a b => row_mem.2 ⟨s, by simp, hh, rfl, a, b⟩
      obtain ⟨K, k1, _⟩ := cls_row hv (hall _ (Int.le_refl _) hlt)
      refine ⟨K, fun c x y hxy hc => ?_⟩
      rcases hxy with ⟨_, rfl, a, b⟩ | ⟨hno, _⟩
      · exact cls_one hv hc ((cls_rowTo hv a fun z z1 z2 => hall z z1 (by omega)).1 k1)
      · exact absurd hh hno
    · have hlt : min s.ay s.cy < max s.ay s.cy := by omega
      have hall : ∀ y, min s.ay s.cy ≤ y → y < max s.ay s.cy → vtB (s :: t) s.ax y = true := fun x a b => col_mem.2 ⟨s, by simp, hh, rfl, a, b⟩
      obtain ⟨K, k1, _⟩ := cls_col hv (hall _ (Int.le_refl _) hlt)
      refine ⟨K, fun c x y hxy hc => ?_⟩
      rcases hxy with ⟨hno, _⟩ | ⟨_, rfl, a, b⟩
      · exact absurd hno hh
      · exact cls_one hv hc ((cls_colTo hv a fun z z1 z2 => hall z z1 (by omega)).1 k1)
  obtain ⟨K, hK⟩ := hK
  -- the others have a point that was there
  have hold : ∀ r, r < (nodesF (s :: t)).length → rootB (labF (s :: t)) r = true → r ≠ K → ∃ d, ∃ e ∈ edgesF t, onE (nodesF t) e (nd (nodesF (s :: t)) r) ∧ lb (labF t) e.1 = d := fun r hr hroot hrK => by
    have hown := own_cls hv hr
    unfold rootB at hroot
    rw [decide_eq_true_eq] at hroot
    rw [hroot] at hown
    have hn := (H.mem _).1 (nd_mem hr)
    obtain ⟨⟨px, py⟩, hp⟩ : ∃ p, nd (nodesF (s :: t)) r = p := ⟨_, rfl⟩
    rw [hp] at hown hn
    rw [hp]
    rcases node_line hn with h | h | h | h
    · rw [row_mem] at h
      obtain ⟨q, hq, a1, a2, a3, a4⟩ := h
      rcases List.mem_cons.1 hq with rfl | hq
      · exact absurd (hK r px py (.inl ⟨a1, a2, a3, by omega⟩) hown) hrK
      · obtain ⟨e, he, p1, _⟩ := T.row_on (row_mem.2 ⟨q, hq, a1, a2, a3, a4⟩)
        exact ⟨_, e, he, p1, rfl⟩
    · rw [col_mem] at h
      obtain ⟨q, hq, a1, a2, a3, a4⟩ := h
      rcases List.mem_cons.1 hq with rfl | hq
      · exact absurd (hK r px py (.inr ⟨a1, a2, a3, by omega⟩) hown) hrK
      · obtain ⟨e, he, p1, _⟩ := T.col_on (col_mem.2 ⟨q, hq, a1, a2, a3, a4⟩)
        exact ⟨_, e, he, p1, rfl⟩
    · rw [row_mem] at h
      obtain ⟨q, hq, a1, a2, a3, a4⟩ := h
      rcases List.mem_cons.1 hq with rfl | hq
      · exact absurd (hK r px py (.inl ⟨a1, a2, by omega, by omega⟩) hown) hrK
      · obtain ⟨e, he, _, p1⟩ := T.row_on (row_mem.2 ⟨q, hq, a1, a2, a3, a4⟩)
        rw [Int.sub_add_cancel] at p1
        exact ⟨_, e, he, p1, rfl⟩
    · rw [col_mem] at h
      obtain ⟨q, hq, a1, a2, a3, a4⟩ := h
      rcases List.mem_cons.1 hq with rfl | hq
      · exact absurd (hK r px py (.inr ⟨a1, a2, by omega, by omega⟩) hown) hrK
      · obtain ⟨e, he, _, p1⟩ := T.col_on (col_mem.2 ⟨q, hq, a1, a2, a3, a4⟩)
        rw [Int.sub_add_cancel] at p1
        exact ⟨_, e, he, p1, rfl⟩
  have hcl : partsN (s :: t) ≤ (List.range (nodesF (s :: t)).length).countP (fun i => rootB (labF (s :: t)) i && decide (i ≠ K)) + 1 := by
    have := countP_ne (rootB (labF (s :: t))) K (nodesF (s :: t)).length
    rw [← cl.cnt] at this
    show (compF (nodesF (s :: t)).length (edgesF (s :: t))).2 ≤ _
    split at this <;> omega
  refine Nat.le_trans hcl (Nat.add_le_add_right ?_ 1)
  rw [show partsN t = _ from ct.cnt]
  have hpq : ∀ i, (rootB (labF (s :: t)) i && decide (i ≠ K)) = true → rootB (labF (s :: t)) i = true ∧ i ≠ K := fun i h => by simpa using h
  refine countP_inj (fun r => if hr : r < (nodesF (s :: t)).length ∧ rootB (labF (s :: t)) r = true ∧ r ≠ K then Classical.choose (hold r hr.1 hr.2.1 hr.2.2) else 0) (fun r hr pr => ?_) fun r q hr hq pr pq e => ?_
  · obtain ⟨p1, p2⟩ := hpq r pr
    rw [dif_pos ⟨hr, p1, p2⟩]
    obtain ⟨e, he, _, h3⟩ := Classical.choose_spec (hold r hr p1 p2)
    rw [← h3]
    have hlt := (T.edges_lt e he).1
    refine ⟨ct.lt _ hlt, ?_⟩
    unfold rootB
    rw [ct.idem _ hlt]
    simp
  · obtain ⟨p1, p2⟩ := hpq r pr
    obtain ⟨q1, q2⟩ := hpq q pq
    simp only [dif_pos (show r < (nodesF (s :: t)).length ∧ rootB (labF (s :: t)) r = true ∧ r ≠ K from ⟨hr, p1, p2⟩), dif_pos (show q < (nodesF (s :: t)).length ∧ rootB (labF (s :: t)) q = true ∧ q ≠ K from ⟨hq, q1, q2⟩)] at e
    obtain ⟨a, ha, a1, a2⟩ := Classical.choose_spec (hold r hr p1 p2)
    obtain ⟨b, hb, b1, b2⟩ := Classical.choose_spec (hold q hq q1 q2)
    rw [e, ← b2] at a2
    have or := own_cls hv hr
    have oq := own_cls hv hq
    unfold rootB at p1 q1
    rw [decide_eq_true_eq] at p1 q1
    rw [p1] at or
    rw [q1] at oq
    have sa := (edge_in ht ha a1 hv hsub vsub).1 or
    have hmin := comp_min (n := (nodesF t).length) (E := edgesF t) T.edges_lt (fun i => clsF (s :: t) r (nd (nodesF t) i)) (fun f hf => (edge_in ht hf (p := nd (nodesF t) f.2) (by
      obtain ⟨_, _, k | k⟩ := T.edge_two hf
      · exact .inl ⟨k.1, k.1.symm, Int.le_of_lt k.2.1, Int.le_refl _⟩
      · exact .inr ⟨k.1, k.1.symm, Int.le_of_lt k.2.1, Int.le_refl _⟩) hv hsub vsub).symm) (T.edges_lt a ha).1 (T.edges_lt b hb).1 a2
    have sb := (edge_in ht hb b1 hv hsub vsub).2 (hmin.1 sa)
    exact cls_one hv sb oq
end Go.Proofs.YtmnhlcbmoibahaaGreat
