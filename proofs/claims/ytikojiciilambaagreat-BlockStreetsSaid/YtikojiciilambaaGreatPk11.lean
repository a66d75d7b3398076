/- Texts laid together: StrH, TexM, TexA, TexB, MAlg, MTexA, MTexB, CopyN, TexK, GraD. Lemmas for the statements of this seat; no condition. -/
import Derived.Test.YtikojiciilambaaGreatPk10
import Derived.Below
import Derived.Test.YtikojiciilambaaGreatPk1
import Derived.Test.YtikojiciilambaaGreatPk6
import Derived.Test.YtikojiciilambaaGreatPk7
import Derived.Laws.CopyOwn
import Derived.Test.YtikojiciilambaaGreatPk4

/- street.roads.nodes: the walk. -/
namespace Go.Proofs.YtikojiciilambaaGreat
open Go.RowKit Go.Maps
set_option linter.unusedVariables false
set_option linter.unusedSimpArgs false
theorem infoPt : (Tryz.prog.info? 53).map (fun i => (i.zero, i.size, i.bytes)) = some (some (.agg #[.int .i64 0, .int .i64 0]), 2, 16) := by kernel_rfl
theorem row_big {l : List Sg} (hv : ∀ s ∈ l, okSg s) {y : Int} {s : Sp} (hs : s ∈ rowC l y) : s.1 < s.2 ∧ (-1000000 ≤ s.1 ∧ s.2 ≤ 1000000) ∧ -1000000 ≤ y ∧ y ≤ 1000000 := by
 have L := rowC_ok hv
 have h0 := (L.rc y).1 s hs
 have h1 := (L.rm s.1 y).1 ⟨s, hs, Int.le_refl _, h0⟩
 have h2 := (L.rm (s.2 - 1) y).1 ⟨s, hs, by omega, by omega⟩
 obtain ⟨q, hq, _, e, e1, _⟩ := row_mem.1 h1
 obtain ⟨⟨⟨a1, a2⟩, ⟨a3, a4⟩, ⟨a5, a6⟩, a7, a8⟩, _⟩ := hv q hq
 obtain ⟨q2, hq2, _, _, _, e2⟩ := row_mem.1 h2
 obtain ⟨⟨⟨c1, c2⟩, ⟨c3, c4⟩, ⟨c5, c6⟩, c7, c8⟩, _⟩ := hv q2 hq2
 refine ⟨h0, ⟨?_, ?_⟩, ?_, ?_⟩ <;> omega
theorem col_big {l : List Sg} (hv : ∀ s ∈ l, okSg s) {x : Int} {s : Sp} (hs : s ∈ colC l x) : s.1 < s.2 ∧ (-1000000 ≤ s.1 ∧ s.2 ≤ 1000000) ∧ -1000000 ≤ x ∧ x ≤ 1000000 := by
 have L := rowC_ok hv
 have h0 := (L.cc x).1 s hs
 have h1 := (L.cm x s.1).1 ⟨s, hs, Int.le_refl _, h0⟩
 have h2 := (L.cm x (s.2 - 1)).1 ⟨s, hs, by omega, by omega⟩
 obtain ⟨q, hq, _, e, e1, _⟩ := col_mem.1 h1
 obtain ⟨⟨⟨a1, a2⟩, ⟨a3, a4⟩, ⟨a5, a6⟩, a7, a8⟩, _⟩ := hv q hq
 obtain ⟨q2, hq2, _, _, _, e2⟩ := col_mem.1 h2
 obtain ⟨⟨⟨c1, c2⟩, ⟨c3, c4⟩, ⟨c5, c6⟩, c7, c8⟩, _⟩ := hv q2 hq2
 refine ⟨h0, ⟨?_, ?_⟩, ?_, ?_⟩ <;> omega
def tryK (l : List Sg) (K : List Pt) (p : Pt) : List Pt := if nodeG (htB l) (vtB l) p = true then addP K p else K
theorem try_sub (l : List Sg) (K : List Pt) (p : Pt) : ∀ q ∈ K, q ∈ tryK l K p := fun q hq => by
 unfold tryK
 split
 ·exact mem_addP.2 (.inr hq)
 ·exact hq
theorem try_in (l : List Sg) (K : List Pt) (p : Pt) (h : nodeG (htB l) (vtB l) p = true) : p ∈ tryK l K p := by
 unfold tryK
 rw [if_pos h]
 exact mem_addP.2 (.inl rfl)
theorem try_nd {l : List Sg} {K : List Pt} (h : ∀ k ∈ K, nodeG (htB l) (vtB l) k = true) (p : Pt) : ∀ k ∈ tryK l K p, nodeG (htB l) (vtB l) k = true := fun k hk => by
 unfold tryK at hk
 split at hk
 ·rename_i hp
  rcases mem_addP.1 hk with rfl | hk
  ·exact hp
  ·exact h k hk
 ·exact h k hk
theorem node_big {l : List Sg} (hv : ∀ s ∈ l, okSg s) {p : Pt} (h : nodeG (htB l) (vtB l) p = true) : bigP p := by
 obtain ⟨x, y⟩ := p
 obtain ⟨h1, h2, _⟩ := node_in hv h
 obtain ⟨s, hs, h1⟩ := List.mem_flatMap.1 h1
 obtain ⟨t, ht, h2⟩ := List.mem_flatMap.1 h2
 obtain ⟨⟨⟨a1, a2⟩, ⟨a3, a4⟩, ⟨a5, a6⟩, a7, a8⟩, _⟩ := hv s hs
 obtain ⟨⟨⟨c1, c2⟩, ⟨c3, c4⟩, ⟨c5, c6⟩, c7, c8⟩, _⟩ := hv t ht
 simp only [List.mem_cons, List.not_mem_nil, or_false] at h1 h2
 unfold bigP
 simp only
 omega
theorem Nst.try' {w0 wr : World} {h0 B b1 b2 : Nat} {K1 K2 : List Int} {v1 v2 : Int → Value} {l : List Sg} {K : List Pt} (h : Nst w0 wr h0 B b1 b2 K1 K2 v1 v2 l K) (F : Fix h0 B b1 b2 K1 K2 v1 v2) (hk : KeysUp K1 (rowSp l) ∧ KeysUp K2 (colSp l) ∧ B ≤ b1 ∧ B ≤ b2) (hv : ∀ s ∈ l, okSg s) (hl : l.length ≤ 800) (hs : (nodesF l).length ≤ 1000000) {x y : Int} (hp : bigP (x, y)) :
  Calls Tryz.prog 199 #[.agg #[.int .i64 x, .int .i64 y], .pointer (some ⟨h0, 0, none⟩), .pointer (some ⟨h0 + 1 + 1, 0, none⟩)] wr fun e w' => e = .returned (.tuple #[]) ∧ wr.grownBy w' (some (h0 + 1)) ∧ Nst w0 w' h0 B b1 b2 K1 K2 v1 v2 l (tryK l K (x, y)) := by
 have hlen := found_len hv h.fs.nd h.nd
 refine (try_any (h.roads hk.1 hk.2.1 hk.2.2.1 hk.2.2.2) hv hl hp h.c0 h.c1 h.c2 h.fs (by unfold maxLen; omega)).mono ?_
 rintro e w' ⟨rfl, hg, hf⟩
 exact ⟨rfl, hg, h.found F hg hf (try_nd h.nd (x, y))⟩
theorem nodes_small {l : List Sg} (hv : ∀ s ∈ l, okSg s) (hl : l.length ≤ 800) : (nodesF l).length ≤ 1000000 := by
 have h1 := nodes_len hv
 have h2 : l.length * l.length ≤ 800 * 800 := Nat.mul_le_mul hl hl
 omega
set_option maxRecDepth 100000 in
set_option maxHeartbeats 8000000 in
theorem nodes_any {w : World} {B b1 b2 : Nat} {K1 K2 : List Int} {v1 v2 : Int → Value} {l : List Sg} (m1 : Ms B b1 K1 (rowC l) v1 w) (m2 : Ms B b2 K2 (colC l) v2 w) (k1 : KeysUp K1 (rowSp l)) (k2 : KeysUp K2 (colSp l)) (e1 : B ≤ b1) (e2 : B ≤ b2) (hv : ∀ s ∈ l, okSg s) (hl : l.length ≤ 800) :
  Calls Tryz.prog 161 #[.agg #[.map (some b1), .map (some b2)]] w fun e w' => (∃ A c L ok, e = .returned (.tuple #[.slice A L.length c, .bool ok]) ∧ w'.ownsRow w.heap.size 53 2 (.slice A L.length c) L.length (L.flatMap encS) ∧ (((nodesF l).length ≤ 400 ∧ ok = true ∧ L = nodesF l) ∨ (400 < (nodesF l).length ∧ ok = false))) ∧ Below w.heap.size w w' := by
 have FX : Hid (Fix w.heap.size B b1 b2 K1 K2 v1 v2) := hide ⟨m1.bM_lt, m2.bM_lt, fun k hk q hq => ((m1.mv.vs k hk).lt q hq).2, fun k hk q hq => ((m2.mv.vs k hk).lt q hq).2⟩
 have HV := hide hv
 have HKK := hide (And.intro k1 (And.intro k2 (And.intro e1 e2)))
 have HM := hide (And.intro m1 m2)
 have HLN := hide (nodes_small hv hl)
 have HFL := hide (fun (K : List Pt) (hn : K.Nodup) (hk : ∀ k ∈ K, nodeG (htB l) (vtB l) k = true) => found_len hv hn hk)
 have hmm := @run_makeMap Tryz.prog
 clear hv k1 k2 e1 e2 m1 m2
 go_enter Tryz.func161, Tryz.ntmps161
 go_upto_region 3 with fail
 refine wp_name fun w0 hw0 => ?_
 clear hmm
 have hb0 : Below w.heap.size w w0 := by
  rw [hw0]
  repeat (first | with_reducible exact Below.refl _ _ | with_reducible refine Below.setCell ?_ (by first | (simp; done) | (simp; omega)) _ | with_reducible refine Below.alloc ?_ (by first | omega | (simp; omega) | simp) _)
 have HN0 : Hid (Nst w w0 w.heap.size B b1 b2 K1 K2 v1 v2 l []) := hide (by
  have e3 : (w.alloc (.cells #[.map (some b1), .map (some b2)] 219)).heap.size = w.heap.size + 1 := by simp
  have f1 := Fs.made (w.alloc (.cells #[.map (some b1), .map (some b2)] 219))
  rw [e3] at f1
  refine ⟨?_, ?_, ?_, ?_, HM.out.1.below hb0, HM.out.2.below hb0, hb0, ?_, fun k hk => (List.not_mem_nil hk).elim⟩
  ·rw [hw0]; simp [go_sem]
  ·rw [hw0]; simp [go_sem]
  ·rw [hw0]; simp [go_sem]
  ·rw [hw0]
   exact f1.below ((Below.refl _ _).alloc (Nat.le_refl _) _)
  ·rw [hw0]; simp)
 clear hw0 hb0
 have z0 := HN0.out.c0
 have z1 := HN0.out.c1
 go_wp2_with (at_range; refine wpList_range_ms rfl _ rfl rfl HN0.out.m1 ?_; intro w4 left hmr hleft hgr hs4)
 clear z0 z1
 go_frame
 obtain ⟨r1, hr1⟩ : ∃ r, w0.heap.size = r := ⟨_, rfl⟩
 rw [hr1] at hmr ⊢
 have hr3 : w.heap.size + 3 ≤ r1 := by rw [← hr1]; exact HN0.out.sz
 have HN4 := hide (HN0.out.grown FX.out hgr (fun q hq => by cases hq))
 have HMR := hide hmr
 have HLF := hide hleft
 clear hmr hleft hgr hs4 hr1 HN0
 go_loopw [6] (fun _ wr => ∃ left cnt, Hid (∃ K, Nst w wr w.heap.size B b1 b2 K1 K2 v1 v2 l K ∧ Mr B b1 r1 K1 (rowC l) v1 left cnt wr ∧ ∀ y ∈ K1, left (.int .i64 y) = false → ∀ s ∈ rowC l y, DoneS l y s K)) (fun _ wr => wr.rangeLeft b1 r1)
 case atStart => exact ⟨left, _, hide ⟨[], HN4.out, HMR.out, fun y hy hf => by rw [HLF.out y hy] at hf; cases hf⟩⟩
 case round =>
  clear HMR HLF HN4
  obtain ⟨left, cnt, HH⟩ := hrel
  obtain ⟨K, hn, hmr, hdone⟩ := HH.out
  have HN := hide hn
  have HMR := hide hmr
  have HDN := hide hdone
  have HLE : Hid (wr.rangeLeft b1 r1 = cnt) := hide (by obtain ⟨D, d, _⟩ := hmr.map; exact d.left_eq)
  clear hn hmr hdone HH
  go_wp2_with (at_next; refine wpList_next_ms rfl _ rfl rfl HMR.out ?_ ?_)
  ·intro _ hl0
   have HROW : Hid (∀ y, ∀ s ∈ rowC l y, DoneS l y s K) := hide (fun y s hs => by
    by_cases hy : y ∈ K1
    ·exact HDN.out y hy (hl0 _) s hs
    ·have e : rowSp l y = [] := Classical.byContradiction fun h => hy (HKK.out.1 y h)
     unfold rowC at hs
     rw [e] at hs
     exact absurd hs (by simp [show sjoin hFst [] [] = [] from rfl]))
   clear HDN hl0 HMR HLE
   have z1 := HN.out.c1
   go_wp2_with (at_range; refine wpList_range_ms rfl _ rfl rfl HN.out.m2 ?_; intro w21 left3 hmr3 hleft3 hgr hs4)
   clear z1
   go_frame
   obtain ⟨r3, hr3e⟩ : ∃ r, wr.heap.size = r := ⟨_, rfl⟩
   rw [hr3e] at hmr3 ⊢
   have hr3a : w.heap.size + 3 ≤ r3 := by rw [← hr3e]; exact HN.out.sz
   have HN21 := hide (HN.out.grown FX.out hgr (fun q hq => by cases hq))
   have HMC21 := hide hmr3
   have HLF3 := hide hleft3
   clear hmr3 hleft3 hgr hs4 hr3e HN
   go_loopw [12] (fun _ wr => ∃ left3 cnt3, Hid (∃ K', Nst w wr w.heap.size B b1 b2 K1 K2 v1 v2 l K' ∧ Mr B b2 r3 K2 (colC l) v2 left3 cnt3 wr ∧ (∀ p ∈ K, p ∈ K') ∧ ∀ x ∈ K2, left3 (.int .i64 x) = false → ∀ s ∈ colC l x, DoneC l x s K')) (fun _ wr => wr.rangeLeft b2 r3)
   case atStart => exact ⟨left3, _, hide ⟨K, HN21.out, HMC21.out, fun p h => h, fun x hx hf => by rw [HLF3.out x hx] at hf; cases hf⟩⟩
   case round =>
    clear HN21 HMC21 HLF3
    obtain ⟨left3, cnt3, HH⟩ := hrel
    obtain ⟨KA, hn, hmc, hsub, hdn⟩ := HH.out
    have HN := hide hn
    have HMC := hide hmc
    have HSU := hide hsub
    have HDA := hide hdn
    have HLA : Hid (wr.rangeLeft b2 r3 = cnt3) := hide (by obtain ⟨D, d, _⟩ := hmc.map; exact d.left_eq)
    clear hn hmc hsub hdn HH
    go_wp2_with (at_next; refine wpList_next_ms rfl _ rfl rfl HMC.out ?_ ?_)
    ·intro _ hl0
     have HALLN : Hid (∀ p, nodeG (htB l) (vtB l) p = true → p ∈ KA) := hide (all_found HV.out (fun y s hs => (HROW.out y s hs).mono HSU.out) (fun x s hs => by
      by_cases hx : x ∈ K2
      ·exact HDA.out x hx (hl0 _) s hs
      ·have e : colSp l x = [] := Classical.byContradiction fun h => hx (HKK.out.2.1 x h)
       unfold colC at hs
       rw [e] at hs
       exact absurd hs (by simp [show sjoin hFst [] [] = [] from rfl])))
     clear HDA hl0 HMC HLA HSU HROW
     have z2 := HN.out.c2
     go_wp2_with (at_range; refine wpList_range_fs rfl _ rfl rfl HN.out.fs ?_; intro w31 left4 hfr hleft4 hgr hs4)
     clear z2
     go_frame
     obtain ⟨r4, hr4e⟩ : ∃ r, wr.heap.size = r := ⟨_, rfl⟩
     rw [hr4e] at hfr ⊢
     have hr4a : w.heap.size + 3 ≤ r4 := by rw [← hr4e]; exact HN.out.sz
     have hr4b : r4 < w31.heap.size := by rw [hs4]; omega
     have HB31 := hide (HN.out.low.grown hgr (by have := HN.out.sz; omega) (fun q hq => by cases hq))
     have HKN := hide (And.intro HN.out.fs.nd HN.out.nd)
     have HFR := hide hfr
     have HLF4 := hide hleft4
     clear hfr hleft4 hgr hs4 hr4e HN
     go_loopw [16] (fun o wr => ∃ (left4 : Lit → Bool) (cnt4 : Nat) (A : Option Addr) (c : Nat) (out : List Pt), o = .slice A out.length c ∧ Hid (wr.ownsRow (r4 + 1) 53 2 (.slice A out.length c) out.length (out.flatMap encS)) ∧ Hid (Fr (w.heap.size + 1) r4 KA left4 cnt4 wr) ∧ Hid (Below w.heap.size w wr ∧ r4 < wr.heap.size) ∧ Hid (out.Nodup ∧ ∀ p, p ∈ out ↔ p ∈ KA ∧ left4 (kP p) = false)) (fun _ wr => wr.rangeLeft (w.heap.size + 1) r4)
     case atStart => exact ⟨left4, _, none, 0, [], rfl, hide (World.ownsRow_nil _ _ _ _), HFR, hide ⟨HB31.out, hr4b⟩, hide ⟨by simp, fun p => ⟨fun h => (List.not_mem_nil h).elim, fun ⟨h1, h2⟩ => by rw [HLF4.out p h1] at h2; cases h2⟩⟩⟩
     case round =>
      clear HFR HB31 HLF4 hr4b
      obtain ⟨left4, cnt4, A4, c4, out, rfl, HO, HFR, HBB, HOUT⟩ := hrel
      have HLB : Hid (wr.rangeLeft (w.heap.size + 1) r4 = cnt4) := hide (by obtain ⟨D, d, _⟩ := HFR.out.map; exact d.left_eq)
      have hon : out.length ≤ 1000000 := by
       have h1 := nodup_len HOUT.out.1 (m := KA) (fun p hp => ((HOUT.out.2 p).1 hp).1)
       have h2 := HFL.out KA HKN.out.1 HKN.out.2
       have := HLN.out
       omega
      go_wp2_with (at_next; refine wpList_next_fs rfl _ rfl rfl HFR.out ?_ ?_)
      ·intro _ hl0
       have hmem : ∀ p, p ∈ out ↔ nodeG (htB l) (vtB l) p = true := fun p => by
        rw [HOUT.out.2 p]
        exact ⟨fun h => HKN.out.2 p h.1, fun h => ⟨HALLN.out p h, hl0 _⟩⟩
       have HMM := hide hmem
       have HND := hide HOUT.out.1
       clear hmem hl0 HLB HFR HOUT
       go_wp2_with (fail)
       refine (sortPt_any (r4 + 1) _ out (fun p hp => node_big HV.out ((HMM.out p).1 hp)) _ HO.out (by omega)).mono ?_
       rintro e w40 ⟨rfl, E', hp, hs, ho, hg⟩
       have hE : E' = nodesF l := sorted_ext ptLt_irrefl (fun _ _ _ => ptLt_trans) (strict_of hp HND.out hs) (nodesF_ok HV.out).1 fun p => by rw [hp.mem_iff, HMM.out, (nodesF_ok HV.out).2]
       have hlen := hp.length_eq
       have hlow := HBB.out.1.grown hg (Nat.le_trans (by omega) (Nat.le_of_lt HBB.out.2)) (fun q hq => by have := (HO.out.lt q hq).1; omega)
       subst hE
       have HOO := hide ho
       have HLW := hide hlow
       clear hp hs ho hg hlow
       rw [← hlen] at HO ⊢
       rw [← hlen] at HOO
       clear hlen hon
       by_cases h4 : (nodesF l).length ≤ 400
       ·have h4z : decide (((nodesF l).length : Int) ≤ 400) = true := decide_eq_true (by omega)
        go_wp2
        go_ret2
        exact ⟨⟨A4, c4, nodesF l, true, rfl, own_base HOO.out (by omega), .inl ⟨h4, rfl, rfl⟩⟩, HLW.out⟩
       ·have h4z : decide (((nodesF l).length : Int) ≤ 400) = false := decide_eq_false (by omega)
        go_wp2
        go_ret2
        exact ⟨⟨A4, c4, nodesF l, false, rfl, own_base HOO.out (by omega), .inr ⟨by omega, rfl⟩⟩, HLW.out⟩
      ·intro px py cb w5 cnt5 hx hlx hfr5 hlt5 hg5 hs5 hen
       have hen2 : (Instr.entry (.pointer (some ⟨r4, 0, none⟩))).run Tryz.prog w5 = .ok (.tuple #[.agg #[.int .i64 px, .int .i64 py], cb]) w5 := hen
       rw [show vP (px, py) = .agg #[.int .i64 px, .int .i64 py] from rfl]
       have HFR5 := hide hfr5
       have HLT := hide hlt5
       have hO5 := HO.out.kept hg5 (by
        rcases hb : (Value.slice A4 out.length c4).ownBlock with _ | q
        ·exact .inl rfl
        ·right
         intro e
         have h1 := (HO.out.lt q hb).1
         have h2 : q = r4 := by simpa using e
         omega)
       have HO5 := hide hO5
       have HB5 : Hid (Below w.heap.size w w5 ∧ r4 < w5.heap.size) := hide ⟨HBB.out.1.grown hg5 (Nat.le_trans (by omega) (Nat.le_of_lt HBB.out.2)) (fun q hq => by injection hq with hq; omega), by rw [hs5]; exact HBB.out.2⟩
       have HIN := hide (And.intro hx hlx)
       clear hen hfr5 hlt5 hg5 hs5 hx hlx hO5 HO HFR HBB
       obtain ⟨i2, fi, fz0, fz1, fz2⟩ := info_parts infoPt
       have h5a := HB5.out.2
       go_wp2_with (at_builtin; go_loud (refine wpList_append_lies _ rfl (.tmp 116) (.tmp 118) 36 rfl (r4 + 1) 53 i2 (.agg #[.int .i64 0, .int .i64 0]) 2 16 Tryz.underlying36 fi fz0 fz1 fz2 rfl (by decide) _ out.length _ rfl (World.ownsRow.alloc (World.ownsRow.alloc HO5.out _) _) ⟨w5.heap.size + 1, 0, none⟩ 1 1 [.int .i64 px, .int .i64 py] rfl rfl (news_new (w5.alloc (.cells #[.int .i64 px, .int .i64 py] 53)) _ _ _ (by simp)) (ints_one rfl) (by omega) (by unfold maxLen; omega) (by omega) (by simp; omega) _ rfl ?_))
       intro g9 cap9 w9 hown9 hgrow9 hor9 hlt9
       have hx9 : out.flatMap encS ++ [.int .i64 px, .int .i64 py] = (out ++ [(px, py)]).flatMap encS := by simp [encS]
       rw [hx9] at hown9
       have hO9 : w9.ownsRow (r4 + 1) 53 2 (.slice (some ⟨g9, 0, none⟩) (out ++ [(px, py)]).length cap9) (out ++ [(px, py)]).length ((out ++ [(px, py)]).flatMap encS) := by
        rw [List.length_append, List.length_singleton]
        exact hown9
       have HO9 := hide hO9
       have hrow : ∀ q, (Value.slice A4 out.length c4).ownBlock = some q → r4 + 1 ≤ q := fun q hq => (HO5.out.lt q hq).1
       have hal : Below w5.heap.size w5 ((w5.alloc (.cells #[.int .i64 px, .int .i64 py] 53)).alloc (.cells #[.int .i64 px, .int .i64 py] 53)) := ((Below.refl _ _).alloc (Nat.le_refl _) _).alloc (by simp) _
       have HFR9 := hide ((HFR5.out.grown (below_grow hal) (by simp) (by simp)).grown hgrow9 (fun e => by have := hrow _ e.symm; omega) (fun e => by have := hrow _ e.symm; omega))
       have HB9 : Hid (Below w.heap.size w w9 ∧ r4 < w9.heap.size) := hide ⟨(HB5.out.1.trans (hal.mono (by omega))).grown hgrow9 (by simp; omega) (fun q hq => by have := hrow q hq; omega), Nat.lt_of_lt_of_le HB5.out.2 (Nat.le_trans hal.size hgrow9.size)⟩
       have HL9 : Hid (w9.rangeLeft (w.heap.size + 1) r4 = cnt5) := hide (by obtain ⟨D, d, _⟩ := HFR9.out.map; exact d.left_eq)
       have HOUT9 : Hid ((out ++ [(px, py)]).Nodup ∧ ∀ p, p ∈ out ++ [(px, py)] ↔ p ∈ KA ∧ (left4 (kP p) && !(kP p).sameKey (kP (px, py))) = false) := hide (by
        have hbx := HFR5.out.rng _ HIN.out.1
        refine ⟨?_, fun p => ?_⟩
        ·rw [List.nodup_append]
         refine ⟨HOUT.out.1, by simp, fun a ha b hb e => ?_⟩
         rw [List.mem_singleton] at hb
         subst hb; subst e
         have := ((HOUT.out.2 _).1 ha).2
         rw [HIN.out.2] at this
         cases this
        ·rw [List.mem_append, List.mem_singleton, HOUT.out.2]
         constructor
         ·rintro (⟨h1, h2⟩ | rfl)
          ·exact ⟨h1, by rw [h2]; rfl⟩
          ·exact ⟨HIN.out.1, by rw [kP_same hbx hbx]; simp⟩
         ·rintro ⟨h1, h2⟩
          rw [kP_same (HFR5.out.rng _ h1) hbx] at h2
          by_cases e : p = (px, py)
          ·exact .inr e
          ·left
           refine ⟨h1, ?_⟩
           rw [decide_eq_false e] at h2
           simpa using h2)
       clear hown9 hgrow9 hor9 hlt9 hx9 hO9 hrow hal HFR5 HB5 HO5 h5a HOUT
       go_wp2
       clear hen2
       go_roundw
       case rel => exact ⟨_, cnt5, _, cap9, out ++ [(px, py)], by rw [List.length_append]; rfl, HO9, HFR9, HB9, HOUT9⟩
       case measure => rw [HL9.out, HLB.out]; exact HLT.out
    ·intro x w5 cnt5 hx hlx hmc5 hlt5 hg5 hs5 hen
     have HN5 := hide (HN.out.grown FX.out hg5 (fun q hq => by injection hq with hq; omega))
     have HMC5 := hide hmc5
     have hrd := own_rd (HM.out.2.mv.vs x hx) (fun _ => rfl)
     obtain ⟨Ax, cx, hvx⟩ := own_form (HM.out.2.mv.vs x hx)
     rw [hvx] at hen hrd ⊢
     obtain ⟨_, cc, hsl, hcc⟩ := hrd
     injection hsl with q1 _ q3
     subst q1
     subst q3
     have HCC := hide hcc
     have HBG := hide (fun s (hs : s ∈ colC l x) => col_big HV.out hs)
     have hnl : (colC l x).length ≤ 1600 := by have := colC_len l x; omega
     obtain ⟨SX, hSX⟩ : ∃ S, colC l x = S := ⟨_, rfl⟩
     have HDS : Hid (∀ (K' : List Pt), (∀ p ∈ KA, p ∈ K') → (∀ s ∈ SX, DoneC l x s K') → ∀ x' ∈ K2, (left3 (.int .i64 x') && !(Lit.int .i64 x').sameKey (.int .i64 x)) = false → ∀ s ∈ colC l x', DoneC l x' s K') := hide (fun K' hk hd x' hx' hf s hs => by
      by_cases e : x' = x
      ·subst e
       rw [hSX] at hs
       exact hd s hs
      ·rw [show (Lit.int .i64 x').sameKey (.int .i64 x) = false by simp [Lit.sameKey, e]] at hf
       exact (HDA.out x' hx' (by simpa using hf) s hs).mono hk)
     rw [hSX] at HCC HBG hnl hen ⊢
     clear hmc5 hcc hvx hg5 hs5 hx hlx HN HMC HDA hSX
     have HLT : Hid (cnt5 < cnt3) := hide hlt5
     clear hlt5
     go_wp2
     clear hen
     go_loopw [93] (fun j wr => ∃ m : Nat, m ≤ SX.length ∧ j = .int .i64 m ∧ Hid (∃ K', Nst w wr w.heap.size B b1 b2 K1 K2 v1 v2 l K' ∧ Mr B b2 r3 K2 (colC l) v2 (fun z => left3 z && !z.sameKey (.int .i64 x)) cnt5 wr ∧ (∀ p ∈ KA, p ∈ K') ∧ ∀ i s, i < m → SX[i]? = some s → DoneC l x s K')) (fun j _ => SX.length - (intOf j).toNat)
     case atStart => exact ⟨0, Nat.zero_le _, rfl, hide ⟨KA, HN5.out, HMC5.out, fun p h => h, fun i s h => by omega⟩⟩
     case round =>
      clear HN5 HMC5
      obtain ⟨m, hm, rfl, HH⟩ := hrel
      obtain ⟨K6, hn, hmr, hsub, hdn⟩ := HH.out
      have HN := hide hn
      have HMR := hide hmr
      have HSUB := hide hsub
      have HDN := hide hdn
      clear hn hmr hsub hdn HH
      by_cases hlt : m < SX.length
      ·obtain ⟨⟨sl, sh⟩, hs⟩ : ∃ p, SX[m]? = some p := ⟨_, List.getElem?_eq_getElem hlt⟩
       obtain ⟨ba, oa, rfl, hbl, kk⟩ := HCC.out (by intro e; rw [e] at hlt; simp at hlt)
       have d0 : wr.cell? ⟨ba, oa + m * 2, none⟩ = some (.int .i64 sl) := (HN.out.low.cell (p := ⟨ba, _, none⟩) hbl).trans (kk m _ hs 0 _ rfl)
       have d1 : wr.cell? ⟨ba, oa + m * 2 + 1, none⟩ = some (.int .i64 sh) := (HN.out.low.cell (p := ⟨ba, _, none⟩) hbl).trans (kk m _ hs 1 _ rfl)
       obtain ⟨g1, ⟨g2, g3⟩, g4, g5⟩ := HBG.out _ (List.mem_of_getElem? hs)
       simp only at g1 g2 g3
       have HS := hide hs
       have mz : (m : Int) < (SX.length : Int) := by omega
       clear kk hs
       go_upto_region 25 with fail
       refine wp_name fun w8 hw8 => ?_
       obtain ⟨g9, hg9⟩ : ∃ g, g = wr.heap.size := ⟨_, rfl⟩
       have hb8 : Below wr.heap.size wr w8 := by
        rw [hw8]
        repeat (first | with_reducible exact Below.refl _ _ | with_reducible refine Below.setCell ?_ (by first | (simp; done) | (simp; omega)) _ | with_reducible refine Below.alloc ?_ (by first | omega | (simp; omega) | simp) _)
       have s0 : w8.cell? ⟨g9, 0, none⟩ = some (.int .i64 sl) := by rw [hw8, hg9]; simp [go_sem]
       have s1 : w8.cell? ⟨g9, 1, none⟩ = some (.int .i64 sh) := by rw [hw8, hg9]; simp [go_sem]
       have hlt9 : g9 < w8.heap.size := by rw [hw8, hg9]; simp
       have hge9 : w.heap.size + 3 ≤ g9 := by rw [hg9]; exact HN.out.sz
       have HN8 := hide (HN.out.below FX.out hb8)
       have HMR8 := hide (HMR.out.below hb8)
       rw [← hg9]
       clear hw8 hb8 hg9 d0 d1 HN HMR
       go_wp2_with (fail)
       refine (HN8.out.try' FX.out HKK.out HV.out hl HLN.out (by unfold bigP; simp only; omega)).mono ?_
       rintro e w9 ⟨rfl, hg, hn9⟩
       have HN9 := hide hn9
       have HMR9 := hide (HMR8.out.keep FX.out.g2 FX.out.r2 hg (fun q hq => by injection hq with hq; omega))
       replace s0 := (cell_grow hg hlt9 (fun e => by injection e with e; omega)).trans s0
       replace s1 := (cell_grow hg hlt9 (fun e => by injection e with e; omega)).trans s1
       replace hlt9 := Nat.lt_of_lt_of_le hlt9 hg.size
       clear hn9 hg HN8 HMR8
       go_wp2_with (fail)
       refine (HN9.out.try' FX.out HKK.out HV.out hl HLN.out (by unfold bigP; simp only; omega)).mono ?_
       rintro e w10 ⟨rfl, hg, hn10⟩
       have HMR10 := hide (HMR9.out.keep FX.out.g2 FX.out.r2 hg (fun q hq => by injection hq with hq; omega))
       have HT1 : Hid (∀ p ∈ K6, p ∈ tryK l (tryK l K6 (x, sl)) (x, sh)) := hide (fun p hp => try_sub _ _ _ _ (try_sub _ _ _ _ hp))
       have HT2 : Hid (DoneC l x (sl, sh) (tryK l (tryK l K6 (x, sl)) (x, sh))) := hide ⟨fun h => try_sub _ _ _ _ (try_in _ _ _ h), fun h => try_in _ _ _ h⟩
       generalize tryK l (tryK l K6 (x, sl)) (x, sh) = K7 at *
       have HN10 := hide hn10
       clear hn10 hg HN9 HMR9 s0 s1 hlt9
       go_wp2_with (fail)
       go_roundw
       case rel =>
        refine ⟨m + 1, by omega, by go_num, hide ⟨K7, HN10.out, HMR10.out, fun p hp => HT1.out _ (HSUB.out _ hp), fun i s hi hs => ?_⟩⟩
        by_cases e : i = m
        ·subst e
         rw [HS.out] at hs
         obtain rfl := Option.some.inj hs
         exact HT2.out
        ·exact (HDN.out i s (by omega) hs).mono HT1.out
       case measure => simp [intOf]; omega
      ·obtain rfl : m = SX.length := by omega
       have HALL : Hid (∀ s ∈ SX, DoneC l x s K6) := hide (fun s hs => by
        obtain ⟨i, hi, rfl⟩ := List.getElem_of_mem hs
        exact HDN.out i _ hi (List.getElem?_eq_getElem hi))
       have HL7 : Hid (wr.rangeLeft b2 r3 = cnt5) := hide (by obtain ⟨D, d, _⟩ := HMR.out.map; exact d.left_eq)
       go_wp2
       go_roundw
       case rel => exact ⟨_, cnt5, hide ⟨K6, HN.out, HMR.out, fun p hp => HSUB.out _ (HSU.out _ hp), HDS.out K6 HSUB.out HALL.out⟩⟩
       case measure => rw [HL7.out, HLA.out]; exact HLT.out
  ·intro y w5 cnt5 hy hly hmr5 hlt5 hg5 hs5 hen
   have HN5 := hide (HN.out.grown FX.out hg5 (fun q hq => by injection hq with hq; omega))
   have HMR5 := hide hmr5
   have HY := hide hy
   have hrd := own_rd (HM.out.1.mv.vs y hy) (fun _ => rfl)
   obtain ⟨Ay, cy, hvy⟩ := own_form (HM.out.1.mv.vs y hy)
   rw [hvy] at hen hrd ⊢
   obtain ⟨_, cc, hsl, hcc⟩ := hrd
   injection hsl with q1 _ q3
   subst q1
   subst q3
   have HCC := hide hcc
   have HBG := hide (fun s (hs : s ∈ rowC l y) => row_big HV.out hs)
   have hnl : (rowC l y).length ≤ 1600 := by have := rowC_len l y; omega
   obtain ⟨SY, hSY⟩ : ∃ S, rowC l y = S := ⟨_, rfl⟩
   have HDS : Hid (∀ (K' : List Pt), (∀ p ∈ K, p ∈ K') → (∀ s ∈ SY, DoneS l y s K') → ∀ y' ∈ K1, (left (.int .i64 y') && !(Lit.int .i64 y').sameKey (.int .i64 y)) = false → ∀ s ∈ rowC l y', DoneS l y' s K') := hide (fun K' hk hd y' hy' hf s hs => by
    by_cases e : y' = y
    ·subst e
     rw [hSY] at hs
     exact hd s hs
    ·rw [show (Lit.int .i64 y').sameKey (.int .i64 y) = false by simp [Lit.sameKey, e]] at hf
     exact (HDN.out y' hy' (by simpa using hf) s hs).mono hk)
   rw [hSY] at HCC HBG hnl hen ⊢
   have HSE : Hid (SY = rowC l y) := hide hSY.symm
   clear hmr5 hcc hvy hg5 hs5 hy hly HN HMR HDN hSY
   have HLT : Hid (cnt5 < cnt) := hide hlt5
   clear hlt5
   go_wp2
   clear hen
   go_loopw [30] (fun j wr => ∃ m : Nat, m ≤ SY.length ∧ j = .int .i64 m ∧ Hid (∃ K', Nst w wr w.heap.size B b1 b2 K1 K2 v1 v2 l K' ∧ Mr B b1 r1 K1 (rowC l) v1 (fun z => left z && !z.sameKey (.int .i64 y)) cnt5 wr ∧ (∀ p ∈ K, p ∈ K') ∧ ∀ i s, i < m → SY[i]? = some s → DoneS l y s K')) (fun j _ => SY.length - (intOf j).toNat)
   case atStart => exact ⟨0, Nat.zero_le _, rfl, hide ⟨K, HN5.out, HMR5.out, fun p h => h, fun i s h => by omega⟩⟩
   case round =>
    clear HN5 HMR5
    obtain ⟨m, hm, rfl, HH⟩ := hrel
    obtain ⟨K6, hn, hmr, hsub, hdn⟩ := HH.out
    have HN := hide hn
    have HMR := hide hmr
    have HSUB := hide hsub
    have HDN := hide hdn
    clear hn hmr hsub hdn HH
    by_cases hlt : m < SY.length
    ·obtain ⟨⟨sl, sh⟩, hs⟩ : ∃ p, SY[m]? = some p := ⟨_, List.getElem?_eq_getElem hlt⟩
     obtain ⟨ba, oa, rfl, hbl, kk⟩ := HCC.out (by intro e; rw [e] at hlt; simp at hlt)
     have d0 : wr.cell? ⟨ba, oa + m * 2, none⟩ = some (.int .i64 sl) := (HN.out.low.cell (p := ⟨ba, _, none⟩) hbl).trans (kk m _ hs 0 _ rfl)
     have d1 : wr.cell? ⟨ba, oa + m * 2 + 1, none⟩ = some (.int .i64 sh) := (HN.out.low.cell (p := ⟨ba, _, none⟩) hbl).trans (kk m _ hs 1 _ rfl)
     obtain ⟨g1, ⟨g2, g3⟩, g4, g5⟩ := HBG.out _ (List.mem_of_getElem? hs)
     simp only at g1 g2 g3
     have HS := hide hs
     have HSM : Hid ((sl, sh) ∈ rowC l y) := hide (HSE.out ▸ List.mem_of_getElem? hs)
     have mz : (m : Int) < (SY.length : Int) := by omega
     clear kk hs
     go_upto_region 9 with fail
     refine wp_name fun w8 hw8 => ?_
     obtain ⟨g9, hg9⟩ : ∃ g, g = wr.heap.size := ⟨_, rfl⟩
     have hb8 : Below wr.heap.size wr w8 := by
      rw [hw8]
      repeat (first | with_reducible exact Below.refl _ _ | with_reducible refine Below.setCell ?_ (by first | (simp; done) | (simp; omega)) _ | with_reducible refine Below.alloc ?_ (by first | omega | (simp; omega) | simp) _)
     have s0 : w8.cell? ⟨g9, 0, none⟩ = some (.int .i64 sl) := by rw [hw8, hg9]; simp [go_sem]
     have s1 : w8.cell? ⟨g9, 1, none⟩ = some (.int .i64 sh) := by rw [hw8, hg9]; simp [go_sem]
     have hlt9 : g9 < w8.heap.size := by rw [hw8, hg9]; simp
     have hge9 : w.heap.size + 3 ≤ g9 := by rw [hg9]; exact HN.out.sz
     have HN8 := hide (HN.out.below FX.out hb8)
     have HMR8 := hide (HMR.out.below hb8)
     rw [← hg9]
     clear hw8 hb8 hg9 d0 d1 HN HMR
     go_wp2_with (fail)
     refine (HN8.out.try' FX.out HKK.out HV.out hl HLN.out (by unfold bigP; simp only; omega)).mono ?_
     rintro e w9 ⟨rfl, hg, hn9⟩
     have HN9 := hide hn9
     have HMR9 := hide (HMR8.out.keep FX.out.g1 FX.out.r1 hg (fun q hq => by injection hq with hq; omega))
     replace s0 := (cell_grow hg hlt9 (fun e => by injection e with e; omega)).trans s0
     replace s1 := (cell_grow hg hlt9 (fun e => by injection e with e; omega)).trans s1
     replace hlt9 := Nat.lt_of_lt_of_le hlt9 hg.size
     clear hn9 hg HN8 HMR8
     go_wp2_with (fail)
     refine (HN9.out.try' FX.out HKK.out HV.out hl HLN.out (by unfold bigP; simp only; omega)).mono ?_
     rintro e w10 ⟨rfl, hg, hn10⟩
     have HMR10 := hide (HMR9.out.keep FX.out.g1 FX.out.r1 hg (fun q hq => by injection hq with hq; omega))
     replace s0 := (cell_grow hg hlt9 (fun e => by injection e with e; omega)).trans s0
     replace s1 := (cell_grow hg hlt9 (fun e => by injection e with e; omega)).trans s1
     replace hlt9 := Nat.lt_of_lt_of_le hlt9 hg.size
     have HT1 : Hid (∀ p ∈ K6, p ∈ tryK l (tryK l K6 (sl, y)) (sh, y)) := hide (fun p hp => try_sub _ _ _ _ (try_sub _ _ _ _ hp))
     have HT2 : Hid (nodeG (htB l) (vtB l) (sl, y) = true → (sl, y) ∈ tryK l (tryK l K6 (sl, y)) (sh, y)) := hide (fun h => try_sub _ _ _ _ (try_in _ _ _ h))
     have HT3 : Hid (nodeG (htB l) (vtB l) (sh, y) = true → (sh, y) ∈ tryK l (tryK l K6 (sl, y)) (sh, y)) := hide (fun h => try_in _ _ _ h)
     generalize tryK l (tryK l K6 (sl, y)) (sh, y) = K7 at *
     have HN10 := hide hn10
     clear hn10 hg HN9 HMR9
     have z1 := HN10.out.c1
     go_wp2_with (at_range; refine wpList_range_ms rfl _ rfl rfl HN10.out.m2 ?_; intro w11 left2 hmr2 hleft2 hgr hs4)
     clear z1
     go_frame
     obtain ⟨r2, hr2⟩ : ∃ r, w10.heap.size = r := ⟨_, rfl⟩
     rw [hr2] at hmr2 ⊢
     have hr2a : w.heap.size + 3 ≤ r2 := by rw [← hr2]; exact HN10.out.sz
     have hr2b : r1 ≠ r2 := by
      obtain ⟨D, d, _⟩ := HMR10.out.map
      have := d.lt
      omega
     have hr2c : g9 ≠ r2 := by omega
     have HN11 := hide (HN10.out.grown FX.out hgr (fun q hq => by cases hq))
     have HMR11 := hide (HMR10.out.keep FX.out.g1 FX.out.r1 hgr (fun q hq => by cases hq))
     have HMC11 := hide hmr2
     have HLF2 := hide hleft2
     replace s0 := (cell_grow hgr hlt9 (by simp)).trans s0
     replace s1 := (cell_grow hgr hlt9 (by simp)).trans s1
     replace hlt9 := Nat.lt_of_lt_of_le hlt9 hgr.size
     have HS9 := hide (And.intro s0 (And.intro s1 hlt9))
     clear hmr2 hleft2 hgr hs4 hr2 HN10 HMR10 s0 s1 hlt9
     go_loopw [10] (fun _ wr => ∃ left2 cnt2, Hid (∃ K', Nst w wr w.heap.size B b1 b2 K1 K2 v1 v2 l K' ∧ Mr B b1 r1 K1 (rowC l) v1 (fun z => left z && !z.sameKey (.int .i64 y)) cnt5 wr ∧ Mr B b2 r2 K2 (colC l) v2 left2 cnt2 wr ∧ (∀ p ∈ K7, p ∈ K') ∧ (wr.cell? ⟨g9, 0, none⟩ = some (.int .i64 sl) ∧ wr.cell? ⟨g9, 1, none⟩ = some (.int .i64 sh) ∧ g9 < wr.heap.size) ∧ ∀ x ∈ K2, left2 (.int .i64 x) = false → sl < x → x < sh → (vtB l x y = true ∨ vtB l x (y - 1) = true) → (x, y) ∈ K')) (fun _ wr => wr.rangeLeft b2 r2)
     case atStart => exact ⟨left2, _, hide ⟨K7, HN11.out, HMR11.out, HMC11.out, fun p h => h, HS9.out, fun x hx hf => by rw [HLF2.out x hx] at hf; cases hf⟩⟩
     case round =>
      clear HN11 HMR11 HMC11 HS9 HLF2
      obtain ⟨left2, cnt2, HH⟩ := hrel
      obtain ⟨K8, hn, hmr, hmc, hsub, ⟨s0, s1, hlt9⟩, hdn⟩ := HH.out
      have HN := hide hn
      have HMR := hide hmr
      have HMC := hide hmc
      have HSU := hide hsub
      have HD8 := hide hdn
      have HL2 : Hid (wr.rangeLeft b2 r2 = cnt2) := hide (by obtain ⟨D, d, _⟩ := hmc.map; exact d.left_eq)
      clear hn hmr hmc hsub hdn HH
      go_wp2_with (at_next; refine wpList_next_ms rfl _ rfl rfl HMC.out ?_ ?_)
      ·intro _ hl0
       have HDS9 : Hid (DoneS l y (sl, sh) K8) := hide ⟨fun h => HSU.out _ (HT2.out h), fun h => HSU.out _ (HT3.out h), fun x a b c => by
        have hx : x ∈ K2 := HKK.out.2.1 x (fun e => by
         rcases c with c | c <;> (obtain ⟨q, hq, c1, c2, c3, c4⟩ := col_mem.1 c; have hmem : (min q.ay q.cy, max q.ay q.cy) ∈ colSp l x := List.mem_map.2 ⟨q, List.mem_filter.2 ⟨hq, by simp [c1, c2]⟩, rfl⟩; rw [e] at hmem; cases hmem))
        exact HD8.out x hx (hl0 _) a b c⟩
       have hkl := HFL.out K8 HN.out.fs.nd HN.out.nd
       have hlen : ∀ ty, (Builtin.len_ #[258] ty #[.map (some (w.heap.size + 1))]).run Tryz.prog wr = .ok (.int .i64 K8.length) wr := fun ty => HN.out.fs.len ty
       have z2 := HN.out.c2
       clear HD8 hl0 s0 s1 hlt9 HMC HL2
       by_cases h4 : 400 < K8.length
       ·have h4z : (400 : Int) < (K8.length : Int) := by omega
        go_wp2
        go_ret2
        exact ⟨⟨none, 0, [], false, rfl, World.ownsRow_nil _ _ _ _, .inr ⟨by omega, rfl⟩⟩, HN.out.low⟩
       ·have h4z : ¬ (400 : Int) < (K8.length : Int) := by omega
        go_wp2
        clear hlen z2
        go_roundw
        case rel =>
         refine ⟨m + 1, by omega, by go_num, hide ⟨K8, HN.out, HMR.out, fun p hp => HSU.out _ (HT1.out _ (HSUB.out _ hp)), fun i s hi hs => ?_⟩⟩
         by_cases e : i = m
         ·subst e
          rw [HS.out] at hs
          obtain rfl := Option.some.inj hs
          exact HDS9.out
         ·exact (HDN.out i s (by omega) hs).mono fun p hp => HSU.out _ (HT1.out _ hp)
        case measure => simp [intOf]; omega
      ·intro x w12 cnt12 hx hlx hmc12 hlt12 hg12 hs12 hen
       have hrd := own_rd (HM.out.2.mv.vs x hx) (fun _ => rfl)
       obtain ⟨Ax, cx, hvx⟩ := own_form (HM.out.2.mv.vs x hx)
       rw [hvx] at hen hrd ⊢
       have hLn := rowC_ok HV.out
       have hcl := colC_len l x
       have hA := hide (fun (W : World) (hb : Below w.heap.size w W) (z : Int) => spHas_any (w := W) ((hrd.below hb).mono hb.size) (by omega) z)
       have HH1 := hide (fun (W : World) (hb : Below w.heap.size w W) => by have := hA.out W hb y; rwa [show decide (smem (colC l x) y) = vtB l x y by rw [Bool.eq_iff_iff, decide_eq_true_eq]; exact hLn.cm x y] at this)
       have HH2 := hide (fun (W : World) (hb : Below w.heap.size w W) => by have := hA.out W hb (y - 1); rwa [show decide (smem (colC l x) (y - 1)) = vtB l x (y - 1) by rw [Bool.eq_iff_iff, decide_eq_true_eq]; exact hLn.cm x (y - 1)] at this)
       have HVB : Hid (∀ z, vtB l x z = true → -1000000 ≤ x ∧ x ≤ 1000000) := hide (fun z hz => by
        obtain ⟨q, hq, _, e, _⟩ := col_mem.1 hz
        obtain ⟨⟨⟨a1, a2⟩, _⟩, _⟩ := HV.out q hq
        omega)
       have HNM : Hid (sl < x → x < sh → (vtB l x y = true ∨ vtB l x (y - 1) = true) → nodeG (htB l) (vtB l) (x, y) = true) := hide (fun a b c => by
        rw [found_mid hLn HSM.out a b]
        rcases c with c | c <;> rw [c] <;> simp)
       have HDX : Hid (∀ K' : List Pt, (∀ p ∈ K8, p ∈ K') → (sl < x → x < sh → (vtB l x y = true ∨ vtB l x (y - 1) = true) → (x, y) ∈ K') → ∀ x' ∈ K2, (left2 (.int .i64 x') && !(Lit.int .i64 x').sameKey (.int .i64 x)) = false → sl < x' → x' < sh → (vtB l x' y = true ∨ vtB l x' (y - 1) = true) → (x', y) ∈ K') := hide (fun K' hk hd x' hx' hf a b c => by
        by_cases e : x' = x
        ·subst e
         exact hd a b c
        ·rw [show (Lit.int .i64 x').sameKey (.int .i64 x) = false by simp [Lit.sameKey, e]] at hf
         exact hk _ (HD8.out x' hx' (by simpa using hf) a b c))
       have HN12 := hide (HN.out.grown FX.out hg12 (fun q hq => by injection hq with hq; omega))
       have HMR12 := hide (HMR.out.keep FX.out.g1 FX.out.r1 hg12 (fun q hq => by injection hq with hq; omega))
       have HMC12 := hide hmc12
       have HS12 : Hid (w12.cell? ⟨g9, 0, none⟩ = some (.int .i64 sl) ∧ w12.cell? ⟨g9, 1, none⟩ = some (.int .i64 sh) ∧ g9 < w12.heap.size) := hide ⟨(cell_grow hg12 hlt9 (fun e => by injection e with e; omega)).trans s0, (cell_grow hg12 hlt9 (fun e => by injection e with e; omega)).trans s1, Nat.lt_of_lt_of_le hlt9 hg12.size⟩
       have HLT2 : Hid (cnt12 < cnt2) := hide hlt12
       have wy1 : IntKind.i64.wrap (y - 1) = y - 1 := IntWalk.i64_in _ (by omega)
       generalize (colC l x).length = nx at *
       clear hmc12 hg12 hs12 hlt12 hrd hvx hLn hcl hA hx hlx HD8 HN HMR HMC s0 s1 hlt9
       obtain ⟨s0, s1, -⟩ := HS12.out
       by_cases q1 : sl < x
       ·by_cases q2 : x < sh
        ·generalize hv1 : vtB l x y = e1 at *
         generalize hv2 : vtB l x (y - 1) = e2 at *
         have HV1 := hide hv1
         have HV2 := hide hv2
         clear hv1 hv2
         go_wp2_with (fail)
         clear hen s0 s1
         refine (HH1.out _ HN12.out.low).mono ?_
         rintro e w13 ⟨rfl, hb⟩
         have HN13 := hide (HN12.out.below FX.out hb)
         have HMR13 := hide (HMR12.out.below hb)
         have HMC13 := hide (HMC12.out.below hb)
         have HS13 : Hid (w13.cell? ⟨g9, 0, none⟩ = some (.int .i64 sl) ∧ w13.cell? ⟨g9, 1, none⟩ = some (.int .i64 sh) ∧ g9 < w13.heap.size) := hide ⟨(hb.cell (p := ⟨g9, 0, none⟩) HS12.out.2.2).trans HS12.out.1, (hb.cell (p := ⟨g9, 1, none⟩) HS12.out.2.2).trans HS12.out.2.1, Nat.lt_of_lt_of_le HS12.out.2.2 hb.size⟩
         clear hb
         cases e1
         ·go_wp2_with (fail)
          refine (HH2.out _ HN13.out.low).mono ?_
          rintro e w14 ⟨rfl, hb⟩
          have HN14 := hide (HN13.out.below FX.out hb)
          have HMR14 := hide (HMR13.out.below hb)
          have HMC14 := hide (HMC13.out.below hb)
          have HS14 : Hid (w14.cell? ⟨g9, 0, none⟩ = some (.int .i64 sl) ∧ w14.cell? ⟨g9, 1, none⟩ = some (.int .i64 sh) ∧ g9 < w14.heap.size) := hide ⟨(hb.cell (p := ⟨g9, 0, none⟩) HS13.out.2.2).trans HS13.out.1, (hb.cell (p := ⟨g9, 1, none⟩) HS13.out.2.2).trans HS13.out.2.1, Nat.lt_of_lt_of_le HS13.out.2.2 hb.size⟩
          clear hb
          cases e2
          ·go_wp2_with (fail)
           go_roundw
           case rel => exact ⟨_, cnt12, hide ⟨K8, HN14.out, HMR14.out, HMC14.out, HSU.out, HS14.out, HDX.out _ (fun p hp => hp) (fun _ _ c => by rcases c with c | c <;> cases c)⟩⟩
           case measure => rw [show w14.rangeLeft b2 r2 = cnt12 by obtain ⟨D, d, _⟩ := HMC14.out.map; exact d.left_eq, HL2.out]; exact HLT2.out
          ·have HBX : Hid (-1000000 ≤ x ∧ x ≤ 1000000) := hide (HVB.out _ HV2.out)
           have HND := hide (HNM.out q1 q2 (.inr rfl))
           obtain ⟨w15, hrun, hg15, hf15⟩ := HN14.out.fs.store (k := (x, y)) (by unfold bigP; simp only; have := HBX.out; omega) (by have := HFL.out K8 HN14.out.fs.nd HN14.out.nd; have := HLN.out; unfold maxLen; omega)
           have hrun' : (Instr.mapUpdate 258 (.map (some (w.heap.size + 1))) (.agg #[.int .i64 x, .int .i64 y]) (.bool true)).run Tryz.prog w14 = .ok () w15 := hrun
           have z2 := HN14.out.c2
           have HN15 := hide (HN14.out.found FX.out hg15 hf15 (fun k hk => by
            rcases mem_addP.1 hk with rfl | hk
            ·exact HND.out
            ·exact HN14.out.nd k hk))
           have HMR15 := hide (HMR14.out.keep FX.out.g1 FX.out.r1 hg15 (fun q hq => by injection hq with hq; omega))
           have HMC15 := hide (HMC14.out.keep FX.out.g2 FX.out.r2 hg15 (fun q hq => by injection hq with hq; omega))
           have HS15 : Hid (w15.cell? ⟨g9, 0, none⟩ = some (.int .i64 sl) ∧ w15.cell? ⟨g9, 1, none⟩ = some (.int .i64 sh) ∧ g9 < w15.heap.size) := hide ⟨(cell_grow hg15 HS14.out.2.2 (fun e => by injection e with e; omega)).trans HS14.out.1, (cell_grow hg15 HS14.out.2.2 (fun e => by injection e with e; omega)).trans HS14.out.2.1, Nat.lt_of_lt_of_le HS14.out.2.2 hg15.size⟩
           clear hrun hg15 hf15
           go_wp2_with (fail)
           clear hrun' z2
           go_roundw
           case rel => exact ⟨_, cnt12, hide ⟨addP K8 (x, y), HN15.out, HMR15.out, HMC15.out, fun p hp => mem_addP.2 (.inr (HSU.out _ hp)), HS15.out, HDX.out _ (fun p hp => mem_addP.2 (.inr hp)) (fun _ _ _ => mem_addP.2 (.inl rfl))⟩⟩
           case measure => rw [show w15.rangeLeft b2 r2 = cnt12 by obtain ⟨D, d, _⟩ := HMC15.out.map; exact d.left_eq, HL2.out]; exact HLT2.out
         ·have HBX : Hid (-1000000 ≤ x ∧ x ≤ 1000000) := hide (HVB.out _ HV1.out)
          have HND := hide (HNM.out q1 q2 (.inl rfl))
          obtain ⟨w15, hrun, hg15, hf15⟩ := HN13.out.fs.store (k := (x, y)) (by unfold bigP; simp only; have := HBX.out; omega) (by have := HFL.out K8 HN13.out.fs.nd HN13.out.nd; have := HLN.out; unfold maxLen; omega)
          have hrun' : (Instr.mapUpdate 258 (.map (some (w.heap.size + 1))) (.agg #[.int .i64 x, .int .i64 y]) (.bool true)).run Tryz.prog w13 = .ok () w15 := hrun
          have z2 := HN13.out.c2
          have HN15 := hide (HN13.out.found FX.out hg15 hf15 (fun k hk => by
           rcases mem_addP.1 hk with rfl | hk
           ·exact HND.out
           ·exact HN13.out.nd k hk))
          have HMR15 := hide (HMR13.out.keep FX.out.g1 FX.out.r1 hg15 (fun q hq => by injection hq with hq; omega))
          have HMC15 := hide (HMC13.out.keep FX.out.g2 FX.out.r2 hg15 (fun q hq => by injection hq with hq; omega))
          have HS15 : Hid (w15.cell? ⟨g9, 0, none⟩ = some (.int .i64 sl) ∧ w15.cell? ⟨g9, 1, none⟩ = some (.int .i64 sh) ∧ g9 < w15.heap.size) := hide ⟨(cell_grow hg15 HS13.out.2.2 (fun e => by injection e with e; omega)).trans HS13.out.1, (cell_grow hg15 HS13.out.2.2 (fun e => by injection e with e; omega)).trans HS13.out.2.1, Nat.lt_of_lt_of_le HS13.out.2.2 hg15.size⟩
          clear hrun hg15 hf15
          go_wp2_with (fail)
          clear hrun' z2
          go_roundw
          case rel => exact ⟨_, cnt12, hide ⟨addP K8 (x, y), HN15.out, HMR15.out, HMC15.out, fun p hp => mem_addP.2 (.inr (HSU.out _ hp)), HS15.out, HDX.out _ (fun p hp => mem_addP.2 (.inr hp)) (fun _ _ _ => mem_addP.2 (.inl rfl))⟩⟩
          case measure => rw [show w15.rangeLeft b2 r2 = cnt12 by obtain ⟨D, d, _⟩ := HMC15.out.map; exact d.left_eq, HL2.out]; exact HLT2.out
        ·go_wp2_with (fail)
         clear hen
         go_roundw
         case rel => exact ⟨_, cnt12, hide ⟨K8, HN12.out, HMR12.out, HMC12.out, HSU.out, HS12.out, HDX.out _ (fun p hp => hp) (fun _ b _ => absurd b q2)⟩⟩
         case measure => rw [show w12.rangeLeft b2 r2 = cnt12 by obtain ⟨D, d, _⟩ := HMC12.out.map; exact d.left_eq, HL2.out]; exact HLT2.out
       ·go_wp2_with (fail)
        clear hen
        go_roundw
        case rel => exact ⟨_, cnt12, hide ⟨K8, HN12.out, HMR12.out, HMC12.out, HSU.out, HS12.out, HDX.out _ (fun p hp => hp) (fun a _ _ => absurd a q1)⟩⟩
        case measure => rw [show w12.rangeLeft b2 r2 = cnt12 by obtain ⟨D, d, _⟩ := HMC12.out.map; exact d.left_eq, HL2.out]; exact HLT2.out
    ·obtain rfl : m = SY.length := by omega
     have HALL : Hid (∀ s ∈ SY, DoneS l y s K6) := hide (fun s hs => by
      obtain ⟨i, hi, rfl⟩ := List.getElem_of_mem hs
      exact HDN.out i _ hi (List.getElem?_eq_getElem hi))
     have HL7 : Hid (wr.rangeLeft b1 r1 = cnt5) := hide (by obtain ⟨D, d, _⟩ := HMR.out.map; exact d.left_eq)
     go_wp2
     go_roundw
     case rel => exact ⟨_, cnt5, hide ⟨K6, HN.out, HMR.out, HDS.out K6 HSUB.out HALL.out⟩⟩
     case measure => rw [HL7.out, HLE.out]; exact HLT.out
end Go.Proofs.YtikojiciilambaaGreat

/- Plain arithmetic of bricks: no Go in sight. -/
namespace Go.Proofs.YtikojiciilambaaGreat
def okPat (W H S : Int) : Prop := 1 ≤ W ∧ W ≤ 1000 ∧ 1 ≤ H ∧ H ≤ 1000 ∧ 0 ≤ S ∧ S < W
instance (W H S : Int) : Decidable (okPat W H S) := by unfold okPat; infer_instance
def shiftI (W S row : Int) : Int := (row * S) % W
end Go.Proofs.YtikojiciilambaaGreat

/- The walks of texture's and its reference's small functions. -/
namespace Go.Proofs.YtikojiciilambaaGreat
open Go.RowKit
set_option linter.unusedVariables false
set_option linter.unusedSimpArgs false
end Go.Proofs.YtikojiciilambaaGreat

/- The walks of texture.At, texture.brick, Brick and of their references. -/
namespace Go.Proofs.YtikojiciilambaaGreat
open Go.RowKit
set_option linter.unusedVariables false
set_option linter.unusedSimpArgs false
def rowI (H y : Int) : Int := y / H
def colI (W H S x y : Int) : Int := (x - shiftI W S (rowI H y)) / W
def brX (W H S col row : Int) : Int := col * W + shiftI W S row
end Go.Proofs.YtikojiciilambaaGreat

/- Plain law: what makes a list a region; joins of regions are regions; areas count points. -/
namespace Go.Proofs.YtikojiciilambaaGreat
set_option linter.unusedVariables false
set_option linter.unusedSimpArgs false
end Go.Proofs.YtikojiciilambaaGreat

/- Plain law: the bricks that a region meets, in order; the part of a region on a brick. -/
namespace Go.Proofs.YtikojiciilambaaGreat
set_option linter.unusedVariables false
set_option linter.unusedSimpArgs false
abbrev Ky := Int × Int
def klt (a b : Ky) : Prop := a.1 < b.1 ∨ (a.1 = b.1 ∧ a.2 < b.2)
instance (a b : Ky) : Decidable (klt a b) := by unfold klt; infer_instance
theorem klt_irr (a : Ky) : ¬ klt a a := by unfold klt; omega
theorem klt_trans {a b c : Ky} (h : klt a b) (g : klt b c) : klt a c := by unfold klt at *; omega
theorem klt_total (a b : Ky) : klt a b ∨ a = b ∨ klt b a := by
 obtain ⟨a1, a2⟩ := a; obtain ⟨b1, b2⟩ := b
 unfold klt
 by_cases h1 : a1 < b1
 ·exact .inl (.inl h1)
 ·by_cases h2 : b1 < a1
  ·exact .inr (.inr (.inl h2))
  ·obtain rfl : a1 = b1 := by omega
   by_cases h3 : a2 < b2
   ·exact .inl (.inr ⟨rfl, h3⟩)
   ·by_cases h4 : b2 < a2
    ·exact .inr (.inr (.inr ⟨rfl, h4⟩))
    ·obtain rfl : a2 = b2 := by omega
     exact .inr (.inl rfl)
theorem ksort_ext : ∀ {a b : List Ky}, a.Pairwise klt → b.Pairwise klt → (∀ k, k ∈ a ↔ k ∈ b) → a = b
 | [], [], _, _, _ => rfl
 | [], y :: b, _, _, h => absurd ((h y).2 (by simp)) (by simp)
 | x :: a, [], _, _, h => absurd ((h x).1 (by simp)) (by simp)
 | x :: a, y :: b, ha, hb, h => by
  obtain ⟨a1, a2⟩ := List.pairwise_cons.1 ha
  obtain ⟨b1, b2⟩ := List.pairwise_cons.1 hb
  have e : x = y := by
   rcases List.mem_cons.1 ((h x).1 (by simp)) with e | hx
   ·exact e
   ·rcases List.mem_cons.1 ((h y).2 (by simp)) with e | hy
    ·exact e.symm
    ·exact absurd (klt_trans (a1 y hy) (b1 x hx)) (klt_irr x)
  subst e
  rw [ksort_ext a2 b2 fun k => ?_]
  constructor
  ·intro hk
   rcases List.mem_cons.1 ((h k).1 (List.mem_cons_of_mem _ hk)) with e | hk2
   ·subst e; exact absurd (a1 k hk) (klt_irr k)
   ·exact hk2
  ·intro hk
   rcases List.mem_cons.1 ((h k).2 (List.mem_cons_of_mem _ hk)) with e | hk2
   ·subst e; exact absurd (b1 k hk) (klt_irr k)
   ·exact hk2
def insK (k : Ky) : List Ky → List Ky
 | [] => [k]
 | a :: l => if klt k a then k :: a :: l else if k = a then a :: l else a :: insK k l
theorem mem_insK (k : Ky) : ∀ (l : List Ky) (x : Ky), x ∈ insK k l ↔ x = k ∨ x ∈ l
 | [], x => by simp [insK]
 | a :: l, x => by
  unfold insK
  split
  ·simp
  ·split
   ·rename_i e; subst e; simp
   ·simp only [List.mem_cons, mem_insK k l x]
    constructor
    ·rintro (h | h | h)
     ·exact .inr (.inl h)
     ·exact .inl h
     ·exact .inr (.inr h)
    ·rintro (h | h | h)
     ·exact .inr (.inl h)
     ·exact .inl h
     ·exact .inr (.inr h)
theorem insK_sorted (k : Ky) : ∀ (l : List Ky), l.Pairwise klt → (insK k l).Pairwise klt
 | [], _ => by simp [insK]
 | a :: l, h => by
  obtain ⟨h1, h2⟩ := List.pairwise_cons.1 h
  unfold insK
  split
  ·rename_i hk
   refine List.pairwise_cons.2 ⟨fun x hx => ?_, h⟩
   rcases List.mem_cons.1 hx with rfl | hx
   ·exact hk
   ·exact klt_trans hk (h1 x hx)
  ·split
   ·exact h
   ·rename_i hk he
    refine List.pairwise_cons.2 ⟨fun x hx => ?_, insK_sorted k l h2⟩
    rcases (mem_insK k l x).1 hx with rfl | hx
    ·rcases klt_total x a with h3 | h3 | h3
     ·exact absurd h3 hk
     ·exact absurd h3 he
     ·exact h3
    ·exact h1 x hx
def srtK (l : List Ky) : List Ky := l.foldl (fun a k => insK k a) []
theorem srtK_from : ∀ (l a : List Ky), a.Pairwise klt → (l.foldl (fun a k => insK k a) a).Pairwise klt ∧ ∀ x, x ∈ l.foldl (fun a k => insK k a) a ↔ x ∈ l ∨ x ∈ a
 | [], a, h => ⟨h, by simp⟩
 | k :: l, a, h => by
  obtain ⟨h1, h2⟩ := srtK_from l (insK k a) (insK_sorted k a h)
  refine ⟨h1, fun x => ?_⟩
  rw [List.foldl_cons, h2, mem_insK]
  simp only [List.mem_cons]
  constructor
  ·rintro (h | h | h)
   ·exact .inl (.inr h)
   ·exact .inl (.inl h)
   ·exact .inr h
  ·rintro ((h | h) | h)
   ·exact .inr (.inl h)
   ·exact .inl h
   ·exact .inr (.inr h)
theorem srtK_ok (l : List Ky) : (srtK l).Pairwise klt ∧ ∀ x, x ∈ srtK l ↔ x ∈ l := by
 obtain ⟨h1, h2⟩ := srtK_from l [] (by simp)
 exact ⟨h1, fun x => by unfold srtK; rw [h2]; simp⟩
def irange (a b : Int) : List Int := (List.range (b + 1 - a).toNat).map fun i : Nat => a + (i : Int)
theorem mem_irange {a b x : Int} : x ∈ irange a b ↔ a ≤ x ∧ x ≤ b := by
 unfold irange
 rw [List.mem_map]
 constructor
 ·rintro ⟨i, hi, rfl⟩
  rw [List.mem_range] at hi
  omega
 ·rintro ⟨h1, h2⟩
  exact ⟨(x - a).toNat, List.mem_range.2 (by omega), by omega⟩
def brR (W H S : Int) (k : Ky) : R4 := ⟨brX W H S k.2 k.1, k.1 * H, brX W H S k.2 k.1 + W, (k.1 + 1) * H⟩
def keyP (W H S x y : Int) : Ky := (rowI H y, colI W H S x y)
theorem div_is {x n q : Int} (hn : 0 < n) : x / n = q ↔ q * n ≤ x ∧ x < q * n + n := by
 have h1 := Int.emod_add_mul_ediv x n
 have h2 := Int.emod_nonneg x (Int.ne_of_gt hn)
 have h3 := Int.emod_lt_of_pos x hn
 constructor
 ·rintro rfl
  rw [Int.mul_comm]
  omega
 ·rintro ⟨h4, h5⟩
  apply Int.le_antisymm
  ·apply Int.le_of_lt_add_one
   rw [Int.ediv_lt_iff_lt_mul hn, Int.add_mul]
   omega
  ·rw [Int.le_ediv_iff_mul_le hn]
   exact h4
theorem rin_brR {W H S : Int} (hp : okPat W H S) (k : Ky) (x y : Int) : rin (brR W H S k) x y ↔ keyP W H S x y = k := by
 obtain ⟨r, c⟩ := k
 have hW : 0 < W := by have := hp.1; omega
 have hH : 0 < H := by have := hp.2.2.1; omega
 unfold rin brR keyP rowI colI brX
 simp only [Prod.mk.injEq]
 constructor
 ·rintro ⟨h1, h2, h3, h4⟩
  rw [Int.add_mul] at h4
  have e : y / H = r := (div_is hH).2 ⟨h3, by omega⟩
  refine ⟨e, ?_⟩
  rw [show rowI H y = r from e]
  exact (div_is hW).2 ⟨by omega, by omega⟩
 ·rintro ⟨e, h⟩
  rw [show rowI H y = r from e] at h
  obtain ⟨h1, h2⟩ := (div_is hH).1 e
  obtain ⟨h3, h4⟩ := (div_is hW).1 h
  rw [Int.add_mul]
  omega
def colsR (W H S : Int) (t : R4) (row : Int) : List Ky := (irange ((t.x0 - shiftI W S row) / W) ((t.x1 - 1 - shiftI W S row) / W)).map fun col => (row, col)
def keysR (W H S : Int) (t : R4) : List Ky := (irange (t.y0 / H) ((t.y1 - 1) / H)).flatMap (colsR W H S t)
theorem meet_wf {p q : R4} : wf4 (meet4 p q) ↔ ∃ x y, rin p x y ∧ rin q x y := by
 constructor
 ·intro h
  refine ⟨(meet4 p q).x0, (meet4 p q).y0, (rin_meet p q _ _).1 ⟨Int.le_refl _, h.1, Int.le_refl _, h.2⟩⟩
 ·rintro ⟨x, y, h⟩
  obtain ⟨h1, h2, h3, h4⟩ := (rin_meet p q x y).2 h
  exact ⟨by omega, by omega⟩
theorem mem_keysR {W H S : Int} (hp : okPat W H S) {t : R4} (ht : wf4 t) (k : Ky) : k ∈ keysR W H S t ↔ wf4 (meet4 (brR W H S k) t) := by
 obtain ⟨r, c⟩ := k
 have hW : 0 < W := by have := hp.1; omega
 have hH : 0 < H := by have := hp.2.2.1; omega
 obtain ⟨t1, t2⟩ := ht
 have e1 : (r, c) ∈ keysR W H S t ↔ (t.y0 / H ≤ r ∧ r ≤ (t.y1 - 1) / H) ∧ (t.x0 - shiftI W S r) / W ≤ c ∧ c ≤ (t.x1 - 1 - shiftI W S r) / W := by
  unfold keysR colsR
  simp only [List.mem_flatMap, List.mem_map, mem_irange, Prod.mk.injEq]
  constructor
  ·rintro ⟨row, h1, col, h2, rfl, rfl⟩
   exact ⟨h1, h2⟩
  ·rintro ⟨h1, h2⟩
   exact ⟨r, h1, c, h2, rfl, rfl⟩
 rw [e1]
 unfold wf4 meet4 brR brX
 simp only
 rw [Int.le_ediv_iff_mul_le hH, Int.le_ediv_iff_mul_le hW]
 have e2 : t.y0 / H ≤ r ↔ t.y0 < r * H + H := by
  rw [← Int.lt_add_one_iff, Int.ediv_lt_iff_lt_mul hH, Int.add_mul]
  omega
 have e3 : (t.x0 - shiftI W S r) / W ≤ c ↔ t.x0 - shiftI W S r < c * W + W := by
  rw [← Int.lt_add_one_iff, Int.ediv_lt_iff_lt_mul hW, Int.add_mul]
  omega
 rw [e2, e3, Int.add_mul]
 generalize r * H = rh
 generalize c * W = cw
 generalize shiftI W S r = s
 omega
def allK (W H S : Int) (l : List R4) : List Ky := l.flatMap (keysR W H S)
theorem mem_allK {W H S : Int} (hp : okPat W H S) {l : List R4} (hl : ∀ r ∈ l, wf4 r) (k : Ky) : k ∈ allK W H S l ↔ ∃ x y, pmem l x y ∧ keyP W H S x y = k := by
 unfold allK
 rw [List.mem_flatMap]
 constructor
 ·rintro ⟨t, ht, hk⟩
  obtain ⟨x, y, h1, h2⟩ := meet_wf.1 ((mem_keysR hp (hl t ht) k).1 hk)
  exact ⟨x, y, ⟨t, ht, h2⟩, (rin_brR hp k x y).1 h1⟩
 ·rintro ⟨x, y, ⟨t, ht, h2⟩, h1⟩
  exact ⟨t, ht, (mem_keysR hp (hl t ht) k).2 (meet_wf.2 ⟨x, y, (rin_brR hp k x y).2 h1, h2⟩)⟩
def keysT (W H S : Int) (l : List R4) : List Ky := srtK (allK W H S l)
end Go.Proofs.YtikojiciilambaaGreat

/- Plain law: insertion of a key at its place; the scan over points; the map of parts while the code goes over bricks. -/
namespace Go.Proofs.YtikojiciilambaaGreat
set_option linter.unusedVariables false
set_option linter.unusedSimpArgs false
def Scn (h : R4) (y x u v : Int) : Prop := (h.y0 ≤ v ∧ v < y ∧ h.x0 ≤ u ∧ u < h.x1) ∨ (v = y ∧ h.x0 ≤ u ∧ u < x)
structure SK (W H S : Int) (l : List R4) (h : R4) (y x : Int) (L : List Ky) : Prop where
 srt : L.Pairwise klt
 mem : ∀ k, k ∈ L ↔ ∃ u v, Scn h y x u v ∧ pmem l u v ∧ keyP W H S u v = k
theorem SK.start (W H S : Int) (l : List R4) (h : R4) : SK W H S l h h.y0 h.x0 [] := ⟨by simp, fun k => by
 constructor
 ·intro h; cases h
 ·rintro ⟨u, v, h, _⟩; unfold Scn at h; omega⟩
theorem SK.line {W H S : Int} {l : List R4} {h : R4} {y : Int} {L : List Ky} (q : SK W H S l h y h.x1 L) (hy : h.y0 ≤ y) : SK W H S l h (y + 1) h.x0 L := ⟨q.srt, fun k => by
 rw [q.mem]
 constructor
 ·rintro ⟨u, v, h1, h2⟩; refine ⟨u, v, ?_, h2⟩; unfold Scn at *; omega
 ·rintro ⟨u, v, h1, h2⟩; refine ⟨u, v, ?_, h2⟩; unfold Scn at *; omega⟩
theorem SK.off {W H S : Int} {l : List R4} {h : R4} {y x : Int} {L : List Ky} (q : SK W H S l h y x L) (hx : h.x0 ≤ x) (hn : ¬ pmem l x y) : SK W H S l h y (x + 1) L := ⟨q.srt, fun k => by
 rw [q.mem]
 constructor
 ·rintro ⟨u, v, h1, h2⟩; refine ⟨u, v, ?_, h2⟩; unfold Scn at *; omega
 ·rintro ⟨u, v, h1, h2, h3⟩
  refine ⟨u, v, ?_, h2, h3⟩
  by_cases e : u = x ∧ v = y
  ·obtain ⟨rfl, rfl⟩ := e; exact absurd h2 hn
  ·unfold Scn at *; omega⟩
theorem SK.on {W H S : Int} {l : List R4} {h : R4} {y x : Int} {L : List Ky} (q : SK W H S l h y x L) (hx : h.x0 ≤ x) (hm : pmem l x y) : SK W H S l h y (x + 1) (insK (keyP W H S x y) L) := ⟨insK_sorted _ _ q.srt, fun k => by
 rw [mem_insK, q.mem]
 constructor
 ·rintro (rfl | ⟨u, v, h1, h2⟩)
  ·exact ⟨x, y, .inr ⟨rfl, hx, by omega⟩, hm, rfl⟩
  ·refine ⟨u, v, ?_, h2⟩; unfold Scn at *; omega
 ·rintro ⟨u, v, h1, h2, h3⟩
  by_cases e : u = x ∧ v = y
  ·obtain ⟨rfl, rfl⟩ := e; exact .inl h3.symm
  ·refine .inr ⟨u, v, ?_, h2, h3⟩; unfold Scn at *; omega⟩
theorem SK.all {W H S : Int} (hp : okPat W H S) {l : List R4} (hl : ∀ r ∈ l, wf4 r) {h : R4} (hh : IsHull l h) {y : Int} (hy : h.y1 ≤ y) {L : List Ky} (q : SK W H S l h y h.x0 L) : L = keysT W H S l := by
 have hk := srtK_ok (allK W H S l)
 refine ksort_ext q.srt hk.1 fun k => ?_
 rw [q.mem, show (k ∈ keysT W H S l) ↔ _ from hk.2 k, mem_allK hp hl]
 constructor
 ·rintro ⟨u, v, _, h2, h3⟩; exact ⟨u, v, h2, h3⟩
 ·rintro ⟨u, v, h2, h3⟩
  refine ⟨u, v, ?_, h2, h3⟩
  obtain ⟨r, hr, h4⟩ := h2
  have := hh.b r hr
  unfold rin at h4
  unfold Scn
  omega
end Go.Proofs.YtikojiciilambaaGreat

/- copy on rows whose elements have any number of cells: the kit's laws with the size as a number of its own. -/
namespace Go.Proofs.YtikojiciilambaaGreat
open Go.RowKit
set_option linter.unusedVariables false
set_option linter.unusedSimpArgs false
theorem setRow_grown (w : World) (g : Nat) (cs : Array Value) : w.grownBy (w.setRow g cs) (some g) := ⟨rfl, rfl, rfl, by simp [World.setRow], fun k _ hk => setRow_other w g k cs (fun e => hk (by rw [e]))⟩
theorem run_copy_row_n {P : Program} (w : World) (dT sT ty elem : TypeId) (g o dLen dCap : Nat) (a : Addr) (sLen sCap : Nat) (cur : Array Value) (t : TypeId) (cs : List Value) (k n : Nat)
  (hu : P.underlying dT = some (.slice elem)) (hs : (P.info? elem).map (·.size) = some k)
  (hg : w.heap[g]? = some (.cells cur t (0, 0))) (hm : n = Nat.min sLen dLen) (hn : cs.length = n * k)
  (hsrc : ∀ j v, cs[j]? = some v → w.cell? (a.add j) = some v) (hfit : o + cs.length ≤ cur.size) (h1 : ∀ v ∈ cs, v.oneCell' = true) :
  (Builtin.copy_ #[dT, sT] ty #[.slice (some ⟨g, o, none⟩) dLen dCap, .slice (some a) sLen sCap]).run P w =
   .ok (goInt n) (w.setRow g (cur.toList.take o ++ cs ++ cur.toList.drop (o + cs.length)).toArray) := by
 have hl := run_loadCells_list (P := P) w a cs hsrc
 have hst := run_storeCells_at P g o t cs 0 cur w hg (by simpa using hfit) h1
 cases hq : P.info? elem with
 | none => simp [hq] at hs
 | some i =>
  have hi : i.size = k := by simpa [hq] using hs
  simp [Builtin.copy_, run_underlying hu, Builtin.lenOf, Builtin.firstCells, sizeOf, typeInfo, hq, hi, ← hm, ← hn, hl, hst]
theorem run_copy_none_n {P : Program} (w : World) (dT sT ty elem : TypeId) (d a : Option Addr) (dLen dCap sLen sCap : Nat) (k : Nat) (hu : P.underlying dT = some (.slice elem)) (hs : (P.info? elem).map (·.size) = some k) (hn : Nat.min sLen dLen = 0) :
  (Builtin.copy_ #[dT, sT] ty #[.slice d dLen dCap, .slice a sLen sCap]).run P w = .ok (goInt 0) w := by
 cases hq : P.info? elem with
 | none => simp [hq] at hs
 | some i =>
  have hl : ∀ (x : Addr), (loadCells x 0).run P w = .ok #[] w := fun x => by simpa using run_loadCells_list (P := P) w x [] (by simp)
  cases d <;> cases a <;> simp [Builtin.copy_, run_underlying hu, Builtin.lenOf, Builtin.firstCells, sizeOf, typeInfo, hq, hn, storeCells, hl]
theorem step_copy_n {P : Program} {ops : Array Oper} {o : Oper} {a : Act} {w : World} {K : Act → World → Prop} {Q : Exit → Act → World → Prop} {E : Prop} (hgd : o.guard = none) (d s : Operand) (dT sT : TypeId)
  (ho : o.op = .call { callee := .builtin .copy, args := #[d, s], argTypes := #[dT, sT] }) (elem : TypeId) (hu : P.underlying dT = some (.slice elem)) (k : Nat) (hsz : (P.info? elem).map (·.size) = some k)
  (dp sp : Option Addr) (dLen dCap sLen sCap : Nat) (hd : a.eval d = .slice dp dLen dCap) (hs : a.eval s = .slice sp sLen sCap)
  (g off : Nat) (cur : List Value) (t : TypeId) (hg : w.heap[g]? = some (.cells cur.toArray t (0, 0))) (cs : List Value) (n : Nat) (hm : n = Nat.min sLen dLen) (hn : cs.length = n * k)
  (hpos : 0 < n → dp = some ⟨g, off, none⟩ ∧ ∃ ad, sp = some ad ∧ ∀ j v, cs[j]? = some v → w.cell? (ad.add j) = some v)
  (hfit : off + cs.length ≤ cur.length) (h1 : ∀ v ∈ cs, v.oneCell' = true) (B : Nat) (w0 : World) (hb : Below B w0 w) (hBg : B ≤ g)
  (h : ∀ w', Hid (w'.heap[g]? = some (.cells (splice cur off cs).toArray t (0, 0))) → Below B w0 w' → w.grownBy w' (some g) → K (a.put o.dst (goInt n)) w') :
  if Region.wanted o (yielded ops a.tmps) = true then Oper.wp P o a w K Q else E := by
 have hw : Region.wanted o (yielded ops a.tmps) = true := by simp [Region.wanted, hgd]
 rw [if_pos hw]
 by_cases h0 : n = 0
 ·subst h0
  obtain rfl : cs = [] := List.eq_nil_of_length_eq_zero (by simpa using hn)
  have hrun := run_copy_none_n (P := P) w dT sT o.type elem dp sp dLen dCap sLen sCap k hu hsz hm.symm
  unfold Oper.wp
  simp [execOp, ho, resolve, invoke, builtin, hd, hs, hrun, Result.andThen]
  exact h w (show _ = _ by simpa [splice] using hg) hb ⟨rfl, rfl, rfl, Nat.le_refl _, fun _ _ _ => rfl⟩
 ·obtain ⟨rfl, ad, rfl, hsrc⟩ := hpos (by omega)
  have hrun := run_copy_row_n (P := P) w dT sT o.type elem g off dLen dCap ad sLen sCap cur.toArray t cs k n hu hsz hg hm hn hsrc (by simpa using hfit) h1
  unfold Oper.wp
  simp [execOp, ho, resolve, invoke, builtin, hd, hs, hrun, Result.andThen]
  exact h _ (show _ = _ by simpa [splice] using setRow_heap w g _ _ t _ hg) (below_setRow hb hBg _) (setRow_grown _ _ _)
end Go.Proofs.YtikojiciilambaaGreat

/- texture.sorted: keys in order. -/
namespace Go.Proofs.YtikojiciilambaaGreat
open Go.RowKit
set_option linter.unusedVariables false
set_option linter.unusedSimpArgs false
theorem own_copied_n {w w' : World} {base : Nat} {e t : TypeId} {g n cap off size : Nat} {xs cs cur : List Value} (h : w.ownsRow base e size (.slice (some ⟨g, 0, none⟩) n cap) n xs) (hg : w.heap[g]? = some (.cells cur.toArray t (0, 0))) (hg' : w'.heap[g]? = some (.cells (splice cur off cs).toArray t (0, 0))) (hfit : off + cs.length ≤ n * size) :
  w'.ownsRow base e size (.slice (some ⟨g, 0, none⟩) n cap) n (splice xs off cs) := by
 rcases h.2 with ⟨e0, _⟩ | ⟨g', cap', cur', e0, hb, hh, hn, hm, hs, ht⟩
 ·cases e0
 ·injection e0 with e1 _ e3
  injection e1 with e1
  injection e1 with e1
  subst e1; subst e3
  rw [hg] at hh
  injection hh with hh
  injection hh with h1 h2
  subst h1; subst h2
  have hl : cur.length = cap * size := by simpa using hs
  have hx := h.1
  have hcap : n * size ≤ cap * size := Nat.mul_le_mul_right _ hn
  refine ⟨by rw [length_splice _ _ _ (by omega)]; exact hx, .inr ⟨g, cap, _, rfl, hb, hg', hn, hm, by rw [List.size_toArray, length_splice _ _ _ (by omega)]; omega, ?_⟩⟩
  rw [splice_take _ _ _ _ hfit]
  rw [← ht]
theorem set_two {α : Type} (L : List α) (o : Nat) (a b : α) (h : o + 2 ≤ L.length) : (L.set o a).set (o + 1) b = splice L o [a, b] := by
 unfold splice
 apply List.ext_getElem?
 intro i
 simp only [List.getElem?_set, List.length_set, List.getElem?_append, List.length_take, List.getElem?_take, List.length_cons, List.length_nil, List.getElem?_drop]
 have e1 : min o L.length = o := by omega
 rw [e1]
 by_cases h1 : i < o
 ·rw [if_neg (by omega), if_neg (by omega), if_pos h1, if_pos h1]
 ·by_cases h2 : i = o
  ·subst h2
   rw [if_neg (by omega), if_pos rfl, if_pos (by omega), if_neg (by omega)]
   simp
  ·by_cases h3 : i = o + 1
   ·subst h3
    rw [if_pos rfl, if_pos (by omega), if_neg (by omega)]
    rw [show o + 1 - o = 1 by omega]
    simp
   ·rw [if_neg (by omega), if_neg (by omega), if_neg h1, if_neg (by simp; omega)]
    congr 1
    simp; omega
theorem flatN_len {α : Type} {enc : α → List Value} {k : Nat} (hk : ∀ a, (enc a).length = k) : ∀ l : List α, (l.flatMap enc).length = l.length * k
 | [] => by simp
 | a :: l => by rw [List.flatMap_cons, List.length_append, hk, flatN_len hk l, List.length_cons, Nat.add_mul]; omega
theorem ins_splice_n {α : Type} {enc : α → List Value} {k : Nat} (hk : ∀ a, (enc a).length = k) (S : List α) (z x : α) (i : Nat) (hi : i ≤ S.length) :
  splice (splice ((S ++ [z]).flatMap enc) ((i + 1) * k) ((S.drop i).flatMap enc)) (i * k) (enc x) = (S.take i ++ x :: S.drop i).flatMap enc := by
 have hA : (S.take i).length = i := by rw [List.length_take]; omega
 have hB : (S.drop i).length = S.length - i := List.length_drop
 have f1 := flatN_len hk (S.take i)
 have f2 := flatN_len hk (S.drop i)
 have f3 := flatN_len hk (S ++ [z])
 rw [hA] at f1
 rw [hB] at f2
 rw [List.length_append, List.length_singleton] at f3
 have m1 : (i + 1) * k = i * k + k := Nat.succ_mul i k
 have m2 : (S.length + 1) * k = i * k + (S.length - i) * k + k := by rw [← Nat.add_mul, ← Nat.succ_mul]; congr 1; omega
 have e0 : (S ++ [z]).flatMap enc = (S.take i).flatMap enc ++ ((S.drop i) ++ [z]).flatMap enc := by
  rw [← List.flatMap_append, ← List.append_assoc, List.take_append_drop]
 have hx := hk x
 generalize hP : (S.take i).flatMap enc = P at *
 generalize hQ : (S.drop i).flatMap enc = Q at *
 generalize hR : ((S.drop i) ++ [z]).flatMap enc = R at *
 have hRl : R.length = (S.length - i) * k + k := by
  have := f3
  rw [e0, List.length_append, f1] at this
  omega
 have hlhs : splice (P ++ R) ((i + 1) * k) Q = P ++ (R.take k ++ Q) := by
  unfold splice
  rw [List.drop_of_length_le (by rw [List.length_append, f1, hRl, f2]; omega), List.append_nil, List.take_append, List.take_of_length_le (by omega), f1, show (i + 1) * k - i * k = k by omega, List.append_assoc]
 rw [e0, hlhs]
 unfold splice
 rw [List.take_append, List.take_of_length_le (by omega), f1, Nat.sub_self, List.take_zero, List.append_nil, hx, List.drop_append, List.drop_of_length_le (by omega), f1, show i * k + k - i * k = k by omega, List.nil_append,
  List.drop_append, List.drop_of_length_le (by rw [List.length_take]; omega), List.nil_append, List.length_take, show k - min k R.length = 0 by omega, List.drop_zero]
 rw [List.flatMap_append, List.flatMap_cons, hP, hQ]
end Go.Proofs.YtikojiciilambaaGreat

/- The reference's networks: put. -/
namespace Go.Proofs.YtikojiciilambaaGreat
open Go.RowKit
set_option linter.unusedVariables false
set_option linter.unusedSimpArgs false
theorem pt_cells {W wr : World} {b : Nat} {v : Value} {L : List Pt} {B m : Nat} {q : Pt} (h : W.ownsRow B 53 2 v L.length (L.flatMap encS)) (hb : Below W.heap.size W wr) (hq : L[m]? = some q) : ∃ g c, v = .slice (some ⟨g, 0, none⟩) L.length c ∧ g < W.heap.size ∧ wr.cell? ⟨g, m * 2, none⟩ = some (.int .i64 q.1) ∧ wr.cell? ⟨g, m * 2 + 1, none⟩ = some (.int .i64 q.2) := by
 have hpos : 0 < L.length := by have := (List.getElem?_eq_some_iff.1 hq).1; omega
 obtain ⟨g, cap, rfl, hBg, hgw⟩ := h.form hpos
 refine ⟨g, cap, rfl, hgw, ?_, ?_⟩
 ·have := (h.cells (g := g) rfl) _ _ (flat_get (k := 2) (fun _ => rfl) _ m _ 0 _ hq rfl)
  rw [addr_add] at this
  exact (hb.cell (p := ⟨g, m * 2, none⟩) hgw).trans this
 ·have := (h.cells (g := g) rfl) _ _ (flat_get (k := 2) (fun _ => rfl) _ m _ 1 _ hq rfl)
  rw [addr_add] at this
  exact (hb.cell (p := ⟨g, m * 2 + 1, none⟩) hgw).trans this
theorem put_not {L : List Pt} {p : Pt} (h : L[befN p L]? ≠ some p) : putF L p = L.take (befN p L) ++ p :: L.drop (befN p L) := by
 unfold putF
 rw [if_neg h]
 simp
theorem put_is {L : List Pt} {p : Pt} (h : L[befN p L]? = some p) : putF L p = L := by
 unfold putF
 rw [if_pos h]
theorem bef_more {L : List Pt} {p q : Pt} {m : Nat} (hm : m ≤ befN p L) (hq : L[m]? = some q) (h : ptLt q p) : m + 1 ≤ befN p L := by
 rcases Nat.lt_or_ge m (befN p L) with h2 | h2
 ·exact h2
 ·have : m = befN p L := by omega
  rw [this] at hq
  exact absurd h (bef_at hq)
theorem bef_stop {L : List Pt} {p q : Pt} {m : Nat} (hm : m ≤ befN p L) (hq : L[m]? = some q) (h : ¬ ptLt q p) : m = befN p L := by
 rcases Nat.lt_or_ge m (befN p L) with h2 | h2
 ·exact absurd (bef_lt h2 hq) h
 ·omega
theorem grow_over {w X Y : World} {r : Option Nat} (h : Below w.heap.size w X) (hg : X.grownBy Y r) : w.grownBy Y r :=
 ⟨hg.os.trans h.os, hg.tape.trans h.tape, hg.output.trans h.output, Nat.le_trans h.size hg.size, fun k hk hne => (hg.block k (Nat.lt_of_lt_of_le hk h.size) hne).trans (h.block k hk)⟩
theorem grow_set {w X Y : World} {r : Option Nat} {g : Nat} (h : w.grownBy X r) (hr : r = some g ∨ w.heap.size ≤ g) (hg : X.grownBy Y (some g)) : w.grownBy Y r :=
 ⟨hg.os.trans h.os, hg.tape.trans h.tape, hg.output.trans h.output, Nat.le_trans h.size hg.size, fun k hk hne => (hg.block k (Nat.lt_of_lt_of_le hk h.size) (fun e => by
  injection e with e
  subst e
  rcases hr with hr | hr
  ·exact hne hr.symm
  ·omega)).trans (h.block k hk hne)⟩
theorem set_grown (w : World) (g i j : Nat) (u v : Value) : w.grownBy ((w.setCell ⟨g, i, none⟩ u).setCell ⟨g, j, none⟩ v) (some g) :=
 ⟨rfl, rfl, rfl, by simp, fun k _ hne => by
  have hk : k ≠ g := fun e => hne (by rw [e])
  rw [Go.Deep.blk_setCell_other _ _ _ _ hk, Go.Deep.blk_setCell_other _ _ _ _ hk]⟩
theorem grow_drew {w X : World} {r : Option Nat} (h : w.grownBy X r) : w.grownBy X.drew r := ⟨h.os, h.tape, h.output, h.size, h.block⟩
theorem grow_none {w X : World} {r : Option Nat} (h : Below w.heap.size w X) : w.grownBy X r := ⟨h.os, h.tape, h.output, h.size, fun k hk _ => h.block k hk⟩
set_option maxRecDepth 100000 in
set_option maxHeartbeats 8000000 in
theorem rput34_any {w : World} {B : Nat} {v : Value} {L : List Pt} {p : Pt} (hO : w.ownsRow B 53 2 v L.length (L.flatMap encS)) (hB : B ≤ w.heap.size) (hl : L.length ≤ 1000) :
  Calls Tryz.prog 206 #[v, .agg #[.int .i64 p.1, .int .i64 p.2]] w fun e w' => ∃ vo, e = .returned vo ∧ w'.ownsRow B 53 2 vo (putF L p).length ((putF L p).flatMap encS) ∧ w.grownBy w' v.ownBlock := by
 obtain ⟨px, py⟩ := p
 simp only
 obtain ⟨i1, gi, gz0, gz1, gz2⟩ := info_parts infoPt
 have geq : Tryz.prog.eqGuardType Tryz.prog.depth 53 = false := by kernel_rfl
 have HO := hide hO
 have HBB := hide hB
 clear hB
 obtain ⟨Av, cv, rfl⟩ := own_form hO
 clear hO
 obtain ⟨g, hg⟩ : ∃ g, w.heap.size = g := ⟨_, rfl⟩
 go_enter Tryz.func206, Tryz.ntmps206
 go_upto_region 1 with fail
 refine wp_name fun w0 hw0 => ?_
 have hb0 : Below w.heap.size w w0 := by rw [hw0]; exact (Below.refl _ _).alloc (Nat.le_refl _) _
 have p0 : w0.cell? ⟨g, 0, none⟩ = some (.int .i64 px) := by rw [hw0, ← hg]; simp [go_sem]
 have p1 : w0.cell? ⟨g, 1, none⟩ = some (.int .i64 py) := by rw [hw0, ← hg]; simp [go_sem]
 have hgl : g < w0.heap.size := by rw [hw0, ← hg]; simp
 have HB0 := hide hb0
 have HOX := hide (own_below HO.out hb0)
 have HP := hide (fun (W : World) (h : Below w0.heap.size w0 W) => And.intro ((h.cell (p := ⟨g, 0, none⟩) hgl).trans p0) ((h.cell (p := ⟨g, 1, none⟩) hgl).trans p1))
 have HG := hide hg
 clear hw0 hb0 p0 p1 hg
 go_wp2
 go_loopw [5] (fun i wr => ∃ k : Nat, k ≤ befN (px, py) L ∧ i = .int .i64 (k : Int) ∧ Hid (Below w0.heap.size w0 wr)) (fun i _ => L.length - (intOf i).toNat)
 case atStart => exact ⟨0, Nat.zero_le _, rfl, hide (Below.refl _ _)⟩
 case round =>
  obtain ⟨k, hk, rfl, HB1⟩ := hrel
  have hbl := bef_le (px, py) L
  obtain ⟨p0, p1⟩ := HP.out _ HB1.out
  have hgr : g < wr.heap.size := Nat.lt_of_lt_of_le hgl HB1.out.size
  by_cases hlt : k < L.length
  ·have kz : (k : Int) < (L.length : Int) := by omega
   have k0 : (0 : Int) ≤ (k : Int) := by omega
   obtain ⟨q, hq⟩ : ∃ q, L[k]? = some q := ⟨_, List.getElem?_eq_getElem hlt⟩
   obtain ⟨b, c, hvv, hbw, d0, d1⟩ := pt_cells (b := 0) HOX.out HB1.out hq
   injection hvv with e1 _ e3
   subst e1; subst e3
   have hbr : b < wr.heap.size := Nat.lt_of_lt_of_le hbw HB1.out.size
   by_cases h : ptLt q (px, py)
   ·have hk1 := bef_more hk hq h
    have HLS := hide (fun W => by have h2 := rLess34_any q (px, py) W; rw [decide_eq_true h] at h2; exact h2)
    clear h hq
    go_upto_region 2 with fail
    refine wp_hab fun hab => ?_
    refine wp_region_above (by kernel_rfl) (by kernel_rfl) ?_
    repeat (go_big_quiet_step ((go_at_call 228; exact above_of (HLS.out _))))
    refine wpQuiet_nil ?_
    refine above_ends fun w3 hb3 => ?_
    have HB2 := hide (HB1.out.trans (hb3.mono HB1.out.size))
    clear hab p0 p1 d0 d1 hb3 HLS
    go_wp2
    go_roundw
    case rel => exact ⟨k + 1, hk1, by go_num, HB2⟩
    case measure => simp [intOf]; omega
   ·have hke := bef_stop hk hq h
    have HKE := hide hke
    have HQ := hide hq
    have HLS := hide (fun W => by have h2 := rLess34_any q (px, py) W; rw [decide_eq_false h] at h2; exact h2)
    clear h hq hke
    go_upto_region 2 with fail
    refine wp_hab fun hab => ?_
    refine wp_region_above (by kernel_rfl) (by kernel_rfl) ?_
    repeat (go_big_quiet_step ((go_at_call 228; exact above_of (HLS.out _))))
    refine wpQuiet_nil ?_
    refine above_ends fun w3 hb3 => ?_
    have HB2 := hide (HB1.out.trans (hb3.mono HB1.out.size))
    obtain ⟨p0', p1'⟩ := HP.out _ HB2.out
    have d0' := (hb3.cell (p := ⟨b, _, none⟩) hbr).trans d0
    have d1' := (hb3.cell (p := ⟨b, _, none⟩) hbr).trans d1
    have hgr' : g < w3.heap.size := Nat.lt_of_lt_of_le hgl HB2.out.size
    have hbr' : b < w3.heap.size := Nat.lt_of_lt_of_le hbr hb3.size
    clear hab p0 p1 d0 d1 hb3 HLS hgr hbr
    by_cases heq : q = (px, py)
    ·have y1 : (q.1 == px) = true := by rw [heq]; simp
     have y2 : (q.2 == py) = true := by rw [heq]; simp
     have HE := hide (put_is (L := L) (p := (px, py)) (by rw [← HKE.out, HQ.out, heq]))
     clear heq
     go_upto_region 4 with fail
     go_quiet (fail)
     refine name_exit fun W hW => ?_
     have HBW : Hid (Below w0.heap.size w0 W) := hide (by rw [hW]; exact below_drewN HB2.out _)
     clear hW
     go_wp2_with (fail)
     go_ret
     exact ⟨_, rfl, by rw [HE.out]; exact own_below HO.out (HB0.out.trans (HBW.out.mono HB0.out.size)), grow_none (HB0.out.trans (HBW.out.mono HB0.out.size))⟩
    ·have HE := hide (put_not (L := L) (p := (px, py)) (by rw [← HKE.out, HQ.out]; intro e; injection e with e; exact heq e))
     have hne : (q.1 == px && q.2 == py) = false := by
      rw [Bool.eq_false_iff]
      intro h
      simp only [Bool.and_eq_true, beq_iff_eq] at h
      exact heq (Prod.ext h.1 h.2)
     rw [← HKE.out] at HE
     clear heq HKE HQ
     have hkl : k ≤ L.length := by omega
     cases y1 : (q.1 == px) with
     | true =>
      have y2 : (q.2 == py) = false := by rw [y1] at hne; simpa using hne
      clear hne
      go_upto_region 4 with fail
      go_quiet (fail)
      refine name_exit fun wd hwd => ?_
      have HBD : Hid (Below w0.heap.size w0 wd) := hide (by rw [hwd]; exact below_drewN HB2.out _)
      clear hwd p0' p1' d0' d1' hgr' hbr' y1
      have HOD := hide (own_below HOX.out HBD.out)
      have HWD := hide (HB0.out.trans (HBD.out.mono HB0.out.size))
      obtain ⟨d10, d11⟩ := HP.out _ HBD.out
      have hdz : w.heap.size ≤ wd.heap.size := HWD.out.size
      have hgz : g < wd.heap.size := Nat.lt_of_lt_of_le hgl HBD.out.size
      have hBv : ∀ q, (Value.slice (some ⟨b, 0, none⟩) L.length cv).ownBlock = some q → q < w.heap.size := fun q hq => (HO.out.lt q hq).2
      have HBV := hide hBv
      clear hBv
      go_wp2_with (at_builtin; go_loud (refine wpList_append_lies _ rfl (.tmp 33) (.tmp 35) 36 rfl B 53 i1 (.agg #[.int .i64 0, .int .i64 0]) 2 16 Tryz.underlying36 gi gz0 gz1 gz2 rfl (by decide) _ L.length _ rfl (HOD.out.alloc _) ⟨wd.heap.size, 0, none⟩ 1 1 [.int .i64 0, .int .i64 0] rfl rfl (news_new wd _ _ _ rfl) (ints_one rfl) (by omega) (by unfold maxLen; omega) (by omega) (by have := HBB.out; simp; omega) _ rfl ?_))
      intro g9 cap9 w2 hown2 hgrow hg9 _
      have hx2 : L.flatMap encS ++ [.int .i64 0, .int .i64 0] = (L ++ [((0, 0) : Pt)]).flatMap encS := by simp [encS]
      rw [hx2] at hown2
      have hgw := HG.out
      have hne9 : g9 ≠ g := by
       intro e
       rcases hg9 with h | h
       ·have := HBV.out g9 h; omega
       ·have : g9 = wd.heap.size + 1 := by simpa using h
        omega
      have hbox : ∀ o u, wd.cell? ⟨g, o, none⟩ = some u → w2.cell? ⟨g, o, none⟩ = some u := fun o u h =>
       World.grownBy.cell hgrow (a := ⟨g, o, none⟩) ((World.cell?_alloc_lt wd _ ⟨g, o, none⟩ hgz).trans h) (fun e => by have h9 := HBV.out _ e.symm; simp only at h9; omega)
      have g10 := hbox _ _ d10
      have g11 := hbox _ _ d11
      have HGW : Hid (w.grownBy w2 (Value.slice (some ⟨b, 0, none⟩) L.length cv).ownBlock) := hide (grow_over (HWD.out.alloc hdz _) hgrow)
      have hor9 : (Value.slice (some ⟨b, 0, none⟩) L.length cv).ownBlock = some g9 ∨ w.heap.size ≤ g9 := by
       rcases hg9 with h | h
       ·exact .inl h
       ·have : g9 = wd.heap.size + 1 := by simpa using h
        exact .inr (by omega)
      obtain ⟨_, cap9', cur9, e9, hbg9, hh9, hn9, hm9, hs9, ht9⟩ : ∃ (g' cap' : Nat) (cur : Array Value), Value.slice (some ⟨g9, 0, none⟩) (L.length + 1) cap9 = .slice (some ⟨g', 0, none⟩) (L.length + 1) cap' ∧ B ≤ g' ∧ w2.heap[g']? = some (.cells cur 53 (0, 0)) ∧ L.length + 1 ≤ cap' ∧ cap' ≤ maxLen ∧ cur.size = cap' * 2 ∧ cur.toList.take ((L.length + 1) * 2) = (L ++ [((0, 0) : Pt)]).flatMap encS := by
       rcases hown2.2 with ⟨e0, _⟩ | q
       ·cases e0
       ·exact q
      injection e9 with e1 _ e3
      injection e1 with e1
      injection e1 with e1
      subst e1; subst e3
      have HX2 := hide hown2
      have HH9 := hide hh9
      have HS9 := hide hs9
      have HOR9 := hide hor9
      have hgz2 : g < w2.heap.size := Nat.lt_of_lt_of_le (Nat.lt_of_lt_of_le hgz (by simp)) hgrow.size
      unfold maxLen at hm9
      clear hown2 hgrow hx2 hg9 hh9 hs9 ht9 d10 d11 hbox hor9 hgw
      have r1 : IntKind.i64.wrap ((k : Int) + 1) = (k : Int) + 1 := by simp [IntKind.wrap, IntKind.bits, IntKind.signed]; omega
      have r2 : (0 : Int) ≤ (k : Int) + 1 := by omega
      have r3 : (k : Int) + 1 ≤ (L.length : Int) + 1 := by omega
      have r4 : ((k : Int) + 1).toNat = k + 1 := by omega
      have r5 : (0 : Int) ≤ (k : Int) := by omega
      have r6 : (k : Int) ≤ (L.length : Int) + 1 := by omega
      have r7 : ((k : Int)).toNat = k := by omega
      go_upto_region 7 with fail
      refine wp_region_reads0 7 (by kernel_rfl) (by kernel_rfl) ?_
      simp only [List.take_succ_cons, List.take_zero, List.drop_succ_cons, List.drop_zero]
      iterate 7
       refine ⟨?_, Or.inl ⟨by rfl, ?_⟩, ?_⟩
       rotate_left 1
       ·intro w' _
        go_simp
        first | done | with_reducible rfl
       simp only [Act.put, List.setIfInBounds_toArray, List.set_cons_zero, List.set_cons_succ]
      clear r1 r2 r3 r4 r5 r6 r7
      simp only [wpReads]
      intro K hK
      have hcur : w2.drew.heap[g9]? = some (.cells cur9.toList.toArray 53 (0, 0)) := by show w2.heap[g9]? = _; simpa using HH9.out
      have hcl : cur9.toList.length = cap9 * 2 := by simpa using HS9.out
      have hfl : ((L.drop k).flatMap encS).length = (L.length - k) * 2 := by rw [flatN_len (k := 2) (fun _ => rfl), List.length_drop]
      refine step_copy_n rfl (.tmp 40) (.tmp 43) 36 36 rfl 53 Tryz.underlying36 2 (by kernel_rfl) _ _ _ _ _ _ rfl rfl g9 ((k + 1) * 2) cur9.toList 53 hcur ((L.drop k).flatMap encS) (L.length - k) (by show _ = min _ _; omega) hfl ?_ (by omega) (one_encS _) 0 w2.drew (Below.refl _ _) (Nat.zero_le _) ?_
      ·intro hpos
       refine ⟨by first | rfl | rw [if_neg (by omega)], ⟨g9, k * 2, none⟩, by first | rfl | rw [if_neg (by omega)], fun i u hi => ?_⟩
       have hi2 : ((L ++ [((0, 0) : Pt)]).flatMap encS)[k * 2 + i]? = some u := by
        have e0 : (L ++ [((0, 0) : Pt)]).flatMap encS = (L.take k).flatMap encS ++ ((L.drop k).flatMap encS ++ encS ((0, 0) : Pt)) := by
         rw [← List.append_assoc, ← List.flatMap_append, List.take_append_drop, List.flatMap_append]
         rw [List.flatMap_cons, List.flatMap_nil, List.append_nil]
        have e1 : ((L.take k).flatMap encS).length = k * 2 := by rw [flatN_len (k := 2) (fun _ => rfl), List.length_take]; omega
        rw [e0, List.getElem?_append_right (by omega), e1, Nat.add_sub_cancel_left, List.getElem?_append_left (List.getElem?_eq_some_iff.1 hi).1]
        exact hi
       have := (HX2.out.cells (g := g9) rfl) _ _ hi2
       rw [addr_add] at this
       rw [addr_add']
       exact this
      ·intro w3 hsp hb3 hgr3
       have hx3 := own_copied_n HX2.out (by simpa using HH9.out) hsp.out (by omega)
       have k10 := World.grownBy.cell hgr3 (a := ⟨g, 0, none⟩) (show w2.drew.cell? _ = _ from g10) (by simpa using Ne.symm hne9)
       have k11 := World.grownBy.cell hgr3 (a := ⟨g, 1, none⟩) (show w2.drew.cell? _ = _ from g11) (by simpa using Ne.symm hne9)
       have hg3 : g < w3.heap.size := Nat.lt_of_lt_of_le hgz2 hgr3.size
       have HGW3 := hide (grow_set (grow_drew HGW.out) HOR9.out hgr3)
       refine hK _ _ (fun _ => trivial) ?_
       clear hK K
       refine NoPanic.normal ?_
       have hlen3 := hx3.1
       obtain ⟨u3, c30⟩ : ∃ u, w3.cell? ⟨g9, k * 2, none⟩ = some u := by
        have := (hx3.cells (g := g9) rfl) (k * 2) _ (List.getElem?_eq_getElem (by omega))
        rw [addr_add] at this
        exact ⟨_, this⟩
       obtain ⟨u4, c31⟩ : ∃ u, w3.cell? ⟨g9, k * 2 + 1, none⟩ = some u := by
        have := (hx3.cells (g := g9) rfl) (k * 2 + 1) _ (List.getElem?_eq_getElem (by omega))
        rw [addr_add] at this
        exact ⟨_, this⟩
       have f30 : w3.frozen? ⟨g9, k * 2, none⟩ = false := hx3.frozenAt _
       have f31 : w3.frozen? ⟨g9, k * 2 + 1, none⟩ = false := hx3.frozenAt _
       have hg93 : g9 < w3.heap.size := (hx3.lt g9 rfl).2
       have hst := ((hx3.stored (k * 2) (.int .i64 px)).1.stored (k * 2 + 1) (.int .i64 py)).1
       rw [set_two _ _ _ _ (by omega)] at hst
       have hsp2 := ins_splice_n (enc := encS) (k := 2) (fun _ => rfl) L ((0, 0) : Pt) ((px, py) : Pt) k hkl
       rw [show ([.int .i64 px, .int .i64 py] : List Value) = encS ((px, py) : Pt) from rfl, hsp2, ← HE.out] at hst
       have HST := hide hst
       have HLN : Hid ((putF L (px, py)).length = L.length + 1) := hide (by rw [HE.out]; simp; omega)
       have HGW4 := hide (grow_set HGW3.out HOR9.out (set_grown w3 g9 (k * 2) (k * 2 + 1) (.int .i64 px) (.int .i64 py)))
       have kz1 : (k : Int) < (L.length : Int) + 1 := by omega
       have kz0 : (0 : Int) ≤ (k : Int) := by omega
       clear hst hx3 hsp hb3 hcur hcl hgr3 hsp2 hfl hlen3
       go_wp2
       go_ret
       exact ⟨_, rfl, by rw [HLN.out]; exact HST.out, HGW4.out⟩
     | false =>
      clear hne
      go_upto_region 4 with fail
      go_quiet (fail)
      refine name_exit fun wd hwd => ?_
      have HBD : Hid (Below w0.heap.size w0 wd) := hide (by rw [hwd]; exact below_drewN HB2.out _)
      clear hwd p0' p1' d0' d1' hgr' hbr' y1
      have HOD := hide (own_below HOX.out HBD.out)
      have HWD := hide (HB0.out.trans (HBD.out.mono HB0.out.size))
      obtain ⟨d10, d11⟩ := HP.out _ HBD.out
      have hdz : w.heap.size ≤ wd.heap.size := HWD.out.size
      have hgz : g < wd.heap.size := Nat.lt_of_lt_of_le hgl HBD.out.size
      have hBv : ∀ q, (Value.slice (some ⟨b, 0, none⟩) L.length cv).ownBlock = some q → q < w.heap.size := fun q hq => (HO.out.lt q hq).2
      have HBV := hide hBv
      clear hBv
      go_wp2_with (at_builtin; go_loud (refine wpList_append_lies _ rfl (.tmp 33) (.tmp 35) 36 rfl B 53 i1 (.agg #[.int .i64 0, .int .i64 0]) 2 16 Tryz.underlying36 gi gz0 gz1 gz2 rfl (by decide) _ L.length _ rfl (HOD.out.alloc _) ⟨wd.heap.size, 0, none⟩ 1 1 [.int .i64 0, .int .i64 0] rfl rfl (news_new wd _ _ _ rfl) (ints_one rfl) (by omega) (by unfold maxLen; omega) (by omega) (by have := HBB.out; simp; omega) _ rfl ?_))
      intro g9 cap9 w2 hown2 hgrow hg9 _
      have hx2 : L.flatMap encS ++ [.int .i64 0, .int .i64 0] = (L ++ [((0, 0) : Pt)]).flatMap encS := by simp [encS]
      rw [hx2] at hown2
      have hgw := HG.out
      have hne9 : g9 ≠ g := by
       intro e
       rcases hg9 with h | h
       ·have := HBV.out g9 h; omega
       ·have : g9 = wd.heap.size + 1 := by simpa using h
        omega
      have hbox : ∀ o u, wd.cell? ⟨g, o, none⟩ = some u → w2.cell? ⟨g, o, none⟩ = some u := fun o u h =>
       World.grownBy.cell hgrow (a := ⟨g, o, none⟩) ((World.cell?_alloc_lt wd _ ⟨g, o, none⟩ hgz).trans h) (fun e => by have h9 := HBV.out _ e.symm; simp only at h9; omega)
      have g10 := hbox _ _ d10
      have g11 := hbox _ _ d11
      have HGW : Hid (w.grownBy w2 (Value.slice (some ⟨b, 0, none⟩) L.length cv).ownBlock) := hide (grow_over (HWD.out.alloc hdz _) hgrow)
      have hor9 : (Value.slice (some ⟨b, 0, none⟩) L.length cv).ownBlock = some g9 ∨ w.heap.size ≤ g9 := by
       rcases hg9 with h | h
       ·exact .inl h
       ·have : g9 = wd.heap.size + 1 := by simpa using h
        exact .inr (by omega)
      obtain ⟨_, cap9', cur9, e9, hbg9, hh9, hn9, hm9, hs9, ht9⟩ : ∃ (g' cap' : Nat) (cur : Array Value), Value.slice (some ⟨g9, 0, none⟩) (L.length + 1) cap9 = .slice (some ⟨g', 0, none⟩) (L.length + 1) cap' ∧ B ≤ g' ∧ w2.heap[g']? = some (.cells cur 53 (0, 0)) ∧ L.length + 1 ≤ cap' ∧ cap' ≤ maxLen ∧ cur.size = cap' * 2 ∧ cur.toList.take ((L.length + 1) * 2) = (L ++ [((0, 0) : Pt)]).flatMap encS := by
       rcases hown2.2 with ⟨e0, _⟩ | q
       ·cases e0
       ·exact q
      injection e9 with e1 _ e3
      injection e1 with e1
      injection e1 with e1
      subst e1; subst e3
      have HX2 := hide hown2
      have HH9 := hide hh9
      have HS9 := hide hs9
      have HOR9 := hide hor9
      have hgz2 : g < w2.heap.size := Nat.lt_of_lt_of_le (Nat.lt_of_lt_of_le hgz (by simp)) hgrow.size
      unfold maxLen at hm9
      clear hown2 hgrow hx2 hg9 hh9 hs9 ht9 d10 d11 hbox hor9 hgw
      have r1 : IntKind.i64.wrap ((k : Int) + 1) = (k : Int) + 1 := by simp [IntKind.wrap, IntKind.bits, IntKind.signed]; omega
      have r2 : (0 : Int) ≤ (k : Int) + 1 := by omega
      have r3 : (k : Int) + 1 ≤ (L.length : Int) + 1 := by omega
      have r4 : ((k : Int) + 1).toNat = k + 1 := by omega
      have r5 : (0 : Int) ≤ (k : Int) := by omega
      have r6 : (k : Int) ≤ (L.length : Int) + 1 := by omega
      have r7 : ((k : Int)).toNat = k := by omega
      go_upto_region 7 with fail
      refine wp_region_reads0 7 (by kernel_rfl) (by kernel_rfl) ?_
      simp only [List.take_succ_cons, List.take_zero, List.drop_succ_cons, List.drop_zero]
      iterate 7
       refine ⟨?_, Or.inl ⟨by rfl, ?_⟩, ?_⟩
       rotate_left 1
       ·intro w' _
        go_simp
        first | done | with_reducible rfl
       simp only [Act.put, List.setIfInBounds_toArray, List.set_cons_zero, List.set_cons_succ]
      clear r1 r2 r3 r4 r5 r6 r7
      simp only [wpReads]
      intro K hK
      have hcur : w2.drew.heap[g9]? = some (.cells cur9.toList.toArray 53 (0, 0)) := by show w2.heap[g9]? = _; simpa using HH9.out
      have hcl : cur9.toList.length = cap9 * 2 := by simpa using HS9.out
      have hfl : ((L.drop k).flatMap encS).length = (L.length - k) * 2 := by rw [flatN_len (k := 2) (fun _ => rfl), List.length_drop]
      refine step_copy_n rfl (.tmp 40) (.tmp 43) 36 36 rfl 53 Tryz.underlying36 2 (by kernel_rfl) _ _ _ _ _ _ rfl rfl g9 ((k + 1) * 2) cur9.toList 53 hcur ((L.drop k).flatMap encS) (L.length - k) (by show _ = min _ _; omega) hfl ?_ (by omega) (one_encS _) 0 w2.drew (Below.refl _ _) (Nat.zero_le _) ?_
      ·intro hpos
       refine ⟨by first | rfl | rw [if_neg (by omega)], ⟨g9, k * 2, none⟩, by first | rfl | rw [if_neg (by omega)], fun i u hi => ?_⟩
       have hi2 : ((L ++ [((0, 0) : Pt)]).flatMap encS)[k * 2 + i]? = some u := by
        have e0 : (L ++ [((0, 0) : Pt)]).flatMap encS = (L.take k).flatMap encS ++ ((L.drop k).flatMap encS ++ encS ((0, 0) : Pt)) := by
         rw [← List.append_assoc, ← List.flatMap_append, List.take_append_drop, List.flatMap_append]
         rw [List.flatMap_cons, List.flatMap_nil, List.append_nil]
        have e1 : ((L.take k).flatMap encS).length = k * 2 := by rw [flatN_len (k := 2) (fun _ => rfl), List.length_take]; omega
        rw [e0, List.getElem?_append_right (by omega), e1, Nat.add_sub_cancel_left, List.getElem?_append_left (List.getElem?_eq_some_iff.1 hi).1]
        exact hi
       have := (HX2.out.cells (g := g9) rfl) _ _ hi2
       rw [addr_add] at this
       rw [addr_add']
       exact this
      ·intro w3 hsp hb3 hgr3
       have hx3 := own_copied_n HX2.out (by simpa using HH9.out) hsp.out (by omega)
       have k10 := World.grownBy.cell hgr3 (a := ⟨g, 0, none⟩) (show w2.drew.cell? _ = _ from g10) (by simpa using Ne.symm hne9)
       have k11 := World.grownBy.cell hgr3 (a := ⟨g, 1, none⟩) (show w2.drew.cell? _ = _ from g11) (by simpa using Ne.symm hne9)
       have hg3 : g < w3.heap.size := Nat.lt_of_lt_of_le hgz2 hgr3.size
       have HGW3 := hide (grow_set (grow_drew HGW.out) HOR9.out hgr3)
       refine hK _ _ (fun _ => trivial) ?_
       clear hK K
       refine NoPanic.normal ?_
       have hlen3 := hx3.1
       obtain ⟨u3, c30⟩ : ∃ u, w3.cell? ⟨g9, k * 2, none⟩ = some u := by
        have := (hx3.cells (g := g9) rfl) (k * 2) _ (List.getElem?_eq_getElem (by omega))
        rw [addr_add] at this
        exact ⟨_, this⟩
       obtain ⟨u4, c31⟩ : ∃ u, w3.cell? ⟨g9, k * 2 + 1, none⟩ = some u := by
        have := (hx3.cells (g := g9) rfl) (k * 2 + 1) _ (List.getElem?_eq_getElem (by omega))
        rw [addr_add] at this
        exact ⟨_, this⟩
       have f30 : w3.frozen? ⟨g9, k * 2, none⟩ = false := hx3.frozenAt _
       have f31 : w3.frozen? ⟨g9, k * 2 + 1, none⟩ = false := hx3.frozenAt _
       have hg93 : g9 < w3.heap.size := (hx3.lt g9 rfl).2
       have hst := ((hx3.stored (k * 2) (.int .i64 px)).1.stored (k * 2 + 1) (.int .i64 py)).1
       rw [set_two _ _ _ _ (by omega)] at hst
       have hsp2 := ins_splice_n (enc := encS) (k := 2) (fun _ => rfl) L ((0, 0) : Pt) ((px, py) : Pt) k hkl
       rw [show ([.int .i64 px, .int .i64 py] : List Value) = encS ((px, py) : Pt) from rfl, hsp2, ← HE.out] at hst
       have HST := hide hst
       have HLN : Hid ((putF L (px, py)).length = L.length + 1) := hide (by rw [HE.out]; simp; omega)
       have HGW4 := hide (grow_set HGW3.out HOR9.out (set_grown w3 g9 (k * 2) (k * 2 + 1) (.int .i64 px) (.int .i64 py)))
       have kz1 : (k : Int) < (L.length : Int) + 1 := by omega
       have kz0 : (0 : Int) ≤ (k : Int) := by omega
       clear hst hx3 hsp hb3 hcur hcl hgr3 hsp2 hfl hlen3
       go_wp2
       go_ret
       exact ⟨_, rfl, by rw [HLN.out]; exact HST.out, HGW4.out⟩
  ·have kz : ¬ (k : Int) < (L.length : Int) := by omega
   have hke : k = befN (px, py) L := by omega
   have HE := hide (put_not (L := L) (p := (px, py)) (by rw [← hke, List.getElem?_eq_none (by omega)]; simp))
   rw [← hke] at HE
   have hkl : k ≤ L.length := by omega
   clear hke
   go_upto_region 2 with fail
   go_quiet (fail)
   refine name_exit fun W1 hW1 => ?_
   have HB2 : Hid (Below w0.heap.size w0 W1) := hide (by rw [hW1]; exact below_drewN HB1.out _)
   clear hW1 p0 p1 hgr
   go_upto_region 4 with fail
   go_quiet (fail)
   refine name_exit fun wd hwd => ?_
   have HBD : Hid (Below w0.heap.size w0 wd) := hide (by rw [hwd]; exact below_drewN HB2.out _)
   clear hwd 
   have HOD := hide (own_below HOX.out HBD.out)
   have HWD := hide (HB0.out.trans (HBD.out.mono HB0.out.size))
   obtain ⟨d10, d11⟩ := HP.out _ HBD.out
   have hdz : w.heap.size ≤ wd.heap.size := HWD.out.size
   have hgz : g < wd.heap.size := Nat.lt_of_lt_of_le hgl HBD.out.size
   have hBv : ∀ q, (Value.slice Av L.length cv).ownBlock = some q → q < w.heap.size := fun q hq => (HO.out.lt q hq).2
   have HBV := hide hBv
   clear hBv
   go_wp2_with (at_builtin; go_loud (refine wpList_append_lies _ rfl (.tmp 33) (.tmp 35) 36 rfl B 53 i1 (.agg #[.int .i64 0, .int .i64 0]) 2 16 Tryz.underlying36 gi gz0 gz1 gz2 rfl (by decide) _ L.length _ rfl (HOD.out.alloc _) ⟨wd.heap.size, 0, none⟩ 1 1 [.int .i64 0, .int .i64 0] rfl rfl (news_new wd _ _ _ rfl) (ints_one rfl) (by omega) (by unfold maxLen; omega) (by omega) (by have := HBB.out; simp; omega) _ rfl ?_))
   intro g9 cap9 w2 hown2 hgrow hg9 _
   have hx2 : L.flatMap encS ++ [.int .i64 0, .int .i64 0] = (L ++ [((0, 0) : Pt)]).flatMap encS := by simp [encS]
   rw [hx2] at hown2
   have hgw := HG.out
   have hne9 : g9 ≠ g := by
    intro e
    rcases hg9 with h | h
    ·have := HBV.out g9 h; omega
    ·have : g9 = wd.heap.size + 1 := by simpa using h
     omega
   have hbox : ∀ o u, wd.cell? ⟨g, o, none⟩ = some u → w2.cell? ⟨g, o, none⟩ = some u := fun o u h =>
    World.grownBy.cell hgrow (a := ⟨g, o, none⟩) ((World.cell?_alloc_lt wd _ ⟨g, o, none⟩ hgz).trans h) (fun e => by have h9 := HBV.out _ e.symm; simp only at h9; omega)
   have g10 := hbox _ _ d10
   have g11 := hbox _ _ d11
   have HGW : Hid (w.grownBy w2 (Value.slice Av L.length cv).ownBlock) := hide (grow_over (HWD.out.alloc hdz _) hgrow)
   have hor9 : (Value.slice Av L.length cv).ownBlock = some g9 ∨ w.heap.size ≤ g9 := by
    rcases hg9 with h | h
    ·exact .inl h
    ·have : g9 = wd.heap.size + 1 := by simpa using h
     exact .inr (by omega)
   obtain ⟨_, cap9', cur9, e9, hbg9, hh9, hn9, hm9, hs9, ht9⟩ : ∃ (g' cap' : Nat) (cur : Array Value), Value.slice (some ⟨g9, 0, none⟩) (L.length + 1) cap9 = .slice (some ⟨g', 0, none⟩) (L.length + 1) cap' ∧ B ≤ g' ∧ w2.heap[g']? = some (.cells cur 53 (0, 0)) ∧ L.length + 1 ≤ cap' ∧ cap' ≤ maxLen ∧ cur.size = cap' * 2 ∧ cur.toList.take ((L.length + 1) * 2) = (L ++ [((0, 0) : Pt)]).flatMap encS := by
    rcases hown2.2 with ⟨e0, _⟩ | q
    ·cases e0
    ·exact q
   injection e9 with e1 _ e3
   injection e1 with e1
   injection e1 with e1
   subst e1; subst e3
   have HX2 := hide hown2
   have HH9 := hide hh9
   have HS9 := hide hs9
   have HOR9 := hide hor9
   have hgz2 : g < w2.heap.size := Nat.lt_of_lt_of_le (Nat.lt_of_lt_of_le hgz (by simp)) hgrow.size
   unfold maxLen at hm9
   clear hown2 hgrow hx2 hg9 hh9 hs9 ht9 d10 d11 hbox hor9 hgw
   have r1 : IntKind.i64.wrap ((k : Int) + 1) = (k : Int) + 1 := by simp [IntKind.wrap, IntKind.bits, IntKind.signed]; omega
   have r2 : (0 : Int) ≤ (k : Int) + 1 := by omega
   have r3 : (k : Int) + 1 ≤ (L.length : Int) + 1 := by omega
   have r4 : ((k : Int) + 1).toNat = k + 1 := by omega
   have r5 : (0 : Int) ≤ (k : Int) := by omega
   have r6 : (k : Int) ≤ (L.length : Int) + 1 := by omega
   have r7 : ((k : Int)).toNat = k := by omega
   go_upto_region 7 with fail
   refine wp_region_reads0 7 (by kernel_rfl) (by kernel_rfl) ?_
   simp only [List.take_succ_cons, List.take_zero, List.drop_succ_cons, List.drop_zero]
   iterate 7
    refine ⟨?_, Or.inl ⟨by rfl, ?_⟩, ?_⟩
    rotate_left 1
    ·intro w' _
     go_simp
     first | done | with_reducible rfl
    simp only [Act.put, List.setIfInBounds_toArray, List.set_cons_zero, List.set_cons_succ]
   clear r1 r2 r3 r4 r5 r6 r7
   simp only [wpReads]
   intro K hK
   have hcur : w2.drew.heap[g9]? = some (.cells cur9.toList.toArray 53 (0, 0)) := by show w2.heap[g9]? = _; simpa using HH9.out
   have hcl : cur9.toList.length = cap9 * 2 := by simpa using HS9.out
   have hfl : ((L.drop k).flatMap encS).length = (L.length - k) * 2 := by rw [flatN_len (k := 2) (fun _ => rfl), List.length_drop]
   refine step_copy_n rfl (.tmp 40) (.tmp 43) 36 36 rfl 53 Tryz.underlying36 2 (by kernel_rfl) _ _ _ _ _ _ rfl rfl g9 ((k + 1) * 2) cur9.toList 53 hcur ((L.drop k).flatMap encS) (L.length - k) (by show _ = min _ _; omega) hfl ?_ (by omega) (one_encS _) 0 w2.drew (Below.refl _ _) (Nat.zero_le _) ?_
   ·intro hpos
    refine ⟨by first | rfl | rw [if_neg (by omega)], ⟨g9, k * 2, none⟩, by first | rfl | rw [if_neg (by omega)], fun i u hi => ?_⟩
    have hi2 : ((L ++ [((0, 0) : Pt)]).flatMap encS)[k * 2 + i]? = some u := by
     have e0 : (L ++ [((0, 0) : Pt)]).flatMap encS = (L.take k).flatMap encS ++ ((L.drop k).flatMap encS ++ encS ((0, 0) : Pt)) := by
      rw [← List.append_assoc, ← List.flatMap_append, List.take_append_drop, List.flatMap_append]
      rw [List.flatMap_cons, List.flatMap_nil, List.append_nil]
     have e1 : ((L.take k).flatMap encS).length = k * 2 := by rw [flatN_len (k := 2) (fun _ => rfl), List.length_take]; omega
     rw [e0, List.getElem?_append_right (by omega), e1, Nat.add_sub_cancel_left, List.getElem?_append_left (List.getElem?_eq_some_iff.1 hi).1]
     exact hi
    have := (HX2.out.cells (g := g9) rfl) _ _ hi2
    rw [addr_add] at this
    rw [addr_add']
    exact this
   ·intro w3 hsp hb3 hgr3
    have hx3 := own_copied_n HX2.out (by simpa using HH9.out) hsp.out (by omega)
    have k10 := World.grownBy.cell hgr3 (a := ⟨g, 0, none⟩) (show w2.drew.cell? _ = _ from g10) (by simpa using Ne.symm hne9)
    have k11 := World.grownBy.cell hgr3 (a := ⟨g, 1, none⟩) (show w2.drew.cell? _ = _ from g11) (by simpa using Ne.symm hne9)
    have hg3 : g < w3.heap.size := Nat.lt_of_lt_of_le hgz2 hgr3.size
    have HGW3 := hide (grow_set (grow_drew HGW.out) HOR9.out hgr3)
    refine hK _ _ (fun _ => trivial) ?_
    clear hK K
    refine NoPanic.normal ?_
    have hlen3 := hx3.1
    obtain ⟨u3, c30⟩ : ∃ u, w3.cell? ⟨g9, k * 2, none⟩ = some u := by
     have := (hx3.cells (g := g9) rfl) (k * 2) _ (List.getElem?_eq_getElem (by omega))
     rw [addr_add] at this
     exact ⟨_, this⟩
    obtain ⟨u4, c31⟩ : ∃ u, w3.cell? ⟨g9, k * 2 + 1, none⟩ = some u := by
     have := (hx3.cells (g := g9) rfl) (k * 2 + 1) _ (List.getElem?_eq_getElem (by omega))
     rw [addr_add] at this
     exact ⟨_, this⟩
    have f30 : w3.frozen? ⟨g9, k * 2, none⟩ = false := hx3.frozenAt _
    have f31 : w3.frozen? ⟨g9, k * 2 + 1, none⟩ = false := hx3.frozenAt _
    have hg93 : g9 < w3.heap.size := (hx3.lt g9 rfl).2
    have hst := ((hx3.stored (k * 2) (.int .i64 px)).1.stored (k * 2 + 1) (.int .i64 py)).1
    rw [set_two _ _ _ _ (by omega)] at hst
    have hsp2 := ins_splice_n (enc := encS) (k := 2) (fun _ => rfl) L ((0, 0) : Pt) ((px, py) : Pt) k hkl
    rw [show ([.int .i64 px, .int .i64 py] : List Value) = encS ((px, py) : Pt) from rfl, hsp2, ← HE.out] at hst
    have HST := hide hst
    have HLN : Hid ((putF L (px, py)).length = L.length + 1) := hide (by rw [HE.out]; simp; omega)
    have HGW4 := hide (grow_set HGW3.out HOR9.out (set_grown w3 g9 (k * 2) (k * 2 + 1) (.int .i64 px) (.int .i64 py)))
    have kz1 : (k : Int) < (L.length : Int) + 1 := by omega
    have kz0 : (0 : Int) ≤ (k : Int) := by omega
    clear hst hx3 hsp hb3 hcur hcl hgr3 hsp2 hfl hlen3
    go_wp2
    all_goals try (have hcc : cap9 = k + 1 := (by first | assumption | omega); rw [hcc] at HST)
    all_goals (go_ret; exact ⟨_, rfl, by rw [HLN.out]; exact HST.out, HGW4.out⟩)
end Go.Proofs.YtikojiciilambaaGreat
