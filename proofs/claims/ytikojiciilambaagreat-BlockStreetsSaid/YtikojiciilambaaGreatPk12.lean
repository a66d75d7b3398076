/- Texts laid together: GraE, StrL, StrN. Lemmas for the statements of this seat; no condition. -/
import Derived.Test.YtikojiciilambaaGreatPk11
import Derived.Test.YtikojiciilambaaGreatPk3
import Derived.Test.YtikojiciilambaaGreatPk1

/- The reference's networks: nodes. -/
namespace Go.Proofs.YtikojiciilambaaGreat
open Go.RowKit
set_option linter.unusedVariables false
set_option linter.unusedSimpArgs false
def crossB (s : Sp) (x : Int) : Bool := decide (s.1 < x) && decide (x < s.2)
def endsN (C : List Ln) (s : Sp) (n : Nat) : List Int := [s.1, s.2] ++ ((C.take n).map (·.1)).filter (crossB s)
def endsC (C : List Ln) (s : Sp) : List Int := endsN C s C.length
def DE (E : List Int) (a : Int) (n : Nat) (p : Pt) : Prop := ∃ j x, j < n ∧ E[j]? = some x ∧ p = (x, a)
def DK (C : List Ln) (q : Ln) (k : Nat) (p : Pt) : Prop := ∃ j s x, j < k ∧ q.2[j]? = some s ∧ x ∈ endsC C s ∧ p = (x, q.1)
def DR (R C : List Ln) (m : Nat) (p : Pt) : Prop := ∃ j q, j < m ∧ R[j]? = some q ∧ DK C q q.2.length p
def DKc (q : Ln) (k : Nat) (p : Pt) : Prop := ∃ j s, j < k ∧ q.2[j]? = some s ∧ (p = (q.1, s.1) ∨ p = (q.1, s.2))
def DC (C : List Ln) (m : Nat) (p : Pt) : Prop := ∃ j q, j < m ∧ C[j]? = some q ∧ DKc q q.2.length p
theorem DE_zero {E : List Int} {a : Int} {p : Pt} : ¬ DE E a 0 p := fun ⟨j, _, h, _⟩ => by omega
theorem DK_zero {C : List Ln} {q : Ln} {p : Pt} : ¬ DK C q 0 p := fun ⟨j, _, _, h, _⟩ => by omega
theorem DR_zero {R C : List Ln} {p : Pt} : ¬ DR R C 0 p := fun ⟨j, _, h, _⟩ => by omega
theorem DKc_zero {q : Ln} {p : Pt} : ¬ DKc q 0 p := fun ⟨j, _, h, _⟩ => by omega
theorem DC_zero {C : List Ln} {p : Pt} : ¬ DC C 0 p := fun ⟨j, _, h, _⟩ => by omega
theorem DE_succ {E : List Int} {a x : Int} {n : Nat} {p : Pt} (hx : E[n]? = some x) (h : DE E a (n + 1) p) : DE E a n p ∨ p = (x, a) := by
 obtain ⟨j, y, h1, h2, h3⟩ := h
 rcases Nat.lt_or_ge j n with h4 | h4
 ·exact .inl ⟨j, y, h4, h2, h3⟩
 ·have e : j = n := by omega
  rw [e, hx] at h2
  injection h2 with h2
  rw [← h2] at h3
  exact .inr h3
theorem DK_succ {C : List Ln} {q : Ln} {s : Sp} {k : Nat} {p : Pt} (hs : q.2[k]? = some s) (h : DK C q (k + 1) p) : DK C q k p ∨ DE (endsC C s) q.1 (endsC C s).length p := by
 obtain ⟨j, y, x, h1, h2, h3, h4⟩ := h
 rcases Nat.lt_or_ge j k with h5 | h5
 ·exact .inl ⟨j, y, x, h5, h2, h3, h4⟩
 ·have e : j = k := by omega
  rw [e, hs] at h2
  injection h2 with h2
  rw [← h2] at h3
  obtain ⟨t, ht, e2⟩ := List.getElem_of_mem h3
  exact .inr ⟨t, x, ht, by rw [List.getElem?_eq_getElem ht, e2], h4⟩
theorem DR_succ {R C : List Ln} {q : Ln} {m : Nat} {p : Pt} (hq : R[m]? = some q) (h : DR R C (m + 1) p) : DR R C m p ∨ DK C q q.2.length p := by
 obtain ⟨j, y, h1, h2, h3⟩ := h
 rcases Nat.lt_or_ge j m with h5 | h5
 ·exact .inl ⟨j, y, h5, h2, h3⟩
 ·have e : j = m := by omega
  rw [e, hq] at h2
  injection h2 with h2
  rw [← h2] at h3
  exact .inr h3
theorem DKc_succ {q : Ln} {s : Sp} {k : Nat} {p : Pt} (hs : q.2[k]? = some s) (h : DKc q (k + 1) p) : (DKc q k p ∨ p = (q.1, s.1)) ∨ p = (q.1, s.2) := by
 obtain ⟨j, y, h1, h2, h3⟩ := h
 rcases Nat.lt_or_ge j k with h5 | h5
 ·exact .inl (.inl ⟨j, y, h5, h2, h3⟩)
 ·have e : j = k := by omega
  rw [e, hs] at h2
  injection h2 with h2
  rw [← h2] at h3
  rcases h3 with h3 | h3
  ·exact .inl (.inr h3)
  ·exact .inr h3
theorem DC_succ {C : List Ln} {q : Ln} {m : Nat} {p : Pt} (hq : C[m]? = some q) (h : DC C (m + 1) p) : DC C m p ∨ DKc q q.2.length p := by
 obtain ⟨j, y, h1, h2, h3⟩ := h
 rcases Nat.lt_or_ge j m with h5 | h5
 ·exact .inl ⟨j, y, h5, h2, h3⟩
 ·have e : j = m := by omega
  rw [e, hq] at h2
  injection h2 with h2
  rw [← h2] at h3
  exact .inr h3
theorem endsN_zero (C : List Ln) (s : Sp) : endsN C s 0 = [s.1, s.2] := by simp [endsN]
theorem endsN_in {C : List Ln} {s : Sp} {n : Nat} {c : Ln} (h : C[n]? = some c) (h1 : crossB s c.1 = true) : endsN C s (n + 1) = endsN C s n ++ [c.1] := by
 unfold endsN
 rw [List.take_add_one, h, Option.toList_some, List.map_append, List.filter_append]
 simp [h1]
theorem endsN_out {C : List Ln} {s : Sp} {n : Nat} {c : Ln} (h : C[n]? = some c) (h1 : crossB s c.1 = false) : endsN C s (n + 1) = endsN C s n := by
 unfold endsN
 rw [List.take_add_one, h, Option.toList_some, List.map_append, List.filter_append]
 simp [h1]
theorem endsN_len (C : List Ln) (s : Sp) (n : Nat) : (endsN C s n).length ≤ C.length + 2 := by
 have h1 : (((C.take n).map (·.1)).filter (crossB s)).length ≤ ((C.take n).map (·.1)).length := List.length_filter_le _ _
 unfold endsN
 simp only [List.length_append, List.length_map, List.length_take, List.length_cons, List.length_nil] at h1 ⊢
 omega
structure NdS (w wr : World) (v : Value) (O : List Pt) (nd : Pt → Bool) (P : Pt → Prop) : Prop where
 low : Below w.heap.size w wr
 row : wr.ownsRow w.heap.size 53 2 v O.length (O.flatMap encS)
 gd : Gd nd P O
section
variable {w wr w2 : World} {v v2 : Value} {O : List Pt} {nd : Pt → Bool} {P Q : Pt → Prop} {p : Pt}
theorem NdS.below (h : NdS w wr v O nd P) (hb : Below wr.heap.size wr w2) : NdS w w2 v O nd P := ⟨h.low.trans (hb.mono h.low.size), own_below h.row hb, h.gd⟩
theorem NdS.imp (h : NdS w wr v O nd P) (hq : ∀ p, Q p → P p) : NdS w wr v O nd Q := ⟨h.low, h.row, h.gd.imp hq⟩
theorem NdS.more (h : NdS w wr v O nd P) (hl : 400 < O.length) : NdS w wr v O nd Q := ⟨h.low, h.row, h.gd.more hl⟩
theorem NdS.skip (h : NdS w wr v O nd P) (hn : nd p = false) : NdS w wr v O nd (fun q => P q ∨ q = p) := ⟨h.low, h.row, h.gd.skip hn⟩
theorem NdS.put (h : NdS w wr v O nd P) (hn : nd p = true) (ho : w2.ownsRow w.heap.size 53 2 v2 (putF O p).length ((putF O p).flatMap encS)) (hg : wr.grownBy w2 v.ownBlock) : NdS w w2 v2 (putF O p) nd (fun q => P q ∨ q = p) :=
 ⟨h.low.grown hg h.low.size (fun q hq => (h.row.lt q hq).1), ho, h.gd.put hn⟩
theorem NdS.alloc (h : NdS w wr v O nd P) (o : Obj) : NdS w (wr.alloc o) v O nd P := ⟨h.low.alloc h.low.size _, World.ownsRow.alloc h.row _, h.gd⟩
end
def Bx2 (W : World) (g : Nat) (x y : Int) : Prop := g < W.heap.size ∧ W.cell? ⟨g, 0, none⟩ = some (.int .i64 x) ∧ W.cell? ⟨g, 1, none⟩ = some (.int .i64 y)
theorem Bx2.below {W V : World} {g : Nat} {x y : Int} (h : Bx2 W g x y) (hb : Below W.heap.size W V) : Bx2 V g x y := ⟨Nat.lt_of_lt_of_le h.1 hb.size, (hb.cell (p := ⟨g, 0, none⟩) h.1).trans h.2.1, (hb.cell (p := ⟨g, 1, none⟩) h.1).trans h.2.2⟩
theorem Bx2.grown {W V : World} {g : Nat} {x y : Int} {r : Option Nat} (h : Bx2 W g x y) (hg : W.grownBy V r) (hne : r ≠ some g) : Bx2 V g x y := ⟨Nat.lt_of_lt_of_le h.1 hg.size, (World.cell?_of_block (hg.block g h.1 (Ne.symm hne))).trans h.2.1, (World.cell?_of_block (hg.block g h.1 (Ne.symm hne))).trans h.2.2⟩
set_option maxRecDepth 100000 in
set_option maxHeartbeats 16000000 in
theorem rnodes34_any {w : World} {v1 v2 : Value} {R C : List Ln} (h1 : RdLn w w.heap.size v1 R) (h2 : RdLn w w.heap.size v2 C) (sR : SmL R) (sC : SmL C) (bR : ∀ q ∈ R, ∀ s ∈ q.2, ∀ x ∈ endsC C s, bigP (x, q.1)) (bC : ∀ q ∈ C, ∀ s ∈ q.2, bigP (q.1, s.1) ∧ bigP (q.1, s.2)) :
  Calls Tryz.prog 168 #[v1, v2] w fun e w' => ∃ vo O, e = .returned vo ∧ NdS w w' vo O (nodeL R C) (fun p => DR R C R.length p ∨ DC C C.length p) ∧ O.length ≤ 402 := by
 obtain ⟨i1, gi, gz0, gz1, gz2⟩ := info_parts infoInt
 have HR0 := hide h1
 have HC0 := hide h2
 have HND := hide (fun (W : World) (hb : Below w.heap.size w W) (x y : Int) (hp : bigP (x, y)) => rNode34_any ((h1.below hb).mono hb.size) ((h2.below hb).mono hb.size) sR sC hp)
 have HBR := hide bR
 have HBC := hide bC
 have HSR := hide sR
 have HSC := hide sC
 obtain ⟨A1, c1, rfl, _⟩ := h1
 obtain ⟨A2, c2, rfl, _⟩ := h2
 generalize nodeL R C = nd at *
 clear sR sC bR bC
 have hrl := HSR.out.1
 have hcl0 := HSC.out.1
 go_enter Tryz.func168, Tryz.ntmps168
 go_wp2
 go_loopw [5, 6] (fun o i wr => ∃ (m : Nat) (O : List Pt) (Ao : Option Addr) (co : Nat), m ≤ R.length ∧ i = .int .i64 (m : Int) ∧ o = .slice Ao O.length co ∧ Hid (O.length ≤ 401) ∧ Hid (NdS w wr (.slice Ao O.length co) O nd (DR R C m))) (fun _ i _ => R.length - (intOf i).toNat)
 case atStart => exact ⟨0, [], none, 0, Nat.zero_le _, rfl, rfl, hide (by simp), hide ⟨Below.refl _ _, World.ownsRow_nil _ _ _ _, ⟨List.Pairwise.nil, fun p hp => by simp at hp, .inr fun p hp => absurd hp DR_zero⟩⟩⟩
 case round =>
  obtain ⟨m, O, Ao, co, hm, rfl, rfl, HL, HI⟩ := hrel
  by_cases hlt : m < R.length
  ·have mz : (m : Int) < (R.length : Int) := by omega
   have m0 : (0 : Int) ≤ (m : Int) := by omega
   obtain ⟨q, hq⟩ : ∃ q, R[m]? = some q := ⟨_, List.getElem?_eq_getElem hlt⟩
   obtain ⟨b1, o1, A3, c3, rfl, hb1, d0, d1, hsp⟩ := HR0.out.get hq
   have HSP := hide hsp
   have HD := hide (And.intro d0 d1)
   have HQ := hide hq
   have hql := HSR.out.2 q (List.mem_of_getElem? hq)
   clear d0 d1 hsp hq hlt
   go_wp2
   go_loopw [5, 7] (fun o i wr => ∃ (k : Nat) (O : List Pt) (Ao : Option Addr) (co : Nat), k ≤ q.2.length ∧ i = .int .i64 (k : Int) ∧ o = .slice Ao O.length co ∧ Hid (O.length ≤ 401) ∧ Hid (NdS w wr (.slice Ao O.length co) O nd (fun p => DR R C m p ∨ DK C q k p))) (fun _ i _ => q.2.length - (intOf i).toNat)
   case atStart => exact ⟨0, O, Ao, co, Nat.zero_le _, rfl, rfl, HL, hide (HI.out.imp fun p hp => hp.resolve_right DK_zero)⟩
   case round =>
    clear HL HI
    obtain ⟨k, O, Ao, co, hk, rfl, rfl, HL, HI⟩ := hrel
    have d1 := (HI.out.low.cell (p := ⟨b1, _, none⟩) hb1).trans HD.out.2
    have hbr : b1 < wr.heap.size := Nat.lt_of_lt_of_le hb1 HI.out.low.size
    by_cases hkl : k < q.2.length
    ·have kz : (k : Int) < (q.2.length : Int) := by omega
     have k0 : (0 : Int) ≤ (k : Int) := by omega
     obtain ⟨s, hs⟩ : ∃ s, q.2[k]? = some s := ⟨_, List.getElem?_eq_getElem hkl⟩
     obtain ⟨b2, o2, rfl, hb2, e0', e1'⟩ := rdS_get HSP.out hs
     have e0 := (HI.out.low.cell (p := ⟨b2, _, none⟩) hb2).trans e0'
     have e1 := (HI.out.low.cell (p := ⟨b2, _, none⟩) hb2).trans e1'
     have hbs : b2 < wr.heap.size := Nat.lt_of_lt_of_le hb2 HI.out.low.size
     have HS := hide hs
     clear e0' e1' hs hkl
     go_upto_region 9 with fail
     refine wp_name fun w1 hw1 => ?_
     have HX1 : Hid (Bx2 w1 wr.heap.size s.1 s.2) := hide ⟨by rw [hw1]; simp, by rw [hw1]; simp [go_sem], by rw [hw1]; simp [go_sem]⟩
     have HI1 := hide (HI.out.below (show Below wr.heap.size wr w1 by rw [hw1]; exact (Below.refl _ _).alloc (Nat.le_refl _) _))
     generalize wr.heap.size = g at *
     clear hw1 HI e0 e1 hbs hbr d1
     obtain ⟨hg1, y0, y1⟩ := HX1.out
     go_upto_region 10 with fail
     refine wp_name fun w2 hw2 => ?_
     have HB2 : Hid (Below w1.heap.size w1 w2) := hide (by rw [hw2]; exact (Below.refl _ _).alloc (Nat.le_refl _) _)
     have HE2 : Hid (w2.ownsRow w1.heap.size 3 1 (.slice (some ⟨w1.heap.size, 0, none⟩) 2 2) (endsN C s 0).length ((endsN C s 0).map iv)) := hide (by
      rw [hw2, endsN_zero]
      exact ⟨rfl, .inr ⟨w1.heap.size, 2, _, rfl, Nat.le_refl _, World.alloc_heap_new _ _, Nat.le_refl 2, by decide, rfl, rfl⟩⟩)
     clear hw2 y0 y1 hg1
     go_wp2
     go_loopw [9, 10] (fun ev i wx => ∃ (n : Nat) (Ae : Option Addr) (ce : Nat), n ≤ C.length ∧ i = .int .i64 (n : Int) ∧ ev = .slice Ae (endsN C s n).length ce ∧ Hid (Below w1.heap.size w1 wx) ∧ Hid (wx.ownsRow w1.heap.size 3 1 (.slice Ae (endsN C s n).length ce) (endsN C s n).length ((endsN C s n).map iv))) (fun _ i _ => C.length - (intOf i).toNat)
     case atStart => exact ⟨0, some ⟨w1.heap.size, 0, none⟩, 2, Nat.zero_le _, rfl, rfl, HB2, HE2⟩
     case round =>
      clear HB2 HE2
      obtain ⟨n, Ae, ce, hn, rfl, rfl, HB2, HE2⟩ := hrel
      by_cases hnl : n < C.length
      ·have nz : (n : Int) < (C.length : Int) := by omega
       have n0 : (0 : Int) ≤ (n : Int) := by omega
       obtain ⟨c, hc⟩ : ∃ c, C[n]? = some c := ⟨_, List.getElem?_eq_getElem hnl⟩
       obtain ⟨b3, o3, A4, c4, rfl, hb3, f0', _, _⟩ := HC0.out.get hc
       have hl2 := HI1.out.low.size
       have HB1 := hide (HI1.out.low.trans (HB2.out.mono hl2))
       have f0 := (HB1.out.cell (p := ⟨b3, _, none⟩) hb3).trans f0'
       have hb3r : b3 < wr.heap.size := Nat.lt_of_lt_of_le hb3 HB1.out.size
       obtain ⟨hg1, y0, y1⟩ := HX1.out.below HB2.out
       have hel := endsN_len C s n
       have hcl := HSC.out.1
       have HIN := hide (fun h => endsN_in (s := s) hc h)
       have HOUT := hide (fun h => endsN_out (s := s) hc h)
       clear hc f0' hl2
       by_cases z1' : s.1 < c.1
       ·have z1 : decide (s.1 < c.1) = true := decide_eq_true z1'
        by_cases z2' : c.1 < s.2
        ·have z2 : decide (c.1 < s.2) = true := decide_eq_true z2'
         have HE := hide (HIN.out (by unfold crossB; rw [z1, z2]; rfl))
         clear HIN HOUT z1' z2'
         go_upto_region 13 with fail
         go_quiet (fail)
         refine name_exit fun W hW => ?_
         have HBW : Hid (Below wr.heap.size wr W) := hide (by rw [hW]; exact below_drewN (Below.refl _ _) _)
         have HB2W := hide (HB2.out.trans (HBW.out.mono HB2.out.size))
         have HEW := hide (own_below HE2.out HBW.out)
         clear hW
         have u0 := (HBW.out.cell (p := ⟨b3, _, none⟩) hb3r).trans f0
         have hb3w : b3 < W.heap.size := Nat.lt_of_lt_of_le hb3r HBW.out.size
         clear f0 y0 y1 hg1 hb3r HB2 HE2 HBW
         obtain ⟨X, hX⟩ : ∃ X, endsN C s n = X := ⟨_, rfl⟩
         rw [hX] at HE HEW hel ⊢
         clear hX
         have hsw := HB2W.out.size
         go_wp2_with (at_builtin; go_loud (refine wpList_append_lies _ rfl (.tmp 71) (.tmp 77) 133 rfl w1.heap.size 3 i1 (.int .i64 0) 1 8 Tryz.underlying133 gi gz0 gz1 gz2 rfl (by decide) _ X.length _ rfl (World.ownsRow.alloc HEW.out _) ⟨W.heap.size, 0, none⟩ 1 1 [.int .i64 c.1] rfl rfl (news_new W _ _ _ rfl) (ints_one rfl) (by omega) (by unfold maxLen; omega) (by omega) (by simp; omega) _ rfl ?_))
         intro g9 cap9 w9 hown9 hgrow9 _ _
         have HB9 := hide ((HB2W.out.alloc hsw _).grown hgrow9 (by simp; omega) (fun q hq => (HEW.out.lt q hq).1))
         have HO9 : Hid (w9.ownsRow w1.heap.size 3 1 (.slice (some ⟨g9, 0, none⟩) (X ++ [c.1]).length cap9) (X ++ [c.1]).length ((X ++ [c.1]).map iv)) := hide (by rw [List.length_append, List.map_append]; exact hown9)
         clear hown9 hgrow9
         go_wp2
         go_roundw
         case rel =>
          refine ⟨n + 1, some ⟨g9, 0, none⟩, cap9, by omega, by go_num, ?_, HB9, ?_⟩
          ·rw [HE.out]; simp
          ·rw [HE.out]; exact HO9
         case measure => simp [intOf]; omega
        ·have z2 : decide (c.1 < s.2) = false := decide_eq_false z2'
         have HE := hide (HOUT.out (by unfold crossB; rw [z1, z2]; rfl))
         clear HIN HOUT z1' z2'
         go_upto_region 13 with fail
         go_quiet (fail)
         refine name_exit fun W hW => ?_
         have HBW : Hid (Below wr.heap.size wr W) := hide (by rw [hW]; exact below_drewN (Below.refl _ _) _)
         have HB2W := hide (HB2.out.trans (HBW.out.mono HB2.out.size))
         have HEW := hide (own_below HE2.out HBW.out)
         clear hW
         clear f0 y0 y1 hg1 hb3r HB2 HE2 HBW
         go_wp2
         go_roundw
         case rel =>
          refine ⟨n + 1, Ae, ce, by omega, by go_num, ?_, HB2W, ?_⟩
          ·rw [HE.out]
          ·rw [HE.out]; exact HEW
         case measure => simp [intOf]; omega
       ·have z1 : decide (s.1 < c.1) = false := decide_eq_false z1'
        have HE := hide (HOUT.out (by unfold crossB; rw [z1]; rfl))
        clear HIN HOUT z1'
        go_upto_region 13 with fail
        go_quiet (fail)
        refine name_exit fun W hW => ?_
        have HBW : Hid (Below wr.heap.size wr W) := hide (by rw [hW]; exact below_drewN (Below.refl _ _) _)
        have HB2W := hide (HB2.out.trans (HBW.out.mono HB2.out.size))
        have HEW := hide (own_below HE2.out HBW.out)
        clear hW
        clear f0 y0 y1 hg1 hb3r HB2 HE2 HBW
        go_wp2
        go_roundw
        case rel =>
         refine ⟨n + 1, Ae, ce, by omega, by go_num, ?_, HB2W, ?_⟩
         ·rw [HE.out]
         ·rw [HE.out]; exact HEW
        case measure => simp [intOf]; omega
      ·have nz : ¬ (n : Int) < (C.length : Int) := by omega
       obtain rfl : n = C.length := by omega
       have hEb := HBR.out q (List.mem_of_getElem? HQ.out) s (List.mem_of_getElem? HS.out)
       have HKS := hide (fun p => @DK_succ C q s k p HS.out)
       have HEL := hide (endsN_len C s C.length)
       rw [show endsC C s = endsN C s C.length from rfl] at hEb HKS
       have HEB := hide hEb
       clear hEb
       have HI2 := hide (HI1.out.below HB2.out)
       have hel := HEL.out
       have hcl := HSC.out.1
       generalize endsN C s C.length = E at *
       clear HI1 HX1 HB2 HEL
       go_wp2
       go_loopw [5, 11] (fun o i wx => ∃ (n : Nat) (O : List Pt) (Ao : Option Addr) (co : Nat), n ≤ E.length ∧ i = .int .i64 (n : Int) ∧ o = .slice Ao O.length co ∧ Hid (O.length ≤ 401) ∧ Hid (NdS w wx (.slice Ao O.length co) O nd (fun p => (DR R C m p ∨ DK C q k p) ∨ DE E q.1 n p)) ∧ Hid (wx.ownsRow w1.heap.size 3 1 (.slice Ae E.length ce) E.length (E.map iv))) (fun _ i _ => E.length - (intOf i).toNat)
       case atStart => exact ⟨0, O, Ao, co, Nat.zero_le _, rfl, rfl, HL, hide (HI2.out.imp fun p hp => hp.resolve_right DE_zero), HE2⟩
       case round =>
        clear HL HI2 HE2
        obtain ⟨n, O, Ao, co, hn, rfl, rfl, HL, HI2, HE2⟩ := hrel
        by_cases hnl : n < E.length
        ·have nz : (n : Int) < (E.length : Int) := by omega
         have n0 : (0 : Int) ≤ (n : Int) := by omega
         by_cases hol : O.length ≤ 400
         ·have oz : (O.length : Int) ≤ 400 := by omega
          obtain ⟨x, hx⟩ : ∃ x, E[n]? = some x := ⟨_, List.getElem?_eq_getElem hnl⟩
          obtain ⟨b4, o4, rfl, hb4, f4⟩ := rdI_get (own_rdI HE2.out) hx
          have x0 := f4 n x hx
          have d0 := (HI2.out.low.cell (p := ⟨b1, _, none⟩) hb1).trans HD.out.1
          have hbr : b1 < wr.heap.size := Nat.lt_of_lt_of_le hb1 HI2.out.low.size
          have HDS := hide (fun p => @DE_succ E q.1 x n p hx)
          have HXB := hide (HEB.out x (List.mem_of_getElem? hx))
          clear f4 hx hnl
          go_upto_region 18 with fail
          have HBK : Hid (Below wr.heap.size wr wr.drew) := hide (Below.refl _ _).drew
          have HCE := hide (And.intro x0 (And.intro d0 (And.intro hb4 hbr)))
          clear x0 d0
          refine wp_region_mix [0, 1, 2, 3, 4, 5, 6, 7, 8, 9] [10, 11] (fun w' => Below wr.heap.size wr w') (by kernel_rfl) (by kernel_rfl) HBK.out ?_
          simp only [List.map_cons, List.map_nil, opAt, List.getElem?_cons_succ, List.getElem?_cons_zero, Option.getD_some]
          generalize wr.drew = wk at *
          iterate 10
           refine ⟨?_, Or.inl ⟨by rfl, ?_⟩, ?_⟩
           rotate_left 1
           ·intro w' hSw
            obtain ⟨x0, d0, q4, q1⟩ := HCE.out
            replace x0 := (hSw.cell (p := ⟨b4, _, none⟩) q4).trans x0
            replace d0 := (hSw.cell (p := ⟨b1, _, none⟩) q1).trans d0
            have hq4 : b4 < w'.heap.size := Nat.lt_of_lt_of_le q4 hSw.size
            have hq1 : b1 < w'.heap.size := Nat.lt_of_lt_of_le q1 hSw.size
            clear hSw q4 q1
            go_simp
            first | done | with_reducible rfl
           simp only [Act.put, List.setIfInBounds_toArray, List.set_cons_zero, List.set_cons_succ]
          simp only [wpReads]
          intro K0 hK
          simp only [Act.put, List.setIfInBounds_toArray, List.set_cons_zero, List.set_cons_succ] at hK ⊢
          go_simp
          refine hK _ _ (fun _ => HBK.out.alloc HBK.out.size _) ?_
          clear hK K0
          intro K0 hK
          simp only [Act.put, List.setIfInBounds_toArray, List.set_cons_zero, List.set_cons_succ] at hK ⊢
          go_simp
          refine hK _ _ (fun h => absurd rfl h) ?_
          clear hK K0
          refine NoPanic.normal ?_
          obtain ⟨w3, hw3⟩ : ∃ w3, w3 = wk.alloc (.cells #[.int .i64 x, .int .i64 q.1] 53) := ⟨_, rfl⟩
          rw [← hw3]
          have HB3 : Hid (Below wr.heap.size wr w3) := hide (by
           rw [hw3]
           repeat (first | with_reducible exact HBK.out | with_reducible refine Below.setCell ?_ (by first | exact HBK.out.size | (simp; done) | (simp; omega)) _ | with_reducible refine Below.alloc ?_ (by first | exact HBK.out.size | omega | (simp; omega) | simp) _))
          have HX3 : Hid (Bx2 w3 wk.heap.size x q.1) := hide ⟨by rw [hw3]; simp, by rw [hw3]; simp [go_sem], by rw [hw3]; simp [go_sem]⟩
          have HI3 := hide (HI2.out.below HB3.out)
          have HE3 := hide (own_below HE2.out HB3.out)
          generalize wk.heap.size = g3 at *
          clear hw3 HCE HBK HB3 HI2 HE2 hb4 hbr
          have HNC := hide (HND.out w3 HI3.out.low x q.1 HXB.out)
          obtain ⟨hg3, p0, p1⟩ := HX3.out
          cases hnn : nd (x, q.1) with
          | true =>
           rw [hnn] at HNC
           have HNN := hide hnn
           clear hnn
           go_upto_region 19 with fail
           go_wp2_with (fail)
           refine HNC.out.mono ?_
           rintro e w4 ⟨rfl, hb4x⟩
           have HX4 := hide (HX3.out.below hb4x)
           have HI4 := hide (HI3.out.below hb4x)
           have HE4 := hide (own_below HE3.out hb4x)
           clear hb4x p0 p1 hg3 HX3 HI3 HE3 HNC
           obtain ⟨hg4, p0, p1⟩ := HX4.out
           go_upto_region 20 with fail
           go_wp2_with (fail)
           refine (rput34_any (p := (x, q.1)) HI4.out.row HI4.out.low.size (by omega)).mono ?_
           rintro e w5 ⟨vo5, rfl, ho5, hgr5⟩
           have HE5 := hide (HE4.out.kept hgr5 (own_apart HE4.out HI4.out.row (by decide)))
           have HI5 := hide (HI4.out.put HNN.out ho5 hgr5)
           obtain ⟨A5, c5, rfl⟩ := own_form ho5
           have hpl := (put_len O (x, q.1)).2
           generalize putF O (x, q.1) = O5 at *
           clear ho5 hgr5 p0 p1 hg4 HI4 HE4
           go_wp2
           go_roundw
           case rel => exact ⟨n + 1, O5, A5, c5, by omega, by go_num, rfl, hide (by omega), hide (HI5.out.imp fun p hp => hp.elim (fun h => .inl (.inl h)) fun h => (HDS.out p h).elim (fun h => .inl (.inr h)) .inr), HE5⟩
           case measure => simp [intOf]; omega
          | false =>
           rw [hnn] at HNC
           have HNN := hide hnn
           clear hnn
           go_upto_region 19 with fail
           go_wp2_with (fail)
           refine HNC.out.mono ?_
           rintro e w4 ⟨rfl, hb4x⟩
           have HX4 := hide (HX3.out.below hb4x)
           have HI4 := hide (HI3.out.below hb4x)
           have HE4 := hide (own_below HE3.out hb4x)
           clear hb4x p0 p1 hg3 HX3 HI3 HE3 HNC
           go_wp2
           go_roundw
           case rel => exact ⟨n + 1, O, Ao, co, by omega, by go_num, rfl, HL, hide ((HI4.out.skip HNN.out).imp fun p hp => hp.elim (fun h => .inl (.inl h)) fun h => (HDS.out p h).elim (fun h => .inl (.inr h)) .inr), HE4⟩
           case measure => simp [intOf]; omega
         ·have oz : ¬ (O.length : Int) ≤ 400 := by omega
          go_wp2
          go_roundw
          case rel => exact ⟨k + 1, O, Ao, co, by omega, by go_num, rfl, HL, hide (HI2.out.more (by omega))⟩
          case measure => simp [intOf]; omega
        ·have nz : ¬ (n : Int) < (E.length : Int) := by omega
         obtain rfl : n = E.length := by omega
         go_wp2
         go_roundw
         case rel => exact ⟨k + 1, O, Ao, co, by omega, by go_num, rfl, HL, hide (HI2.out.imp fun p hp => hp.elim (fun h => .inl (.inl h)) fun h => (HKS.out p h).elim (fun h => .inl (.inr h)) .inr)⟩
         case measure => simp [intOf]; omega
    ·have kz : ¬ (k : Int) < (q.2.length : Int) := by omega
     obtain rfl : k = q.2.length := by omega
     go_wp2
     go_roundw
     case rel => exact ⟨m + 1, O, Ao, co, by omega, by go_num, rfl, HL, hide (HI.out.imp fun p hp => DR_succ HQ.out hp)⟩
     case measure => simp [intOf]; omega
  ·have mz : ¬ (m : Int) < (R.length : Int) := by omega
   obtain rfl : m = R.length := by omega
   go_wp2
   go_loopw [5, 13] (fun o i wr => ∃ (m : Nat) (O : List Pt) (Ao : Option Addr) (co : Nat), m ≤ C.length ∧ i = .int .i64 (m : Int) ∧ o = .slice Ao O.length co ∧ Hid (O.length ≤ 402) ∧ Hid (NdS w wr (.slice Ao O.length co) O nd (fun p => DR R C R.length p ∨ DC C m p))) (fun _ i _ => C.length - (intOf i).toNat)
   case atStart => exact ⟨0, O, Ao, co, Nat.zero_le _, rfl, rfl, hide (by have := HL.out; omega), hide (HI.out.imp fun p hp => hp.resolve_right DC_zero)⟩
   case round =>
    clear HL HI
    obtain ⟨m, O, Ao, co, hm, rfl, rfl, HL, HI⟩ := hrel
    by_cases hlt : m < C.length
    ·have mz : (m : Int) < (C.length : Int) := by omega
     have m0 : (0 : Int) ≤ (m : Int) := by omega
     obtain ⟨q, hq⟩ : ∃ q, C[m]? = some q := ⟨_, List.getElem?_eq_getElem hlt⟩
     obtain ⟨b1, o1, A3, c3, rfl, hb1, d0, d1, hsp⟩ := HC0.out.get hq
     have HSP := hide hsp
     have HD := hide (And.intro d0 d1)
     have HQ := hide hq
     have hql := HSC.out.2 q (List.mem_of_getElem? hq)
     clear d0 d1 hsp hq hlt
     go_wp2
     go_loopw [5, 14] (fun o i wr => ∃ (k : Nat) (O : List Pt) (Ao : Option Addr) (co : Nat), k ≤ q.2.length ∧ i = .int .i64 (k : Int) ∧ o = .slice Ao O.length co ∧ Hid (O.length ≤ 402) ∧ Hid (NdS w wr (.slice Ao O.length co) O nd (fun p => (DR R C R.length p ∨ DC C m p) ∨ DKc q k p))) (fun _ i _ => q.2.length - (intOf i).toNat)
     case atStart => exact ⟨0, O, Ao, co, Nat.zero_le _, rfl, rfl, HL, hide (HI.out.imp fun p hp => hp.resolve_right DKc_zero)⟩
     case round =>
      clear HL HI
      obtain ⟨k, O, Ao, co, hk, rfl, rfl, HL, HI⟩ := hrel
      have d0 := (HI.out.low.cell (p := ⟨b1, _, none⟩) hb1).trans HD.out.1
      have d1 := (HI.out.low.cell (p := ⟨b1, _, none⟩) hb1).trans HD.out.2
      have hbr : b1 < wr.heap.size := Nat.lt_of_lt_of_le hb1 HI.out.low.size
      by_cases hkl : k < q.2.length
      ·have kz : (k : Int) < (q.2.length : Int) := by omega
       have k0 : (0 : Int) ≤ (k : Int) := by omega
       by_cases hol : O.length ≤ 400
       ·have oz : (O.length : Int) ≤ 400 := by omega
        obtain ⟨s, hs⟩ : ∃ s, q.2[k]? = some s := ⟨_, List.getElem?_eq_getElem hkl⟩
        obtain ⟨b2, o2, rfl, hb2, e0', e1'⟩ := rdS_get HSP.out hs
        have e0 := (HI.out.low.cell (p := ⟨b2, _, none⟩) hb2).trans e0'
        have e1 := (HI.out.low.cell (p := ⟨b2, _, none⟩) hb2).trans e1'
        have hbs : b2 < wr.heap.size := Nat.lt_of_lt_of_le hb2 HI.out.low.size
        have HDS := hide (fun p => @DKc_succ q s k p hs)
        have hbb := HBC.out q (List.mem_of_getElem? HQ.out) s (List.mem_of_getElem? hs)
        have HXB1 := hide hbb.1
        have HXB2 := hide hbb.2
        clear e0' e1' hs hkl hbb
        go_upto_region 28 with fail
        refine wp_name fun w1 hw1 => ?_
        have HX1 : Hid (Bx2 w1 wr.heap.size s.1 s.2) := hide ⟨by rw [hw1]; simp, by rw [hw1]; simp [go_sem], by rw [hw1]; simp [go_sem]⟩
        have hb01 : Below wr.heap.size wr w1 := by rw [hw1]; exact (Below.refl _ _).alloc (Nat.le_refl _) _
        have HI1 := hide (HI.out.below hb01)
        have x0 := (hb01.cell (p := ⟨b1, _, none⟩) hbr).trans d0
        have hb1w : b1 < w1.heap.size := Nat.lt_of_lt_of_le hbr hb01.size
        have HLO := hide (fun k (hk : (Value.slice Ao O.length co).ownBlock = some k) => Nat.lt_of_lt_of_le (HI.out.row.lt k hk).2 hb01.size)
        generalize wr.heap.size = g at *
        clear hw1 HI e0 e1 hbs hbr d1 d0 hb01
        obtain ⟨hg1, y0, y1⟩ := HX1.out
        have HCE := hide (And.intro x0 (And.intro hb1w (And.intro hg1 (And.intro y0 y1))))
        clear x0 hg1 y0 y1
        have HBK : Hid (Below w1.heap.size w1 w1.drew) := hide (Below.refl _ _).drew
        refine wp_region_ords [0, 1, 2, 3, 4, 5, 6, 7, 8, 9, 10, 11, 12, 13, 14, 15] 4 (.two 16 (.one 17 (.one 18 (.one 19 .done))) 17 (.one 16 (.one 18 (.one 19 .done)))) (fun w' => Below w1.heap.size w1 w') (by kernel_rfl) (by kernel_rfl) HBK.out ?_
        simp only [List.map_cons, List.map_nil, opAt, List.getElem?_cons_succ, List.getElem?_cons_zero, Option.getD_some]
        generalize w1.drew = wk at *
        iterate 16
         refine ⟨?_, Or.inl ⟨by rfl, ?_⟩, ?_⟩
         rotate_left 1
         ·intro w' hSw
          obtain ⟨x0, q1, q2, y0, y1⟩ := HCE.out
          replace x0 := (hSw.cell (p := ⟨b1, _, none⟩) q1).trans x0
          replace y0 := (hSw.cell (p := ⟨g, _, none⟩) q2).trans y0
          replace y1 := (hSw.cell (p := ⟨g, _, none⟩) q2).trans y1
          have hq1 : b1 < w'.heap.size := Nat.lt_of_lt_of_le q1 hSw.size
          have hq2 : g < w'.heap.size := Nat.lt_of_lt_of_le q2 hSw.size
          clear hSw q1 q2
          go_simp
          first | done | with_reducible rfl
         simp only [Act.put, List.setIfInBounds_toArray, List.set_cons_zero, List.set_cons_succ]
        simp only [wpReads, wpOrds, wpOne, opAt, List.getElem?_cons_succ, List.getElem?_cons_zero, Option.getD_some]
        refine ⟨?_, ?_⟩
        ·intro K0 hK
         simp only [Act.put, List.setIfInBounds_toArray, List.set_cons_zero, List.set_cons_succ] at hK ⊢
         go_simp
         refine hK _ _ ⟨(by repeat (first | with_reducible exact HBK.out | with_reducible refine Below.setCell ?_ (by first | exact HBK.out.size | (simp; done) | (simp; omega) | (have := HBK.out.size; simp; omega)) _ | with_reducible refine Below.alloc ?_ (by first | exact HBK.out.size | omega | (simp; omega) | (simp; done) | (have := HBK.out.size; simp; omega)) _)), ?_⟩
         clear hK K0
         intro K0 hK
         simp only [Act.put, List.setIfInBounds_toArray, List.set_cons_zero, List.set_cons_succ] at hK ⊢
         go_simp
         refine hK _ _ ⟨fun _ => (by repeat (first | with_reducible exact HBK.out | with_reducible refine Below.setCell ?_ (by first | exact HBK.out.size | (simp; done) | (simp; omega) | (have := HBK.out.size; simp; omega)) _ | with_reducible refine Below.alloc ?_ (by first | exact HBK.out.size | omega | (simp; omega) | (simp; done) | (have := HBK.out.size; simp; omega)) _)), ?_⟩
         clear hK K0
         intro K0 hK
         simp only [Act.put, List.setIfInBounds_toArray, List.set_cons_zero, List.set_cons_succ] at hK ⊢
         go_simp
         refine hK _ _ ⟨fun _ => (by repeat (first | with_reducible exact HBK.out | with_reducible refine Below.setCell ?_ (by first | exact HBK.out.size | (simp; done) | (simp; omega) | (have := HBK.out.size; simp; omega)) _ | with_reducible refine Below.alloc ?_ (by first | exact HBK.out.size | omega | (simp; omega) | (simp; done) | (have := HBK.out.size; simp; omega)) _)), ?_⟩
         clear hK K0
         intro K0 hK
         simp only [Act.put, List.setIfInBounds_toArray, List.set_cons_zero, List.set_cons_succ] at hK ⊢
         go_simp
         refine hK _ _ ⟨fun h => absurd h (by decide), ?_⟩
         clear hK K0
         refine NoPanic.normal ?_
         refine name_exit fun w2 hw2 => ?_
         have hbk := HBK.out.size
         have HB2 : Hid (Below w1.heap.size w1 w2) := hide (by rw [hw2]; exact (by repeat (first | with_reducible exact HBK.out | with_reducible refine Below.setCell ?_ (by first | exact HBK.out.size | (simp; done) | (simp; omega) | (have := HBK.out.size; simp; omega)) _ | with_reducible refine Below.alloc ?_ (by first | exact HBK.out.size | omega | (simp; omega) | (simp; done) | (have := HBK.out.size; simp; omega)) _)))
         have HXP : Hid (Bx2 w2 (wk.heap.size) q.1 s.1) := hide ⟨by first | (rw [hw2]; simp; done) | (rw [hw2]; simp; omega), by rw [hw2]; simp [go_sem], by rw [hw2]; simp [go_sem]⟩
         have HXQ : Hid (Bx2 w2 (wk.heap.size + 1) q.1 s.2) := hide ⟨by first | (rw [hw2]; simp; done) | (rw [hw2]; simp; omega), by rw [hw2]; simp [go_sem], by rw [hw2]; simp [go_sem]⟩
         have HGQ : Hid (w1.heap.size ≤ wk.heap.size + 1) := hide (by omega)
         obtain ⟨gp, hgp⟩ : ∃ g, wk.heap.size = g := ⟨_, rfl⟩
         obtain ⟨gq, hgq⟩ : ∃ g, wk.heap.size + 1 = g := ⟨_, rfl⟩
         rw [hgp] at HXP
         rw [hgq] at HXQ HGQ
         simp only [hgq]
         simp only [hgp]
         clear hw2 hgp hgq hbk
         have HI2 := hide (HI1.out.below HB2.out)
         have HNC := hide (HND.out w2 HI2.out.low q.1 s.1 HXB1.out)
         clear HI1 HB2 HBK HCE HX1 hb1w
         have HNQ := hide (fun (v : Value) (hv : v.ownBlock = (Value.slice Ao O.length co).ownBlock) => show v.ownBlock ≠ some gq from fun e => by have h1 := HLO.out gq (hv ▸ e); have h2 := HGQ.out; omega)
         clear HLO HGQ
         obtain ⟨hp3, p0, p1⟩ := HXP.out
         cases hn1 : nd (q.1, s.1) with
         | true =>
          rw [hn1] at HNC
          have HN1 := hide hn1
          clear hn1
          go_upto_region 29 with fail
          go_wp2_with (fail)
          refine HNC.out.mono ?_
          rintro e w4 ⟨rfl, hb4x⟩
          have HX4 := hide (HXP.out.below hb4x)
          have HQ4 := hide (HXQ.out.below hb4x)
          have HI4 := hide (HI2.out.below hb4x)
          clear hb4x p0 p1 hp3 HXP HXQ HI2 HNC
          obtain ⟨hp4, p0, p1⟩ := HX4.out
          go_upto_region 30 with fail
          go_wp2_with (fail)
          refine (rput34_any (p := (q.1, s.1)) HI4.out.row HI4.out.low.size (by omega)).mono ?_
          rintro e w5 ⟨vo5, rfl, ho5, hgr5⟩
          have HQ5 := hide (HQ4.out.grown hgr5 (HNQ.out _ rfl))
          have HI5 := hide (HI4.out.put HN1.out ho5 hgr5)
          obtain ⟨A5, c5, rfl⟩ := own_form ho5
          have hpl := (put_len O (q.1, s.1)).2
          generalize putF O (q.1, s.1) = O5 at *
          clear ho5 hgr5 p0 p1 hp4 HI4 HX4 HQ4
          have HNC := hide (HND.out w5 HI5.out.low q.1 s.2 HXB2.out)
          obtain ⟨hp5, p0, p1⟩ := HQ5.out
          cases hn2 : nd (q.1, s.2) with
          | true =>
           rw [hn2] at HNC
           have HN2 := hide hn2
           clear hn2
           go_upto_region 31 with fail
           go_wp2_with (fail)
           refine HNC.out.mono ?_
           rintro e w6 ⟨rfl, hb4x⟩
           have HQ6 := hide (HQ5.out.below hb4x)
           have HI6 := hide (HI5.out.below hb4x)
           clear hb4x p0 p1 hp5 HQ5 HI5 HNC
           obtain ⟨hp6, p0, p1⟩ := HQ6.out
           go_upto_region 32 with fail
           go_wp2_with (fail)
           refine (rput34_any (p := (q.1, s.2)) HI6.out.row HI6.out.low.size (by omega)).mono ?_
           rintro e w7 ⟨vo7, rfl, ho7, hgr7⟩
           have HI7 := hide (HI6.out.put HN2.out ho7 hgr7)
           obtain ⟨A7, c7, rfl⟩ := own_form ho7
           have hpl2 := (put_len O5 (q.1, s.2)).2
           generalize putF O5 (q.1, s.2) = O7 at *
           clear ho7 hgr7 p0 p1 hp6 HI6 HQ6
           go_wp2
           go_roundw
           case rel => exact ⟨k + 1, O7, A7, c7, by omega, by go_num, rfl, hide (by omega), hide (HI7.out.imp fun p hp => hp.elim (fun h => .inl (.inl (.inl h))) fun h => (HDS.out p h).elim (fun h => h.elim (fun h => .inl (.inl (.inr h))) fun h => .inl (.inr h)) .inr)⟩
           case measure => simp [intOf]; omega
          | false =>
           rw [hn2] at HNC
           have HN2 := hide hn2
           clear hn2
           go_upto_region 31 with fail
           go_wp2_with (fail)
           refine HNC.out.mono ?_
           rintro e w6 ⟨rfl, hb4x⟩
           have HI6 := hide ((HI5.out.below hb4x).skip HN2.out)
           clear hb4x p0 p1 hp5 HQ5 HI5 HNC
           go_wp2
           go_roundw
           case rel => exact ⟨k + 1, O5, A5, c5, by omega, by go_num, rfl, hide (by omega), hide (HI6.out.imp fun p hp => hp.elim (fun h => .inl (.inl (.inl h))) fun h => (HDS.out p h).elim (fun h => h.elim (fun h => .inl (.inl (.inr h))) fun h => .inl (.inr h)) .inr)⟩
           case measure => simp [intOf]; omega
         | false =>
          rw [hn1] at HNC
          have HN1 := hide hn1
          clear hn1
          go_upto_region 29 with fail
          go_wp2_with (fail)
          refine HNC.out.mono ?_
          rintro e w5 ⟨rfl, hb4x⟩
          have HQ5 := hide (HXQ.out.below hb4x)
          have HI5 := hide ((HI2.out.below hb4x).skip HN1.out)
          clear hb4x p0 p1 hp3 HXP HXQ HI2 HNC
          have HNC := hide (HND.out w5 HI5.out.low q.1 s.2 HXB2.out)
          obtain ⟨hp5, p0, p1⟩ := HQ5.out
          cases hn2 : nd (q.1, s.2) with
          | true =>
           rw [hn2] at HNC
           have HN2 := hide hn2
           clear hn2
           go_upto_region 31 with fail
           go_wp2_with (fail)
           refine HNC.out.mono ?_
           rintro e w6 ⟨rfl, hb4x⟩
           have HQ6 := hide (HQ5.out.below hb4x)
           have HI6 := hide (HI5.out.below hb4x)
           clear hb4x p0 p1 hp5 HQ5 HI5 HNC
           obtain ⟨hp6, p0, p1⟩ := HQ6.out
           go_upto_region 32 with fail
           go_wp2_with (fail)
           refine (rput34_any (p := (q.1, s.2)) HI6.out.row HI6.out.low.size (by omega)).mono ?_
           rintro e w7 ⟨vo7, rfl, ho7, hgr7⟩
           have HI7 := hide (HI6.out.put HN2.out ho7 hgr7)
           obtain ⟨A7, c7, rfl⟩ := own_form ho7
           have hpl2 := (put_len O (q.1, s.2)).2
           generalize putF O (q.1, s.2) = O7 at *
           clear ho7 hgr7 p0 p1 hp6 HI6 HQ6
           go_wp2
           go_roundw
           case rel => exact ⟨k + 1, O7, A7, c7, by omega, by go_num, rfl, hide (by omega), hide (HI7.out.imp fun p hp => hp.elim (fun h => .inl (.inl (.inl h))) fun h => (HDS.out p h).elim (fun h => h.elim (fun h => .inl (.inl (.inr h))) fun h => .inl (.inr h)) .inr)⟩
           case measure => simp [intOf]; omega
          | false =>
           rw [hn2] at HNC
           have HN2 := hide hn2
           clear hn2
           go_upto_region 31 with fail
           go_wp2_with (fail)
           refine HNC.out.mono ?_
           rintro e w6 ⟨rfl, hb4x⟩
           have HI6 := hide ((HI5.out.below hb4x).skip HN2.out)
           clear hb4x p0 p1 hp5 HQ5 HI5 HNC
           go_wp2
           go_roundw
           case rel => exact ⟨k + 1, O, Ao, co, by omega, by go_num, rfl, hide (by omega), hide (HI6.out.imp fun p hp => hp.elim (fun h => .inl (.inl (.inl h))) fun h => (HDS.out p h).elim (fun h => h.elim (fun h => .inl (.inl (.inr h))) fun h => .inl (.inr h)) .inr)⟩
           case measure => simp [intOf]; omega
        ·intro K0 hK
         simp only [Act.put, List.setIfInBounds_toArray, List.set_cons_zero, List.set_cons_succ] at hK ⊢
         go_simp
         refine hK _ _ ⟨(by repeat (first | with_reducible exact HBK.out | with_reducible refine Below.setCell ?_ (by first | exact HBK.out.size | (simp; done) | (simp; omega) | (have := HBK.out.size; simp; omega)) _ | with_reducible refine Below.alloc ?_ (by first | exact HBK.out.size | omega | (simp; omega) | (simp; done) | (have := HBK.out.size; simp; omega)) _)), ?_⟩
         clear hK K0
         intro K0 hK
         simp only [Act.put, List.setIfInBounds_toArray, List.set_cons_zero, List.set_cons_succ] at hK ⊢
         go_simp
         refine hK _ _ ⟨fun _ => (by repeat (first | with_reducible exact HBK.out | with_reducible refine Below.setCell ?_ (by first | exact HBK.out.size | (simp; done) | (simp; omega) | (have := HBK.out.size; simp; omega)) _ | with_reducible refine Below.alloc ?_ (by first | exact HBK.out.size | omega | (simp; omega) | (simp; done) | (have := HBK.out.size; simp; omega)) _)), ?_⟩
         clear hK K0
         intro K0 hK
         simp only [Act.put, List.setIfInBounds_toArray, List.set_cons_zero, List.set_cons_succ] at hK ⊢
         go_simp
         refine hK _ _ ⟨fun _ => (by repeat (first | with_reducible exact HBK.out | with_reducible refine Below.setCell ?_ (by first | exact HBK.out.size | (simp; done) | (simp; omega) | (have := HBK.out.size; simp; omega)) _ | with_reducible refine Below.alloc ?_ (by first | exact HBK.out.size | omega | (simp; omega) | (simp; done) | (have := HBK.out.size; simp; omega)) _)), ?_⟩
         clear hK K0
         intro K0 hK
         simp only [Act.put, List.setIfInBounds_toArray, List.set_cons_zero, List.set_cons_succ] at hK ⊢
         go_simp
         refine hK _ _ ⟨fun h => absurd h (by decide), ?_⟩
         clear hK K0
         refine NoPanic.normal ?_
         refine name_exit fun w2 hw2 => ?_
         have hbk := HBK.out.size
         have HB2 : Hid (Below w1.heap.size w1 w2) := hide (by rw [hw2]; exact (by repeat (first | with_reducible exact HBK.out | with_reducible refine Below.setCell ?_ (by first | exact HBK.out.size | (simp; done) | (simp; omega) | (have := HBK.out.size; simp; omega)) _ | with_reducible refine Below.alloc ?_ (by first | exact HBK.out.size | omega | (simp; omega) | (simp; done) | (have := HBK.out.size; simp; omega)) _)))
         have HXP : Hid (Bx2 w2 (wk.heap.size + 1) q.1 s.1) := hide ⟨by first | (rw [hw2]; simp; done) | (rw [hw2]; simp; omega), by rw [hw2]; simp [go_sem], by rw [hw2]; simp [go_sem]⟩
         have HXQ : Hid (Bx2 w2 (wk.heap.size) q.1 s.2) := hide ⟨by first | (rw [hw2]; simp; done) | (rw [hw2]; simp; omega), by rw [hw2]; simp [go_sem], by rw [hw2]; simp [go_sem]⟩
         have HGQ : Hid (w1.heap.size ≤ wk.heap.size) := hide (by omega)
         obtain ⟨gp, hgp⟩ : ∃ g, wk.heap.size + 1 = g := ⟨_, rfl⟩
         obtain ⟨gq, hgq⟩ : ∃ g, wk.heap.size = g := ⟨_, rfl⟩
         rw [hgp] at HXP
         rw [hgq] at HXQ HGQ
         simp only [hgp]
         simp only [hgq]
         clear hw2 hgp hgq hbk
         have HI2 := hide (HI1.out.below HB2.out)
         have HNC := hide (HND.out w2 HI2.out.low q.1 s.1 HXB1.out)
         clear HI1 HB2 HBK HCE HX1 hb1w
         have HNQ := hide (fun (v : Value) (hv : v.ownBlock = (Value.slice Ao O.length co).ownBlock) => show v.ownBlock ≠ some gq from fun e => by have h1 := HLO.out gq (hv ▸ e); have h2 := HGQ.out; omega)
         clear HLO HGQ
         obtain ⟨hp3, p0, p1⟩ := HXP.out
         cases hn1 : nd (q.1, s.1) with
         | true =>
          rw [hn1] at HNC
          have HN1 := hide hn1
          clear hn1
          go_upto_region 29 with fail
          go_wp2_with (fail)
          refine HNC.out.mono ?_
          rintro e w4 ⟨rfl, hb4x⟩
          have HX4 := hide (HXP.out.below hb4x)
          have HQ4 := hide (HXQ.out.below hb4x)
          have HI4 := hide (HI2.out.below hb4x)
          clear hb4x p0 p1 hp3 HXP HXQ HI2 HNC
          obtain ⟨hp4, p0, p1⟩ := HX4.out
          go_upto_region 30 with fail
          go_wp2_with (fail)
          refine (rput34_any (p := (q.1, s.1)) HI4.out.row HI4.out.low.size (by omega)).mono ?_
          rintro e w5 ⟨vo5, rfl, ho5, hgr5⟩
          have HQ5 := hide (HQ4.out.grown hgr5 (HNQ.out _ rfl))
          have HI5 := hide (HI4.out.put HN1.out ho5 hgr5)
          obtain ⟨A5, c5, rfl⟩ := own_form ho5
          have hpl := (put_len O (q.1, s.1)).2
          generalize putF O (q.1, s.1) = O5 at *
          clear ho5 hgr5 p0 p1 hp4 HI4 HX4 HQ4
          have HNC := hide (HND.out w5 HI5.out.low q.1 s.2 HXB2.out)
          obtain ⟨hp5, p0, p1⟩ := HQ5.out
          cases hn2 : nd (q.1, s.2) with
          | true =>
           rw [hn2] at HNC
           have HN2 := hide hn2
           clear hn2
           go_upto_region 31 with fail
           go_wp2_with (fail)
           refine HNC.out.mono ?_
           rintro e w6 ⟨rfl, hb4x⟩
           have HQ6 := hide (HQ5.out.below hb4x)
           have HI6 := hide (HI5.out.below hb4x)
           clear hb4x p0 p1 hp5 HQ5 HI5 HNC
           obtain ⟨hp6, p0, p1⟩ := HQ6.out
           go_upto_region 32 with fail
           go_wp2_with (fail)
           refine (rput34_any (p := (q.1, s.2)) HI6.out.row HI6.out.low.size (by omega)).mono ?_
           rintro e w7 ⟨vo7, rfl, ho7, hgr7⟩
           have HI7 := hide (HI6.out.put HN2.out ho7 hgr7)
           obtain ⟨A7, c7, rfl⟩ := own_form ho7
           have hpl2 := (put_len O5 (q.1, s.2)).2
           generalize putF O5 (q.1, s.2) = O7 at *
           clear ho7 hgr7 p0 p1 hp6 HI6 HQ6
           go_wp2
           go_roundw
           case rel => exact ⟨k + 1, O7, A7, c7, by omega, by go_num, rfl, hide (by omega), hide (HI7.out.imp fun p hp => hp.elim (fun h => .inl (.inl (.inl h))) fun h => (HDS.out p h).elim (fun h => h.elim (fun h => .inl (.inl (.inr h))) fun h => .inl (.inr h)) .inr)⟩
           case measure => simp [intOf]; omega
          | false =>
           rw [hn2] at HNC
           have HN2 := hide hn2
           clear hn2
           go_upto_region 31 with fail
           go_wp2_with (fail)
           refine HNC.out.mono ?_
           rintro e w6 ⟨rfl, hb4x⟩
           have HI6 := hide ((HI5.out.below hb4x).skip HN2.out)
           clear hb4x p0 p1 hp5 HQ5 HI5 HNC
           go_wp2
           go_roundw
           case rel => exact ⟨k + 1, O5, A5, c5, by omega, by go_num, rfl, hide (by omega), hide (HI6.out.imp fun p hp => hp.elim (fun h => .inl (.inl (.inl h))) fun h => (HDS.out p h).elim (fun h => h.elim (fun h => .inl (.inl (.inr h))) fun h => .inl (.inr h)) .inr)⟩
           case measure => simp [intOf]; omega
         | false =>
          rw [hn1] at HNC
          have HN1 := hide hn1
          clear hn1
          go_upto_region 29 with fail
          go_wp2_with (fail)
          refine HNC.out.mono ?_
          rintro e w5 ⟨rfl, hb4x⟩
          have HQ5 := hide (HXQ.out.below hb4x)
          have HI5 := hide ((HI2.out.below hb4x).skip HN1.out)
          clear hb4x p0 p1 hp3 HXP HXQ HI2 HNC
          have HNC := hide (HND.out w5 HI5.out.low q.1 s.2 HXB2.out)
          obtain ⟨hp5, p0, p1⟩ := HQ5.out
          cases hn2 : nd (q.1, s.2) with
          | true =>
           rw [hn2] at HNC
           have HN2 := hide hn2
           clear hn2
           go_upto_region 31 with fail
           go_wp2_with (fail)
           refine HNC.out.mono ?_
           rintro e w6 ⟨rfl, hb4x⟩
           have HQ6 := hide (HQ5.out.below hb4x)
           have HI6 := hide (HI5.out.below hb4x)
           clear hb4x p0 p1 hp5 HQ5 HI5 HNC
           obtain ⟨hp6, p0, p1⟩ := HQ6.out
           go_upto_region 32 with fail
           go_wp2_with (fail)
           refine (rput34_any (p := (q.1, s.2)) HI6.out.row HI6.out.low.size (by omega)).mono ?_
           rintro e w7 ⟨vo7, rfl, ho7, hgr7⟩
           have HI7 := hide (HI6.out.put HN2.out ho7 hgr7)
           obtain ⟨A7, c7, rfl⟩ := own_form ho7
           have hpl2 := (put_len O (q.1, s.2)).2
           generalize putF O (q.1, s.2) = O7 at *
           clear ho7 hgr7 p0 p1 hp6 HI6 HQ6
           go_wp2
           go_roundw
           case rel => exact ⟨k + 1, O7, A7, c7, by omega, by go_num, rfl, hide (by omega), hide (HI7.out.imp fun p hp => hp.elim (fun h => .inl (.inl (.inl h))) fun h => (HDS.out p h).elim (fun h => h.elim (fun h => .inl (.inl (.inr h))) fun h => .inl (.inr h)) .inr)⟩
           case measure => simp [intOf]; omega
          | false =>
           rw [hn2] at HNC
           have HN2 := hide hn2
           clear hn2
           go_upto_region 31 with fail
           go_wp2_with (fail)
           refine HNC.out.mono ?_
           rintro e w6 ⟨rfl, hb4x⟩
           have HI6 := hide ((HI5.out.below hb4x).skip HN2.out)
           clear hb4x p0 p1 hp5 HQ5 HI5 HNC
           go_wp2
           go_roundw
           case rel => exact ⟨k + 1, O, Ao, co, by omega, by go_num, rfl, hide (by omega), hide (HI6.out.imp fun p hp => hp.elim (fun h => .inl (.inl (.inl h))) fun h => (HDS.out p h).elim (fun h => h.elim (fun h => .inl (.inl (.inr h))) fun h => .inl (.inr h)) .inr)⟩
           case measure => simp [intOf]; omega
       ·have oz : ¬ (O.length : Int) ≤ 400 := by omega
        go_wp2
        go_roundw
        case rel => exact ⟨m + 1, O, Ao, co, by omega, by go_num, rfl, HL, hide (HI.out.more (by omega))⟩
        case measure => simp [intOf]; omega
      ·have kz : ¬ (k : Int) < (q.2.length : Int) := by omega
       obtain rfl : k = q.2.length := by omega
       go_wp2
       go_roundw
       case rel => exact ⟨m + 1, O, Ao, co, by omega, by go_num, rfl, HL, hide (HI.out.imp fun p hp => hp.elim (fun h => .inl (.inl h)) fun h => (DC_succ HQ.out h).elim (fun h => .inl (.inr h)) .inr)⟩
       case measure => simp [intOf]; omega
    ·have mz : ¬ (m : Int) < (C.length : Int) := by omega
     obtain rfl : m = C.length := by omega
     go_wp2
     go_ret
     exact ⟨_, rfl, O, HI.out, HL.out⟩
end Go.Proofs.YtikojiciilambaaGreat

/- A map from ints to ints: look-up and store. The code's list of edges, step by step. -/
namespace Go.Proofs.YtikojiciilambaaGreat
open Go.RowKit Go.Maps
set_option linter.unusedVariables false
set_option linter.unusedSimpArgs false
def LM (b n : Nat) (f : Int → Int) (w : World) : Prop := ∃ D : DataW Unit, w.ownsMap Tryz.prog 3 (plainElem Tryz.prog 3) b n D ∧ ∀ k, okK k → D.atKey (.int .i64 k) (.lit (.int .i64 0)) = .lit (.int .i64 (f k))
theorem LM.made (w : World) : LM w.heap.size 0 (fun _ => 0) (w.alloc (.map #[] 0)) := ⟨.map [], World.ownsMap_made w _ _ _, fun k _ => rfl⟩
theorem LM.grown {b n : Nat} {f : Int → Int} {w w' : World} (h : LM b n f w) {row : Option Nat} (hg : w.grownBy w' row) (h1 : some b ≠ row) : LM b n f w' := by
 obtain ⟨D, d1, d2⟩ := h
 exact ⟨D, d1.kept hg h1, d2⟩
theorem LM.below {b n : Nat} {f : Int → Int} {w w' : World} (h : LM b n f w) (hb : Below w.heap.size w w') : LM b n f w' := h.grown (below_grow hb) (by simp)
theorem LM.lt {b n : Nat} {f : Int → Int} {w : World} (h : LM b n f w) : b < w.heap.size := by
 obtain ⟨D, d1, _⟩ := h
 exact d1.lt
theorem zeroI (w : World) : (zeroValue 3).run Tryz.prog w = .ok (.int .i64 0) w := by kernel_rfl
theorem litInj {a b : Int} (h : (DataW.lit (.int .i64 a) : DataW Unit) = .lit (.int .i64 b)) : a = b := by
 injection h with h
 injection h
theorem LM.look {b n : Nat} {f : Int → Int} {w : World} (h : LM b n f w) {k : Int} (hk : okK k) : (Instr.lookup 116 (.map (some b)) (.int .i64 k) false).run Tryz.prog w = .ok (.int .i64 (f k)) w := by
 obtain ⟨D, d1, d2⟩ := h
 obtain ⟨c, hrun, hat, _⟩ := d1.lookup_int lawIS Tryz.underlying116 Tryz.underlying3 (zeroI w) (keyI hk)
 rw [d2 k hk] at hat
 rw [litInj hat]
 exact hrun
theorem LM.store {b n : Nat} {f : Int → Int} {w : World} (h : LM b n f w) {k v : Int} (hk : okK k) (hv : okK v) (hn : n < maxLen) :
  ∃ w', (Instr.mapUpdate 116 (.map (some b)) (.int .i64 k) (.int .i64 v)).run Tryz.prog w = .ok () w' ∧ w.grownBy w' (some b) ∧ LM b (n + 1) (fun k' => if k' = k then v else f k') w' := by
 obtain ⟨D, d1, d2⟩ := h
 obtain ⟨w', hrun, o3, g3⟩ := d1.update lawIS Tryz.underlying116 hn (keyI hk) (plainElem_int Tryz.underlying3 (WalkArith.wf_i64 (by unfold okK at hv; omega)) (a := v))
 refine ⟨w', hrun, g3, _, o3, fun k' hk' => ?_⟩
 by_cases e : k' = k
 ·subst e
  simp only [if_true]
  rw [atKey_put_same d1.isMap (lawIS.key (keyI hk))]
 ·simp only [if_neg e]
  rw [atKey_put_other (fun e2 => e (by injection e2))]
  exact d2 k' hk'
def codeE (h v : Int → Int → Bool) (N : List Pt) (i : Nat) : List Ei := edI ((List.range i).flatMap fun i => ltE h N i ++ dnE v N i)
theorem codeE_succ (h v : Int → Int → Bool) (N : List Pt) (i : Nat) : codeE h v N (i + 1) = codeE h v N i ++ edI (ltE h N i) ++ edI (dnE v N i) := by
 unfold codeE edI
 rw [List.range_succ, List.flatMap_append, List.map_append, List.flatMap_cons, List.flatMap_nil, List.append_nil, List.map_append, List.append_assoc]
theorem codeE_len (h v : Int → Int → Bool) (N : List Pt) (i : Nat) : (codeE h v N i).length ≤ 2 * i := by
 induction i with
 | zero => simp [codeE, edI]
 | succ i ih =>
  rw [codeE_succ, List.length_append, List.length_append]
  have e1 : (edI (ltE h N i)).length ≤ 1 := by unfold edI ltE; split <;> simp
  have e2 : (edI (dnE v N i)).length ≤ 1 := by unfold edI dnE; split <;> simp
  omega
theorem edI_perm {E E' : List Ed} (h : E.Perm E') : (edI E).Perm (edI E') := h.map _
theorem edI_srt {E : List Ed} (h : E.Pairwise edLt) : (edI E).Pairwise ptLt := by
 unfold edI
 rw [List.pairwise_map]
 refine h.imp ?_
 intro a b hab
 unfold edLt at hab
 unfold ptLt
 simp only
 omega
def lastI (f : Pt → Int) (N : List Pt) (i : Nat) : Int → Int := fun y => (lastG f N i y : Nat)
theorem lastI_zero (f : Pt → Int) (N : List Pt) : lastI f N 0 = fun _ => 0 := rfl
theorem lastI_succ (f : Pt → Int) (N : List Pt) (i : Nat) : lastI f N (i + 1) = fun y => if y = f (nd N i) then (i : Int) else lastI f N i y := by
 funext y
 unfold lastI
 simp only [lastG]
 by_cases e : f (nd N i) = y
 ·rw [if_pos e, if_pos e.symm]
 ·rw [if_neg e, if_neg (fun h => e h.symm)]
theorem lastG_lt (f : Pt → Int) (N : List Pt) : ∀ (i : Nat) (y : Int), lastG f N i y ≤ i
 | 0, _ => Nat.le_refl _
 | i + 1, y => by
  simp only [lastG]
  split
  ·omega
  ·have := lastG_lt f N i y; omega
end Go.Proofs.YtikojiciilambaaGreat

/- street.network: the walk. -/
namespace Go.Proofs.YtikojiciilambaaGreat
open Go.RowKit Go.Maps
set_option linter.unusedVariables false
set_option linter.unusedSimpArgs false
theorem infoEd : (Tryz.prog.info? 120).map (fun i => (i.zero, i.size, i.bytes)) = some (some (.agg #[.int .i64 0, .int .i64 0]), 2, 16) := by kernel_rfl
theorem frozen_grow {w w' : World} {row : Option Nat} (h : w.grownBy w' row) {b o : Nat} (hb : b < w.heap.size) (hne : some b ≠ row) : w'.frozen? ⟨b, o, none⟩ = w.frozen? ⟨b, o, none⟩ := by
 unfold World.frozen?
 rw [h.block b hb hne]
theorem codeE_big {h v : Int → Int → Bool} {N : List Pt} {i : Nat} {e : Ei} (he : e ∈ codeE h v N i) (hi : i ≤ 400) : bigP e := by
 unfold codeE edI at he
 simp only [List.mem_map, List.mem_flatMap, List.mem_range, List.mem_append] at he
 obtain ⟨⟨a, b⟩, ⟨j, hj, h1⟩, rfl⟩ := he
 have hab : a ≤ j ∧ b = j := by
  rcases h1 with h1 | h1
  ·unfold ltE at h1
   split at h1
   ·rw [List.mem_singleton] at h1
    injection h1 with e1 e2
    rw [e1]
    exact ⟨lastG_lt _ _ _ _, e2⟩
   ·cases h1
  ·unfold dnE at h1
   split at h1
   ·rw [List.mem_singleton] at h1
    injection h1 with e1 e2
    rw [e1]
    exact ⟨lastG_lt _ _ _ _, e2⟩
   ·cases h1
 unfold bigP
 simp only
 omega
theorem set_grow (W : World) (b o : Nat) (u : Value) : W.grownBy (W.setCell ⟨b, o, none⟩ u) (some b) := ⟨rfl, rfl, rfl, by simp, fun k _ hk => Below.heap_setCell _ _ _ _ (fun e => hk (by rw [e]))⟩
theorem own_setB {W : World} {B e k n : Nat} {v : Value} {xs : List Value} {b o : Nat} {u : Value} (h : W.ownsRow B e k v n xs) (hb : b < B) : (W.setCell ⟨b, o, none⟩ u).ownsRow B e k v n xs := by
 refine h.kept (set_grow W b o u) ?_
 rcases hq : v.ownBlock with _ | q
 ·exact .inl rfl
 ·right
  intro e
  have h1 := (h.lt q hq).1
  injection e with e
  omega
structure Nw (w2 wr : World) (nv ev : Value) (l : List Sg) (E : List Ei) (m : Nat) : Prop where
 low : Below w2.heap.size w2 wr
 sz : w2.heap.size + 3 ≤ wr.heap.size
 c0 : wr.cell? ⟨w2.heap.size, 0, none⟩ = some nv
 c1 : wr.cell? ⟨w2.heap.size, 1, none⟩ = some ev
 fr : wr.frozen? ⟨w2.heap.size, 1, none⟩ = false
 own : wr.ownsRow (w2.heap.size + 3) 120 2 ev E.length (E.flatMap encS)
 m8 : LM (w2.heap.size + 1) m (lastI Prod.snd (nodesF l) m) wr
 m9 : LM (w2.heap.size + 2) m (lastI Prod.fst (nodesF l) m) wr
theorem Nw.below {w2 wr w' : World} {nv ev : Value} {l : List Sg} {E : List Ei} {m : Nat} (h : Nw w2 wr nv ev l E m) (hb : Below wr.heap.size wr w') : Nw w2 w' nv ev l E m := by
 have hs := h.sz
 exact ⟨h.low.trans (hb.mono h.low.size), Nat.le_trans h.sz hb.size, (hb.cell (p := ⟨_, 0, none⟩) (by simp only; omega)).trans h.c0, (hb.cell (p := ⟨_, 1, none⟩) (by simp only; omega)).trans h.c1, (hb.frozen (p := ⟨_, 1, none⟩) (by simp only; omega)).trans h.fr, h.own.kept (below_grow hb) own_none_or, h.m8.below hb, h.m9.below hb⟩
theorem Nw.app {w2 wr w6 w9 w10 : World} {nv ev ev' : Value} {l : List Sg} {E : List Ei} {m : Nat} (h : Nw w2 wr nv ev l E m) (hb : Below wr.heap.size wr w6) {e : Ei} {xs : List Value} (hx : xs = (E ++ [e]).flatMap encS)
  (ho : w9.ownsRow (w2.heap.size + 3) 120 2 ev' (E.length + 1) xs) (hg : w6.grownBy w9 ev.ownBlock) (hw : w10 = w9.setCell ⟨w2.heap.size, 1, none⟩ ev') : Nw w2 w10 nv ev' l (E ++ [e]) m := by
 have h6 := h.below hb
 have hs := h6.sz
 have hlt : ∀ q, ev.ownBlock = some q → w2.heap.size + 3 ≤ q := fun q hq => (h6.own.lt q hq).1
 have hne : ∀ i, i < 3 → some (w2.heap.size + i) ≠ ev.ownBlock := fun i hi e => by have := hlt _ e.symm; omega
 have n0 := hne 0 (by omega)
 have h9s := hg.size
 have hl9 : Below w2.heap.size w2 w9 := h6.low.grown hg h6.low.size (fun q hq => by have := hlt q hq; omega)
 have c0 := (cell_grow hg (b := w2.heap.size) (o := 0) (by omega) n0).trans h6.c0
 have c1 := (cell_grow hg (b := w2.heap.size) (o := 1) (by omega) n0).trans h6.c1
 have fr := (frozen_grow hg (b := w2.heap.size) (o := 1) (by omega) n0).trans h6.fr
 have k8 := h6.m8.grown hg (hne 1 (by omega))
 have k9 := h6.m9.grown hg (hne 2 (by omega))
 have hgz : w9.grownBy w10 (some w2.heap.size) := by
  rw [hw]
  exact ⟨rfl, rfl, rfl, by simp, fun k _ hk => Below.heap_setCell _ _ _ _ (fun e => hk (by rw [e]))⟩
 refine ⟨?_, ?_, ?_, ?_, ?_, ?_, ?_, ?_⟩
 ·rw [hw]; exact Below.setCell hl9 (Nat.le_refl _) _
 ·have := hgz.size; omega
 ·rw [hw]; simp [go_sem, c0]
 ·rw [hw]; simp [go_sem, c1]
 ·rw [hw]; simp [go_sem, fr]
 ·rw [List.length_append, List.length_singleton, ← hx]
  refine ho.kept hgz ?_
  rcases hq : ev'.ownBlock with _ | q
  ·exact .inl rfl
  ·right
   intro e
   have h1 := (ho.lt q hq).1
   injection e with e
   omega
 ·exact k8.grown hgz (by simp)
 ·exact k9.grown hgz (by simp)
theorem Nw.at9 {w2 wr w6 w9 : World} {nv ev : Value} {l : List Sg} {E : List Ei} {m : Nat} (h : Nw w2 wr nv ev l E m) (hb : Below wr.heap.size wr w6) (hg : w6.grownBy w9 ev.ownBlock) :
  w9.cell? ⟨w2.heap.size, 1, none⟩ = some ev ∧ w9.frozen? ⟨w2.heap.size, 1, none⟩ = false ∧ w2.heap.size < w9.heap.size := by
 have h6 := h.below hb
 have hs := h6.sz
 have n0 : some w2.heap.size ≠ ev.ownBlock := fun e => by have := (h6.own.lt _ e.symm).1; omega
 have h9s := hg.size
 exact ⟨(cell_grow hg (b := w2.heap.size) (o := 1) (by omega) n0).trans h6.c1, (frozen_grow hg (b := w2.heap.size) (o := 1) (by omega) n0).trans h6.fr, by omega⟩
def Bx (wx : World) (g5 g7 : Nat) (px py : Int) (q4 : Bool) (ev : Value) : Prop :=
 wx.cell? ⟨g5, 0, none⟩ = some (.int .i64 px) ∧ wx.cell? ⟨g5, 1, none⟩ = some (.int .i64 py) ∧ wx.cell? ⟨g7, 3, none⟩ = some (.bool q4) ∧ g5 < wx.heap.size ∧ g7 < wx.heap.size ∧ ev.ownBlock ≠ some g5 ∧ ev.ownBlock ≠ some g7
theorem Bx.app {wx w6 w9 w10 : World} {g5 g7 g9 b : Nat} {px py : Int} {q4 : Bool} {ev ev' u : Value} (h : Bx wx g5 g7 px py q4 ev) (hb : Below wx.heap.size wx w6) (hg : w6.grownBy w9 ev.ownBlock) (hor : ev.ownBlock = some g9 ∨ g9 = w6.heap.size)
  (hw : w10 = w9.setCell ⟨b, 1, none⟩ u) (h5 : b < g5) (h7 : b < g7) (he : ev'.ownBlock = some g9) : Bx w10 g5 g7 px py q4 ev' := by
 obtain ⟨a1, a2, a3, a4, a5, a6, a7⟩ := h
 have hs := hb.size
 have hs2 := hg.size
 have n5 : b ≠ g5 := by omega
 have n7 : b ≠ g7 := by omega
 have k5 : g9 ≠ g5 := by
  rcases hor with h | h
  ·exact fun e => a6 (by rw [h, e])
  ·omega
 have k7 : g9 ≠ g7 := by
  rcases hor with h | h
  ·exact fun e => a7 (by rw [h, e])
  ·omega
 have far : ∀ (g o : Nat), b ≠ g → w10.cell? ⟨g, o, none⟩ = w9.cell? ⟨g, o, none⟩ := fun g o hn => by rw [hw]; exact World.cell?_setCell_far _ _ _ _ hn
 have hz : w10.heap.size = w9.heap.size := by rw [hw]; simp
 refine ⟨(far _ _ n5).trans ((cell_grow hg (by omega) (Ne.symm a6)).trans ((hb.cell (p := ⟨g5, 0, none⟩) a4).trans a1)), (far _ _ n5).trans ((cell_grow hg (by omega) (Ne.symm a6)).trans ((hb.cell (p := ⟨g5, 1, none⟩) a4).trans a2)), (far _ _ n7).trans ((cell_grow hg (by omega) (Ne.symm a7)).trans ((hb.cell (p := ⟨g7, 3, none⟩) a5).trans a3)), by omega, by omega, ?_, ?_⟩
 ·rw [he]; exact fun e => k5 (by injection e)
 ·rw [he]; exact fun e => k7 (by injection e)
theorem Nw.put {w2 wr : World} {nv ev : Value} {l : List Sg} {E : List Ei} {m : Nat} (h : Nw w2 wr nv ev l E m) (hm : m ≤ 400) (hp : bigP (nd (nodesF l) m)) :
  ∃ wa, (Instr.mapUpdate 116 (.map (some (w2.heap.size + 1))) (.int .i64 (nd (nodesF l) m).2) (.int .i64 m)).run Tryz.prog wr = .ok () wa ∧ wr.grownBy wa (some (w2.heap.size + 1)) ∧
   ∃ wb, (Instr.mapUpdate 116 (.map (some (w2.heap.size + 2))) (.int .i64 (nd (nodesF l) m).1) (.int .i64 m)).run Tryz.prog wa = .ok () wb ∧ Nw w2 wb nv ev l E (m + 1) := by
 obtain ⟨⟨x1, x2⟩, y1, y2⟩ := hp
 obtain ⟨wa, r1, g1, k1⟩ := h.m8.store (k := (nd (nodesF l) m).2) (v := m) (by unfold okK; omega) (by unfold okK; omega) (by unfold maxLen; omega)
 obtain ⟨wb, r2, g2, k2⟩ := (h.m9.grown g1 (fun e => by injection e with e; omega)).store (k := (nd (nodesF l) m).1) (v := m) (by unfold okK; omega) (by unfold okK; omega) (by unfold maxLen; omega)
 have hs := h.sz
 have hsa := g1.size
 have hsb := g2.size
 refine ⟨wa, r1, g1, wb, r2, ?_⟩
 refine ⟨(h.low.grown g1 h.low.size (fun q hq => by injection hq with hq; omega)).grown g2 (by omega) (fun q hq => by injection hq with hq; omega), by omega, ?_, ?_, ?_, ?_, ?_, ?_⟩
 ·exact (cell_grow g2 (by omega) (fun e => by injection e with e; omega)).trans ((cell_grow g1 (by omega) (fun e => by injection e with e; omega)).trans h.c0)
 ·exact (cell_grow g2 (by omega) (fun e => by injection e with e; omega)).trans ((cell_grow g1 (by omega) (fun e => by injection e with e; omega)).trans h.c1)
 ·exact (frozen_grow g2 (by omega) (fun e => by injection e with e; omega)).trans ((frozen_grow g1 (by omega) (fun e => by injection e with e; omega)).trans h.fr)
 ·have hk : ∀ q, q = w2.heap.size + 1 ∨ q = w2.heap.size + 2 → ev.ownBlock = none ∨ some q ≠ ev.ownBlock := fun q hq => by
   right
   intro e
   have := (h.own.lt q e.symm).1
   omega
  have hkk : ∀ q, q = w2.heap.size + 1 ∨ q = w2.heap.size + 2 → ev.ownBlock = none ∨ ev.ownBlock ≠ some q := fun q hq => by
   rcases hk q hq with h | h
   ·exact .inl h
   ·exact .inr (Ne.symm h)
  exact (h.own.kept g1 (hkk _ (.inl rfl))).kept g2 (hkk _ (.inr rfl))
 ·rw [lastI_succ]
  exact k1.grown g2 (fun e => by injection e with e; omega)
 ·rw [lastI_succ]
  exact k2
def NetQ (w w' : World) (l : List Sg) (e : Ending) : Prop :=
 ((nodesF l).length ≤ 400 → ∃ nv ev, e = .returned (.tuple #[.agg #[nv, ev], .bool true]) ∧ w'.ownsRow w.heap.size 53 2 nv (nodesF l).length ((nodesF l).flatMap encS) ∧ w'.ownsRow w.heap.size 120 2 ev (edI (edgesF l)).length ((edI (edgesF l)).flatMap encS)) ∧
 (400 < (nodesF l).length → e = .returned (.tuple #[.agg #[.slice none 0 0, .slice none 0 0], .bool false]))
set_option maxHeartbeats 8000000 in
theorem network_any {w : World} {v : Value} {l0 : List Sg} (hr : RdK encSg 4 w w.heap.size v l0) (hl0 : l0.length ≤ 800) (hv0 : ∀ s ∈ l0, okSg s) :
  Calls Tryz.prog 117 #[v] w fun e w' => NetQ w w' (thin l0) e ∧ Below w.heap.size w w' := by
 have HCO : Hid (∀ W, Below w.heap.size w W → Calls Tryz.prog 160 #[v] W fun e w' => ∃ u, e = .returned u ∧ Roads W.heap.size (thin l0) u w' ∧ Below W.heap.size W w') := hide (fun W hb => collect_any ((hr.below hb).mono hb.size) hl0 hv0)
 have hv : ∀ s ∈ thin l0, okSg s := fun s hs => hv0 s (thin_mem hs)
 have hl : (thin l0).length ≤ 800 := Nat.le_trans (thin_len l0) hl0
 generalize thin l0 = l at *
 have HV := hide hv
 clear hv hr hv0 hl0
 have hmm := @run_makeMap Tryz.prog
 go_enter Tryz.func117, Tryz.ntmps117
 go_wp2_with (fail)
 have hba : Below w.heap.size w (w.alloc (.cells #[.slice none 0 0, .slice none 0 0] 63)) := (Below.refl _ _).alloc (Nat.le_refl _) _
 refine (HCO.out _ hba).mono ?_
 rintro e w1 ⟨u, rfl, hro, hb⟩
 have HB1 : Hid (Below w.heap.size w w1) := hide (hba.trans (hb.mono hba.size))
 have HR1 : Hid ((∀ i, i < 2 → w1.cell? ⟨w.heap.size, i, none⟩ = some (.slice none 0 0) ∧ w1.frozen? ⟨w.heap.size, i, none⟩ = false) ∧ w.heap.size < w1.heap.size) := hide (by
  refine ⟨fun i hi => ?_, Nat.lt_of_lt_of_le (by simp) hb.size⟩
  match i, hi with
  | 0, _ => exact ⟨(hb.cell (p := ⟨w.heap.size, 0, none⟩) (by simp)).trans (by simp [go_sem]), (hb.frozen (p := ⟨w.heap.size, 0, none⟩) (by simp)).trans (by simp [go_sem])⟩
  | 1, _ => exact ⟨(hb.cell (p := ⟨w.heap.size, 1, none⟩) (by simp)).trans (by simp [go_sem]), (hb.frozen (p := ⟨w.heap.size, 1, none⟩) (by simp)).trans (by simp [go_sem])⟩)
 obtain ⟨b1, b2, K1, K2, v1, v2, rfl, m1, m2, k1, k2, e1, e2⟩ := hro
 have HM := hide (And.intro m1 (And.intro m2 (And.intro k1 (And.intro k2 (And.intro e1 e2)))))
 clear m1 m2 k1 k2 e1 e2 hb hba
 go_wp2_with (fail)
 have hbb : Below w1.heap.size w1 (w1.alloc (.cells #[.map (some b1), .map (some b2)] 219)) := (Below.refl _ _).alloc (Nat.le_refl _) _
 refine (nodes_any (HM.out.1.below hbb) (HM.out.2.1.below hbb) HM.out.2.2.1 HM.out.2.2.2.1 HM.out.2.2.2.2.1 HM.out.2.2.2.2.2 HV.out hl).mono ?_
 rintro e w3 ⟨⟨A, c, L, ok, rfl, ho, hcase⟩, hb⟩
 have hb3 := hbb.trans (hb.mono hbb.size)
 have HB3 : Hid (Below w.heap.size w w3) := hide (HB1.out.trans (hb3.mono HB1.out.size))
 have HR3 : Hid ((∀ i, i < 2 → w3.cell? ⟨w.heap.size, i, none⟩ = some (.slice none 0 0) ∧ w3.frozen? ⟨w.heap.size, i, none⟩ = false) ∧ w.heap.size < w3.heap.size) := hide ⟨fun i hi => ⟨(hb3.cell (p := ⟨w.heap.size, i, none⟩) HR1.out.2).trans (HR1.out.1 i hi).1, (hb3.frozen (p := ⟨w.heap.size, i, none⟩) HR1.out.2).trans (HR1.out.1 i hi).2⟩, Nat.lt_of_lt_of_le HR1.out.2 hb3.size⟩
 have HT3 : Hid (w3.cell? ⟨w1.heap.size, 0, none⟩ = some (.map (some b1)) ∧ w3.cell? ⟨w1.heap.size, 1, none⟩ = some (.map (some b2)) ∧ w1.heap.size < w3.heap.size) := hide ⟨(hb.cell (p := ⟨w1.heap.size, 0, none⟩) (by simp)).trans (by simp [go_sem]), (hb.cell (p := ⟨w1.heap.size, 1, none⟩) (by simp)).trans (by simp [go_sem]), Nat.lt_of_lt_of_le (by simp) hb.size⟩
 have HRO : Hid (Roads (w.heap.size + 1) l (.agg #[.map (some b1), .map (some b2)]) w3) := hide (by
  have h : Roads (w.heap.size + 1) l (.agg #[.map (some b1), .map (some b2)]) w1 := ⟨b1, b2, K1, K2, v1, v2, rfl, by have h := HM.out.1; simpa using h, by have h := HM.out.2.1; simpa using h, HM.out.2.2.1, HM.out.2.2.2.1, by have h := HM.out.2.2.2.2.1; simpa using h, by have h := HM.out.2.2.2.2.2; simpa using h⟩
  exact h.below hb3)
 have ho' := own_base ho (base := w.heap.size + 1) (by have := hbb.size; have := HR1.out.2; omega)
 have HNO := hide ho'
 have hw1 : w.heap.size ≤ w1.heap.size := HB1.out.size
 clear HB1 HR1 HM hbb hb3 hb ho ho' K1 K2 v1 v2
 rcases hcase with ⟨hn, rfl, rfl⟩ | ⟨hn, rfl⟩
 ·obtain ⟨_, _, hsl, hcc⟩ := own_rd HNO.out (fun _ => rfl)
  injection hsl with q1 _ q3
  subst q1
  subst q3
  have HR := hide hcc
  clear hcc
  go_upto_region 7 with fail
  refine wp_name fun w4 hw4 => ?_
  clear hmm
  have HN4 : Hid (Nw w3 w4 (.slice A (nodesF l).length c) (.slice none 0 0) l [] 0) := hide (by
   have q8 := LM.made (w3.alloc (.cells #[.slice A (nodesF l).length c, .slice none 0 0] 63))
   have q9 := LM.made ((w3.alloc (.cells #[.slice A (nodesF l).length c, .slice none 0 0] 63)).alloc (.map #[] 0))
   have e1 : (w3.alloc (.cells #[.slice A (nodesF l).length c, .slice none 0 0] 63)).heap.size = w3.heap.size + 1 := by simp
   have e2 : ((w3.alloc (.cells #[.slice A (nodesF l).length c, .slice none 0 0] 63)).alloc (.map #[] 0)).heap.size = w3.heap.size + 2 := by simp
   rw [e1] at q8
   rw [e2] at q9
   rw [← lastI_zero Prod.snd (nodesF l)] at q8
   rw [← lastI_zero Prod.fst (nodesF l)] at q9
   rw [hw4]
   exact ⟨(((Below.refl _ _).alloc (Nat.le_refl _) _).alloc (by simp) _).alloc (by simp; omega) _, by simp, by simp [go_sem], by simp [go_sem], by simp [go_sem], World.ownsRow_nil _ _ _ _, q8.below ((Below.refl _ _).alloc (Nat.le_refl _) _), q9⟩)
  clear hw4
  go_wp2
  go_loopw [29] (fun i wr => ∃ m : Nat, m ≤ (nodesF l).length ∧ i = .int .i64 m ∧ Hid (∃ ev, Nw w3 wr (.slice A (nodesF l).length c) ev l (codeE (htB l) (vtB l) (nodesF l) m) m)) (fun i _ => (nodesF l).length - (intOf i).toNat)
  case atStart => exact ⟨0, Nat.zero_le _, rfl, hide ⟨_, HN4.out⟩⟩
  case round =>
   clear HN4
   obtain ⟨m, hm, rfl, HH⟩ := hrel
   by_cases hlt : m < (nodesF l).length
   ·obtain ⟨ev, hnw⟩ := HH.out
    obtain ⟨Ae, ce, rfl⟩ := own_form hnw.own
    have HNW := hide hnw
    have HEL := hide (codeE_len (htB l) (vtB l) (nodesF l) m)
    have HSU := hide (codeE_succ (htB l) (vtB l) (nodesF l) m)
    clear HH hnw
    generalize codeE (htB l) (vtB l) (nodesF l) m = E at *
    have hel : E.length ≤ 2 * m := HEL.out
    obtain ⟨⟨px, py⟩, hs⟩ : ∃ p, (nodesF l)[m]? = some p := ⟨_, List.getElem?_eq_getElem hlt⟩
    have HND : Hid (nd (nodesF l) m = (px, py)) := hide (by unfold nd; rw [List.getD_eq_getElem?_getD, hs]; rfl)
    have hbp := node_big HV.out (((nodesF_ok HV.out).2 (px, py)).1 (List.mem_of_getElem? hs))
    have HBP := hide hbp
    obtain ⟨b, o, rfl, hbl, k⟩ := HR.out (by intro e; rw [e] at hlt; simp at hlt)
    have d0 : wr.cell? ⟨b, o + m * 2, none⟩ = some (.int .i64 px) := (HNW.out.low.cell (p := ⟨b, _, none⟩) hbl).trans (k m _ hs 0 _ rfl)
    have d1 : wr.cell? ⟨b, o + m * 2 + 1, none⟩ = some (.int .i64 py) := (HNW.out.low.cell (p := ⟨b, _, none⟩) hbl).trans (k m _ hs 1 _ rfl)
    have mz : (m : Int) < ((nodesF l).length : Int) := by omega
    clear k hs
    go_upto_region 9 with fail
    go_upto_region 10 with fail
    refine wp_name fun w5 hw5 => ?_
    obtain ⟨g5, hg5⟩ : ∃ g, g = wr.heap.size := ⟨_, rfl⟩
    have hb5 : Below wr.heap.size wr w5 := by
     rw [hw5]
     repeat (first | with_reducible exact Below.refl _ _ | with_reducible refine Below.setCell ?_ (by first | (simp; done) | (simp; omega)) _ | with_reducible refine Below.alloc ?_ (by first | omega | (simp; omega) | simp) _)
    have p0 : w5.cell? ⟨g5, 0, none⟩ = some (.int .i64 px) := by rw [hw5, hg5]; simp [go_sem]
    have p1 : w5.cell? ⟨g5, 1, none⟩ = some (.int .i64 py) := by rw [hw5, hg5]; simp [go_sem]
    have hlt5 : g5 < w5.heap.size := by rw [hw5, hg5]; simp
    have HN5 := hide (HNW.out.below hb5)
    have z0 := (HN5.out.low.cell (p := ⟨w1.heap.size, 0, none⟩) HT3.out.2.2).trans HT3.out.1
    have z1 := (HN5.out.low.cell (p := ⟨w1.heap.size, 1, none⟩) HT3.out.2.2).trans HT3.out.2.1
    rw [← hg5]
    have hsz5 : w3.heap.size + 3 ≤ g5 := by rw [hg5]; exact HNW.out.sz
    have HOB : Hid (∀ q, (Value.slice Ae E.length ce).ownBlock = some q → q < g5) := hide (fun q hq => by rw [hg5]; exact (HNW.out.own.lt q hq).2)
    clear hw5 hb5 hg5 d0 d1 HNW
    go_wp2_with (fail)
    refine (around_any (HRO.out.below HN5.out.low) HV.out hl HBP.out).mono ?_
    rintro e w6 ⟨rfl, hb6⟩
    have hr : arndV l (px, py) = .agg #[.bool (htB l px py), .bool (vtB l px py), .bool (htB l (px - 1) py), .bool (vtB l px (py - 1))] := rfl
    rw [hr]
    clear hr
    have HLT : Hid (ltE (htB l) (nodesF l) m = if htB l (px - 1) py = true then [(lastG Prod.snd (nodesF l) m py, m)] else []) := hide (by unfold ltE; rw [HND.out])
    have HDN : Hid (dnE (vtB l) (nodesF l) m = if vtB l px (py - 1) = true then [(lastG Prod.fst (nodesF l) m px, m)] else []) := hide (by unfold dnE; rw [HND.out])
    generalize htB l px py = q1
    generalize vtB l px py = q2
    generalize htB l (px - 1) py = q3 at *
    generalize vtB l px (py - 1) = q4 at *
    go_upto_region 11 with fail
    refine wp_name fun w7 hw7 => ?_
    obtain ⟨g7, hg7⟩ : ∃ g, g = w6.heap.size := ⟨_, rfl⟩
    have hb7 : Below w5.heap.size w5 w7 := by
     rw [hw7]
     exact hb6.alloc hb6.size _
    have HB7 : Hid (Bx w7 g5 g7 px py q4 (.slice Ae E.length ce)) := hide ⟨(hb7.cell (p := ⟨g5, 0, none⟩) hlt5).trans p0, (hb7.cell (p := ⟨g5, 1, none⟩) hlt5).trans p1, by rw [hw7, hg7]; simp [go_sem], Nat.lt_of_lt_of_le hlt5 hb7.size, by rw [hw7, hg7]; simp, fun e => Nat.lt_irrefl _ (HOB.out _ e), fun e => by have := HOB.out _ e; have := hb6.size; omega⟩
    have a2 : w7.cell? ⟨g7, 2, none⟩ = some (.bool q3) := by rw [hw7, hg7]; simp [go_sem]
    have hg57 : g5 < g7 := by have := hb6.size; omega
    have HN7 := hide (HN5.out.below hb7)
    have p0' := HB7.out.1
    have p1' := HB7.out.2.1
    rw [← hg7]
    clear hw7 hb7 hb6 hg7 p0 p1 z0 z1 HN5 hlt5
    obtain ⟨i2, fi, fz0, fz1, fz2⟩ := info_parts infoEd
    cases q3
    ·go_upto_region 13 with fail
     have HE1 : Hid (E = E ++ edI (ltE (htB l) (nodesF l) m)) := hide (by rw [HLT.out]; simp [edI])
     have he1 : E.length ≤ 2 * m + 1 := by omega
     clear a2 p0' p1'
     have b4 := HB7.out.2.2.1
     have hsB := HB7.out.2.2.2.2.1
     have p0 := HB7.out.1
     have p1 := HB7.out.2.1
     cases q4
     ·go_upto_region 15 with fail
      have HE2 : Hid (E = E ++ edI (ltE (htB l) (nodesF l) m) ++ edI (dnE (vtB l) (nodesF l) m)) := hide (by rw [← HE1.out, HDN.out]; simp [edI])
      clear b4 p0 p1 hsB
      have x0 := HB7.out.1
      have x1 := HB7.out.2.1
      have hsB := HB7.out.2.2.2.1
      obtain ⟨wa, ra, ga, wb, rb, hn⟩ := (HN7.out.below ((Below.refl _ _).drew)).put (by omega) (by rw [HND.out]; exact HBP.out)
      rw [HND.out] at ra rb
      have y0 : wa.cell? ⟨g5, 0, none⟩ = some (.int .i64 px) := (cell_grow ga hsB (fun e => by injection e with e; omega)).trans x0
      have y1 : wa.cell? ⟨g5, 1, none⟩ = some (.int .i64 py) := (cell_grow ga hsB (fun e => by injection e with e; omega)).trans x1
      have HNB := hide hn
      clear hn ga
      refine wp_region_mix [0, 1, 2, 3, 4, 5, 6, 7] [8, 9] (fun w' => w'.cell? ⟨g5, 0, none⟩ = some (.int .i64 px) ∧ w'.cell? ⟨g5, 1, none⟩ = some (.int .i64 py)) (by kernel_rfl) (by kernel_rfl) ⟨x0, x1⟩ ?_
      simp only [List.map_cons, List.map_nil, opAt, List.getElem?_cons_succ, List.getElem?_cons_zero, Option.getD_some]
      iterate 8
       refine ⟨?_, Or.inl ⟨by rfl, ?_⟩, ?_⟩
       rotate_left 1
       ·intro w' hSw
        obtain ⟨z0, z1⟩ := hSw
        go_simp
        first | done | with_reducible rfl
       simp only [Act.put, List.setIfInBounds_toArray, List.set_cons_zero, List.set_cons_succ]
      simp only [wpReads]
      intro K hK
      simp only [Act.put, List.setIfInBounds_toArray, List.set_cons_zero, List.set_cons_succ] at hK ⊢
      go_simp
      refine hK _ _ (fun _ => ⟨y0, y1⟩) ?_
      clear hK K
      intro K hK
      simp only [Act.put, List.setIfInBounds_toArray, List.set_cons_zero, List.set_cons_succ] at hK ⊢
      go_simp
      refine hK _ _ (fun h => absurd rfl h) ?_
      clear hK K
      refine NoPanic.normal ?_
      go_wp2
      go_roundw
      case rel => exact ⟨m + 1, by omega, by go_num, hide ⟨_, by rw [HSU.out, ← HE2.out]; exact HNB.out⟩⟩
      case measure => simp [intOf]; omega
     ·have lk := HN7.out.m9.look (k := px) (by have := HBP.out; unfold bigP at this; unfold okK; simp only at this; omega)
      have c1 := HN7.out.c1
      have hszN := HN7.out.sz
      go_wp2_with (at_builtin; go_loud (refine wpList_append_lies _ rfl (.tmp 53) (.tmp 60) 61 rfl (w3.heap.size + 3) 120 i2 (.agg #[.int .i64 0, .int .i64 0]) 2 16 Tryz.underlying61 fi fz0 fz1 fz2 rfl (by decide) _ E.length _ rfl (World.ownsRow.alloc HN7.out.own _) ⟨w7.heap.size, 0, none⟩ 1 1 [.int .i64 (lastI Prod.fst (nodesF l) m px), .int .i64 m] rfl rfl (news_new w7 _ _ _ (by simp)) (ints_one rfl) (by omega) (by unfold maxLen; omega) (by omega) (by simp; omega) _ rfl ?_))
      intro gA capA wA hownA hgrowA horA hltA
      have hal := (Below.refl w7.heap.size w7).alloc (Nat.le_refl _) (.cells #[.int .i64 (lastI Prod.fst (nodesF l) m px), .int .i64 m] 120)
      obtain ⟨s1, s2, s3⟩ := HN7.out.at9 hal hgrowA
      have hxA : E.flatMap encS ++ [.int .i64 (lastI Prod.fst (nodesF l) m px), .int .i64 m] = (E ++ [(lastI Prod.fst (nodesF l) m px, (m : Int))]).flatMap encS := by simp [encS]
      go_upto_region 15 with fail
      refine wp_name fun wE hwE => ?_
      have HNE := hide (HN7.out.app hal (e := (lastI Prod.fst (nodesF l) m px, (m : Int))) hxA hownA hgrowA hwE)
      have HBE := hide (HB7.out.app (g9 := gA) (ev' := .slice (some ⟨gA, 0, none⟩) (E ++ [(lastI Prod.fst (nodesF l) m px, (m : Int))]).length capA) hal hgrowA (horA.imp id (fun h => by rw [h]; simp)) hwE (by omega) (by omega) rfl)
      have HE2 : Hid (E ++ [(lastI Prod.fst (nodesF l) m px, (m : Int))] = E ++ edI (ltE (htB l) (nodesF l) m) ++ edI (dnE (vtB l) (nodesF l) m)) := hide (by rw [← HE1.out, HDN.out]; simp [edI, lastI])
      clear hwE lk c1 hszN hownA hgrowA horA hltA hal s1 s2 s3 hxA b4 p0 p1 hsB
      have x0 := HBE.out.1
      have x1 := HBE.out.2.1
      have hsB := HBE.out.2.2.2.1
      obtain ⟨wa, ra, ga, wb, rb, hn⟩ := (HNE.out.below ((Below.refl _ _).drew)).put (by omega) (by rw [HND.out]; exact HBP.out)
      rw [HND.out] at ra rb
      have y0 : wa.cell? ⟨g5, 0, none⟩ = some (.int .i64 px) := (cell_grow ga hsB (fun e => by injection e with e; omega)).trans x0
      have y1 : wa.cell? ⟨g5, 1, none⟩ = some (.int .i64 py) := (cell_grow ga hsB (fun e => by injection e with e; omega)).trans x1
      have HNB := hide hn
      clear hn ga
      refine wp_region_mix [0, 1, 2, 3, 4, 5, 6, 7] [8, 9] (fun w' => w'.cell? ⟨g5, 0, none⟩ = some (.int .i64 px) ∧ w'.cell? ⟨g5, 1, none⟩ = some (.int .i64 py)) (by kernel_rfl) (by kernel_rfl) ⟨x0, x1⟩ ?_
      simp only [List.map_cons, List.map_nil, opAt, List.getElem?_cons_succ, List.getElem?_cons_zero, Option.getD_some]
      iterate 8
       refine ⟨?_, Or.inl ⟨by rfl, ?_⟩, ?_⟩
       rotate_left 1
       ·intro w' hSw
        obtain ⟨z0, z1⟩ := hSw
        go_simp
        first | done | with_reducible rfl
       simp only [Act.put, List.setIfInBounds_toArray, List.set_cons_zero, List.set_cons_succ]
      simp only [wpReads]
      intro K hK
      simp only [Act.put, List.setIfInBounds_toArray, List.set_cons_zero, List.set_cons_succ] at hK ⊢
      go_simp
      refine hK _ _ (fun _ => ⟨y0, y1⟩) ?_
      clear hK K
      intro K hK
      simp only [Act.put, List.setIfInBounds_toArray, List.set_cons_zero, List.set_cons_succ] at hK ⊢
      go_simp
      refine hK _ _ (fun h => absurd rfl h) ?_
      clear hK K
      refine NoPanic.normal ?_
      go_wp2
      go_roundw
      case rel => exact ⟨m + 1, by omega, by go_num, hide ⟨_, by rw [HSU.out, ← HE2.out]; exact HNB.out⟩⟩
      case measure => simp [intOf]; omega
    ·have lk := HN7.out.m8.look (k := py) (by have := HBP.out; unfold bigP at this; unfold okK; simp only at this; omega)
     have c1 := HN7.out.c1
     have hsz7 := HN7.out.sz
     go_wp2_with (at_builtin; go_loud (refine wpList_append_lies _ rfl (.tmp 40) (.tmp 47) 61 rfl (w3.heap.size + 3) 120 i2 (.agg #[.int .i64 0, .int .i64 0]) 2 16 Tryz.underlying61 fi fz0 fz1 fz2 rfl (by decide) _ E.length _ rfl (World.ownsRow.alloc HN7.out.own _) ⟨w7.heap.size, 0, none⟩ 1 1 [.int .i64 (lastI Prod.snd (nodesF l) m py), .int .i64 m] rfl rfl (news_new w7 _ _ _ (by simp)) (ints_one rfl) (by omega) (by unfold maxLen; omega) (by omega) (by simp; omega) _ rfl ?_))
     intro g9 cap9 w9 hown9 hgrow9 hor9 hlt9
     have hal := (Below.refl w7.heap.size w7).alloc (Nat.le_refl _) (.cells #[.int .i64 (lastI Prod.snd (nodesF l) m py), .int .i64 m] 120)
     obtain ⟨s1, s2, s3⟩ := HN7.out.at9 hal hgrow9
     have hx9 : E.flatMap encS ++ [.int .i64 (lastI Prod.snd (nodesF l) m py), .int .i64 m] = (E ++ [(lastI Prod.snd (nodesF l) m py, (m : Int))]).flatMap encS := by simp [encS]
     go_upto_region 13 with fail
     refine wp_name fun w8 hw8 => ?_
     have HN8 := hide (HN7.out.app hal (e := (lastI Prod.snd (nodesF l) m py, (m : Int))) hx9 hown9 hgrow9 hw8)
     have HB8 := hide (HB7.out.app (g9 := g9) (ev' := .slice (some ⟨g9, 0, none⟩) (E ++ [(lastI Prod.snd (nodesF l) m py, (m : Int))]).length cap9) hal hgrow9 (hor9.imp id (fun h => by rw [h]; simp)) hw8 (by omega) (by omega) rfl)
     have HE1 : Hid (E ++ [(lastI Prod.snd (nodesF l) m py, (m : Int))] = E ++ edI (ltE (htB l) (nodesF l) m)) := hide (by rw [HLT.out]; simp [edI, lastI])
     have he1 : (E ++ [(lastI Prod.snd (nodesF l) m py, (m : Int))]).length ≤ 2 * m + 1 := by rw [List.length_append, List.length_singleton]; omega
     have hln : (E ++ [(lastI Prod.snd (nodesF l) m py, (m : Int))]).length = E.length + 1 := by simp
     rw [← hln] at HN8
     clear hw8 lk c1 hsz7 hown9 hgrow9 hor9 hlt9 hal s1 s2 s3 hx9 hln a2 p0' p1'
     generalize E ++ [(lastI Prod.snd (nodesF l) m py, (m : Int))] = E1 at *
     have b4 := HB8.out.2.2.1
     have hsB := HB8.out.2.2.2.2.1
     have p0 := HB8.out.1
     have p1 := HB8.out.2.1
     cases q4
     ·go_upto_region 15 with fail
      have HE2 : Hid (E1 = E ++ edI (ltE (htB l) (nodesF l) m) ++ edI (dnE (vtB l) (nodesF l) m)) := hide (by rw [← HE1.out, HDN.out]; simp [edI])
      clear b4 p0 p1 hsB
      have x0 := HB8.out.1
      have x1 := HB8.out.2.1
      have hsB := HB8.out.2.2.2.1
      obtain ⟨wa, ra, ga, wb, rb, hn⟩ := (HN8.out.below ((Below.refl _ _).drew)).put (by omega) (by rw [HND.out]; exact HBP.out)
      rw [HND.out] at ra rb
      have y0 : wa.cell? ⟨g5, 0, none⟩ = some (.int .i64 px) := (cell_grow ga hsB (fun e => by injection e with e; omega)).trans x0
      have y1 : wa.cell? ⟨g5, 1, none⟩ = some (.int .i64 py) := (cell_grow ga hsB (fun e => by injection e with e; omega)).trans x1
      have HNB := hide hn
      clear hn ga
      refine wp_region_mix [0, 1, 2, 3, 4, 5, 6, 7] [8, 9] (fun w' => w'.cell? ⟨g5, 0, none⟩ = some (.int .i64 px) ∧ w'.cell? ⟨g5, 1, none⟩ = some (.int .i64 py)) (by kernel_rfl) (by kernel_rfl) ⟨x0, x1⟩ ?_
      simp only [List.map_cons, List.map_nil, opAt, List.getElem?_cons_succ, List.getElem?_cons_zero, Option.getD_some]
      iterate 8
       refine ⟨?_, Or.inl ⟨by rfl, ?_⟩, ?_⟩
       rotate_left 1
       ·intro w' hSw
        obtain ⟨z0, z1⟩ := hSw
        go_simp
        first | done | with_reducible rfl
       simp only [Act.put, List.setIfInBounds_toArray, List.set_cons_zero, List.set_cons_succ]
      simp only [wpReads]
      intro K hK
      simp only [Act.put, List.setIfInBounds_toArray, List.set_cons_zero, List.set_cons_succ] at hK ⊢
      go_simp
      refine hK _ _ (fun _ => ⟨y0, y1⟩) ?_
      clear hK K
      intro K hK
      simp only [Act.put, List.setIfInBounds_toArray, List.set_cons_zero, List.set_cons_succ] at hK ⊢
      go_simp
      refine hK _ _ (fun h => absurd rfl h) ?_
      clear hK K
      refine NoPanic.normal ?_
      go_wp2
      go_roundw
      case rel => exact ⟨m + 1, by omega, by go_num, hide ⟨_, by rw [HSU.out, ← HE2.out]; exact HNB.out⟩⟩
      case measure => simp [intOf]; omega
     ·have lk := HN8.out.m9.look (k := px) (by have := HBP.out; unfold bigP at this; unfold okK; simp only at this; omega)
      have c1 := HN8.out.c1
      have hszN := HN8.out.sz
      go_wp2_with (at_builtin; go_loud (refine wpList_append_lies _ rfl (.tmp 53) (.tmp 60) 61 rfl (w3.heap.size + 3) 120 i2 (.agg #[.int .i64 0, .int .i64 0]) 2 16 Tryz.underlying61 fi fz0 fz1 fz2 rfl (by decide) _ E1.length _ rfl (World.ownsRow.alloc HN8.out.own _) ⟨w8.heap.size, 0, none⟩ 1 1 [.int .i64 (lastI Prod.fst (nodesF l) m px), .int .i64 m] rfl rfl (news_new w8 _ _ _ (by simp)) (ints_one rfl) (by omega) (by unfold maxLen; omega) (by omega) (by simp; omega) _ rfl ?_))
      intro gA capA wA hownA hgrowA horA hltA
      have hal := (Below.refl w8.heap.size w8).alloc (Nat.le_refl _) (.cells #[.int .i64 (lastI Prod.fst (nodesF l) m px), .int .i64 m] 120)
      obtain ⟨s1, s2, s3⟩ := HN8.out.at9 hal hgrowA
      have hxA : E1.flatMap encS ++ [.int .i64 (lastI Prod.fst (nodesF l) m px), .int .i64 m] = (E1 ++ [(lastI Prod.fst (nodesF l) m px, (m : Int))]).flatMap encS := by simp [encS]
      go_upto_region 15 with fail
      refine wp_name fun wE hwE => ?_
      have HNE := hide (HN8.out.app hal (e := (lastI Prod.fst (nodesF l) m px, (m : Int))) hxA hownA hgrowA hwE)
      have HBE := hide (HB8.out.app (g9 := gA) (ev' := .slice (some ⟨gA, 0, none⟩) (E1 ++ [(lastI Prod.fst (nodesF l) m px, (m : Int))]).length capA) hal hgrowA (horA.imp id (fun h => by rw [h]; simp)) hwE (by omega) (by omega) rfl)
      have HE2 : Hid (E1 ++ [(lastI Prod.fst (nodesF l) m px, (m : Int))] = E ++ edI (ltE (htB l) (nodesF l) m) ++ edI (dnE (vtB l) (nodesF l) m)) := hide (by rw [← HE1.out, HDN.out]; simp [edI, lastI])
      clear hwE lk c1 hszN hownA hgrowA horA hltA hal s1 s2 s3 hxA b4 p0 p1 hsB
      have x0 := HBE.out.1
      have x1 := HBE.out.2.1
      have hsB := HBE.out.2.2.2.1
      obtain ⟨wa, ra, ga, wb, rb, hn⟩ := (HNE.out.below ((Below.refl _ _).drew)).put (by omega) (by rw [HND.out]; exact HBP.out)
      rw [HND.out] at ra rb
      have y0 : wa.cell? ⟨g5, 0, none⟩ = some (.int .i64 px) := (cell_grow ga hsB (fun e => by injection e with e; omega)).trans x0
      have y1 : wa.cell? ⟨g5, 1, none⟩ = some (.int .i64 py) := (cell_grow ga hsB (fun e => by injection e with e; omega)).trans x1
      have HNB := hide hn
      clear hn ga
      refine wp_region_mix [0, 1, 2, 3, 4, 5, 6, 7] [8, 9] (fun w' => w'.cell? ⟨g5, 0, none⟩ = some (.int .i64 px) ∧ w'.cell? ⟨g5, 1, none⟩ = some (.int .i64 py)) (by kernel_rfl) (by kernel_rfl) ⟨x0, x1⟩ ?_
      simp only [List.map_cons, List.map_nil, opAt, List.getElem?_cons_succ, List.getElem?_cons_zero, Option.getD_some]
      iterate 8
       refine ⟨?_, Or.inl ⟨by rfl, ?_⟩, ?_⟩
       rotate_left 1
       ·intro w' hSw
        obtain ⟨z0, z1⟩ := hSw
        go_simp
        first | done | with_reducible rfl
       simp only [Act.put, List.setIfInBounds_toArray, List.set_cons_zero, List.set_cons_succ]
      simp only [wpReads]
      intro K hK
      simp only [Act.put, List.setIfInBounds_toArray, List.set_cons_zero, List.set_cons_succ] at hK ⊢
      go_simp
      refine hK _ _ (fun _ => ⟨y0, y1⟩) ?_
      clear hK K
      intro K hK
      simp only [Act.put, List.setIfInBounds_toArray, List.set_cons_zero, List.set_cons_succ] at hK ⊢
      go_simp
      refine hK _ _ (fun h => absurd rfl h) ?_
      clear hK K
      refine NoPanic.normal ?_
      go_wp2
      go_roundw
      case rel => exact ⟨m + 1, by omega, by go_num, hide ⟨_, by rw [HSU.out, ← HE2.out]; exact HNB.out⟩⟩
      case measure => simp [intOf]; omega
   ·obtain rfl : m = (nodesF l).length := by omega
    have mz : ¬ ((nodesF l).length : Int) < ((nodesF l).length : Int) := by omega
    obtain ⟨ev, hnw⟩ := HH.out
    obtain ⟨Ae, ce, rfl⟩ := own_form hnw.own
    have HNW := hide hnw
    have HEL := codeE_len (htB l) (vtB l) (nodesF l) (nodesF l).length
    have HPM : Hid ((codeE (htB l) (vtB l) (nodesF l) (nodesF l).length).Perm (edI (edgesF l)) ∧ (edI (edgesF l)).Pairwise ptLt) := hide ⟨edI_perm (net_ok HV.out).code_perm, edI_srt (net_ok HV.out).edges_srt⟩
    have HEB : Hid (∀ e ∈ codeE (htB l) (vtB l) (nodesF l) (nodesF l).length, bigP e) := hide (fun e he => codeE_big he (by omega))
    clear HH hnw
    generalize codeE (htB l) (vtB l) (nodesF l) (nodesF l).length = E at *
    have c1 := HNW.out.c1
    have hszr := HNW.out.sz
    go_wp2_with (fail)
    clear c1
    refine (sortEd_any (w3.heap.size + 3) _ E HEB.out _ HNW.out.own (by omega)).mono ?_
    rintro e wS ⟨rfl, E', hp, hs, ho, hg⟩
    have hE : E' = edI (edgesF l) := sorted_ext ptLt_irrefl (fun _ _ _ => ptLt_trans) (strict_of hp (HPM.out.1.nodup_iff.2 (HPM.out.2.imp fun h e => by subst e; exact ptLt_irrefl _ h)) hs) HPM.out.2 fun p => by rw [hp.mem_iff, HPM.out.1.mem_iff]
    have hlen := hp.length_eq
    subst hE
    have hob : ∀ q, (Value.slice Ae E.length ce).ownBlock = some q → w3.heap.size + 3 ≤ q := fun q hq => (HNW.out.own.lt q hq).1
    have hn0 : some w3.heap.size ≠ (Value.slice Ae E.length ce).ownBlock := fun e => by have := hob _ e.symm; omega
    have c0 := (cell_grow hg (b := w3.heap.size) (o := 0) (by omega) hn0).trans HNW.out.c0
    have c1 := (cell_grow hg (b := w3.heap.size) (o := 1) (by omega) hn0).trans HNW.out.c1
    have hn1 : some w.heap.size ≠ (Value.slice Ae E.length ce).ownBlock := fun e => by have := hob _ e.symm; have := HR3.out.2; omega
    have hl3 := HR3.out.2
    have r0 := (cell_grow hg (b := w.heap.size) (o := 0) (by omega) hn1).trans ((HNW.out.low.cell (p := ⟨w.heap.size, 0, none⟩) hl3).trans (HR3.out.1 0 (by omega)).1)
    have r1 := (cell_grow hg (b := w.heap.size) (o := 1) (by omega) hn1).trans ((HNW.out.low.cell (p := ⟨w.heap.size, 1, none⟩) hl3).trans (HR3.out.1 1 (by omega)).1)
    have q0 := (frozen_grow hg (b := w.heap.size) (o := 0) (by omega) hn1).trans ((HNW.out.low.frozen (p := ⟨w.heap.size, 0, none⟩) hl3).trans (HR3.out.1 0 (by omega)).2)
    have q1 := (frozen_grow hg (b := w.heap.size) (o := 1) (by omega) hn1).trans ((HNW.out.low.frozen (p := ⟨w.heap.size, 1, none⟩) hl3).trans (HR3.out.1 1 (by omega)).2)
    have hwS : w.heap.size < wS.heap.size := by have := hg.size; omega
    have HBS : Hid (Below w.heap.size w wS) := hide ((HB3.out.trans (HNW.out.low.mono (by omega))).grown hg (by omega) (fun q hq => by have := hob q hq; omega))
    have HNS := hide ((HNO.out.kept (below_grow HNW.out.low) own_none_or).kept hg (by
     rcases hb : (Value.slice A (nodesF l).length c).ownBlock with _ | q
     ·exact .inl rfl
     ·right
      intro e
      have h1 := (HNO.out.lt q hb).2
      have h2 := hob _ e.symm
      omega))
    have HES := hide ho
    have h800 : decide (((edI (edgesF l)).length : Int) ≤ 800) = true := decide_eq_true (by omega)
    rw [← hlen] at c1 ⊢
    rw [← hlen] at HES
    clear hp hs ho hg hob hn0 hn1
    clear hlen
    obtain ⟨EE, hEE⟩ : ∃ EE, edI (edgesF l) = EE := ⟨_, rfl⟩
    rw [hEE] at c1 HES h800 ⊢
    have HEE := hide hEE
    clear hEE
    go_upto_region 18 with fail
    refine wp_region_mix [0, 1, 2, 3, 4] [5, 6] (fun w' => w'.cell? ⟨w3.heap.size, 0, none⟩ = some (.slice A (nodesF l).length c) ∧ w'.cell? ⟨w3.heap.size, 1, none⟩ = some (.slice Ae EE.length ce)) (by kernel_rfl) (by kernel_rfl) ⟨c0, c1⟩ ?_
    simp only [List.map_cons, List.map_nil, opAt, List.getElem?_cons_succ, List.getElem?_cons_zero, Option.getD_some]
    iterate 5
     refine ⟨?_, Or.inl ⟨by rfl, ?_⟩, ?_⟩
     rotate_left 1
     ·intro w' hSw
      obtain ⟨z0, z1⟩ := hSw
      go_simp
      first | done | with_reducible rfl
     simp only [Act.put, List.setIfInBounds_toArray, List.set_cons_zero, List.set_cons_succ]
    simp only [wpReads]
    have r0' : wS.drew.cell? ⟨w.heap.size, 0, none⟩ = some (.slice none 0 0) := r0
    have r1' : wS.drew.cell? ⟨w.heap.size, 1, none⟩ = some (.slice none 0 0) := r1
    have q0' : wS.drew.frozen? ⟨w.heap.size, 0, none⟩ = false := q0
    have q1' : wS.drew.frozen? ⟨w.heap.size, 1, none⟩ = false := q1
    have hwS' : w.heap.size < wS.drew.heap.size := hwS
    have n30 : w3.heap.size ≠ w.heap.size := by omega
    intro K hK
    simp only [Act.put, List.setIfInBounds_toArray, List.set_cons_zero, List.set_cons_succ] at hK ⊢
    go_simp
    refine hK _ _ (fun _ => ⟨(World.cell?_setCell_far _ _ _ _ n30.symm).trans ((World.cell?_setCell_far _ _ _ _ n30.symm).trans c0), (World.cell?_setCell_far _ _ _ _ n30.symm).trans ((World.cell?_setCell_far _ _ _ _ n30.symm).trans c1)⟩) ?_
    clear hK K
    intro K hK
    simp only [Act.put, List.setIfInBounds_toArray, List.set_cons_zero, List.set_cons_succ] at hK ⊢
    go_simp
    refine hK _ _ (fun h => absurd rfl h) ?_
    clear hK K
    refine NoPanic.normal ?_
    go_wp2
    refine bodyPost_ret (v := .tuple #[.agg #[.slice A (nodesF l).length c, .slice Ae EE.length ce], .bool true]) (by simp [results, Tryz.results117, go_sem, r0, r1, q0, q1, hwS, r0', r1', q0', q1', hwS']) rfl ⟨⟨fun _ => ⟨_, _, rfl, ?_, ?_⟩, fun h => by omega⟩, ?_⟩
    ·exact own_base (own_drew (own_setB (own_setB HNS.out (Nat.lt_succ_self _)) (Nat.lt_succ_self _))) (Nat.le_succ _)
    ·rw [HEE.out]
     have hl3 : w.heap.size < w3.heap.size + 3 := by omega
     exact own_base (own_drew (own_setB (own_setB HES.out hl3) hl3)) (Nat.le_of_lt hl3)
    ·exact (Below.setCell (Below.setCell HBS.out (Nat.le_refl _) _) (Nat.le_refl _) _).drew
 ·have r0 := (HR3.out.1 0 (by omega)).1
  have r1 := (HR3.out.1 1 (by omega)).1
  have q0 := (HR3.out.1 0 (by omega)).2
  have q1 := (HR3.out.1 1 (by omega)).2
  have hlt := HR3.out.2
  go_wp2_with (fail)
  refine bodyPost_ret (v := .tuple #[.agg #[.slice none 0 0, .slice none 0 0], .bool false]) (by simp [results, Tryz.results117, go_sem, r0, r1, q0, q1, hlt]) rfl ⟨⟨fun h => by omega, fun _ => rfl⟩, ?_⟩
  exact Below.setCell (Below.setCell HB3.out (Nat.le_refl _) _) (Nat.le_refl _) _
end Go.Proofs.YtikojiciilambaaGreat
