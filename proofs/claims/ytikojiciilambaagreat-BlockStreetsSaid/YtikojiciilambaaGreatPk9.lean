/- Texts laid together: GraB, GraC. Lemmas for the statements of this seat; no condition. -/
import Derived.Test.YtikojiciilambaaGreatPk8
import Derived.Test.YtikojiciilambaaGreatPk4
import Derived.Deep.Heap
import Derived.Test.YtikojiciilambaaGreatPk5

/- The reference's networks: united. -/
namespace Go.Proofs.YtikojiciilambaaGreat
open Go.RowKit
set_option linter.unusedVariables false
set_option linter.unusedSimpArgs false
theorem one_encS (l : List (Int × Int)) : ∀ u ∈ l.flatMap encS, u.oneCell' = true := by
 intro u hu
 obtain ⟨r, _, hr⟩ := List.mem_flatMap.1 hu
 simp only [encS, List.mem_cons, List.not_mem_nil, or_false] at hr
 rcases hr with rfl | rfl <;> rfl
section
variable {α : Type} {enc : α → List Value} {k : Nat} {w : World} {B b o n c c' m : Nat} {l : List α}
theorem rd_take (h : RdK enc k w B (.slice (some ⟨b, o, none⟩) n c) l) (hm : m ≤ l.length) : RdK enc k w B (.slice (some ⟨b, o, none⟩) m c') (l.take m) := by
 obtain ⟨A, c1, hv, hc⟩ := h
 injection hv with e1 e2 e3
 subst e1
 have e : (l.take m).length = m := by simp; omega
 refine ⟨_, c', by rw [e], fun hl => ?_⟩
 obtain ⟨b2, o2, e, hb, hk⟩ := hc (by intro h; subst h; simp at hl)
 injection e with e
 injection e with e1 e2
 subst e1; subst e2
 refine ⟨b, o, rfl, hb, fun j y hy i u hu => hk j y ?_ i u hu⟩
 rw [List.getElem?_take] at hy
 split at hy
 ·exact hy
 ·cases hy
theorem rd_drop (h : RdK enc k w B (.slice (some ⟨b, o, none⟩) n c) l) (hm : m ≤ l.length) : RdK enc k w B (.slice (some ⟨b, o + m * k, none⟩) (l.length - m) c') (l.drop m) := by
 obtain ⟨A, c1, hv, hc⟩ := h
 injection hv with e1 e2 e3
 subst e1
 refine ⟨_, c', by rw [List.length_drop], fun hl => ?_⟩
 obtain ⟨b2, o2, e, hb, hk⟩ := hc (by intro h; subst h; simp at hl)
 injection e with e
 injection e with e1 e2
 subst e1; subst e2
 refine ⟨b, o + m * k, rfl, hb, fun j y hy i u hu => ?_⟩
 rw [List.getElem?_drop] at hy
 have := hk (m + j) y hy i u hu
 rwa [show o + (m + j) * k + i = o + m * k + j * k + i by rw [Nat.add_mul]; omega] at this
end
structure UIn (wr : World) (g : Nat) (st : List Sp × Sp) (v : Value) (wi : World) : Prop where
 low : Below g wr wi
 lt : g < wi.heap.size
 c0 : wi.cell? ⟨g, 0, none⟩ = some (.int .i64 st.2.1)
 c1 : wi.cell? ⟨g, 1, none⟩ = some (.int .i64 st.2.2)
 f0 : wi.frozen? ⟨g, 0, none⟩ = false
 f1 : wi.frozen? ⟨g, 1, none⟩ = false
 row : wi.ownsRow (g + 1) 141 2 v st.1.length (st.1.flatMap encS)
theorem UIn.keep {wr wi wj : World} {g : Nat} {st : List Sp × Sp} {v : Value} (h : UIn wr g st v wi) (hb : Below wi.heap.size wi wj) : UIn wr g st v wj :=
 ⟨h.low.trans (hb.mono (Nat.le_of_lt h.lt)), Nat.lt_of_lt_of_le h.lt hb.size, (hb.cell (p := ⟨g, 0, none⟩) h.lt).trans h.c0, (hb.cell (p := ⟨g, 1, none⟩) h.lt).trans h.c1, (hb.frozen (p := ⟨g, 0, none⟩) h.lt).trans h.f0, (hb.frozen (p := ⟨g, 1, none⟩) h.lt).trans h.f1, own_below h.row hb⟩
theorem UIn.push {wr wi w9 : World} {g : Nat} {rest : List Sp} {s q : Sp} {v v9 : Value} (h : UIn wr g (rest, s) v wi) (ho : w9.ownsRow (g + 1) 141 2 v9 (rest.length + 1) (rest.flatMap encS ++ [.int .i64 q.1, .int .i64 q.2])) (hg : wi.grownBy w9 v.ownBlock) : UIn wr g (rest ++ [q], s) v9 w9 := by
 have hne : some g ≠ v.ownBlock := fun e => by have := (h.row.lt g e.symm).1; omega
 have hb : ∀ i, i ≤ g → w9.heap[i]? = wi.heap[i]? := fun i hi => hg.block i (Nat.lt_of_le_of_lt hi h.lt) (fun e => by have := (h.row.lt i e.symm).1; omega)
 refine ⟨h.low.grown hg (Nat.le_of_lt h.lt) (fun q hq => Nat.le_of_lt (h.row.lt q hq).1), Nat.lt_of_lt_of_le h.lt hg.size, ?_, ?_, ?_, ?_, ?_⟩
 ·exact (World.cell?_of_block (hb g (Nat.le_refl _))).trans h.c0
 ·exact (World.cell?_of_block (hb g (Nat.le_refl _))).trans h.c1
 ·exact (World.frozen?_of_block (hb g (Nat.le_refl _))).trans h.f0
 ·exact (World.frozen?_of_block (hb g (Nat.le_refl _))).trans h.f1
 ·simpa [encS, List.flatMap_append] using ho
theorem own_blk {w w' : World} {base size : Nat} {e : TypeId} {v : Value} {n : Nat} {xs : List Value} (h : w.ownsRow base e size v n xs) (hb : ∀ k, base ≤ k → w'.heap[k]? = w.heap[k]?) : w'.ownsRow base e size v n xs := by
 obtain ⟨h1, h2⟩ := h
 refine ⟨h1, ?_⟩
 rcases h2 with h2 | ⟨g, cap, cur, h3, h4, h5, h6⟩
 ·exact .inl h2
 ·exact .inr ⟨g, cap, cur, h3, h4, (hb g h4).trans h5, h6⟩
theorem UIn.set {wr wi : World} {g : Nat} {rest : List Sp} {s : Sp} {v : Value} (h : UIn wr g (rest, s) v wi) (a b : Int) : UIn wr g (rest, (a, b)) v ((wi.setCell ⟨g, 0, none⟩ (.int .i64 a)).setCell ⟨g, 1, none⟩ (.int .i64 b)) := by
 have h0 := h.c0
 have h1 := h.c1
 have f0 := h.f0
 have f1 := h.f1
 have hl := h.lt
 refine ⟨(h.low.setCell (p := ⟨g, 0, none⟩) (Nat.le_refl _) _).setCell (p := ⟨g, 1, none⟩) (Nat.le_refl _) _, by simpa using hl, by simp [go_sem, h0, h1, hl], by simp [go_sem, h0, h1, hl], by simp [go_sem, f0, f1], by simp [go_sem, f0, f1], own_blk h.row fun k hk => ?_⟩
 rw [Go.Deep.blk_setCell_other _ _ _ _ (show k ≠ g by omega), Go.Deep.blk_setCell_other _ _ _ _ (show k ≠ g by omega)]
structure UA (Z : World) (v : Value) (n : Nat) (xs : List Value) (W : World) : Prop where
 low : Below Z.heap.size Z W
 row : W.ownsRow Z.heap.size 141 2 v n xs
theorem UA.empty {Z X : World} (h : Below Z.heap.size Z X) : UA Z (.slice (some ⟨X.heap.size, 0, none⟩) 0 0) 0 [] (X.alloc (.cells #[] 141)) :=
 ⟨h.alloc h.size _, World.ownsRow_made X #[] 0 h.size (by simp) (by simp)⟩
theorem UA.alloc {Z X : World} {v : Value} {n : Nat} {xs : List Value} (h : UA Z v n xs X) (o : Obj) : UA Z v n xs (X.alloc o) := ⟨h.low.alloc h.low.size _, World.ownsRow.alloc h.row _⟩
theorem UA.grow {Z X Y : World} {v v2 : Value} {n n2 : Nat} {xs xs2 : List Value} (h : UA Z v n xs X) (ho : Y.ownsRow Z.heap.size 141 2 v2 n2 xs2) (hg : X.grownBy Y v.ownBlock) : UA Z v2 n2 xs2 Y := ⟨h.low.grown hg h.low.size (fun q hq => (h.row.lt q hq).1), ho⟩
def PairAt (W : World) (f : Nat) (lo hi : Int) : Prop := W.heap[f]? = some (.cells #[.int .i64 lo, .int .i64 hi] 141 (0, 0))
theorem PairAt.lt {W : World} {f : Nat} {lo hi : Int} (h : PairAt W f lo hi) : f < W.heap.size := (Array.getElem?_eq_some_iff.1 h).1
theorem PairAt.alloc {W : World} {f : Nat} {lo hi : Int} (h : PairAt W f lo hi) (o : Obj) : PairAt (W.alloc o) f lo hi := (Go.Deep.blk_alloc_lt W o f h.lt).trans h
theorem PairAt.grow {W Y : World} {f : Nat} {lo hi : Int} {r : Option Nat} (h : PairAt W f lo hi) (hg : W.grownBy Y r) (hne : some f ≠ r) : PairAt Y f lo hi := (hg.block f h.lt hne).trans h
theorem PairAt.rd {W : World} {f : Nat} {lo hi : Int} (h : PairAt W f lo hi) : RdK encS 2 W W.heap.size (.slice (some ⟨f, 0, none⟩) 1 1) [((lo, hi) : Sp)] := by
 refine ⟨_, 1, rfl, fun _ => ⟨f, 0, rfl, h.lt, fun j x hx i u hu => ?_⟩⟩
 have hj : j = 0 := by have := (List.getElem?_eq_some_iff.1 hx).1; simpa using this
 subst hj
 simp at hx
 subst hx
 unfold PairAt at h
 match i, hu with
 | 0, hu => simp [encS] at hu; subst hu; simp [World.cell?, h]
 | 1, hu => simp [encS] at hu; subst hu; simp [World.cell?, h]
 | i + 2, hu => simp [encS] at hu
theorem own_cap {w : World} {base size : Nat} {e : TypeId} {b o n c : Nat} {xs : List Value} (h : w.ownsRow base e size (.slice (some ⟨b, o, none⟩) n c) n xs) : n ≤ c ∧ o = 0 := by
 rcases h.2 with ⟨h1, _⟩ | ⟨g, cap, cur, h1, h2, h3, h4, _⟩
 ·cases h1
 ·injection h1 with h1 h5 h6
  injection h1 with h1
  injection h1 with h1 h7
  exact ⟨by omega, h7⟩
theorem own_addr {w : World} {base size : Nat} {e : TypeId} {ad : Addr} {n c : Nat} {xs : List Value} (h : w.ownsRow base e size (.slice (some ad) n c) n xs) : ∃ b o, ∃ _ : True, some ad = some (⟨b, o, none⟩ : Addr) := by
 rcases h.2 with ⟨h1, _⟩ | ⟨g, cap, cur, h1, h2, h3, h4, _⟩
 ·cases h1
 ·injection h1 with h1 h5 h6
  exact ⟨g, 0, trivial, h1⟩
theorem own_none {w : World} {base size : Nat} {e : TypeId} {c : Nat} {l : List Sp} (h : w.ownsRow base e size (.slice none l.length c) l.length (l.flatMap encS)) : l = [] ∧ c = 0 := by
 rcases h.2 with ⟨h1, h2⟩ | ⟨g, cap, cur, h1, _⟩
 ·injection h1 with h1 h5 h6
  exact ⟨List.eq_nil_of_length_eq_zero h2, h6⟩
 ·cases h1
def mrg (O : List Sp) (s : Sp) (j : Nat) : List Sp × Sp := (O.take j).foldl stepM ([], s)
theorem mrg_succ {O : List Sp} {s q : Sp} {j : Nat} (h : O[j]? = some q) : mrg O s (j + 1) = stepM (mrg O s j) q := merge_take h
theorem mrg_all (O : List Sp) (s : Sp) : mrg O s O.length = mergeU O s := by unfold mrg mergeU; rw [List.take_length]
theorem mrg_len (O : List Sp) (s : Sp) (j : Nat) : (mrg O s j).1.length ≤ O.length := by
 have := mergeU_len (O.take j) s
 unfold mrg
 unfold mergeU at this
 have h2 : (O.take j).length ≤ O.length := by simp; omega
 omega
set_option maxRecDepth 100000 in
set_option maxHeartbeats 8000000 in
theorem runited_any {w : World} {v : Value} {l : List Sp} (hr : RdK encS 2 w w.heap.size v l) (hl : l.length ≤ 1000000) :
  Calls Tryz.prog 204 #[v] w fun e w' => (∃ vo, e = .returned vo ∧ w'.ownsRow w.heap.size 141 2 vo (unitF l).length ((unitF l).flatMap encS)) ∧ Below w.heap.size w w' := by
 have HR := hide hr
 obtain ⟨A, c, rfl, _⟩ := hr
 obtain ⟨i1, gi, gz0, gz1, gz2⟩ := info_parts infoSp
 go_enter Tryz.func204, Tryz.ntmps204
 go_wp2
 go_loopw [3, 4] (fun o i wr => ∃ (m : Nat) (Ao : Option Addr) (co : Nat), m ≤ l.length ∧ i = .int .i64 (m : Int) ∧ o = .slice Ao (unitF (l.take m)).length co ∧ Hid (Below w.heap.size w wr) ∧ Hid (wr.ownsRow w.heap.size 141 2 (.slice Ao (unitF (l.take m)).length co) (unitF (l.take m)).length ((unitF (l.take m)).flatMap encS))) (fun _ i _ => l.length - (intOf i).toNat)
 case atStart => exact ⟨0, none, 0, Nat.zero_le _, rfl, rfl, hide (Below.refl _ _), hide (World.ownsRow_nil _ _ _ _)⟩
 case round =>
  obtain ⟨m, Ao, co, hm, rfl, rfl, HB, HO⟩ := hrel
  have HUL : Hid ((unitF (l.take m)).length ≤ 1000000) := hide (by have := unitF_len (l.take m); have h2 : (l.take m).length ≤ l.length := (by simp; omega); omega)
  by_cases hlt : m < l.length
  ·have mz : (m : Int) < (l.length : Int) := by omega
   obtain ⟨s, hs⟩ : ∃ s, l[m]? = some s := ⟨_, List.getElem?_eq_getElem hlt⟩
   obtain ⟨b, off, rfl, hb, d0, d1⟩ := rdS_get (((HR.out.below HB.out).mono HB.out.size)) hs
   have HU := hide (unit_take hs)
   clear hs
   generalize unitF (l.take m) = O at *
   obtain ⟨wo, hwo⟩ : ∃ wo : World, wo = wr := ⟨_, rfl⟩
   subst hwo
   go_upto_region 8 with fail
   refine wp_name fun Z hZ => ?_
   obtain ⟨g, hg⟩ : ∃ g, wo.heap.size = g := ⟨_, rfl⟩
   have HI0 : Hid (UIn wo g ([], s) (.slice none 0 0) Z) := hide (by
    rw [hZ, ← hg]
    exact ⟨(Below.refl _ _).alloc (Nat.le_refl _) _, by simp, by simp [go_sem], by simp [go_sem], by simp [go_sem], by simp [go_sem], World.ownsRow_nil _ _ _ _⟩)
   have HRO := hide (own_rd HO.out (fun _ => rfl))
   have hul := HUL.out
   rw [hg]
   clear hZ d0 d1 hb
   go_loopw [6, 7] (fun r k wi => ∃ (j : Nat) (Ar : Option Addr) (cr : Nat), j ≤ O.length ∧ k = .int .i64 (j : Int) ∧ r = .slice Ar (mrg O s j).1.length cr ∧ Hid (UIn wo g (mrg O s j) (.slice Ar (mrg O s j).1.length cr) wi)) (fun _ k _ => O.length - (intOf k).toNat)
   case atStart => exact ⟨0, none, 0, Nat.zero_le _, rfl, rfl, HI0⟩
   case round =>
    clear HI0
    obtain ⟨j, Ar, cr, hj, rfl, rfl, HI⟩ := hrel
    have hml := mrg_len O s j
    by_cases hlj : j < O.length
    ·have jz : (j : Int) < (O.length : Int) := by omega
     obtain ⟨q, hq⟩ : ∃ q, O[j]? = some q := ⟨_, List.getElem?_eq_getElem hlj⟩
     obtain ⟨b2, o2, rfl, hb2, e0, e1⟩ := rdS_get HRO.out hq
     rw [hg] at hb2
     have x0 := (HI.out.low.cell (p := ⟨b2, _, none⟩) hb2).trans e0
     have x1 := (HI.out.low.cell (p := ⟨b2, _, none⟩) hb2).trans e1
     have HM := hide (mrg_succ (s := s) hq)
     clear hq
     generalize mrg O s j = st at *
     obtain ⟨rest, lo, hi⟩ := st
     have y0 := HI.out.c0
     have y1 := HI.out.c1
     simp only at y0 y1 hml
     have hgi := HI.out.lt
     have hbi : b2 < wr.heap.size := Nat.lt_trans hb2 hgi
     have app : ∀ (hcase : q.2 < lo ∨ hi < q.1), mrg O s (j + 1) = (rest ++ [q], (lo, hi)) := fun hcase => by rw [HM.out]; exact if_pos hcase
     have HAPP := hide app
     have app2 : ∀ (hcase : ¬ (q.2 < lo ∨ hi < q.1)), mrg O s (j + 1) = (rest, (min lo q.1, max hi q.2)) := fun hcase => by rw [HM.out]; exact if_neg hcase
     have HAPP2 := hide app2
     clear app app2 HM
     by_cases h1 : q.2 < lo
     ·have z1 : decide (q.2 < lo) = true := decide_eq_true h1
      have HE := hide (HAPP.out (.inl h1))
      clear h1 HAPP HAPP2
      go_wp2
      go_quiet (fail)
      refine name_exit fun Z1 hZ1 => ?_
      have HIZ : Hid (UIn wo g (rest, (lo, hi)) (.slice Ar rest.length cr) Z1) := hide (HI.out.keep (by rw [hZ1]; exact below_drewN (Below.refl _ _) _))
      have hz1 := HIZ.out.lt
      have u0 := (HIZ.out.low.cell (p := ⟨b2, _, none⟩) hb2).trans e0
      have u1 := (HIZ.out.low.cell (p := ⟨b2, _, none⟩) hb2).trans e1
      have hbz : b2 < Z1.heap.size := Nat.lt_trans hb2 hz1
      clear hZ1 x0 x1 y0 y1 HI hgi hbi
      go_wp2_with (at_builtin; go_loud (refine wpList_append_lies _ rfl (.tmp 43) (.tmp 48) 136 rfl (g + 1) 141 i1 (.agg #[.int .i64 0, .int .i64 0]) 2 16 Tryz.underlying136 gi gz0 gz1 gz2 rfl (by decide) _ rest.length _ rfl (World.ownsRow.alloc HIZ.out.row _) ⟨Z1.heap.size, 0, none⟩ 1 1 [.int .i64 q.1, .int .i64 q.2] rfl rfl (news_new Z1 _ _ _ (by simp)) (ints_one rfl) (by omega) (by unfold maxLen; omega) (by omega) (by simp; omega) _ rfl ?_))
      intro g9 cap9 w9 hown9 hgrow9 _ _
      have HP9 := hide ((HIZ.out.keep ((Below.refl _ _).alloc (Nat.le_refl _) _)).push (q := q) hown9 hgrow9)
      clear hown9 hgrow9
      go_wp2
      go_roundw
      case rel =>
       refine ⟨j + 1, some ⟨g9, 0, none⟩, cap9, by omega, by go_num, ?_, ?_⟩
       ·rw [HE.out, List.length_append]; rfl
       ·rw [HE.out, List.length_append]; exact HP9
      case measure => simp [intOf]; omega
     ·have z1 : decide (q.2 < lo) = false := decide_eq_false h1
      by_cases h2 : hi < q.1
      ·have z2 : decide (hi < q.1) = true := decide_eq_true h2
       have HE := hide (HAPP.out (.inr h2))
       clear h1 h2 HAPP HAPP2
       go_wp2
       go_quiet (fail)
       refine name_exit fun Z1 hZ1 => ?_
       have HIZ : Hid (UIn wo g (rest, (lo, hi)) (.slice Ar rest.length cr) Z1) := hide (HI.out.keep (by rw [hZ1]; exact below_drewN (Below.refl _ _) _))
       have hz1 := HIZ.out.lt
       have u0 := (HIZ.out.low.cell (p := ⟨b2, _, none⟩) hb2).trans e0
       have u1 := (HIZ.out.low.cell (p := ⟨b2, _, none⟩) hb2).trans e1
       have hbz : b2 < Z1.heap.size := Nat.lt_trans hb2 hz1
       clear hZ1 x0 x1 y0 y1 HI hgi hbi
       go_wp2_with (at_builtin; go_loud (refine wpList_append_lies _ rfl (.tmp 43) (.tmp 48) 136 rfl (g + 1) 141 i1 (.agg #[.int .i64 0, .int .i64 0]) 2 16 Tryz.underlying136 gi gz0 gz1 gz2 rfl (by decide) _ rest.length _ rfl (World.ownsRow.alloc HIZ.out.row _) ⟨Z1.heap.size, 0, none⟩ 1 1 [.int .i64 q.1, .int .i64 q.2] rfl rfl (news_new Z1 _ _ _ (by simp)) (ints_one rfl) (by omega) (by unfold maxLen; omega) (by omega) (by simp; omega) _ rfl ?_))
       intro g9 cap9 w9 hown9 hgrow9 _ _
       have HP9 := hide ((HIZ.out.keep ((Below.refl _ _).alloc (Nat.le_refl _) _)).push (q := q) hown9 hgrow9)
       clear hown9 hgrow9
       go_wp2
       go_roundw
       case rel =>
        refine ⟨j + 1, some ⟨g9, 0, none⟩, cap9, by omega, by go_num, ?_, ?_⟩
        ·rw [HE.out, List.length_append]; rfl
        ·rw [HE.out, List.length_append]; exact HP9
       case measure => simp [intOf]; omega
      ·have z2 : decide (hi < q.1) = false := decide_eq_false h2
       have HE := hide (HAPP2.out (by omega))
       clear h1 h2 HAPP HAPP2
       go_wp2
       go_quiet (fail)
       refine name_exit fun Z1 hZ1 => ?_
       have HIZ : Hid (UIn wo g (rest, (lo, hi)) (.slice Ar rest.length cr) Z1) := hide (HI.out.keep (by rw [hZ1]; exact below_drewN (Below.refl _ _) _))
       clear hZ1 x0 x1 y0 y1 HI hgi hbi
       go_upto_region 12 with fail
       have HB1 : Hid (Below Z1.heap.size Z1 Z1.drew) := hide (Below.refl _ _).drew
       refine wp_region_mix [0, 1, 2, 3, 4, 5, 6, 7, 8, 9, 10, 11, 12, 13, 14, 15, 16] [17] (fun w' => Below Z1.heap.size Z1 w') (by kernel_rfl) (by kernel_rfl) HB1.out ?_
       simp only [List.map_cons, List.map_nil, opAt, List.getElem?_cons_succ, List.getElem?_cons_zero, Option.getD_some]
       generalize Z1.drew = wk at *
       iterate 17
        refine ⟨?_, Or.inl ⟨by rfl, ?_⟩, ?_⟩
        rotate_left 1
        ·intro w' hSw
         have HJ := HIZ.out.keep hSw
         have y0 := HJ.c0
         have y1 := HJ.c1
         have u0 := (HJ.low.cell (p := ⟨b2, _, none⟩) hb2).trans e0
         have u1 := (HJ.low.cell (p := ⟨b2, _, none⟩) hb2).trans e1
         have hg1 := HJ.lt
         have hb1 : b2 < w'.heap.size := Nat.lt_trans hb2 hg1
         simp only at y0 y1
         clear hSw HJ
         go_simp
         first | done | with_reducible rfl
        simp only [Act.put, List.setIfInBounds_toArray, List.set_cons_zero, List.set_cons_succ]
       simp only [wpReads]
       have HJ := hide (HIZ.out.keep HB1.out)
       have f0 := HJ.out.f0
       have f1 := HJ.out.f1
       have y0 := HJ.out.c0
       have y1 := HJ.out.c1
       have hg1 := HJ.out.lt
       intro K hK
       simp only [Act.put, List.setIfInBounds_toArray, List.set_cons_zero, List.set_cons_succ] at hK ⊢
       go_simp
       refine hK _ _ (fun h => absurd rfl h) ?_
       clear hK K
       refine NoPanic.normal ?_
       have HS9 := hide (HJ.out.set (min lo q.1) (max hi q.2))
       clear f0 f1 y0 y1 hg1 HJ HB1 HIZ
       go_wp2
       go_roundw
       case rel =>
        refine ⟨j + 1, Ar, cr, by omega, by go_num, ?_, ?_⟩
        ·rw [HE.out]
        ·rw [HE.out]; exact HS9
       case measure => simp [intOf]; omega
    ·have jz : ¬ (j : Int) < (O.length : Int) := by omega
     obtain rfl : j = O.length := by omega
     have HE := hide (mrg_all O s)
     have HU2 : Hid (unitF (l.take (m + 1)) = insU (mrg O s O.length).1 (mrg O s O.length).2) := hide (by rw [HU.out, HE.out]; rfl)
     clear HU HE
     generalize mrg O s O.length = st at *
     obtain ⟨rest, lo, hi⟩ := st
     simp only at hml ⊢
     go_wp2
     go_loopw [8] (fun i wi => ∃ p : Nat, p ≤ lowN lo rest ∧ i = .int .i64 (p : Int) ∧ Hid (UIn wo g (rest, (lo, hi)) (.slice Ar rest.length cr) wi)) (fun i _ => rest.length - (intOf i).toNat)
     case atStart => exact ⟨0, Nat.zero_le _, rfl, HI⟩
     case round =>
      clear HI
      obtain ⟨p, hp, rfl, HI⟩ := hrel
      have hlow := low_le lo rest
      have y0 := HI.out.c0
      have y1 := HI.out.c1
      simp only at y0 y1
      have hgi := HI.out.lt
      by_cases hpl : p < rest.length
      ·have pz : (p : Int) < (rest.length : Int) := by omega
       obtain ⟨q, hq⟩ : ∃ q, rest[p]? = some q := ⟨_, List.getElem?_eq_getElem hpl⟩
       obtain ⟨b3, o3, rfl, hb3, e0, e1⟩ := rdS_get (own_rd (l := rest) HI.out.row (fun _ => rfl)) hq
       have p0 : (0 : Int) ≤ (p : Int) := by omega
       by_cases h1 : q.1 < lo
       ·have z1 : decide (q.1 < lo) = true := decide_eq_true h1
        have hp2 : p + 1 ≤ lowN lo rest := by
         rcases Nat.lt_or_ge p (lowN lo rest) with h | h
         ·exact h
         ·have : p = lowN lo rest := by omega
          rw [this] at hq
          exact absurd h1 (low_at hq)
        clear h1 hq
        go_wp2
        go_quiet (fail)
        refine name_exit fun Z1 hZ1 => ?_
        have HIZ : Hid (UIn wo g (rest, (lo, hi)) (.slice (some ⟨b3, o3, none⟩) rest.length cr) Z1) := hide (HI.out.keep (by rw [hZ1]; exact below_drewN (Below.refl _ _) _))
        clear hZ1 y0 y1 e0 e1 HI hgi hb3
        go_wp2
        go_roundw
        case rel => exact ⟨p + 1, hp2, by go_num, HIZ⟩
        case measure => simp [intOf]; omega
       ·have z1 : decide (q.1 < lo) = false := decide_eq_false h1
        have hpe : p = lowN lo rest := by
         rcases Nat.lt_or_ge p (lowN lo rest) with h | h
         ·exact absurd (low_lt h hq) h1
         ·omega
        have HPE := hide hpe
        clear h1 hq hpe
        go_wp2
        go_quiet (fail)
        refine name_exit fun Z1 hZ1 => ?_
        have HIZ : Hid (UIn wo g (rest, (lo, hi)) (.slice (some ⟨b3, o3, none⟩) rest.length cr) Z1) := hide (HI.out.keep (by rw [hZ1]; exact below_drewN (Below.refl _ _) _))
        clear hZ1 y0 y1 e0 e1 HI hgi hb3
        go_upto_region 16 with fail
        have hpn : p ≤ rest.length := by rw [HPE.out]; exact hlow
        have HPE2 : Hid (rest.take p ++ [((lo, hi) : Sp)] ++ rest.drop p = insU rest (lo, hi)) := hide (by rw [HPE.out]; rfl)
        have HRR := hide (own_rd (l := rest) HIZ.out.row (fun _ => rfl))
        obtain ⟨hcr, ho3⟩ := own_cap HIZ.out.row
        subst ho3
        have HTK : Hid (RdK encS 2 Z1 Z1.heap.size (.slice (some ⟨b3, 0, none⟩) p cr) (rest.take p)) := hide (rd_take HRR.out hpn)
        have HDR : Hid (RdK encS 2 Z1 Z1.heap.size (.slice (if cr = p then some ⟨b3, 0, none⟩ else some ⟨b3, p * 2, none⟩) (rest.length - p) (cr - p)) (rest.drop p)) := hide (by
         by_cases hc : cr = p
         ·rw [if_pos hc, show rest.length - p = 0 by omega, List.drop_eq_nil_of_le (by omega)]
          exact RdK.nil _ _
         ·rw [if_neg hc]
          have h := rd_drop (c' := cr - p) HRR.out hpn
          rwa [Nat.zero_add] at h)
        have hcz : (p : Int) ≤ (cr : Int) := by omega
        have hcn : (p : Int) ≤ (rest.length : Int) := by omega
        clear hlow HPE HRR
        have y0 := HIZ.out.c0
        have y1 := HIZ.out.c1
        simp only at y0 y1
        have HS : Hid (∀ W, Below Z1.heap.size Z1 W → W.cell? ⟨g, 0, none⟩ = some (.int .i64 lo) ∧ W.cell? ⟨g, 1, none⟩ = some (.int .i64 hi)) := hide (fun W hW => by have h := HIZ.out.keep hW; exact ⟨h.c0, h.c1⟩)
        have HB1 : Hid (Below Z1.heap.size Z1 Z1.drew) := hide (Below.refl _ _).drew
        have HTN : Hid ((rest.take p).length = p) := hide (by rw [List.length_take]; omega)
        have HDN : Hid ((rest.drop p).length = rest.length - p) := hide List.length_drop
        refine wp_region_ords [1, 2, 3, 5, 8, 9, 10] 6 (.two 0 (.two 4 (.one 6 (.one 7 (.one 11 (.one 12 .done)))) 6 (.one 4 (.one 7 (.one 11 (.one 12 .done))))) 6 (.one 0 (.one 4 (.one 7 (.one 11 (.one 12 .done)))))) (fun w' => w'.cell? ⟨g, 0, none⟩ = some (.int .i64 lo) ∧ w'.cell? ⟨g, 1, none⟩ = some (.int .i64 hi)) (by kernel_rfl) (by kernel_rfl) (HS.out _ HB1.out) ?_
        simp only [List.map_cons, List.map_nil, opAt, List.getElem?_cons_succ, List.getElem?_cons_zero, Option.getD_some]
        generalize Z1.drew = wk at *
        clear y0 y1
        iterate 7
         refine ⟨?_, Or.inl ⟨by rfl, ?_⟩, ?_⟩
         rotate_left 1
         ·intro w' hSw
          obtain ⟨y0, y1⟩ := hSw
          go_simp
          first | done | with_reducible rfl
         simp only [Act.put, List.setIfInBounds_toArray, List.set_cons_zero, List.set_cons_succ]
        simp only [wpReads, wpOrds, wpOne, opAt, List.getElem?_cons_succ, List.getElem?_cons_zero, Option.getD_some]
        have HLwk := HB1
        refine ⟨?_, ?_⟩
        ·intro K hK
         simp only [Act.put, List.setIfInBounds_toArray, List.set_cons_zero, List.set_cons_succ] at hK ⊢
         go_simp
         have HV1 : Hid (UA Z1 (.slice (some ⟨wk.heap.size, 0, none⟩) 0 0) 0 [] (wk.alloc (.cells #[] 141))) := hide (UA.empty HLwk.out)
         have HLx1 := hide HV1.out.low
         refine hK _ _ ⟨HS.out _ HLx1.out, ?_⟩
         clear hK K
         obtain ⟨e, he⟩ : ∃ e, wk.heap.size = e := ⟨_, rfl⟩
         rw [he] at HV1 ⊢
         generalize wk.alloc (.cells #[] 141) = x1 at *
         refine ⟨?_, ?_⟩
         ·intro K hK
          simp only [Act.put, List.setIfInBounds_toArray, List.set_cons_zero, List.set_cons_succ] at hK ⊢
          rw [if_pos (by rfl)]
          refine wp_app_rd x1 (enc := encS) (k := 2) (l := rest.take p) (fun _ => rfl) one_encS (.tmp 83) (.tmp 86) 136 rfl Z1.heap.size 141 i1 (.agg #[.int .i64 0, .int .i64 0]) 16 Tryz.underlying136 gi gz0 gz1 gz2 rfl (by decide) (.slice (some ⟨e, 0, none⟩) 0 0) 0 ([]) rfl HV1.out.row x1.heap.size ((HTK.out.below HLx1.out).mono HLx1.out.size) (by have e9 : (rest.take p).length = p := HTN.out; rw [e9]; unfold maxLen; omega) (by have e9 : (rest.take p).length = p := HTN.out; rw [e9]; omega) HLx1.out.size ?_
          intro v2 x2 ho2 hg2
          have HV2 : Hid (UA Z1 v2 p ((rest.take p).flatMap encS) x2) := hide (by
           have h := UA.grow HV1.out ho2 hg2
           rwa [show 0 + (rest.take p).length = p from by have := HTN.out; omega, show ([]) ++ (rest.take p).flatMap encS = (rest.take p).flatMap encS from by simp] at h)
          have HLx2 := hide HV2.out.low
          refine hK _ _ ⟨HS.out _ HLx2.out, ?_⟩
          clear hK K ho2 hg2
          intro K hK
          simp only [Act.put, List.setIfInBounds_toArray, List.set_cons_zero, List.set_cons_succ] at hK ⊢
          go_simp
          have HF3 : Hid (PairAt (x2.alloc (.cells #[.int .i64 lo, .int .i64 hi] 141)) x2.heap.size lo hi) := hide (World.alloc_heap_new _ _)
          have HLx3 : Hid (Below Z1.heap.size Z1 (x2.alloc (.cells #[.int .i64 lo, .int .i64 hi] 141))) := hide (HLx2.out.alloc HLx2.out.size _)
          have HV3 := hide (HV2.out.alloc (.cells #[.int .i64 lo, .int .i64 hi] 141))
          refine hK _ _ ⟨fun _ => HS.out _ HLx3.out, ?_⟩
          clear hK K
          obtain ⟨f, hf⟩ : ∃ f, x2.heap.size = f := ⟨_, rfl⟩
          rw [hf] at HF3 ⊢
          generalize x2.alloc (.cells #[.int .i64 lo, .int .i64 hi] 141) = x3 at *
          intro K hK
          simp only [Act.put, List.setIfInBounds_toArray, List.set_cons_zero, List.set_cons_succ] at hK ⊢
          rw [if_pos (by rfl)]
          refine wp_app_rd x3 (enc := encS) (k := 2) (l := [((lo, hi) : Sp)]) (fun _ => rfl) one_encS (.tmp 87) (.tmp 89) 136 rfl Z1.heap.size 141 i1 (.agg #[.int .i64 0, .int .i64 0]) 16 Tryz.underlying136 gi gz0 gz1 gz2 rfl (by decide) v2 p ((rest.take p).flatMap encS) rfl HV3.out.row x3.heap.size (HF3.out.rd) (by have e9 : ([((lo, hi) : Sp)]).length = 1 := rfl; rw [e9]; unfold maxLen; omega) (by have e9 : ([((lo, hi) : Sp)]).length = 1 := rfl; rw [e9]; omega) HLx3.out.size ?_
          intro v4 x4 ho4 hg4
          have HV4 : Hid (UA Z1 v4 (p + 1) (((rest.take p) ++ [((lo, hi) : Sp)]).flatMap encS) x4) := hide (by
           have h := UA.grow HV3.out ho4 hg4
           rwa [show p + ([((lo, hi) : Sp)]).length = (p + 1) from rfl, show ((rest.take p).flatMap encS) ++ ([((lo, hi) : Sp)]).flatMap encS = ((rest.take p) ++ [((lo, hi) : Sp)]).flatMap encS from by rw [List.flatMap_append]] at h)
          have HLx4 := hide HV4.out.low
          refine hK _ _ ⟨fun _ => HS.out _ HLx4.out, ?_⟩
          clear hK K ho4 hg4
          intro K hK
          simp only [Act.put, List.setIfInBounds_toArray, List.set_cons_zero, List.set_cons_succ] at hK ⊢
          rw [if_pos (by rfl)]
          refine wp_app_rd x4 (enc := encS) (k := 2) (l := rest.drop p) (fun _ => rfl) one_encS (.tmp 90) (.tmp 93) 136 rfl Z1.heap.size 141 i1 (.agg #[.int .i64 0, .int .i64 0]) 16 Tryz.underlying136 gi gz0 gz1 gz2 rfl (by decide) v4 (p + 1) (((rest.take p) ++ [((lo, hi) : Sp)]).flatMap encS) rfl HV4.out.row x4.heap.size ((HDR.out.below HLx4.out).mono HLx4.out.size) (by have e9 : (rest.drop p).length = rest.length - p := HDN.out; rw [e9]; unfold maxLen; omega) (by have e9 : (rest.drop p).length = rest.length - p := HDN.out; rw [e9]; omega) HLx4.out.size ?_
          intro v5 x5 ho5 hg5
          have HV5 : Hid (UA Z1 v5 (rest.length + 1) ((insU rest (lo, hi)).flatMap encS) x5) := hide (by
           have h := UA.grow HV4.out ho5 hg5
           rwa [show (p + 1) + (rest.drop p).length = (rest.length + 1) from by rw [HDN.out]; omega, show (((rest.take p) ++ [((lo, hi) : Sp)]).flatMap encS) ++ (rest.drop p).flatMap encS = (insU rest (lo, hi)).flatMap encS from by rw [← List.flatMap_append, HPE2.out]] at h)
          have HLx5 := hide HV5.out.low
          refine hK _ _ ⟨fun _ => HS.out _ HLx5.out, ?_⟩
          clear hK K ho5 hg5
          intro K hK
          simp only [Act.put, List.setIfInBounds_toArray, List.set_cons_zero, List.set_cons_succ] at hK ⊢
          go_simp
          refine hK _ _ ⟨fun h => (by cases h), ?_⟩
          clear hK K
          refine NoPanic.normal ?_
          obtain ⟨Av, cv, hv6⟩ := own_form HV5.out.row
          subst hv6
          have HB9 : Hid (Below w.heap.size w x5) := hide (HB.out.trans ((HIZ.out.low.trans (HLx5.out.mono (Nat.le_of_lt HIZ.out.lt))).mono (by rw [← hg]; exact HB.out.size)))
          have HO9 : Hid (x5.ownsRow w.heap.size 141 2 (.slice Av (rest.length + 1) cv) (rest.length + 1) ((insU rest (lo, hi)).flatMap encS)) := hide (own_base HV5.out.row (Nat.le_trans HB.out.size (Nat.le_trans (Nat.le_of_eq hg) (Nat.le_of_lt HIZ.out.lt))))
          have HNN : Hid ((insU rest (lo, hi)).length = rest.length + 1) := hide (insU_len _ _)
          go_wp2
          go_roundw
          case rel =>
           refine ⟨m + 1, Av, cv, by omega, by go_num, ?_, HB9, ?_⟩
           ·rw [HU2.out, HNN.out]
           ·rw [HU2.out, HNN.out]; exact HO9
          case measure => simp [intOf]; omega
         ·intro K hK
          simp only [Act.put, List.setIfInBounds_toArray, List.set_cons_zero, List.set_cons_succ] at hK ⊢
          go_simp
          have HF2 : Hid (PairAt (x1.alloc (.cells #[.int .i64 lo, .int .i64 hi] 141)) x1.heap.size lo hi) := hide (World.alloc_heap_new _ _)
          have HLx2 : Hid (Below Z1.heap.size Z1 (x1.alloc (.cells #[.int .i64 lo, .int .i64 hi] 141))) := hide (HLx1.out.alloc HLx1.out.size _)
          have HV2 := hide (HV1.out.alloc (.cells #[.int .i64 lo, .int .i64 hi] 141))
          have HNE : Hid (x1.heap.size ≠ e) := hide (Nat.ne_of_gt (HV1.out.row.lt e rfl).2)
          refine hK _ _ ⟨HS.out _ HLx2.out, ?_⟩
          clear hK K
          obtain ⟨f, hf⟩ : ∃ f, x1.heap.size = f := ⟨_, rfl⟩
          rw [hf] at HF2 ⊢
          rw [hf] at HNE
          generalize x1.alloc (.cells #[.int .i64 lo, .int .i64 hi] 141) = x2 at *
          intro K hK
          simp only [Act.put, List.setIfInBounds_toArray, List.set_cons_zero, List.set_cons_succ] at hK ⊢
          rw [if_pos (by rfl)]
          refine wp_app_rd x2 (enc := encS) (k := 2) (l := rest.take p) (fun _ => rfl) one_encS (.tmp 83) (.tmp 86) 136 rfl Z1.heap.size 141 i1 (.agg #[.int .i64 0, .int .i64 0]) 16 Tryz.underlying136 gi gz0 gz1 gz2 rfl (by decide) (.slice (some ⟨e, 0, none⟩) 0 0) 0 ([]) rfl HV2.out.row x2.heap.size ((HTK.out.below HLx2.out).mono HLx2.out.size) (by have e9 : (rest.take p).length = p := HTN.out; rw [e9]; unfold maxLen; omega) (by have e9 : (rest.take p).length = p := HTN.out; rw [e9]; omega) HLx2.out.size ?_
          intro v3 x3 ho3 hg3
          have HV3 : Hid (UA Z1 v3 p ((rest.take p).flatMap encS) x3) := hide (by
           have h := UA.grow HV2.out ho3 hg3
           rwa [show 0 + (rest.take p).length = p from by have := HTN.out; omega, show ([]) ++ (rest.take p).flatMap encS = (rest.take p).flatMap encS from by simp] at h)
          have HLx3 := hide HV3.out.low
          have HF3 := hide (HF2.out.grow hg3 (by simp only [Value.ownBlock]; intro h; injection h with h; exact HNE.out h))
          refine hK _ _ ⟨fun _ => HS.out _ HLx3.out, ?_⟩
          clear hK K ho3 hg3
          intro K hK
          simp only [Act.put, List.setIfInBounds_toArray, List.set_cons_zero, List.set_cons_succ] at hK ⊢
          rw [if_pos (by rfl)]
          refine wp_app_rd x3 (enc := encS) (k := 2) (l := [((lo, hi) : Sp)]) (fun _ => rfl) one_encS (.tmp 87) (.tmp 89) 136 rfl Z1.heap.size 141 i1 (.agg #[.int .i64 0, .int .i64 0]) 16 Tryz.underlying136 gi gz0 gz1 gz2 rfl (by decide) v3 p ((rest.take p).flatMap encS) rfl HV3.out.row x3.heap.size (HF3.out.rd) (by have e9 : ([((lo, hi) : Sp)]).length = 1 := rfl; rw [e9]; unfold maxLen; omega) (by have e9 : ([((lo, hi) : Sp)]).length = 1 := rfl; rw [e9]; omega) HLx3.out.size ?_
          intro v4 x4 ho4 hg4
          have HV4 : Hid (UA Z1 v4 (p + 1) (((rest.take p) ++ [((lo, hi) : Sp)]).flatMap encS) x4) := hide (by
           have h := UA.grow HV3.out ho4 hg4
           rwa [show p + ([((lo, hi) : Sp)]).length = (p + 1) from rfl, show ((rest.take p).flatMap encS) ++ ([((lo, hi) : Sp)]).flatMap encS = ((rest.take p) ++ [((lo, hi) : Sp)]).flatMap encS from by rw [List.flatMap_append]] at h)
          have HLx4 := hide HV4.out.low
          refine hK _ _ ⟨fun _ => HS.out _ HLx4.out, ?_⟩
          clear hK K ho4 hg4
          intro K hK
          simp only [Act.put, List.setIfInBounds_toArray, List.set_cons_zero, List.set_cons_succ] at hK ⊢
          rw [if_pos (by rfl)]
          refine wp_app_rd x4 (enc := encS) (k := 2) (l := rest.drop p) (fun _ => rfl) one_encS (.tmp 90) (.tmp 93) 136 rfl Z1.heap.size 141 i1 (.agg #[.int .i64 0, .int .i64 0]) 16 Tryz.underlying136 gi gz0 gz1 gz2 rfl (by decide) v4 (p + 1) (((rest.take p) ++ [((lo, hi) : Sp)]).flatMap encS) rfl HV4.out.row x4.heap.size ((HDR.out.below HLx4.out).mono HLx4.out.size) (by have e9 : (rest.drop p).length = rest.length - p := HDN.out; rw [e9]; unfold maxLen; omega) (by have e9 : (rest.drop p).length = rest.length - p := HDN.out; rw [e9]; omega) HLx4.out.size ?_
          intro v5 x5 ho5 hg5
          have HV5 : Hid (UA Z1 v5 (rest.length + 1) ((insU rest (lo, hi)).flatMap encS) x5) := hide (by
           have h := UA.grow HV4.out ho5 hg5
           rwa [show (p + 1) + (rest.drop p).length = (rest.length + 1) from by rw [HDN.out]; omega, show (((rest.take p) ++ [((lo, hi) : Sp)]).flatMap encS) ++ (rest.drop p).flatMap encS = (insU rest (lo, hi)).flatMap encS from by rw [← List.flatMap_append, HPE2.out]] at h)
          have HLx5 := hide HV5.out.low
          refine hK _ _ ⟨fun _ => HS.out _ HLx5.out, ?_⟩
          clear hK K ho5 hg5
          intro K hK
          simp only [Act.put, List.setIfInBounds_toArray, List.set_cons_zero, List.set_cons_succ] at hK ⊢
          go_simp
          refine hK _ _ ⟨fun h => (by cases h), ?_⟩
          clear hK K
          refine NoPanic.normal ?_
          obtain ⟨Av, cv, hv6⟩ := own_form HV5.out.row
          subst hv6
          have HB9 : Hid (Below w.heap.size w x5) := hide (HB.out.trans ((HIZ.out.low.trans (HLx5.out.mono (Nat.le_of_lt HIZ.out.lt))).mono (by rw [← hg]; exact HB.out.size)))
          have HO9 : Hid (x5.ownsRow w.heap.size 141 2 (.slice Av (rest.length + 1) cv) (rest.length + 1) ((insU rest (lo, hi)).flatMap encS)) := hide (own_base HV5.out.row (Nat.le_trans HB.out.size (Nat.le_trans (Nat.le_of_eq hg) (Nat.le_of_lt HIZ.out.lt))))
          have HNN : Hid ((insU rest (lo, hi)).length = rest.length + 1) := hide (insU_len _ _)
          go_wp2
          go_roundw
          case rel =>
           refine ⟨m + 1, Av, cv, by omega, by go_num, ?_, HB9, ?_⟩
           ·rw [HU2.out, HNN.out]
           ·rw [HU2.out, HNN.out]; exact HO9
          case measure => simp [intOf]; omega
        ·intro K hK
         simp only [Act.put, List.setIfInBounds_toArray, List.set_cons_zero, List.set_cons_succ] at hK ⊢
         go_simp
         have HF1 : Hid (PairAt (wk.alloc (.cells #[.int .i64 lo, .int .i64 hi] 141)) wk.heap.size lo hi) := hide (World.alloc_heap_new _ _)
         have HLx1 : Hid (Below Z1.heap.size Z1 (wk.alloc (.cells #[.int .i64 lo, .int .i64 hi] 141))) := hide (HLwk.out.alloc HLwk.out.size _)
         refine hK _ _ ⟨HS.out _ HLx1.out, ?_⟩
         clear hK K
         obtain ⟨f, hf⟩ : ∃ f, wk.heap.size = f := ⟨_, rfl⟩
         rw [hf] at HF1 ⊢
         generalize wk.alloc (.cells #[.int .i64 lo, .int .i64 hi] 141) = x1 at *
         intro K hK
         simp only [Act.put, List.setIfInBounds_toArray, List.set_cons_zero, List.set_cons_succ] at hK ⊢
         go_simp
         have HV2 : Hid (UA Z1 (.slice (some ⟨x1.heap.size, 0, none⟩) 0 0) 0 [] (x1.alloc (.cells #[] 141))) := hide (UA.empty HLx1.out)
         have HF2 : Hid (PairAt (x1.alloc (.cells #[] 141)) f lo hi) := hide (HF1.out.alloc _)
         have HNE : Hid (f ≠ x1.heap.size) := hide (Nat.ne_of_lt HF1.out.lt)
         have HLx2 := hide HV2.out.low
         refine hK _ _ ⟨fun _ => HS.out _ HLx2.out, ?_⟩
         clear hK K
         obtain ⟨e, he⟩ : ∃ e, x1.heap.size = e := ⟨_, rfl⟩
         rw [he] at HV2 ⊢
         rw [he] at HNE
         generalize x1.alloc (.cells #[] 141) = x2 at *
         intro K hK
         simp only [Act.put, List.setIfInBounds_toArray, List.set_cons_zero, List.set_cons_succ] at hK ⊢
         rw [if_pos (by rfl)]
         refine wp_app_rd x2 (enc := encS) (k := 2) (l := rest.take p) (fun _ => rfl) one_encS (.tmp 83) (.tmp 86) 136 rfl Z1.heap.size 141 i1 (.agg #[.int .i64 0, .int .i64 0]) 16 Tryz.underlying136 gi gz0 gz1 gz2 rfl (by decide) (.slice (some ⟨e, 0, none⟩) 0 0) 0 ([]) rfl HV2.out.row x2.heap.size ((HTK.out.below HLx2.out).mono HLx2.out.size) (by have e9 : (rest.take p).length = p := HTN.out; rw [e9]; unfold maxLen; omega) (by have e9 : (rest.take p).length = p := HTN.out; rw [e9]; omega) HLx2.out.size ?_
         intro v3 x3 ho3 hg3
         have HV3 : Hid (UA Z1 v3 p ((rest.take p).flatMap encS) x3) := hide (by
          have h := UA.grow HV2.out ho3 hg3
          rwa [show 0 + (rest.take p).length = p from by have := HTN.out; omega, show ([]) ++ (rest.take p).flatMap encS = (rest.take p).flatMap encS from by simp] at h)
         have HLx3 := hide HV3.out.low
         have HF3 := hide (HF2.out.grow hg3 (by simp only [Value.ownBlock]; intro h; injection h with h; exact HNE.out h))
         refine hK _ _ ⟨fun _ => HS.out _ HLx3.out, ?_⟩
         clear hK K ho3 hg3
         intro K hK
         simp only [Act.put, List.setIfInBounds_toArray, List.set_cons_zero, List.set_cons_succ] at hK ⊢
         rw [if_pos (by rfl)]
         refine wp_app_rd x3 (enc := encS) (k := 2) (l := [((lo, hi) : Sp)]) (fun _ => rfl) one_encS (.tmp 87) (.tmp 89) 136 rfl Z1.heap.size 141 i1 (.agg #[.int .i64 0, .int .i64 0]) 16 Tryz.underlying136 gi gz0 gz1 gz2 rfl (by decide) v3 p ((rest.take p).flatMap encS) rfl HV3.out.row x3.heap.size (HF3.out.rd) (by have e9 : ([((lo, hi) : Sp)]).length = 1 := rfl; rw [e9]; unfold maxLen; omega) (by have e9 : ([((lo, hi) : Sp)]).length = 1 := rfl; rw [e9]; omega) HLx3.out.size ?_
         intro v4 x4 ho4 hg4
         have HV4 : Hid (UA Z1 v4 (p + 1) (((rest.take p) ++ [((lo, hi) : Sp)]).flatMap encS) x4) := hide (by
          have h := UA.grow HV3.out ho4 hg4
          rwa [show p + ([((lo, hi) : Sp)]).length = (p + 1) from rfl, show ((rest.take p).flatMap encS) ++ ([((lo, hi) : Sp)]).flatMap encS = ((rest.take p) ++ [((lo, hi) : Sp)]).flatMap encS from by rw [List.flatMap_append]] at h)
         have HLx4 := hide HV4.out.low
         refine hK _ _ ⟨fun _ => HS.out _ HLx4.out, ?_⟩
         clear hK K ho4 hg4
         intro K hK
         simp only [Act.put, List.setIfInBounds_toArray, List.set_cons_zero, List.set_cons_succ] at hK ⊢
         rw [if_pos (by rfl)]
         refine wp_app_rd x4 (enc := encS) (k := 2) (l := rest.drop p) (fun _ => rfl) one_encS (.tmp 90) (.tmp 93) 136 rfl Z1.heap.size 141 i1 (.agg #[.int .i64 0, .int .i64 0]) 16 Tryz.underlying136 gi gz0 gz1 gz2 rfl (by decide) v4 (p + 1) (((rest.take p) ++ [((lo, hi) : Sp)]).flatMap encS) rfl HV4.out.row x4.heap.size ((HDR.out.below HLx4.out).mono HLx4.out.size) (by have e9 : (rest.drop p).length = rest.length - p := HDN.out; rw [e9]; unfold maxLen; omega) (by have e9 : (rest.drop p).length = rest.length - p := HDN.out; rw [e9]; omega) HLx4.out.size ?_
         intro v5 x5 ho5 hg5
         have HV5 : Hid (UA Z1 v5 (rest.length + 1) ((insU rest (lo, hi)).flatMap encS) x5) := hide (by
          have h := UA.grow HV4.out ho5 hg5
          rwa [show (p + 1) + (rest.drop p).length = (rest.length + 1) from by rw [HDN.out]; omega, show (((rest.take p) ++ [((lo, hi) : Sp)]).flatMap encS) ++ (rest.drop p).flatMap encS = (insU rest (lo, hi)).flatMap encS from by rw [← List.flatMap_append, HPE2.out]] at h)
         have HLx5 := hide HV5.out.low
         refine hK _ _ ⟨fun _ => HS.out _ HLx5.out, ?_⟩
         clear hK K ho5 hg5
         intro K hK
         simp only [Act.put, List.setIfInBounds_toArray, List.set_cons_zero, List.set_cons_succ] at hK ⊢
         go_simp
         refine hK _ _ ⟨fun h => (by cases h), ?_⟩
         clear hK K
         refine NoPanic.normal ?_
         obtain ⟨Av, cv, hv6⟩ := own_form HV5.out.row
         subst hv6
         have HB9 : Hid (Below w.heap.size w x5) := hide (HB.out.trans ((HIZ.out.low.trans (HLx5.out.mono (Nat.le_of_lt HIZ.out.lt))).mono (by rw [← hg]; exact HB.out.size)))
         have HO9 : Hid (x5.ownsRow w.heap.size 141 2 (.slice Av (rest.length + 1) cv) (rest.length + 1) ((insU rest (lo, hi)).flatMap encS)) := hide (own_base HV5.out.row (Nat.le_trans HB.out.size (Nat.le_trans (Nat.le_of_eq hg) (Nat.le_of_lt HIZ.out.lt))))
         have HNN : Hid ((insU rest (lo, hi)).length = rest.length + 1) := hide (insU_len _ _)
         go_wp2
         go_roundw
         case rel =>
          refine ⟨m + 1, Av, cv, by omega, by go_num, ?_, HB9, ?_⟩
          ·rw [HU2.out, HNN.out]
          ·rw [HU2.out, HNN.out]; exact HO9
         case measure => simp [intOf]; omega
      ·have pz : ¬ (p : Int) < (rest.length : Int) := by omega
       have hpe : p = lowN lo rest := by omega
       have HPE := hide hpe
       clear hpe
       cases Ar with
       | some ad =>
        obtain ⟨b3, o3, y3, hy3⟩ := own_addr HI.out.row
        injection hy3 with hy3
        subst hy3
        go_upto_region 14 with fail
        go_quiet (fail)
        refine name_exit fun Z1 hZ1 => ?_
        have HIZ : Hid (UIn wo g (rest, (lo, hi)) (.slice (some ⟨b3, o3, none⟩) rest.length cr) Z1) := hide (HI.out.keep (by rw [hZ1]; exact below_drewN (Below.refl _ _) _))
        clear hZ1 y0 y1 HI hgi
        go_upto_region 16 with fail
        have hpn : p ≤ rest.length := by rw [HPE.out]; exact hlow
        have HPE2 : Hid (rest.take p ++ [((lo, hi) : Sp)] ++ rest.drop p = insU rest (lo, hi)) := hide (by rw [HPE.out]; rfl)
        have HRR := hide (own_rd (l := rest) HIZ.out.row (fun _ => rfl))
        obtain ⟨hcr, ho3⟩ := own_cap HIZ.out.row
        subst ho3
        have HTK : Hid (RdK encS 2 Z1 Z1.heap.size (.slice (some ⟨b3, 0, none⟩) p cr) (rest.take p)) := hide (rd_take HRR.out hpn)
        have HDR : Hid (RdK encS 2 Z1 Z1.heap.size (.slice (if cr = p then some ⟨b3, 0, none⟩ else some ⟨b3, p * 2, none⟩) (rest.length - p) (cr - p)) (rest.drop p)) := hide (by
         by_cases hc : cr = p
         ·rw [if_pos hc, show rest.length - p = 0 by omega, List.drop_eq_nil_of_le (by omega)]
          exact RdK.nil _ _
         ·rw [if_neg hc]
          have h := rd_drop (c' := cr - p) HRR.out hpn
          rwa [Nat.zero_add] at h)
        have hcz : (p : Int) ≤ (cr : Int) := by omega
        have hcn : (p : Int) ≤ (rest.length : Int) := by omega
        clear hlow HPE HRR
        have y0 := HIZ.out.c0
        have y1 := HIZ.out.c1
        simp only at y0 y1
        have HS : Hid (∀ W, Below Z1.heap.size Z1 W → W.cell? ⟨g, 0, none⟩ = some (.int .i64 lo) ∧ W.cell? ⟨g, 1, none⟩ = some (.int .i64 hi)) := hide (fun W hW => by have h := HIZ.out.keep hW; exact ⟨h.c0, h.c1⟩)
        have HB1 : Hid (Below Z1.heap.size Z1 Z1.drew) := hide (Below.refl _ _).drew
        have HTN : Hid ((rest.take p).length = p) := hide (by rw [List.length_take]; omega)
        have HDN : Hid ((rest.drop p).length = rest.length - p) := hide List.length_drop
        refine wp_region_ords [1, 2, 3, 5, 8, 9, 10] 6 (.two 0 (.two 4 (.one 6 (.one 7 (.one 11 (.one 12 .done)))) 6 (.one 4 (.one 7 (.one 11 (.one 12 .done))))) 6 (.one 0 (.one 4 (.one 7 (.one 11 (.one 12 .done)))))) (fun w' => w'.cell? ⟨g, 0, none⟩ = some (.int .i64 lo) ∧ w'.cell? ⟨g, 1, none⟩ = some (.int .i64 hi)) (by kernel_rfl) (by kernel_rfl) (HS.out _ HB1.out) ?_
        simp only [List.map_cons, List.map_nil, opAt, List.getElem?_cons_succ, List.getElem?_cons_zero, Option.getD_some]
        generalize Z1.drew = wk at *
        clear y0 y1
        iterate 7
         refine ⟨?_, Or.inl ⟨by rfl, ?_⟩, ?_⟩
         rotate_left 1
         ·intro w' hSw
          obtain ⟨y0, y1⟩ := hSw
          go_simp
          first | done | with_reducible rfl
         simp only [Act.put, List.setIfInBounds_toArray, List.set_cons_zero, List.set_cons_succ]
        simp only [wpReads, wpOrds, wpOne, opAt, List.getElem?_cons_succ, List.getElem?_cons_zero, Option.getD_some]
        have HLwk := HB1
        refine ⟨?_, ?_⟩
        ·intro K hK
         simp only [Act.put, List.setIfInBounds_toArray, List.set_cons_zero, List.set_cons_succ] at hK ⊢
         go_simp
         have HV1 : Hid (UA Z1 (.slice (some ⟨wk.heap.size, 0, none⟩) 0 0) 0 [] (wk.alloc (.cells #[] 141))) := hide (UA.empty HLwk.out)
         have HLx1 := hide HV1.out.low
         refine hK _ _ ⟨HS.out _ HLx1.out, ?_⟩
         clear hK K
         obtain ⟨e, he⟩ : ∃ e, wk.heap.size = e := ⟨_, rfl⟩
         rw [he] at HV1 ⊢
         generalize wk.alloc (.cells #[] 141) = x1 at *
         refine ⟨?_, ?_⟩
         ·intro K hK
          simp only [Act.put, List.setIfInBounds_toArray, List.set_cons_zero, List.set_cons_succ] at hK ⊢
          rw [if_pos (by rfl)]
          refine wp_app_rd x1 (enc := encS) (k := 2) (l := rest.take p) (fun _ => rfl) one_encS (.tmp 83) (.tmp 86) 136 rfl Z1.heap.size 141 i1 (.agg #[.int .i64 0, .int .i64 0]) 16 Tryz.underlying136 gi gz0 gz1 gz2 rfl (by decide) (.slice (some ⟨e, 0, none⟩) 0 0) 0 ([]) rfl HV1.out.row x1.heap.size ((HTK.out.below HLx1.out).mono HLx1.out.size) (by have e9 : (rest.take p).length = p := HTN.out; rw [e9]; unfold maxLen; omega) (by have e9 : (rest.take p).length = p := HTN.out; rw [e9]; omega) HLx1.out.size ?_
          intro v2 x2 ho2 hg2
          have HV2 : Hid (UA Z1 v2 p ((rest.take p).flatMap encS) x2) := hide (by
           have h := UA.grow HV1.out ho2 hg2
           rwa [show 0 + (rest.take p).length = p from by have := HTN.out; omega, show ([]) ++ (rest.take p).flatMap encS = (rest.take p).flatMap encS from by simp] at h)
          have HLx2 := hide HV2.out.low
          refine hK _ _ ⟨HS.out _ HLx2.out, ?_⟩
          clear hK K ho2 hg2
          intro K hK
          simp only [Act.put, List.setIfInBounds_toArray, List.set_cons_zero, List.set_cons_succ] at hK ⊢
          go_simp
          have HF3 : Hid (PairAt (x2.alloc (.cells #[.int .i64 lo, .int .i64 hi] 141)) x2.heap.size lo hi) := hide (World.alloc_heap_new _ _)
          have HLx3 : Hid (Below Z1.heap.size Z1 (x2.alloc (.cells #[.int .i64 lo, .int .i64 hi] 141))) := hide (HLx2.out.alloc HLx2.out.size _)
          have HV3 := hide (HV2.out.alloc (.cells #[.int .i64 lo, .int .i64 hi] 141))
          refine hK _ _ ⟨fun _ => HS.out _ HLx3.out, ?_⟩
          clear hK K
          obtain ⟨f, hf⟩ : ∃ f, x2.heap.size = f := ⟨_, rfl⟩
          rw [hf] at HF3 ⊢
          generalize x2.alloc (.cells #[.int .i64 lo, .int .i64 hi] 141) = x3 at *
          intro K hK
          simp only [Act.put, List.setIfInBounds_toArray, List.set_cons_zero, List.set_cons_succ] at hK ⊢
          rw [if_pos (by rfl)]
          refine wp_app_rd x3 (enc := encS) (k := 2) (l := [((lo, hi) : Sp)]) (fun _ => rfl) one_encS (.tmp 87) (.tmp 89) 136 rfl Z1.heap.size 141 i1 (.agg #[.int .i64 0, .int .i64 0]) 16 Tryz.underlying136 gi gz0 gz1 gz2 rfl (by decide) v2 p ((rest.take p).flatMap encS) rfl HV3.out.row x3.heap.size (HF3.out.rd) (by have e9 : ([((lo, hi) : Sp)]).length = 1 := rfl; rw [e9]; unfold maxLen; omega) (by have e9 : ([((lo, hi) : Sp)]).length = 1 := rfl; rw [e9]; omega) HLx3.out.size ?_
          intro v4 x4 ho4 hg4
          have HV4 : Hid (UA Z1 v4 (p + 1) (((rest.take p) ++ [((lo, hi) : Sp)]).flatMap encS) x4) := hide (by
           have h := UA.grow HV3.out ho4 hg4
           rwa [show p + ([((lo, hi) : Sp)]).length = (p + 1) from rfl, show ((rest.take p).flatMap encS) ++ ([((lo, hi) : Sp)]).flatMap encS = ((rest.take p) ++ [((lo, hi) : Sp)]).flatMap encS from by rw [List.flatMap_append]] at h)
          have HLx4 := hide HV4.out.low
          refine hK _ _ ⟨fun _ => HS.out _ HLx4.out, ?_⟩
          clear hK K ho4 hg4
          intro K hK
          simp only [Act.put, List.setIfInBounds_toArray, List.set_cons_zero, List.set_cons_succ] at hK ⊢
          rw [if_pos (by rfl)]
          refine wp_app_rd x4 (enc := encS) (k := 2) (l := rest.drop p) (fun _ => rfl) one_encS (.tmp 90) (.tmp 93) 136 rfl Z1.heap.size 141 i1 (.agg #[.int .i64 0, .int .i64 0]) 16 Tryz.underlying136 gi gz0 gz1 gz2 rfl (by decide) v4 (p + 1) (((rest.take p) ++ [((lo, hi) : Sp)]).flatMap encS) rfl HV4.out.row x4.heap.size ((HDR.out.below HLx4.out).mono HLx4.out.size) (by have e9 : (rest.drop p).length = rest.length - p := HDN.out; rw [e9]; unfold maxLen; omega) (by have e9 : (rest.drop p).length = rest.length - p := HDN.out; rw [e9]; omega) HLx4.out.size ?_
          intro v5 x5 ho5 hg5
          have HV5 : Hid (UA Z1 v5 (rest.length + 1) ((insU rest (lo, hi)).flatMap encS) x5) := hide (by
           have h := UA.grow HV4.out ho5 hg5
           rwa [show (p + 1) + (rest.drop p).length = (rest.length + 1) from by rw [HDN.out]; omega, show (((rest.take p) ++ [((lo, hi) : Sp)]).flatMap encS) ++ (rest.drop p).flatMap encS = (insU rest (lo, hi)).flatMap encS from by rw [← List.flatMap_append, HPE2.out]] at h)
          have HLx5 := hide HV5.out.low
          refine hK _ _ ⟨fun _ => HS.out _ HLx5.out, ?_⟩
          clear hK K ho5 hg5
          intro K hK
          simp only [Act.put, List.setIfInBounds_toArray, List.set_cons_zero, List.set_cons_succ] at hK ⊢
          go_simp
          refine hK _ _ ⟨fun h => (by cases h), ?_⟩
          clear hK K
          refine NoPanic.normal ?_
          obtain ⟨Av, cv, hv6⟩ := own_form HV5.out.row
          subst hv6
          have HB9 : Hid (Below w.heap.size w x5) := hide (HB.out.trans ((HIZ.out.low.trans (HLx5.out.mono (Nat.le_of_lt HIZ.out.lt))).mono (by rw [← hg]; exact HB.out.size)))
          have HO9 : Hid (x5.ownsRow w.heap.size 141 2 (.slice Av (rest.length + 1) cv) (rest.length + 1) ((insU rest (lo, hi)).flatMap encS)) := hide (own_base HV5.out.row (Nat.le_trans HB.out.size (Nat.le_trans (Nat.le_of_eq hg) (Nat.le_of_lt HIZ.out.lt))))
          have HNN : Hid ((insU rest (lo, hi)).length = rest.length + 1) := hide (insU_len _ _)
          go_wp2
          go_roundw
          case rel =>
           refine ⟨m + 1, Av, cv, by omega, by go_num, ?_, HB9, ?_⟩
           ·rw [HU2.out, HNN.out]
           ·rw [HU2.out, HNN.out]; exact HO9
          case measure => simp [intOf]; omega
         ·intro K hK
          simp only [Act.put, List.setIfInBounds_toArray, List.set_cons_zero, List.set_cons_succ] at hK ⊢
          go_simp
          have HF2 : Hid (PairAt (x1.alloc (.cells #[.int .i64 lo, .int .i64 hi] 141)) x1.heap.size lo hi) := hide (World.alloc_heap_new _ _)
          have HLx2 : Hid (Below Z1.heap.size Z1 (x1.alloc (.cells #[.int .i64 lo, .int .i64 hi] 141))) := hide (HLx1.out.alloc HLx1.out.size _)
          have HV2 := hide (HV1.out.alloc (.cells #[.int .i64 lo, .int .i64 hi] 141))
          have HNE : Hid (x1.heap.size ≠ e) := hide (Nat.ne_of_gt (HV1.out.row.lt e rfl).2)
          refine hK _ _ ⟨HS.out _ HLx2.out, ?_⟩
          clear hK K
          obtain ⟨f, hf⟩ : ∃ f, x1.heap.size = f := ⟨_, rfl⟩
          rw [hf] at HF2 ⊢
          rw [hf] at HNE
          generalize x1.alloc (.cells #[.int .i64 lo, .int .i64 hi] 141) = x2 at *
          intro K hK
          simp only [Act.put, List.setIfInBounds_toArray, List.set_cons_zero, List.set_cons_succ] at hK ⊢
          rw [if_pos (by rfl)]
          refine wp_app_rd x2 (enc := encS) (k := 2) (l := rest.take p) (fun _ => rfl) one_encS (.tmp 83) (.tmp 86) 136 rfl Z1.heap.size 141 i1 (.agg #[.int .i64 0, .int .i64 0]) 16 Tryz.underlying136 gi gz0 gz1 gz2 rfl (by decide) (.slice (some ⟨e, 0, none⟩) 0 0) 0 ([]) rfl HV2.out.row x2.heap.size ((HTK.out.below HLx2.out).mono HLx2.out.size) (by have e9 : (rest.take p).length = p := HTN.out; rw [e9]; unfold maxLen; omega) (by have e9 : (rest.take p).length = p := HTN.out; rw [e9]; omega) HLx2.out.size ?_
          intro v3 x3 ho3 hg3
          have HV3 : Hid (UA Z1 v3 p ((rest.take p).flatMap encS) x3) := hide (by
           have h := UA.grow HV2.out ho3 hg3
           rwa [show 0 + (rest.take p).length = p from by have := HTN.out; omega, show ([]) ++ (rest.take p).flatMap encS = (rest.take p).flatMap encS from by simp] at h)
          have HLx3 := hide HV3.out.low
          have HF3 := hide (HF2.out.grow hg3 (by simp only [Value.ownBlock]; intro h; injection h with h; exact HNE.out h))
          refine hK _ _ ⟨fun _ => HS.out _ HLx3.out, ?_⟩
          clear hK K ho3 hg3
          intro K hK
          simp only [Act.put, List.setIfInBounds_toArray, List.set_cons_zero, List.set_cons_succ] at hK ⊢
          rw [if_pos (by rfl)]
          refine wp_app_rd x3 (enc := encS) (k := 2) (l := [((lo, hi) : Sp)]) (fun _ => rfl) one_encS (.tmp 87) (.tmp 89) 136 rfl Z1.heap.size 141 i1 (.agg #[.int .i64 0, .int .i64 0]) 16 Tryz.underlying136 gi gz0 gz1 gz2 rfl (by decide) v3 p ((rest.take p).flatMap encS) rfl HV3.out.row x3.heap.size (HF3.out.rd) (by have e9 : ([((lo, hi) : Sp)]).length = 1 := rfl; rw [e9]; unfold maxLen; omega) (by have e9 : ([((lo, hi) : Sp)]).length = 1 := rfl; rw [e9]; omega) HLx3.out.size ?_
          intro v4 x4 ho4 hg4
          have HV4 : Hid (UA Z1 v4 (p + 1) (((rest.take p) ++ [((lo, hi) : Sp)]).flatMap encS) x4) := hide (by
           have h := UA.grow HV3.out ho4 hg4
           rwa [show p + ([((lo, hi) : Sp)]).length = (p + 1) from rfl, show ((rest.take p).flatMap encS) ++ ([((lo, hi) : Sp)]).flatMap encS = ((rest.take p) ++ [((lo, hi) : Sp)]).flatMap encS from by rw [List.flatMap_append]] at h)
          have HLx4 := hide HV4.out.low
          refine hK _ _ ⟨fun _ => HS.out _ HLx4.out, ?_⟩
          clear hK K ho4 hg4
          intro K hK
          simp only [Act.put, List.setIfInBounds_toArray, List.set_cons_zero, List.set_cons_succ] at hK ⊢
          rw [if_pos (by rfl)]
          refine wp_app_rd x4 (enc := encS) (k := 2) (l := rest.drop p) (fun _ => rfl) one_encS (.tmp 90) (.tmp 93) 136 rfl Z1.heap.size 141 i1 (.agg #[.int .i64 0, .int .i64 0]) 16 Tryz.underlying136 gi gz0 gz1 gz2 rfl (by decide) v4 (p + 1) (((rest.take p) ++ [((lo, hi) : Sp)]).flatMap encS) rfl HV4.out.row x4.heap.size ((HDR.out.below HLx4.out).mono HLx4.out.size) (by have e9 : (rest.drop p).length = rest.length - p := HDN.out; rw [e9]; unfold maxLen; omega) (by have e9 : (rest.drop p).length = rest.length - p := HDN.out; rw [e9]; omega) HLx4.out.size ?_
          intro v5 x5 ho5 hg5
          have HV5 : Hid (UA Z1 v5 (rest.length + 1) ((insU rest (lo, hi)).flatMap encS) x5) := hide (by
           have h := UA.grow HV4.out ho5 hg5
           rwa [show (p + 1) + (rest.drop p).length = (rest.length + 1) from by rw [HDN.out]; omega, show (((rest.take p) ++ [((lo, hi) : Sp)]).flatMap encS) ++ (rest.drop p).flatMap encS = (insU rest (lo, hi)).flatMap encS from by rw [← List.flatMap_append, HPE2.out]] at h)
          have HLx5 := hide HV5.out.low
          refine hK _ _ ⟨fun _ => HS.out _ HLx5.out, ?_⟩
          clear hK K ho5 hg5
          intro K hK
          simp only [Act.put, List.setIfInBounds_toArray, List.set_cons_zero, List.set_cons_succ] at hK ⊢
          go_simp
          refine hK _ _ ⟨fun h => (by cases h), ?_⟩
          clear hK K
          refine NoPanic.normal ?_
          obtain ⟨Av, cv, hv6⟩ := own_form HV5.out.row
          subst hv6
          have HB9 : Hid (Below w.heap.size w x5) := hide (HB.out.trans ((HIZ.out.low.trans (HLx5.out.mono (Nat.le_of_lt HIZ.out.lt))).mono (by rw [← hg]; exact HB.out.size)))
          have HO9 : Hid (x5.ownsRow w.heap.size 141 2 (.slice Av (rest.length + 1) cv) (rest.length + 1) ((insU rest (lo, hi)).flatMap encS)) := hide (own_base HV5.out.row (Nat.le_trans HB.out.size (Nat.le_trans (Nat.le_of_eq hg) (Nat.le_of_lt HIZ.out.lt))))
          have HNN : Hid ((insU rest (lo, hi)).length = rest.length + 1) := hide (insU_len _ _)
          go_wp2
          go_roundw
          case rel =>
           refine ⟨m + 1, Av, cv, by omega, by go_num, ?_, HB9, ?_⟩
           ·rw [HU2.out, HNN.out]
           ·rw [HU2.out, HNN.out]; exact HO9
          case measure => simp [intOf]; omega
        ·intro K hK
         simp only [Act.put, List.setIfInBounds_toArray, List.set_cons_zero, List.set_cons_succ] at hK ⊢
         go_simp
         have HF1 : Hid (PairAt (wk.alloc (.cells #[.int .i64 lo, .int .i64 hi] 141)) wk.heap.size lo hi) := hide (World.alloc_heap_new _ _)
         have HLx1 : Hid (Below Z1.heap.size Z1 (wk.alloc (.cells #[.int .i64 lo, .int .i64 hi] 141))) := hide (HLwk.out.alloc HLwk.out.size _)
         refine hK _ _ ⟨HS.out _ HLx1.out, ?_⟩
         clear hK K
         obtain ⟨f, hf⟩ : ∃ f, wk.heap.size = f := ⟨_, rfl⟩
         rw [hf] at HF1 ⊢
         generalize wk.alloc (.cells #[.int .i64 lo, .int .i64 hi] 141) = x1 at *
         intro K hK
         simp only [Act.put, List.setIfInBounds_toArray, List.set_cons_zero, List.set_cons_succ] at hK ⊢
         go_simp
         have HV2 : Hid (UA Z1 (.slice (some ⟨x1.heap.size, 0, none⟩) 0 0) 0 [] (x1.alloc (.cells #[] 141))) := hide (UA.empty HLx1.out)
         have HF2 : Hid (PairAt (x1.alloc (.cells #[] 141)) f lo hi) := hide (HF1.out.alloc _)
         have HNE : Hid (f ≠ x1.heap.size) := hide (Nat.ne_of_lt HF1.out.lt)
         have HLx2 := hide HV2.out.low
         refine hK _ _ ⟨fun _ => HS.out _ HLx2.out, ?_⟩
         clear hK K
         obtain ⟨e, he⟩ : ∃ e, x1.heap.size = e := ⟨_, rfl⟩
         rw [he] at HV2 ⊢
         rw [he] at HNE
         generalize x1.alloc (.cells #[] 141) = x2 at *
         intro K hK
         simp only [Act.put, List.setIfInBounds_toArray, List.set_cons_zero, List.set_cons_succ] at hK ⊢
         rw [if_pos (by rfl)]
         refine wp_app_rd x2 (enc := encS) (k := 2) (l := rest.take p) (fun _ => rfl) one_encS (.tmp 83) (.tmp 86) 136 rfl Z1.heap.size 141 i1 (.agg #[.int .i64 0, .int .i64 0]) 16 Tryz.underlying136 gi gz0 gz1 gz2 rfl (by decide) (.slice (some ⟨e, 0, none⟩) 0 0) 0 ([]) rfl HV2.out.row x2.heap.size ((HTK.out.below HLx2.out).mono HLx2.out.size) (by have e9 : (rest.take p).length = p := HTN.out; rw [e9]; unfold maxLen; omega) (by have e9 : (rest.take p).length = p := HTN.out; rw [e9]; omega) HLx2.out.size ?_
         intro v3 x3 ho3 hg3
         have HV3 : Hid (UA Z1 v3 p ((rest.take p).flatMap encS) x3) := hide (by
          have h := UA.grow HV2.out ho3 hg3
          rwa [show 0 + (rest.take p).length = p from by have := HTN.out; omega, show ([]) ++ (rest.take p).flatMap encS = (rest.take p).flatMap encS from by simp] at h)
         have HLx3 := hide HV3.out.low
         have HF3 := hide (HF2.out.grow hg3 (by simp only [Value.ownBlock]; intro h; injection h with h; exact HNE.out h))
         refine hK _ _ ⟨fun _ => HS.out _ HLx3.out, ?_⟩
         clear hK K ho3 hg3
         intro K hK
         simp only [Act.put, List.setIfInBounds_toArray, List.set_cons_zero, List.set_cons_succ] at hK ⊢
         rw [if_pos (by rfl)]
         refine wp_app_rd x3 (enc := encS) (k := 2) (l := [((lo, hi) : Sp)]) (fun _ => rfl) one_encS (.tmp 87) (.tmp 89) 136 rfl Z1.heap.size 141 i1 (.agg #[.int .i64 0, .int .i64 0]) 16 Tryz.underlying136 gi gz0 gz1 gz2 rfl (by decide) v3 p ((rest.take p).flatMap encS) rfl HV3.out.row x3.heap.size (HF3.out.rd) (by have e9 : ([((lo, hi) : Sp)]).length = 1 := rfl; rw [e9]; unfold maxLen; omega) (by have e9 : ([((lo, hi) : Sp)]).length = 1 := rfl; rw [e9]; omega) HLx3.out.size ?_
         intro v4 x4 ho4 hg4
         have HV4 : Hid (UA Z1 v4 (p + 1) (((rest.take p) ++ [((lo, hi) : Sp)]).flatMap encS) x4) := hide (by
          have h := UA.grow HV3.out ho4 hg4
          rwa [show p + ([((lo, hi) : Sp)]).length = (p + 1) from rfl, show ((rest.take p).flatMap encS) ++ ([((lo, hi) : Sp)]).flatMap encS = ((rest.take p) ++ [((lo, hi) : Sp)]).flatMap encS from by rw [List.flatMap_append]] at h)
         have HLx4 := hide HV4.out.low
         refine hK _ _ ⟨fun _ => HS.out _ HLx4.out, ?_⟩
         clear hK K ho4 hg4
         intro K hK
         simp only [Act.put, List.setIfInBounds_toArray, List.set_cons_zero, List.set_cons_succ] at hK ⊢
         rw [if_pos (by rfl)]
         refine wp_app_rd x4 (enc := encS) (k := 2) (l := rest.drop p) (fun _ => rfl) one_encS (.tmp 90) (.tmp 93) 136 rfl Z1.heap.size 141 i1 (.agg #[.int .i64 0, .int .i64 0]) 16 Tryz.underlying136 gi gz0 gz1 gz2 rfl (by decide) v4 (p + 1) (((rest.take p) ++ [((lo, hi) : Sp)]).flatMap encS) rfl HV4.out.row x4.heap.size ((HDR.out.below HLx4.out).mono HLx4.out.size) (by have e9 : (rest.drop p).length = rest.length - p := HDN.out; rw [e9]; unfold maxLen; omega) (by have e9 : (rest.drop p).length = rest.length - p := HDN.out; rw [e9]; omega) HLx4.out.size ?_
         intro v5 x5 ho5 hg5
         have HV5 : Hid (UA Z1 v5 (rest.length + 1) ((insU rest (lo, hi)).flatMap encS) x5) := hide (by
          have h := UA.grow HV4.out ho5 hg5
          rwa [show (p + 1) + (rest.drop p).length = (rest.length + 1) from by rw [HDN.out]; omega, show (((rest.take p) ++ [((lo, hi) : Sp)]).flatMap encS) ++ (rest.drop p).flatMap encS = (insU rest (lo, hi)).flatMap encS from by rw [← List.flatMap_append, HPE2.out]] at h)
         have HLx5 := hide HV5.out.low
         refine hK _ _ ⟨fun _ => HS.out _ HLx5.out, ?_⟩
         clear hK K ho5 hg5
         intro K hK
         simp only [Act.put, List.setIfInBounds_toArray, List.set_cons_zero, List.set_cons_succ] at hK ⊢
         go_simp
         refine hK _ _ ⟨fun h => (by cases h), ?_⟩
         clear hK K
         refine NoPanic.normal ?_
         obtain ⟨Av, cv, hv6⟩ := own_form HV5.out.row
         subst hv6
         have HB9 : Hid (Below w.heap.size w x5) := hide (HB.out.trans ((HIZ.out.low.trans (HLx5.out.mono (Nat.le_of_lt HIZ.out.lt))).mono (by rw [← hg]; exact HB.out.size)))
         have HO9 : Hid (x5.ownsRow w.heap.size 141 2 (.slice Av (rest.length + 1) cv) (rest.length + 1) ((insU rest (lo, hi)).flatMap encS)) := hide (own_base HV5.out.row (Nat.le_trans HB.out.size (Nat.le_trans (Nat.le_of_eq hg) (Nat.le_of_lt HIZ.out.lt))))
         have HNN : Hid ((insU rest (lo, hi)).length = rest.length + 1) := hide (insU_len _ _)
         go_wp2
         go_roundw
         case rel =>
          refine ⟨m + 1, Av, cv, by omega, by go_num, ?_, HB9, ?_⟩
          ·rw [HU2.out, HNN.out]
          ·rw [HU2.out, HNN.out]; exact HO9
         case measure => simp [intOf]; omega
       | none =>
        obtain ⟨hnil, hcr0⟩ := own_none HI.out.row
        subst hcr0
        have HNIL := hide hnil
        clear hnil
        go_upto_region 14 with fail
        go_quiet (fail)
        refine name_exit fun Z1 hZ1 => ?_
        have HIZ : Hid (UIn wo g (rest, (lo, hi)) (.slice none rest.length 0) Z1) := hide (HI.out.keep (by rw [hZ1]; exact below_drewN (Below.refl _ _) _))
        clear hZ1 y0 y1 HI hgi
        go_upto_region 16 with fail
        have hpn : p ≤ rest.length := by rw [HPE.out]; exact hlow
        have HPE2 : Hid (rest.take p ++ [((lo, hi) : Sp)] ++ rest.drop p = insU rest (lo, hi)) := hide (by rw [HPE.out]; rfl)
        have hp0 : p = 0 := by have := HNIL.out; subst this; simpa using hpn
        subst hp0
        have HTK : Hid (RdK encS 2 Z1 Z1.heap.size (.slice none 0 0) (rest.take 0)) := hide (RdK.nil _ _)
        have HDR : Hid (RdK encS 2 Z1 Z1.heap.size (.slice none rest.length 0) (rest.drop 0)) := hide (by rw [HNIL.out]; exact RdK.nil _ _)
        clear hlow HPE
        have y0 := HIZ.out.c0
        have y1 := HIZ.out.c1
        simp only at y0 y1
        have HS : Hid (∀ W, Below Z1.heap.size Z1 W → W.cell? ⟨g, 0, none⟩ = some (.int .i64 lo) ∧ W.cell? ⟨g, 1, none⟩ = some (.int .i64 hi)) := hide (fun W hW => by have h := HIZ.out.keep hW; exact ⟨h.c0, h.c1⟩)
        have HB1 : Hid (Below Z1.heap.size Z1 Z1.drew) := hide (Below.refl _ _).drew
        have HTN : Hid ((rest.take 0).length = 0) := hide (by rw [List.length_take]; omega)
        have HDN : Hid ((rest.drop 0).length = rest.length) := hide List.length_drop
        refine wp_region_ords [1, 2, 3, 5, 8, 9, 10] 6 (.two 0 (.two 4 (.one 6 (.one 7 (.one 11 (.one 12 .done)))) 6 (.one 4 (.one 7 (.one 11 (.one 12 .done))))) 6 (.one 0 (.one 4 (.one 7 (.one 11 (.one 12 .done)))))) (fun w' => w'.cell? ⟨g, 0, none⟩ = some (.int .i64 lo) ∧ w'.cell? ⟨g, 1, none⟩ = some (.int .i64 hi)) (by kernel_rfl) (by kernel_rfl) (HS.out _ HB1.out) ?_
        simp only [List.map_cons, List.map_nil, opAt, List.getElem?_cons_succ, List.getElem?_cons_zero, Option.getD_some]
        generalize Z1.drew = wk at *
        clear y0 y1
        iterate 7
         refine ⟨?_, Or.inl ⟨by rfl, ?_⟩, ?_⟩
         rotate_left 1
         ·intro w' hSw
          obtain ⟨y0, y1⟩ := hSw
          go_simp
          first | done | with_reducible rfl
         simp only [Act.put, List.setIfInBounds_toArray, List.set_cons_zero, List.set_cons_succ]
        simp only [wpReads, wpOrds, wpOne, opAt, List.getElem?_cons_succ, List.getElem?_cons_zero, Option.getD_some]
        have HLwk := HB1
        refine ⟨?_, ?_⟩
        ·intro K hK
         simp only [Act.put, List.setIfInBounds_toArray, List.set_cons_zero, List.set_cons_succ] at hK ⊢
         go_simp
         have HV1 : Hid (UA Z1 (.slice (some ⟨wk.heap.size, 0, none⟩) 0 0) 0 [] (wk.alloc (.cells #[] 141))) := hide (UA.empty HLwk.out)
         have HLx1 := hide HV1.out.low
         refine hK _ _ ⟨HS.out _ HLx1.out, ?_⟩
         clear hK K
         obtain ⟨e, he⟩ : ∃ e, wk.heap.size = e := ⟨_, rfl⟩
         rw [he] at HV1 ⊢
         generalize wk.alloc (.cells #[] 141) = x1 at *
         refine ⟨?_, ?_⟩
         ·intro K hK
          simp only [Act.put, List.setIfInBounds_toArray, List.set_cons_zero, List.set_cons_succ] at hK ⊢
          rw [if_pos (by rfl)]
          refine wp_app_rd x1 (enc := encS) (k := 2) (l := rest.take 0) (fun _ => rfl) one_encS (.tmp 83) (.tmp 86) 136 rfl Z1.heap.size 141 i1 (.agg #[.int .i64 0, .int .i64 0]) 16 Tryz.underlying136 gi gz0 gz1 gz2 rfl (by decide) (.slice (some ⟨e, 0, none⟩) 0 0) 0 ([]) rfl HV1.out.row x1.heap.size ((HTK.out.below HLx1.out).mono HLx1.out.size) (by have e9 : (rest.take 0).length = 0 := HTN.out; rw [e9]; unfold maxLen; omega) (by have e9 : (rest.take 0).length = 0 := HTN.out; rw [e9]; omega) HLx1.out.size ?_
          intro v2 x2 ho2 hg2
          have HV2 : Hid (UA Z1 v2 0 ((rest.take 0).flatMap encS) x2) := hide (by
           have h := UA.grow HV1.out ho2 hg2
           rwa [show 0 + (rest.take 0).length = 0 from by have := HTN.out; omega, show ([]) ++ (rest.take 0).flatMap encS = (rest.take 0).flatMap encS from by simp] at h)
          have HLx2 := hide HV2.out.low
          refine hK _ _ ⟨HS.out _ HLx2.out, ?_⟩
          clear hK K ho2 hg2
          intro K hK
          simp only [Act.put, List.setIfInBounds_toArray, List.set_cons_zero, List.set_cons_succ] at hK ⊢
          go_simp
          have HF3 : Hid (PairAt (x2.alloc (.cells #[.int .i64 lo, .int .i64 hi] 141)) x2.heap.size lo hi) := hide (World.alloc_heap_new _ _)
          have HLx3 : Hid (Below Z1.heap.size Z1 (x2.alloc (.cells #[.int .i64 lo, .int .i64 hi] 141))) := hide (HLx2.out.alloc HLx2.out.size _)
          have HV3 := hide (HV2.out.alloc (.cells #[.int .i64 lo, .int .i64 hi] 141))
          refine hK _ _ ⟨fun _ => HS.out _ HLx3.out, ?_⟩
          clear hK K
          obtain ⟨f, hf⟩ : ∃ f, x2.heap.size = f := ⟨_, rfl⟩
          rw [hf] at HF3 ⊢
          generalize x2.alloc (.cells #[.int .i64 lo, .int .i64 hi] 141) = x3 at *
          intro K hK
          simp only [Act.put, List.setIfInBounds_toArray, List.set_cons_zero, List.set_cons_succ] at hK ⊢
          rw [if_pos (by rfl)]
          refine wp_app_rd x3 (enc := encS) (k := 2) (l := [((lo, hi) : Sp)]) (fun _ => rfl) one_encS (.tmp 87) (.tmp 89) 136 rfl Z1.heap.size 141 i1 (.agg #[.int .i64 0, .int .i64 0]) 16 Tryz.underlying136 gi gz0 gz1 gz2 rfl (by decide) v2 0 ((rest.take 0).flatMap encS) rfl HV3.out.row x3.heap.size (HF3.out.rd) (by have e9 : ([((lo, hi) : Sp)]).length = 1 := rfl; rw [e9]; unfold maxLen; omega) (by have e9 : ([((lo, hi) : Sp)]).length = 1 := rfl; rw [e9]; omega) HLx3.out.size ?_
          intro v4 x4 ho4 hg4
          have HV4 : Hid (UA Z1 v4 (0 + 1) (((rest.take 0) ++ [((lo, hi) : Sp)]).flatMap encS) x4) := hide (by
           have h := UA.grow HV3.out ho4 hg4
           rwa [show 0 + ([((lo, hi) : Sp)]).length = (0 + 1) from rfl, show ((rest.take 0).flatMap encS) ++ ([((lo, hi) : Sp)]).flatMap encS = ((rest.take 0) ++ [((lo, hi) : Sp)]).flatMap encS from by rw [List.flatMap_append]] at h)
          have HLx4 := hide HV4.out.low
          refine hK _ _ ⟨fun _ => HS.out _ HLx4.out, ?_⟩
          clear hK K ho4 hg4
          intro K hK
          simp only [Act.put, List.setIfInBounds_toArray, List.set_cons_zero, List.set_cons_succ] at hK ⊢
          rw [if_pos (by rfl)]
          refine wp_app_rd x4 (enc := encS) (k := 2) (l := rest.drop 0) (fun _ => rfl) one_encS (.tmp 90) (.tmp 93) 136 rfl Z1.heap.size 141 i1 (.agg #[.int .i64 0, .int .i64 0]) 16 Tryz.underlying136 gi gz0 gz1 gz2 rfl (by decide) v4 (0 + 1) (((rest.take 0) ++ [((lo, hi) : Sp)]).flatMap encS) rfl HV4.out.row x4.heap.size ((HDR.out.below HLx4.out).mono HLx4.out.size) (by have e9 : (rest.drop 0).length = rest.length := HDN.out; rw [e9]; unfold maxLen; omega) (by have e9 : (rest.drop 0).length = rest.length := HDN.out; rw [e9]; omega) HLx4.out.size ?_
          intro v5 x5 ho5 hg5
          have HV5 : Hid (UA Z1 v5 (rest.length + 1) ((insU rest (lo, hi)).flatMap encS) x5) := hide (by
           have h := UA.grow HV4.out ho5 hg5
           rwa [show (0 + 1) + (rest.drop 0).length = (rest.length + 1) from by rw [HDN.out]; omega, show (((rest.take 0) ++ [((lo, hi) : Sp)]).flatMap encS) ++ (rest.drop 0).flatMap encS = (insU rest (lo, hi)).flatMap encS from by rw [← List.flatMap_append, HPE2.out]] at h)
          have HLx5 := hide HV5.out.low
          refine hK _ _ ⟨fun _ => HS.out _ HLx5.out, ?_⟩
          clear hK K ho5 hg5
          intro K hK
          simp only [Act.put, List.setIfInBounds_toArray, List.set_cons_zero, List.set_cons_succ] at hK ⊢
          go_simp
          refine hK _ _ ⟨fun h => (by cases h), ?_⟩
          clear hK K
          refine NoPanic.normal ?_
          obtain ⟨Av, cv, hv6⟩ := own_form HV5.out.row
          subst hv6
          have HB9 : Hid (Below w.heap.size w x5) := hide (HB.out.trans ((HIZ.out.low.trans (HLx5.out.mono (Nat.le_of_lt HIZ.out.lt))).mono (by rw [← hg]; exact HB.out.size)))
          have HO9 : Hid (x5.ownsRow w.heap.size 141 2 (.slice Av (rest.length + 1) cv) (rest.length + 1) ((insU rest (lo, hi)).flatMap encS)) := hide (own_base HV5.out.row (Nat.le_trans HB.out.size (Nat.le_trans (Nat.le_of_eq hg) (Nat.le_of_lt HIZ.out.lt))))
          have HNN : Hid ((insU rest (lo, hi)).length = rest.length + 1) := hide (insU_len _ _)
          go_wp2
          go_roundw
          case rel =>
           refine ⟨m + 1, Av, cv, by omega, by go_num, ?_, HB9, ?_⟩
           ·rw [HU2.out, HNN.out]
           ·rw [HU2.out, HNN.out]; exact HO9
          case measure => simp [intOf]; omega
         ·intro K hK
          simp only [Act.put, List.setIfInBounds_toArray, List.set_cons_zero, List.set_cons_succ] at hK ⊢
          go_simp
          have HF2 : Hid (PairAt (x1.alloc (.cells #[.int .i64 lo, .int .i64 hi] 141)) x1.heap.size lo hi) := hide (World.alloc_heap_new _ _)
          have HLx2 : Hid (Below Z1.heap.size Z1 (x1.alloc (.cells #[.int .i64 lo, .int .i64 hi] 141))) := hide (HLx1.out.alloc HLx1.out.size _)
          have HV2 := hide (HV1.out.alloc (.cells #[.int .i64 lo, .int .i64 hi] 141))
          have HNE : Hid (x1.heap.size ≠ e) := hide (Nat.ne_of_gt (HV1.out.row.lt e rfl).2)
          refine hK _ _ ⟨HS.out _ HLx2.out, ?_⟩
          clear hK K
          obtain ⟨f, hf⟩ : ∃ f, x1.heap.size = f := ⟨_, rfl⟩
          rw [hf] at HF2 ⊢
          rw [hf] at HNE
          generalize x1.alloc (.cells #[.int .i64 lo, .int .i64 hi] 141) = x2 at *
          intro K hK
          simp only [Act.put, List.setIfInBounds_toArray, List.set_cons_zero, List.set_cons_succ] at hK ⊢
          rw [if_pos (by rfl)]
          refine wp_app_rd x2 (enc := encS) (k := 2) (l := rest.take 0) (fun _ => rfl) one_encS (.tmp 83) (.tmp 86) 136 rfl Z1.heap.size 141 i1 (.agg #[.int .i64 0, .int .i64 0]) 16 Tryz.underlying136 gi gz0 gz1 gz2 rfl (by decide) (.slice (some ⟨e, 0, none⟩) 0 0) 0 ([]) rfl HV2.out.row x2.heap.size ((HTK.out.below HLx2.out).mono HLx2.out.size) (by have e9 : (rest.take 0).length = 0 := HTN.out; rw [e9]; unfold maxLen; omega) (by have e9 : (rest.take 0).length = 0 := HTN.out; rw [e9]; omega) HLx2.out.size ?_
          intro v3 x3 ho3 hg3
          have HV3 : Hid (UA Z1 v3 0 ((rest.take 0).flatMap encS) x3) := hide (by
           have h := UA.grow HV2.out ho3 hg3
           rwa [show 0 + (rest.take 0).length = 0 from by have := HTN.out; omega, show ([]) ++ (rest.take 0).flatMap encS = (rest.take 0).flatMap encS from by simp] at h)
          have HLx3 := hide HV3.out.low
          have HF3 := hide (HF2.out.grow hg3 (by simp only [Value.ownBlock]; intro h; injection h with h; exact HNE.out h))
          refine hK _ _ ⟨fun _ => HS.out _ HLx3.out, ?_⟩
          clear hK K ho3 hg3
          intro K hK
          simp only [Act.put, List.setIfInBounds_toArray, List.set_cons_zero, List.set_cons_succ] at hK ⊢
          rw [if_pos (by rfl)]
          refine wp_app_rd x3 (enc := encS) (k := 2) (l := [((lo, hi) : Sp)]) (fun _ => rfl) one_encS (.tmp 87) (.tmp 89) 136 rfl Z1.heap.size 141 i1 (.agg #[.int .i64 0, .int .i64 0]) 16 Tryz.underlying136 gi gz0 gz1 gz2 rfl (by decide) v3 0 ((rest.take 0).flatMap encS) rfl HV3.out.row x3.heap.size (HF3.out.rd) (by have e9 : ([((lo, hi) : Sp)]).length = 1 := rfl; rw [e9]; unfold maxLen; omega) (by have e9 : ([((lo, hi) : Sp)]).length = 1 := rfl; rw [e9]; omega) HLx3.out.size ?_
          intro v4 x4 ho4 hg4
          have HV4 : Hid (UA Z1 v4 (0 + 1) (((rest.take 0) ++ [((lo, hi) : Sp)]).flatMap encS) x4) := hide (by
           have h := UA.grow HV3.out ho4 hg4
           rwa [show 0 + ([((lo, hi) : Sp)]).length = (0 + 1) from rfl, show ((rest.take 0).flatMap encS) ++ ([((lo, hi) : Sp)]).flatMap encS = ((rest.take 0) ++ [((lo, hi) : Sp)]).flatMap encS from by rw [List.flatMap_append]] at h)
          have HLx4 := hide HV4.out.low
          refine hK _ _ ⟨fun _ => HS.out _ HLx4.out, ?_⟩
          clear hK K ho4 hg4
          intro K hK
          simp only [Act.put, List.setIfInBounds_toArray, List.set_cons_zero, List.set_cons_succ] at hK ⊢
          rw [if_pos (by rfl)]
          refine wp_app_rd x4 (enc := encS) (k := 2) (l := rest.drop 0) (fun _ => rfl) one_encS (.tmp 90) (.tmp 93) 136 rfl Z1.heap.size 141 i1 (.agg #[.int .i64 0, .int .i64 0]) 16 Tryz.underlying136 gi gz0 gz1 gz2 rfl (by decide) v4 (0 + 1) (((rest.take 0) ++ [((lo, hi) : Sp)]).flatMap encS) rfl HV4.out.row x4.heap.size ((HDR.out.below HLx4.out).mono HLx4.out.size) (by have e9 : (rest.drop 0).length = rest.length := HDN.out; rw [e9]; unfold maxLen; omega) (by have e9 : (rest.drop 0).length = rest.length := HDN.out; rw [e9]; omega) HLx4.out.size ?_
          intro v5 x5 ho5 hg5
          have HV5 : Hid (UA Z1 v5 (rest.length + 1) ((insU rest (lo, hi)).flatMap encS) x5) := hide (by
           have h := UA.grow HV4.out ho5 hg5
           rwa [show (0 + 1) + (rest.drop 0).length = (rest.length + 1) from by rw [HDN.out]; omega, show (((rest.take 0) ++ [((lo, hi) : Sp)]).flatMap encS) ++ (rest.drop 0).flatMap encS = (insU rest (lo, hi)).flatMap encS from by rw [← List.flatMap_append, HPE2.out]] at h)
          have HLx5 := hide HV5.out.low
          refine hK _ _ ⟨fun _ => HS.out _ HLx5.out, ?_⟩
          clear hK K ho5 hg5
          intro K hK
          simp only [Act.put, List.setIfInBounds_toArray, List.set_cons_zero, List.set_cons_succ] at hK ⊢
          go_simp
          refine hK _ _ ⟨fun h => (by cases h), ?_⟩
          clear hK K
          refine NoPanic.normal ?_
          obtain ⟨Av, cv, hv6⟩ := own_form HV5.out.row
          subst hv6
          have HB9 : Hid (Below w.heap.size w x5) := hide (HB.out.trans ((HIZ.out.low.trans (HLx5.out.mono (Nat.le_of_lt HIZ.out.lt))).mono (by rw [← hg]; exact HB.out.size)))
          have HO9 : Hid (x5.ownsRow w.heap.size 141 2 (.slice Av (rest.length + 1) cv) (rest.length + 1) ((insU rest (lo, hi)).flatMap encS)) := hide (own_base HV5.out.row (Nat.le_trans HB.out.size (Nat.le_trans (Nat.le_of_eq hg) (Nat.le_of_lt HIZ.out.lt))))
          have HNN : Hid ((insU rest (lo, hi)).length = rest.length + 1) := hide (insU_len _ _)
          go_wp2
          go_roundw
          case rel =>
           refine ⟨m + 1, Av, cv, by omega, by go_num, ?_, HB9, ?_⟩
           ·rw [HU2.out, HNN.out]
           ·rw [HU2.out, HNN.out]; exact HO9
          case measure => simp [intOf]; omega
        ·intro K hK
         simp only [Act.put, List.setIfInBounds_toArray, List.set_cons_zero, List.set_cons_succ] at hK ⊢
         go_simp
         have HF1 : Hid (PairAt (wk.alloc (.cells #[.int .i64 lo, .int .i64 hi] 141)) wk.heap.size lo hi) := hide (World.alloc_heap_new _ _)
         have HLx1 : Hid (Below Z1.heap.size Z1 (wk.alloc (.cells #[.int .i64 lo, .int .i64 hi] 141))) := hide (HLwk.out.alloc HLwk.out.size _)
         refine hK _ _ ⟨HS.out _ HLx1.out, ?_⟩
         clear hK K
         obtain ⟨f, hf⟩ : ∃ f, wk.heap.size = f := ⟨_, rfl⟩
         rw [hf] at HF1 ⊢
         generalize wk.alloc (.cells #[.int .i64 lo, .int .i64 hi] 141) = x1 at *
         intro K hK
         simp only [Act.put, List.setIfInBounds_toArray, List.set_cons_zero, List.set_cons_succ] at hK ⊢
         go_simp
         have HV2 : Hid (UA Z1 (.slice (some ⟨x1.heap.size, 0, none⟩) 0 0) 0 [] (x1.alloc (.cells #[] 141))) := hide (UA.empty HLx1.out)
         have HF2 : Hid (PairAt (x1.alloc (.cells #[] 141)) f lo hi) := hide (HF1.out.alloc _)
         have HNE : Hid (f ≠ x1.heap.size) := hide (Nat.ne_of_lt HF1.out.lt)
         have HLx2 := hide HV2.out.low
         refine hK _ _ ⟨fun _ => HS.out _ HLx2.out, ?_⟩
         clear hK K
         obtain ⟨e, he⟩ : ∃ e, x1.heap.size = e := ⟨_, rfl⟩
         rw [he] at HV2 ⊢
         rw [he] at HNE
         generalize x1.alloc (.cells #[] 141) = x2 at *
         intro K hK
         simp only [Act.put, List.setIfInBounds_toArray, List.set_cons_zero, List.set_cons_succ] at hK ⊢
         rw [if_pos (by rfl)]
         refine wp_app_rd x2 (enc := encS) (k := 2) (l := rest.take 0) (fun _ => rfl) one_encS (.tmp 83) (.tmp 86) 136 rfl Z1.heap.size 141 i1 (.agg #[.int .i64 0, .int .i64 0]) 16 Tryz.underlying136 gi gz0 gz1 gz2 rfl (by decide) (.slice (some ⟨e, 0, none⟩) 0 0) 0 ([]) rfl HV2.out.row x2.heap.size ((HTK.out.below HLx2.out).mono HLx2.out.size) (by have e9 : (rest.take 0).length = 0 := HTN.out; rw [e9]; unfold maxLen; omega) (by have e9 : (rest.take 0).length = 0 := HTN.out; rw [e9]; omega) HLx2.out.size ?_
         intro v3 x3 ho3 hg3
         have HV3 : Hid (UA Z1 v3 0 ((rest.take 0).flatMap encS) x3) := hide (by
          have h := UA.grow HV2.out ho3 hg3
          rwa [show 0 + (rest.take 0).length = 0 from by have := HTN.out; omega, show ([]) ++ (rest.take 0).flatMap encS = (rest.take 0).flatMap encS from by simp] at h)
         have HLx3 := hide HV3.out.low
         have HF3 := hide (HF2.out.grow hg3 (by simp only [Value.ownBlock]; intro h; injection h with h; exact HNE.out h))
         refine hK _ _ ⟨fun _ => HS.out _ HLx3.out, ?_⟩
         clear hK K ho3 hg3
         intro K hK
         simp only [Act.put, List.setIfInBounds_toArray, List.set_cons_zero, List.set_cons_succ] at hK ⊢
         rw [if_pos (by rfl)]
         refine wp_app_rd x3 (enc := encS) (k := 2) (l := [((lo, hi) : Sp)]) (fun _ => rfl) one_encS (.tmp 87) (.tmp 89) 136 rfl Z1.heap.size 141 i1 (.agg #[.int .i64 0, .int .i64 0]) 16 Tryz.underlying136 gi gz0 gz1 gz2 rfl (by decide) v3 0 ((rest.take 0).flatMap encS) rfl HV3.out.row x3.heap.size (HF3.out.rd) (by have e9 : ([((lo, hi) : Sp)]).length = 1 := rfl; rw [e9]; unfold maxLen; omega) (by have e9 : ([((lo, hi) : Sp)]).length = 1 := rfl; rw [e9]; omega) HLx3.out.size ?_
         intro v4 x4 ho4 hg4
         have HV4 : Hid (UA Z1 v4 (0 + 1) (((rest.take 0) ++ [((lo, hi) : Sp)]).flatMap encS) x4) := hide (by
          have h := UA.grow HV3.out ho4 hg4
          rwa [show 0 + ([((lo, hi) : Sp)]).length = (0 + 1) from rfl, show ((rest.take 0).flatMap encS) ++ ([((lo, hi) : Sp)]).flatMap encS = ((rest.take 0) ++ [((lo, hi) : Sp)]).flatMap encS from by rw [List.flatMap_append]] at h)
         have HLx4 := hide HV4.out.low
         refine hK _ _ ⟨fun _ => HS.out _ HLx4.out, ?_⟩
         clear hK K ho4 hg4
         intro K hK
         simp only [Act.put, List.setIfInBounds_toArray, List.set_cons_zero, List.set_cons_succ] at hK ⊢
         rw [if_pos (by rfl)]
         refine wp_app_rd x4 (enc := encS) (k := 2) (l := rest.drop 0) (fun _ => rfl) one_encS (.tmp 90) (.tmp 93) 136 rfl Z1.heap.size 141 i1 (.agg #[.int .i64 0, .int .i64 0]) 16 Tryz.underlying136 gi gz0 gz1 gz2 rfl (by decide) v4 (0 + 1) (((rest.take 0) ++ [((lo, hi) : Sp)]).flatMap encS) rfl HV4.out.row x4.heap.size ((HDR.out.below HLx4.out).mono HLx4.out.size) (by have e9 : (rest.drop 0).length = rest.length := HDN.out; rw [e9]; unfold maxLen; omega) (by have e9 : (rest.drop 0).length = rest.length := HDN.out; rw [e9]; omega) HLx4.out.size ?_
         intro v5 x5 ho5 hg5
         have HV5 : Hid (UA Z1 v5 (rest.length + 1) ((insU rest (lo, hi)).flatMap encS) x5) := hide (by
          have h := UA.grow HV4.out ho5 hg5
          rwa [show (0 + 1) + (rest.drop 0).length = (rest.length + 1) from by rw [HDN.out]; omega, show (((rest.take 0) ++ [((lo, hi) : Sp)]).flatMap encS) ++ (rest.drop 0).flatMap encS = (insU rest (lo, hi)).flatMap encS from by rw [← List.flatMap_append, HPE2.out]] at h)
         have HLx5 := hide HV5.out.low
         refine hK _ _ ⟨fun _ => HS.out _ HLx5.out, ?_⟩
         clear hK K ho5 hg5
         intro K hK
         simp only [Act.put, List.setIfInBounds_toArray, List.set_cons_zero, List.set_cons_succ] at hK ⊢
         go_simp
         refine hK _ _ ⟨fun h => (by cases h), ?_⟩
         clear hK K
         refine NoPanic.normal ?_
         obtain ⟨Av, cv, hv6⟩ := own_form HV5.out.row
         subst hv6
         have HB9 : Hid (Below w.heap.size w x5) := hide (HB.out.trans ((HIZ.out.low.trans (HLx5.out.mono (Nat.le_of_lt HIZ.out.lt))).mono (by rw [← hg]; exact HB.out.size)))
         have HO9 : Hid (x5.ownsRow w.heap.size 141 2 (.slice Av (rest.length + 1) cv) (rest.length + 1) ((insU rest (lo, hi)).flatMap encS)) := hide (own_base HV5.out.row (Nat.le_trans HB.out.size (Nat.le_trans (Nat.le_of_eq hg) (Nat.le_of_lt HIZ.out.lt))))
         have HNN : Hid ((insU rest (lo, hi)).length = rest.length + 1) := hide (insU_len _ _)
         go_wp2
         go_roundw
         case rel =>
          refine ⟨m + 1, Av, cv, by omega, by go_num, ?_, HB9, ?_⟩
          ·rw [HU2.out, HNN.out]
          ·rw [HU2.out, HNN.out]; exact HO9
         case measure => simp [intOf]; omega
  ·obtain rfl : m = l.length := by omega
   have mz : ¬ (l.length : Int) < (l.length : Int) := by omega
   rw [List.take_length] at HO
   have e : l.take l.length = l := List.take_length
   rw [e] at *
   go_wp2
   go_ret
   exact ⟨⟨_, rfl, HO.out⟩, HB.out⟩
end Go.Proofs.YtikojiciilambaaGreat

/- The reference's networks: lines. -/
namespace Go.Proofs.YtikojiciilambaaGreat
open Go.RowKit
set_option linter.unusedVariables false
set_option linter.unusedSimpArgs false
structure LnI (w : World) (vo : Value) (L : List Ln) (wr : World) : Prop where
 low : Below w.heap.size w wr
 o : ∃ vs, wr.ownsRow w.heap.size 265 2 vo L.length vs ∧ ∀ (i : Nat) (q : Ln), L[i]? = some q → vs[i * 2]? = some (.int .i64 q.1) ∧ ∃ v, vs[i * 2 + 1]? = some v ∧ wr.ownsRow w.heap.size 141 2 v q.2.length (q.2.flatMap encS)
theorem LnI.below {w wr w2 : World} {vo : Value} {L : List Ln} (h : LnI w vo L wr) (hb : Below wr.heap.size wr w2) : LnI w vo L w2 := by
 obtain ⟨vs, h1, h2⟩ := h.o
 refine ⟨h.low.trans (hb.mono h.low.size), vs, own_below h1 hb, fun i r hr => ?_⟩
 obtain ⟨h0, v, h3, h4⟩ := h2 i r hr
 exact ⟨h0, v, h3, own_below h4 hb⟩
theorem LnI.push {w wr w2 : World} {vo v2 v : Value} {L : List Ln} {q : Ln} {vs : List Value} (low : Below w.heap.size w wr) (h1 : wr.ownsRow w.heap.size 265 2 vo L.length vs)
  (h2 : ∀ (i : Nat) (q : Ln), L[i]? = some q → vs[i * 2]? = some (.int .i64 q.1) ∧ ∃ v, vs[i * 2 + 1]? = some v ∧ wr.ownsRow w.heap.size 141 2 v q.2.length (q.2.flatMap encS)) (hv : wr.ownsRow w.heap.size 141 2 v q.2.length (q.2.flatMap encS))
  (hg : wr.grownBy w2 vo.ownBlock) (h3 : w2.ownsRow w.heap.size 265 2 v2 (L.length + 1) (vs ++ [.int .i64 q.1, v])) : LnI w v2 (L ++ [q]) w2 := by
 have hl : vs.length = L.length * 2 := h1.1
 refine ⟨low.grown hg low.size (fun q hq => (h1.lt q hq).1), vs ++ [.int .i64 q.1, v], by simpa using h3, fun i x hx => ?_⟩
 by_cases hi : i < L.length
 ·rw [List.getElem?_append_left hi] at hx
  obtain ⟨h0, u, h4, h5⟩ := h2 i x hx
  exact ⟨by rw [List.getElem?_append_left (by omega)]; exact h0, u, by rw [List.getElem?_append_left (by omega)]; exact h4, h5.kept hg (own_apart h5 h1 (by decide))⟩
 ·rw [List.getElem?_append_right (by omega)] at hx
  have hi0 : i - L.length = 0 := by
   have := (List.getElem?_eq_some_iff.1 hx).1
   simp at this
   omega
  rw [hi0] at hx
  simp at hx
  subst hx
  refine ⟨?_, v, ?_, hv.kept hg (own_apart hv h1 (by decide))⟩
  ·rw [List.getElem?_append_right (by omega), show i * 2 - vs.length = 0 by omega]; rfl
  ·rw [List.getElem?_append_right (by omega), show i * 2 + 1 - vs.length = 1 by omega]; rfl
theorem LnI.rd {w wr : World} {vo : Value} {L : List Ln} (h : LnI w vo L wr) : RdLn wr wr.heap.size vo L := by
 obtain ⟨vs, ho, hr⟩ := h.o
 obtain ⟨A, c, rfl⟩ := own_form ho
 refine ⟨A, c, rfl, fun hl => ?_⟩
 have hp : 0 < L.length := List.length_pos_iff.2 hl
 obtain ⟨g, cap, hv, hB, hg⟩ := ho.form (by omega)
 injection hv with e1 _ e3
 subst e1; subst e3
 refine ⟨g, 0, rfl, (ho.lt g rfl).2, fun j x hx => ?_⟩
 obtain ⟨h0, v, h3, h4⟩ := hr j x hx
 refine ⟨?_, v, ?_, own_rd h4 (fun _ => rfl)⟩
 ·have := (ho.cells (g := g) rfl) (j * 2) _ h0
  rw [addr_add] at this
  rwa [Nat.zero_add]
 ·have := (ho.cells (g := g) rfl) (j * 2 + 1) _ h3
  rw [addr_add] at this
  rwa [show 0 + j * 2 + 1 = j * 2 + 1 by omega]
theorem sg_cells {W wr : World} {B b o m : Nat} {l : List Sg} {s : Sg} (hk : ∀ (j : Nat) (x : Sg), l[j]? = some x → ∀ (i : Nat) (u : Value), (encSg x)[i]? = some u → W.cell? ⟨b, o + j * 4 + i, none⟩ = some u) (hb : Below B W wr) (hB : b < B) (hs : l[m]? = some s) :
  wr.cell? ⟨b, o + m * 4, none⟩ = some (.int .i64 s.ax) ∧ wr.cell? ⟨b, o + m * 4 + 1, none⟩ = some (.int .i64 s.ay) ∧ wr.cell? ⟨b, o + m * 4 + 2, none⟩ = some (.int .i64 s.cx) ∧ wr.cell? ⟨b, o + m * 4 + 3, none⟩ = some (.int .i64 s.cy) :=
 ⟨(hb.cell (p := ⟨b, _, none⟩) hB).trans (hk m _ hs 0 _ rfl), (hb.cell (p := ⟨b, _, none⟩) hB).trans (hk m _ hs 1 _ rfl), (hb.cell (p := ⟨b, _, none⟩) hB).trans (hk m _ hs 2 _ rfl), (hb.cell (p := ⟨b, _, none⟩) hB).trans (hk m _ hs 3 _ rfl)⟩
theorem rdI_get {w : World} {A : Option Addr} {n c : Nat} {l : List Int} (h : RdK encI 1 w w.heap.size (.slice A n c) l) {j : Nat} {q : Int} (hq : l[j]? = some q) : ∃ b off, A = some ⟨b, off, none⟩ ∧ b < w.heap.size ∧ (∀ (i : Nat) (x : Int), l[i]? = some x → w.cell? ⟨b, off + i, none⟩ = some (.int .i64 x)) := by
 obtain ⟨A1, c1, hv, h⟩ := h
 injection hv with e1 _ _
 subst e1
 obtain ⟨b, off, rfl, hb, k⟩ := h (by intro e; rw [e] at hq; simp at hq)
 refine ⟨b, off, rfl, hb, fun i x hx => ?_⟩
 have := k i x hx 0 _ rfl
 rwa [Nat.mul_one, Nat.add_zero] at this
theorem ats_in {l : List Sg} {m : Nat} {s : Sg} {al : Bool} (h : l[m]? = some s) (hd : (decide (s.ay = s.cy) == al) = true) : atsF (l.take (m + 1)) al = atsF (l.take m) al ++ [if al then s.ay else s.ax] := by
 unfold atsF
 rw [List.take_add_one, h, Option.toList_some, List.filter_append, List.map_append]
 simp [hd]
theorem ats_out {l : List Sg} {m : Nat} {s : Sg} {al : Bool} (h : l[m]? = some s) (hd : (decide (s.ay = s.cy) == al) = false) : atsF (l.take (m + 1)) al = atsF (l.take m) al := by
 unfold atsF
 rw [List.take_add_one, h, Option.toList_some, List.filter_append, List.map_append]
 simp [hd]
theorem ats_len (l : List Sg) (al : Bool) : (atsF l al).length ≤ l.length := by
 unfold atsF
 rw [List.length_map]
 exact List.length_filter_le _ _
theorem own_in_row {l : List Sg} {m : Nat} {s : Sg} {a : Int} (h : l[m]? = some s) (h1 : s.ay = a) (h2 : s.cy = a) : ownF (l.take (m + 1)) true a = ownF (l.take m) true a ++ [(min s.ax s.cx, max s.ax s.cx)] := by
 simp only [ownF, if_true, rowSp]
 rw [List.take_add_one, h, Option.toList_some, List.filter_append, List.map_append]
 simp [h1, h2]
theorem own_out_row {l : List Sg} {m : Nat} {s : Sg} {a : Int} (h : l[m]? = some s) (h1 : ¬ (s.ay = a ∧ s.cy = a)) : ownF (l.take (m + 1)) true a = ownF (l.take m) true a := by
 simp only [ownF, if_true, rowSp]
 rw [List.take_add_one, h, Option.toList_some, List.filter_append, List.map_append]
 have : (decide (s.ay = s.cy) && decide (s.ay = a)) = false := by
  rw [Bool.eq_false_iff]
  intro h
  simp only [Bool.and_eq_true, decide_eq_true_eq] at h
  exact h1 ⟨h.2, by omega⟩
 simp [this]
theorem own_in_col {l : List Sg} {m : Nat} {s : Sg} {a : Int} (hv : okSg s) (h : l[m]? = some s) (h1 : s.ax = a) (h2 : s.cx = a) : ownF (l.take (m + 1)) false a = ownF (l.take m) false a ++ [(min s.ay s.cy, max s.ay s.cy)] := by
 simp only [ownF, Bool.false_eq_true, if_false, colSp]
 rw [List.take_add_one, h, Option.toList_some, List.filter_append, List.map_append]
 have : (!decide (s.ay = s.cy) && decide (s.ax = a)) = true := by
  have h3 : ¬ s.ay = s.cy := fun e => hv.2.1 (by omega) e
  simp [h1, h3]
 simp [this]
theorem own_out_col {l : List Sg} {m : Nat} {s : Sg} {a : Int} (hv : okSg s) (h : l[m]? = some s) (h1 : ¬ (s.ax = a ∧ s.cx = a)) : ownF (l.take (m + 1)) false a = ownF (l.take m) false a := by
 simp only [ownF, Bool.false_eq_true, if_false, colSp]
 rw [List.take_add_one, h, Option.toList_some, List.filter_append, List.map_append]
 have : (!decide (s.ay = s.cy) && decide (s.ax = a)) = false := by
  rw [Bool.eq_false_iff]
  intro h
  simp only [Bool.and_eq_true, decide_eq_true_eq, Bool.not_eq_true', decide_eq_false_iff_not] at h
  have := hv.2.2 h.1
  exact h1 ⟨h.2, by omega⟩
 simp [this]
theorem ownF_len (l : List Sg) (al : Bool) (a : Int) : (ownF l al a).length ≤ l.length := by
 unfold ownF rowSp colSp
 cases al <;> simp only [Bool.false_eq_true, if_false, if_true, List.length_map] <;> exact List.length_filter_le _ _
theorem lines_take {l : List Sg} {al : Bool} {m : Nat} {a : Int} (h : (srt (atsF l al))[m]? = some a) : (linesF l al).take (m + 1) = (linesF l al).take m ++ [(a, unitF (ownF l al a))] := by
 unfold linesF
 rw [List.take_add_one, List.getElem?_map, h]
 rfl
theorem srt_lt {E : List Int} {j : Nat} {x y : Int} (hx : (srt E)[j]? = some x) (hy : (srt E)[j + 1]? = some y) : x < y := by
 obtain ⟨q1, e1⟩ := List.getElem?_eq_some_iff.1 hx
 obtain ⟨q2, e2⟩ := List.getElem?_eq_some_iff.1 hy
 rw [← e1, ← e2]
 exact List.pairwise_iff_getElem.1 (srt_ok E).1 j (j + 1) q1 q2 (by omega)
theorem srt_ln (E : List Int) : (srt E).length ≤ E.length := nodup_len ((srt_ok E).1.imp fun h e => by omega) fun x hx => ((srt_ok E).2 x).1 hx
end Go.Proofs.YtikojiciilambaaGreat
