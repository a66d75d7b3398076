/- Texts laid together: OudF, OueA. Lemmas for the statements of this seat; no condition. -/
import Derived.Test.YtdfpbhlnlkjjlaaGreatPk11
import Derived.Test.YtdfpbhlnlkjjlaaGreatPk7
import Derived.StillTactics
import Derived.Test.YtdfpbhlnlkjjlaaGreatPk8

/- Outlines: Of. -/
namespace Go.Proofs.YtdfpbhlnlkjjlaaGreat
open Go.RowKit Go.Maps
set_option linter.unusedVariables false
set_option linter.unusedSimpArgs false
attribute [local go_sem] Oper.semAt_some
structure LVo (bb Bo : Nat) (W0 : World) (R : List (List Pt)) (W : World) : Prop where
 lo : bb < Bo
 size : Bo ≤ W.heap.size
 out : ∃ vo vs, W.cell? ⟨bb, 0, none⟩ = some vo ∧ W.ownsRow Bo 36 1 vo R.length vs ∧ ∀ (i : Nat) (r : List Pt), R[i]? = some r → ∃ v, vs[i]? = some v ∧ W.ownsRow Bo 53 2 v r.length (r.flatMap encS)
 fz : W.frozen? ⟨bb, 0, none⟩ = false
 low : Below bb W0 W
theorem LVo.below {bb Bo : Nat} {W0 A B : World} {R : List (List Pt)} (h : LVo bb Bo W0 R A) (hb : Below A.heap.size A B) : LVo bb Bo W0 R B := by
 have hlt : bb < A.heap.size := Nat.lt_of_lt_of_le h.lo h.size
 obtain ⟨vo, vs, o1, o2, o3⟩ := h.out
 exact ⟨h.lo, Nat.le_trans h.size hb.size, ⟨vo, vs, (hb.cell (p := ⟨bb, 0, none⟩) hlt).trans o1, own_below o2 hb, fun i r hr => by
  obtain ⟨v, q1, q2⟩ := o3 i r hr
  exact ⟨v, q1, own_below q2 hb⟩⟩, (hb.frozen (p := ⟨bb, 0, none⟩) hlt).trans h.fz, h.low.trans (hb.mono (Nat.le_of_lt hlt))⟩
theorem LVo.putObj {bb Bo : Nat} {W0 A : World} {R : List (List Pt)} (h : LVo bb Bo W0 R A) {l : Nat} {o o' : Obj} (hw : Bo ≤ l) (hl : A.heap[l]? = some o) (ho : o.isCells = false) (ho' : o'.isCells = false) : LVo bb Bo W0 R (A.putObj l o') := by
 obtain ⟨vo, vs, o1, o2, o3⟩ := h.out
 have hlo := h.lo
 exact ⟨h.lo, by simpa using h.size, ⟨vo, vs, (cell_putObj (o' := o') hl ho ho' _).1.trans o1, own_putObj o2 hl ho, fun i r hr => by
  obtain ⟨v, q1, q2⟩ := o3 i r hr
  exact ⟨v, q1, own_putObj q2 hl ho⟩⟩, (cell_putObj (o' := o') hl ho ho' _).2.trans h.fz, below_putObj h.low (by omega) _⟩
theorem own_grown_objO {w w2 : World} {B l n size : Nat} {e : TypeId} {v : Value} {xs : List Value} {o : Obj} (h : w.ownsRow B e size v n xs) (hg : w.grownBy w2 (some l)) (hl : w.heap[l]? = some o) (ho : o.isCells = false) : w2.ownsRow B e size v n xs := by
 refine h.kept hg ?_
 right
 intro e
 have := own_cells h l o e hl
 rw [ho] at this; cases this
theorem LVo.grown {bb Bo : Nat} {W0 A B : World} {R : List (List Pt)} (h : LVo bb Bo W0 R A) {l : Nat} {o : Obj} (hw : Bo ≤ l) (hg : A.grownBy B (some l)) (hl : A.heap[l]? = some o) (ho : o.isCells = false) : LVo bb Bo W0 R B := by
 obtain ⟨vo, vs, o1, o2, o3⟩ := h.out
 have hlo := h.lo
 have hsz := h.size
 have hbk : B.heap[bb]? = A.heap[bb]? := hg.block bb (by omega) (fun e => by injection e with e; omega)
 exact ⟨h.lo, Nat.le_trans h.size hg.size, ⟨vo, vs, (World.cell?_of_block (w := A) (a := ⟨bb, 0, none⟩) hbk).trans o1, own_grown_objO o2 hg hl ho, fun i r hr => by
  obtain ⟨v, q1, q2⟩ := o3 i r hr
  exact ⟨v, q1, own_grown_objO q2 hg hl ho⟩⟩, (World.frozen?_of_block (w := A) (a := ⟨bb, 0, none⟩) hbk).trans h.fz, h.low.grown hg (Nat.le_trans (Nat.le_of_lt h.lo) h.size) (fun k hk => by injection hk with hk; omega)⟩
theorem LVo.push {bb Bo : Nat} {W0 wr wa w2 : World} {R : List (List Pt)} {r : List Pt} {vo v2 v : Value} {vs : List Value} (h : LVo bb Bo W0 R wr) (hvo : wr.cell? ⟨bb, 0, none⟩ = some vo) (how : wr.ownsRow Bo 36 1 vo R.length vs)
  (hel : ∀ (i : Nat) (r : List Pt), R[i]? = some r → ∃ v, vs[i]? = some v ∧ wr.ownsRow Bo 53 2 v r.length (r.flatMap encS)) (hv : wr.ownsRow Bo 53 2 v r.length (r.flatMap encS))
  (ha : Below wr.heap.size wr wa) (hg : wa.grownBy w2 vo.ownBlock) (hown2 : w2.ownsRow Bo 36 1 v2 (R.length + 1) (vs ++ [v])) :
  w2.cell? ⟨bb, 0, none⟩ = some vo ∧ w2.frozen? ⟨bb, 0, none⟩ = false ∧ Hid (LVo bb Bo W0 (R ++ [r]) (w2.setCell ⟨bb, 0, none⟩ v2) ∧ KeepsOthers wr (w2.setCell ⟨bb, 0, none⟩ v2) ∧ KpL bb Bo wr (w2.setCell ⟨bb, 0, none⟩ v2)) := by
 have hlo := h.lo
 have hsz := h.size
 have hl : vs.length = R.length := by have := how.1; omega
 have how2 := own_below how ha
 have hB : Below Bo wr w2 := (ha.mono hsz).grown hg (Nat.le_trans hsz ha.size) fun q hq => (how.lt q hq).1
 have k0 := (hB.cell (p := ⟨bb, 0, none⟩) hlo).trans hvo
 have kf := (hB.frozen (p := ⟨bb, 0, none⟩) hlo).trans h.fz
 have hkp : ∀ {x : List Pt} {u : Value}, wr.ownsRow Bo 53 2 u x.length (x.flatMap encS) → (w2.setCell ⟨bb, 0, none⟩ v2).ownsRow Bo 53 2 u x.length (x.flatMap encS) := fun {x u} hu =>
  ownsRow_setCell_below ((own_below hu ha).kept hg (own_apart (own_below hu ha) how2 (by decide))) (by show bb < _; omega) _
 refine ⟨k0, kf, hide ⟨⟨hlo, ?_, ⟨v2, vs ++ [v], by simp [go_sem, k0], ?_, fun i x hx => ?_⟩, ?_, ?_⟩, ?_, ?_, fun b h1 h2 => ?_⟩⟩
 ·have := hB.size; simp [World.setCell]; omega
 ·rw [List.length_append]
  exact ownsRow_setCell_below hown2 (by show bb < _; omega) _
 ·by_cases hi : i < R.length
  ·rw [List.getElem?_append_left hi] at hx
   obtain ⟨u, h4, h5⟩ := hel i x hx
   exact ⟨u, by rw [List.getElem?_append_left (by omega)]; exact h4, hkp h5⟩
  ·rw [List.getElem?_append_right (by omega)] at hx
   have hi0 : i - R.length = 0 := by
    have := (List.getElem?_eq_some_iff.1 hx).1
    simp at this
    omega
   rw [hi0] at hx
   simp at hx
   subst hx
   exact ⟨v, by rw [List.getElem?_append_right (by omega), hl, hi0]; rfl, hkp hv⟩
 ·rw [World.frozen?_setCell]; exact kf
 ·exact (h.low.trans (hB.mono (Nat.le_of_lt hlo))).setCell (p := ⟨bb, 0, none⟩) (Nat.le_refl _) _
 ·exact ((keeps_below ha).trans (KeepsOthers.of_grownBy hg fun j o hj ho => own_cells how2 j o hj ho)).trans (KeepsOthers.setCell _ _ _)
 ·have := hB.size; simp [World.setCell]; omega
 ·exact (Below.heap_setCell _ _ _ _ (by show b ≠ bb; omega)).trans (hB.block b h1)
theorem LVo.grownM {bb Bo : Nat} {W0 A B : World} {R : List (List Pt)} (h : LVo bb Bo W0 R A) {m : Nat} (h1 : bb < m) (h2 : m < Bo) (hg : A.grownBy B (some m)) : LVo bb Bo W0 R B := by
 obtain ⟨vo, vs, o1, o2, o3⟩ := h.out
 have hlo := h.lo
 have hsz := h.size
 have hbk : B.heap[bb]? = A.heap[bb]? := hg.block bb (by omega) (fun e => by injection e with e; omega)
 have far : ∀ {e : TypeId} {s n : Nat} {v : Value} {xs : List Value}, A.ownsRow Bo e s v n xs → B.ownsRow Bo e s v n xs := fun hr => hr.kept hg (.inr (fun e => by have := (hr.lt m e).1; omega))
 exact ⟨h.lo, Nat.le_trans hsz hg.size, ⟨vo, vs, (World.cell?_of_block (w := A) (a := ⟨bb, 0, none⟩) hbk).trans o1, far o2, fun i r hr => by
  obtain ⟨v, q1, q2⟩ := o3 i r hr
  exact ⟨v, q1, far q2⟩⟩, (World.frozen?_of_block (w := A) (a := ⟨bb, 0, none⟩) hbk).trans h.fz, h.low.grown hg (by omega) (fun k hk => by injection hk with hk; omega)⟩
def TurnP (P L : List (List Pt)) : Prop := P.length = L.length ∧ ∀ (i : Nat) (a b : List Pt), P[i]? = some a → L[i]? = some b → isTurned a b
theorem TurnP.nil : TurnP [] [] := ⟨rfl, fun i a b h => by simp at h⟩
theorem TurnP.snoc {P L : List (List Pt)} (h : TurnP P L) {a b : List Pt} (ht : isTurned a b) : TurnP (P ++ [a]) (L ++ [b]) := by
 refine ⟨by simp [h.1], fun i x y hx hy => ?_⟩
 by_cases hi : i < P.length
 ·rw [List.getElem?_append_left hi] at hx
  rw [List.getElem?_append_left (by rw [← h.1]; exact hi)] at hy
  exact h.2 i x y hx hy
 ·rw [List.getElem?_append_right (by omega)] at hx
  rw [List.getElem?_append_right (by rw [← h.1]; omega), ← h.1] at hy
  have h0 : i - P.length = 0 := by
   have := (List.getElem?_eq_some_iff.1 hx).1
   simp at this
   omega
  rw [h0] at hx hy
  simp at hx hy
  subst hx
  subst hy
  exact ht
theorem TurnP.wrote {S : Cs} : ∀ {vs : List (Un × Nat)} {L : List (List Pt)}, TurnP (vs.map (cnP S)) L → Wrote S vs L
 | [], [], _ => .nil
 | [], _ :: _, h => by have := h.1; simp at this
 | _ :: _, [], h => by have := h.1; simp at this
 | q :: vs, l :: L, h => .cons (h.2 0 _ _ rfl rfl) (TurnP.wrote ⟨by have := h.1; simpa using this, fun i a b ha hb => h.2 (i + 1) a b (by simpa using ha) (by simpa using hb)⟩)
theorem infoLp : (Tryz.prog.info? 36).map (fun i => (i.zero, i.size, i.bytes)) = some (some (.slice none 0 0), 1, 24) := by kernel_rfl
theorem edges_ok {l : List R4} (hc : RCan l) (hb : bdC (setR l) 1000000) : ∀ e ∈ edgesF l, okE e := fun e he => by
 have h := edges_of hc
 obtain ⟨h1, h2, _, h4⟩ := h.at_ he
 have a := bgn_in hb (h4 0 h1)
 have b := bgn_in hb (h4 (lnE e - 1) (by omega))
 have hend := h.uE_end he
 have z0 : (uE e 0).1 = e.1 := by
  unfold uE
  refine pt_ext ?_ ?_ <;> simp [addW]
 rw [z0] at a
 have e1 : okP e.1 := by unfold okP; omega
 refine ⟨e1, ?_⟩
 rw [← hend]
 generalize uE e (lnE e - 1) = z at *
 obtain ⟨⟨x, y⟩, d⟩ := z
 simp only at b
 unfold okP hdU
 cases d <;> simp only [Wy.v] <;> omega
theorem upr_len60 {l : List R4} (hc : RCan l) (hv : ∀ t ∈ l, validS (t.y0, t.y1)) (hl : l.length ≤ 60) (x : Int) : (uprE l x).length ≤ 480 := by
 have h1 := (bef_ok hc hv x).1
 have h2 := (beh_ok hc hv x).1
 have h3 := sjoin_len hSub (befE l x) (behE l x)
 have h4 := sjoin_len hSub (behE l x) (befE l x)
 rw [uprE_up, List.length_append, List.length_map, List.length_map]
 omega
theorem uprs_len60 {l : List R4} (hc : RCan l) (hv : ∀ t ∈ l, validS (t.y0, t.y1)) (hl : l.length ≤ 60) : ∀ xs : List Int, (xs.flatMap (uprE l)).length ≤ 480 * xs.length
 | [] => by simp
 | x :: xs => by
  have := upr_len60 hc hv hl x
  have := uprs_len60 hc hv hl xs
  rw [List.flatMap_cons, List.length_append, List.length_cons]
  omega
theorem edges_len {l : List R4} (hc : RCan l) (hv : ∀ t ∈ l, validS (t.y0, t.y1)) (hl : l.length ≤ 60) : (edgesF l).length ≤ 100000 := by
 have h5 := cutsOf_len (cutsL l)
 have h6 := cutsL_len l
 have h7 : xsE l = cutsOf (cutsL l) := rfl
 have h8 := uprs_len60 hc hv hl (xsE l)
 have h9 := levE_len l
 unfold edgesF
 rw [List.length_append]
 rw [h7] at h8 ⊢
 omega
theorem trL_len (S : Cs) (E : List Eg) : (trL S E E.length).length ≤ E.length := by
 have key : ∀ k, (vsF S E k).length ≤ k := by
  intro k
  induction k with
  | zero => simp [vsF]
  | succ k ih =>
   rcases he : E[k]? with _ | e
   ·obtain ⟨t, ht⟩ := vsF_step (S := S) (E := E) k
    have : vsF S E (k + 1) = vsF S E k := by
     show (match E[k]? with | none => vsF S E k | some e => _) = _
     rw [he]
    rw [this]; omega
   ·by_cases hf : freeE S (vsF S E k) e
    ·rw [vsF_free he hf, List.length_append]
     simp
     omega
    ·rw [vsF_shut he hf]; omega
 unfold trL
 rw [List.length_map]
 exact key _
theorem loops_outl {l : List R4} (hc : RCan l) {M : Nat} (hM : bdC (setR l) M) {L K : List (List Pt)} (hT : TurnP (trL (setR l) (edgesF l) (edgesF l).length) L) (hp : K.Perm L) (hs : K.Pairwise fun a b => ¬ ltL b a) : Outl (setR l) K :=
 (vsF_follow (edges_of hc) hM).outl (TurnP.wrote hT) hp hs
set_option maxRecDepth 100000 in
set_option maxHeartbeats 16000000 in
theorem of_any {w : World} {v : Value} {l : List R4} (hr : RdK encR 4 w w.heap.size v l) (hl : l.length ≤ 60) (hk : checkF l = 0) :
  Calls Tryz.prog 11 #[v] w fun e w' => ∃ A c L vs, e = .returned (.tuple #[.slice A L.length c, .int .i64 0]) ∧ Outl (setR l) L ∧ w'.ownsRow w.heap.size 36 1 (.slice A L.length c) L.length vs ∧ (∀ (i : Nat) (x : List Pt), L[i]? = some x → ∃ u, vs[i]? = some u ∧ w'.ownsRow w.heap.size 53 2 u x.length (x.flatMap encS)) ∧ Below w.heap.size w w' := by
 have HC := hide (check_any hr (by omega))
 rw [hk] at HC
 have hcan := check_rcan hk
 have hval := (checkF_ok hk).2.1
 have HV : Hid (∀ t ∈ l, validS (t.y0, t.y1)) := hide (fun t ht => by have := hval t ht; unfold valid4 fineP at this; unfold validS; simp only; omega)
 have hbd : bdC (setR l) 1000000 := setR_bd fun t ht => by have := hval t ht; unfold valid4 fineP at this; omega
 have HCAN := hide hcan
 have HBD := hide hbd
 have HRD := hide hr
 obtain ⟨A, c, rfl, _⟩ := hr
 have hz : ((0 : Int) != 0) = false := rfl
 refine (callsIn_wide (n := 0)).1 ?_
 refine callsIn_of_wp_marks Tryz.func11 rfl trivial ?_
 simp only [Tryz.ntmps11, List.size_toArray, List.length_cons, List.length_nil, Nat.reduceAdd, Nat.reduceSub, Array.replicate_succ, Array.replicate_zero, List.push_toArray, List.append_toArray, List.nil_append, List.cons_append]
 refine wpIn_wide.2 ?_
 clear hcan hval hbd hk
 go_wp2_with (fail)
 refine HC.out.mono ?_
 rintro e w1 ⟨rfl, hb1⟩
 have HB1 := hide hb1
 clear hb1 HC
 go_upto_region 5 with fail
 refine wp_name fun w2 hw2 => ?_
 obtain ⟨bb, hbb⟩ : ∃ y, w1.heap.size = y := ⟨_, rfl⟩
 have hb2 : Below w1.heap.size w1 w2 := by
  rw [hw2]
  repeat (first | with_reducible exact Below.refl _ _ | with_reducible refine Below.alloc ?_ (by first | omega | (simp; omega) | simp) _)
 have x0 : w2.cell? ⟨bb, 0, none⟩ = some (.slice none 0 0) := by rw [hw2, ← hbb]; simp [go_sem]
 have xf : w2.frozen? ⟨bb, 0, none⟩ = false := by rw [hw2, ← hbb]; simp [go_sem]
 have HB2 := hide (HB1.out.trans (hb2.mono HB1.out.size))
 have hwb : w.heap.size ≤ bb := by rw [← hbb]; exact HB1.out.size
 have hLOW : Below bb w1 w2 := by rw [← hbb]; exact hb2
 rw [hbb]
 clear hw2 hb2 hbb
 have hb2s : bb < w2.heap.size := lt_of_cell x0
 have HEDG := hide (edges_any ((HRD.out.below HB2.out).mono HB2.out.size) (by omega) HCAN.out HV.out)
 go_wp2_with (fail)
 go_at_call 35
 refine HEDG.out.mono ?_
 rintro e w3 ⟨ve, rfl, ho3, hb3⟩
 have HEO := hide (edges_of HCAN.out)
 have HEK : Hid (∀ e ∈ edgesF l, okE e) := hide (edges_ok HCAN.out HBD.out)
 have HEL : Hid ((edgesF l).length ≤ 100000) := hide (edges_len HCAN.out HV.out hl)
 obtain ⟨E, hE⟩ : ∃ y, edgesF l = y := ⟨_, rfl⟩
 have HEQ := hide hE
 rw [hE] at ho3 HEO HEK HEL
 clear hE
 have HO3 := hide ho3
 have hvb : ∀ b o k c, ve = .slice (some ⟨b, o, none⟩) k c → b ≠ bb := fun b o k c hh => by
  have := (ho3.lt b (by rw [hh]; rfl)).1
  omega
 have HVB := hide hvb
 have HR3 := hide (own_rd (l := E) ho3 (fun _ => rfl))
 have x03 := (hb3.cell (p := ⟨bb, 0, none⟩) hb2s).trans x0
 have xf3 := (hb3.frozen (p := ⟨bb, 0, none⟩) hb2s).trans xf
 have HLOW := hide (hLOW.trans (hb3.mono (Nat.le_of_lt hb2s)))
 have hb3s : bb < w3.heap.size := Nat.lt_of_lt_of_le hb2s hb3.size
 have HLP := hide (loops_any HR3.out HEL.out HEK.out)
 clear ho3 hvb hb3 x0 xf hLOW HEDG hb2s
 go_wp2_with (fail)
 go_at_call 34
 refine HLP.out.mono ?_
 rintro r wS ⟨bf, rfl, hLS, hcf, hbf⟩
 have hn5 := hLS.sz
 have hws3 := hLS.low.size
 have hit := loops2_it HEO.out HBD.out HEK.out HEL.out hLS hcf (HR3.out.below hLS.low) HVB.out hb3s (by omega) (by omega)
 have hLVS : LVo bb wS.heap.size w1 [] wS := ⟨by omega, Nat.le_refl _, ⟨_, [], (hLS.low.cell (p := ⟨bb, 0, none⟩) hb3s).trans x03, World.ownsRow_nil _ _ _ _, fun i r hr => by simp at hr⟩, (hLS.low.frozen (p := ⟨bb, 0, none⟩) hb3s).trans xf3, HLOW.out.trans (hLS.low.mono (Nat.le_of_lt hb3s))⟩
 have HLVS := hide hLVS
 have HIT := hide hit
 clear hLS hcf hit hLVS x03 xf3 HLP
 obtain ⟨i1, gi, gz0, gz1, gz2⟩ := info_parts infoLp
 obtain ⟨T, hT⟩ : ∃ y, trL (setR l) E E.length = y := ⟨_, rfl⟩
 have HTR := hide hT
 rw [hT] at HIT
 clear hT
 go_wp2_with (fail)
 refine (wpIn_wide (n := 0)).1 ?_
 refine wp_rangeM rfl (enters_of Tryz.func61 (by kernel_rfl) rfl) HIT.out (by omega) (Below.refl _ _) (fun x args A hx => by obtain ⟨_, _, _, rfl, _⟩ := hx; rfl) KpL.trans ?_
  (fun pre W => ∃ L, LVo bb wS.heap.size w1 L W ∧ TurnP pre L ∧ ∀ l ∈ L, l.length ≤ 100000) (fun _ _ => False) (fun pre A B hI hg => by obtain ⟨L, hL, hP⟩ := hI; exact ⟨L, hL.grownM (m := w3.heap.size + 3) (by omega) (by omega) hg, hP⟩) (fun pre A l o o' hI hw hl ho ho' => by obtain ⟨L, hL, hP⟩ := hI; exact ⟨L, hL.putObj hw hl ho ho', hP⟩) (fun _ _ _ _ _ h => h.elim) ⟨[], HLVS.out, TurnP.nil, by simp⟩ ?_ ?_ (fun _ _ _ _ h => h.elim)
 ·intro A l o o' hw h1 h2 h3
  exact ⟨by simp, fun b hb _ => World.putObj_heap_other (by omega)⟩
 ·rintro l2 pre x args A ⟨L, hLV, hTP, hLL⟩ ⟨post, hpost⟩ ⟨Ax, cx, Bx, rfl, hox, hx0, hxl⟩ hl1 ⟨ol, hl2, hl3⟩
  have HLV := hide hLV
  have HTP := hide hTP
  have HLL := hide hLL
  have HOX := hide hox
  have HL2 := hide hl2
  have HPO := hide hpost
  clear hLV hTP hox hl2 hpost hLL
  gi_wp2
  refine ⟨KeepsFrom.of_below' (Below.refl _ _), ⟨Nat.le_refl _, fun _ _ _ => rfl⟩, ?_⟩
  intro A3 g2 s2 e2 f2
  have HLV3 := hide (HLV.out.grown (by omega) g2 HL2.out hl3)
  have HOX3 := hide (own_grown_objO HOX.out g2 HL2.out hl3)
  clear g2 s2 e2 f2 HLV HOX
  obtain ⟨vo, vs, o1, o2, o3⟩ := HLV3.out.out
  have HO1 := hide o1
  have HO2 := hide o2
  have HO3 := hide o3
  have HPL : Hid (L.length ≤ 100000) := hide (by
   have h5 := HTP.out.1
   have h6 : pre.length ≤ T.length := by rw [HPO.out]; simp
   have h7 : T.length ≤ E.length := by rw [← HTR.out]; exact trL_len _ _
   have := HEL.out
   omega)
  have HX0 := hide hx0
  clear o1 o2 o3 hx0
  gi_upto_region 7 with fail
  refine wpIn_region_mix_round [0, 1] [2, 3, 4, 5] (fun w' => w'.cell? ⟨bb, 0, none⟩ = some vo) (by kernel_rfl) (by kernel_rfl) (by kernel_rfl) (fun _ _ h => h) HO1.out ?_
  simp only [List.map_cons, List.map_nil, opAt, List.getElem?_cons_succ, List.getElem?_cons_zero, Option.getD_some]
  have hbk : Below A3.heap.size A3 A3.drew := (Below.refl _ _).drew
  have HLVk := hide (HLV3.out.below hbk)
  have HOXk := hide (own_below HOX3.out hbk)
  have HOk := hide (And.intro ((hbk.cell (p := ⟨bb, 0, none⟩) (lt_of_cell HO1.out)).trans HO1.out) (And.intro (own_below HO2.out hbk) (fun i r hr => by obtain ⟨u, q1, q2⟩ := HO3.out i r hr; exact (⟨u, q1, own_below q2 hbk⟩ : ∃ u, vs[i]? = some u ∧ A3.drew.ownsRow wS.heap.size 53 2 u r.length (r.flatMap encS)))))
  have HKF : Hid (KeepsFrom wS.heap.size A3 A3.drew ∧ KpL bb wS.heap.size A3 A3.drew) := hide ⟨KeepsFrom.of_below' hbk, hbk.size, fun b hb _ => hbk.block b (Nat.lt_of_lt_of_le hb HLV3.out.size)⟩
  clear hbk HO1 HO2 HO3
  generalize A3.drew = wk at *
  iterate 2
   refine ⟨?_, Or.inl ⟨by rfl, ?_⟩, ?_⟩
   rotate_left 1
   ·intro w' hSw
    go_simp
    first | done | with_reducible rfl
   simp only [Act.put, List.setIfInBounds_toArray, List.set_cons_zero, List.set_cons_succ]
  simp only [wpReads]
  have HTU := hide (turned_any HOXk.out HX0.out (by omega))
  intro K hK
  simp only [Act.put, List.setIfInBounds_toArray, List.set_cons_zero, List.set_cons_succ] at hK ⊢
  go_simp
  refine HTU.out.mono ?_
  rintro e w4 ⟨vt, it, rfl, hfm, ho4, hb4⟩
  have HXT : Hid ((x.drop it ++ x.take it).length = x.length) := hide (by
   have := hfm.1
   rw [List.length_append, List.length_drop, List.length_take]
   omega)
  have HFM : Hid (isTurned x (x.drop it ++ x.take it)) := hide ⟨it, hfm, rfl⟩
  have HO4 : Hid (w4.ownsRow wS.heap.size 53 2 vt (x.drop it ++ x.take it).length ((x.drop it ++ x.take it).flatMap encS)) := hide (by
   have h5 := own_base ho4 HLVk.out.size
   have h6 : (x.drop it ++ x.take it).length = x.length := by
    have := hfm.1
    rw [List.length_append, List.length_drop, List.length_take]
    omega
   rw [h6]
   exact h5)
  have HLV4 := hide (HLVk.out.below hb4)
  have HQ4 := hide (And.intro ((hb4.cell (p := ⟨bb, 0, none⟩) (lt_of_cell HOk.out.1)).trans HOk.out.1) (And.intro (own_below HOk.out.2.1 hb4) (fun i r hr => by obtain ⟨u, q1, q2⟩ := HOk.out.2.2 i r hr; exact (⟨u, q1, own_below q2 hb4⟩ : ∃ u, vs[i]? = some u ∧ w4.ownsRow wS.heap.size 53 2 u r.length (r.flatMap encS)))))
  have HK4 : Hid (KeepsFrom wS.heap.size A3 w4 ∧ KpL bb wS.heap.size A3 w4) := hide ⟨HKF.out.1.trans (KeepsFrom.of_below' hb4), HKF.out.2.trans ⟨hb4.size, fun b hb _ => hb4.block b (Nat.lt_of_lt_of_le hb HLVk.out.size)⟩⟩
  obtain ⟨Av, cv, rfl⟩ := own_form ho4
  refine hK _ _ (fun _ => HQ4.out.1) ?_
  clear hK K hfm ho4 hb4 HTU HLVk HOXk HOk HKF
  obtain ⟨Ao, co, rfl⟩ := own_form HQ4.out.2.1
  intro K hK
  simp only [Act.put, List.setIfInBounds_toArray, List.set_cons_zero, List.set_cons_succ] at hK ⊢
  go_simp
  refine hK _ _ (fun _ => (World.cell?_alloc_lt w4 _ ⟨bb, 0, none⟩ (lt_of_cell HQ4.out.1)).trans HQ4.out.1) ?_
  clear hK K
  have hL1 := HPL.out
  have hs4 := HLV4.out.size
  have ha : Below w4.heap.size w4 (w4.alloc (.cells #[.slice Av x.length cv] 36)) := (Below.refl _ _).alloc (Nat.le_refl _) _
  intro K hK
  simp only [Act.put, List.setIfInBounds_toArray, List.set_cons_zero, List.set_cons_succ] at hK ⊢
  refine wp_append_lies _ (.tmp 16) (.tmp 19) 25 rfl wS.heap.size 36 i1 (.slice none 0 0) 1 24 Tryz.underlying25 gi gz0 gz1 gz2 rfl (by decide) (.slice Ao L.length co) L.length vs rfl (own_below HQ4.out.2.1 ha) ⟨w4.heap.size, 0, none⟩ 1 1 [.slice Av x.length cv] rfl rfl (news_new w4 _ _ _ rfl) (fun u hu => by rw [List.mem_singleton.1 hu]; rfl) (by omega) (by unfold maxLen; omega) (by omega) (by simp; omega) _ rfl ?_
  intro g9 cap9 w9 hown9 hgrow9 _ _
  obtain ⟨k0, kf, HP⟩ := HLV4.out.push (r := x.drop it ++ x.take it) HQ4.out.1 HQ4.out.2.1 HQ4.out.2.2 HO4.out ha hgrow9 hown9
  refine hK _ _ (fun _ => k0) ?_
  clear hK K hgrow9 hown9
  intro K hK
  simp only [Act.put, List.setIfInBounds_toArray, List.set_cons_zero, List.set_cons_succ] at hK ⊢
  go_simp
  refine hK _ _ (fun h => absurd rfl h) ?_
  clear hK K
  refine NoPanic.normal ?_
  gi_wp2
  exact ⟨HK4.out.1.trans (HP.out.2.1.from _), HK4.out.2.trans HP.out.2.2, L ++ [x.drop it ++ x.take it], HP.out.1, HTP.out.snoc HFM.out, fun y hy => by
   rcases List.mem_append.1 hy with h5 | h5
   ·exact HLL.out y h5
   ·rw [List.mem_singleton.1 h5, HXT.out]; exact hxl⟩
 ·rintro D W hD ⟨L, hLV, hTP, hLL⟩ hK
  obtain ⟨vo, vs, o1, o2, o3⟩ := hLV.out
  have hsW := hLV.size
  have HK := hide hK
  have HTP := hide hTP
  have HLV := hide hLV
  have HPL : Hid (L.length ≤ 100000) := hide (by
   have h5 := hTP.1
   have h7 : T.length ≤ E.length := by rw [← HTR.out]; exact trL_len _ _
   have := HEL.out
   omega)
  have HLN : Hid (∀ l ∈ L, l.length ≤ 100000000) := hide (fun x hx => by have := hLL x hx; omega)
  have HSO := hide (sortLp_any wS.heap.size vo L vs W o2 o3 HLN.out (by have := HPL.out; omega))
  clear hK hTP hLV o2 o3
  simp only [Exit.inBlock, Exit.then]
  go_wp2_with (fail)
  go_at_call 37
  refine HSO.out.mono ?_
  rintro e w5 ⟨rfl, K, vs5, hp5, hs5, ho5, hr5, hg5⟩
  have hkl : K.length = L.length := hp5.length_eq
  have HOL : Hid (Outl (setR l) K) := hide (loops_outl HCAN.out HBD.out (by rw [HEQ.out, HTR.out]; exact HTP.out) hp5 hs5)
  have hb5 : Below wS.heap.size W w5 := (Below.refl _ _).grown hg5 hsW (fun q hq => by
   obtain ⟨vo', vs', q1, q2, _⟩ := HLV.out.out
   rw [o1] at q1
   injection q1 with q1
   subst q1
   exact (q2.lt q hq).1)
  have o5 := (hb5.cell (p := ⟨bb, 0, none⟩) (by show bb < wS.heap.size; omega)).trans o1
  have HK5 : Hid (w5.heap[D]? = some (.deferred (some []))) := hide (by
   have hne : some D ≠ vo.ownBlock := fun h5 => by
    obtain ⟨vo', vs', q1, q2, _⟩ := HLV.out.out
    rw [o1] at q1
    injection q1 with q1
    subst q1
    have := own_cells q2 D _ h5.symm HK.out
    cases this
   exact (hg5.block D (Array.getElem?_eq_some_iff.1 HK.out).1 hne).trans HK.out)
  have HB5 := hide (HLV.out.low.trans (hb5.mono (by omega)))
  have HO5 := hide ho5
  have HR5 := hide hr5
  have HBW := hide HB1
  obtain ⟨Ao, co, rfl⟩ := own_form ho5
  clear hp5 hs5 ho5 hr5 hg5 hb5 HSO o1
  go_wp2_with (fail)
  refine ⟨by simp, .inl ⟨_, _, rfl, run_takeDeferred HK5.out, ?_⟩⟩
  have hn1 := own_base (base := w.heap.size) (B := wS.heap.size) (own_putObj HO5.out HK5.out rfl (o' := .deferred none) ) (by omega)
  refine ⟨_, results_tmp2 rfl _ _ _, Ao, co, K, vs5, by rw [hkl]; rfl, HOL.out, hn1, fun i x hx => ?_, below_putObj (HBW.out.trans (HB5.out.mono hwb)) (show w.heap.size ≤ D by omega) _⟩
  obtain ⟨u, q1, q2⟩ := HR5.out i x hx
  exact ⟨u, q1, own_base (own_putObj q2 HK5.out rfl) (by omega)⟩
end Go.Proofs.YtdfpbhlnlkjjlaaGreat

/- Outlines: Euler. -/
namespace Go.Proofs.YtdfpbhlnlkjjlaaGreat
open Go.RowKit
set_option linter.unusedVariables false
set_option linter.unusedSimpArgs false
attribute [local go_sem] Oper.semAt_some
theorem RdPs.of_own {w : World} {B : Nat} {A : Option Addr} {c : Nat} {L : List (List Pt)} {vs : List Value} (h : w.ownsRow B 36 1 (.slice A L.length c) L.length vs) (hr : ∀ (i : Nat) (x : List Pt), L[i]? = some x → ∃ u, vs[i]? = some u ∧ w.ownsRow B 53 2 u x.length (x.flatMap encS)) : RdPs w w.heap.size (.slice A L.length c) L := by
 refine ⟨A, c, rfl, fun hl => ?_⟩
 have hlen : 0 < L.length := List.length_pos_iff.2 hl
 rcases h.2 with ⟨hv, h0⟩ | ⟨g, cap, cur, hv, hb, hg, hnc, hcm, hcs, ht⟩
 ·omega
 ·injection hv with e1 e2 e3
  refine ⟨g, 0, e1, (Array.getElem?_eq_some_iff.1 hg).1, fun j r hj => ?_⟩
  obtain ⟨u, hu, hru⟩ := hr j r hj
  refine ⟨u, ?_, own_rd (l := r) hru (fun _ => rfl)⟩
  have := (h.cells (g := g) (by rw [e1]; rfl)) j u hu
  rw [addr_add] at this
  simpa using this
def posL (l : List Pt) : Bool := decide (0 < turnS l l.length)
set_option maxRecDepth 100000 in
set_option maxHeartbeats 16000000 in
theorem euler_any {w : World} {v : Value} {l : List R4} (hr : RdK encR 4 w w.heap.size v l) (hl : l.length ≤ 60) (hk : checkF l = 0) :
    Calls Tryz.prog 12 #[v] w fun e w' => (∃ L, Outl (setR l) L ∧ e = .returned (.tuple #[.int .i64 ((L.filter posL).length : Nat), .int .i64 ((L.length - (L.filter posL).length : Nat)), .int .i64 0])) ∧ Below w.heap.size w w' := by
  have HC := hide (of_any hr hl hk)
  have HCH := hide (fun L (hL : Outl (setR l) L) => hL.chk (check_rcan hk) (by omega) (fun t ht => by have := (checkF_ok hk).2.1 t ht; unfold valid4 fineP at this; omega))
  have HCN := hide (fun L (hL : Outl (setR l) L) => (hL.count (by exact check_rcan hk)).2)
  have HL60 := hide hl
  obtain ⟨A, c, rfl, _⟩ := hr
  clear hk hl
  rename_i hrr
  clear hrr
  obtain ⟨R, hR⟩ : ∃ R, l = R := ⟨_, rfl⟩
  rw [hR] at HC HCH HCN HL60 ⊢
  clear hR l
  go_enter Tryz.func12, Tryz.ntmps12
  go_wp2_with (fail)
  refine HC.out.mono ?_
  rintro e w1 ⟨A1, c1, L, vs1, rfl, hout, hown, hrows, hb1⟩
  have HOUT := hide hout
  have HPS := hide (RdPs.of_own hown hrows)
  have HB1 := hide hb1
  have HCK : Hid (∀ r ∈ L, chkO r = 0) := hide (HCH.out L hout)
  have HLN : Hid (L.length ≤ 60) := hide (by have := HCN.out L hout; have := HL60.out; omega)
  clear hout hown hrows hb1 HC HCH HCN HL60
  go_upto_region 5 with fail
  go_loopw [2, 3, 25] (fun p q i wr => ∃ k : Nat, k ≤ L.length ∧ i = .int .i64 (k : Int) ∧ p = .int .i64 (((L.take k).filter posL).length : Nat) ∧ q = .int .i64 ((k - ((L.take k).filter posL).length : Nat)) ∧ Hid (Below w1.heap.size w1 wr)) (fun _ _ i _ => L.length - (intOf i).toNat)
  case atStart => exact ⟨0, Nat.zero_le _, rfl, rfl, rfl, hide (Below.refl _ _)⟩
  case round =>
    obtain ⟨k9, hk9, rfl, rfl, rfl, HBB⟩ := hrel
    have HFL : Hid (((L.take k9).filter posL).length ≤ k9) := hide (by have := List.length_filter_le posL (L.take k9); rw [List.length_take] at this; omega)
    by_cases hlt9 : k9 < L.length
    · obtain ⟨l, hl9⟩ : ∃ r, L[k9]? = some r := ⟨_, List.getElem?_eq_getElem hlt9⟩
      have HOK : Hid (chkO l = 0) := hide (HCK.out l (List.mem_of_getElem? hl9))
      have HL := hide (chkO_ok HOK.out).1
      have hl2k : l.length ≤ 100000000 := by have := HL.out; omega
      have HNP : Hid (((L.take (k9 + 1)).filter posL).length = ((L.take k9).filter posL).length + (if posL l then 1 else 0)) := hide (by
        rw [List.take_add_one, hl9, Option.toList_some, List.filter_append, List.length_append]
        by_cases h5 : posL l = true <;> simp [h5])
      have hPSr : RdPs wr wr.heap.size (.slice A1 L.length c1) L := (HPS.out.below HBB.out).mono HBB.out.size
      obtain ⟨bL, oL, u, hA1, hbL, hcu, hru⟩ := hPSr.get hl9
      obtain ⟨Au, cu, rfl, hru'⟩ := hru
      have HRU : Hid (RdK encS 2 wr wr.heap.size (.slice Au l.length cu) l) := hide ⟨Au, cu, rfl, hru'⟩
      have hkz : (k9 : Int) < (L.length : Int) := by omega
      have hk0 : (0 : Int) ≤ (k9 : Int) := by omega
      have hLN := HLN.out
      obtain ⟨b, o, hAu, hb, hcell⟩ := rd_two HRU.out (show 0 < l.length by have := HL.out; omega)
      have HCL := hide hcell
      generalize ((L.take k9).filter posL).length = FC at *
      subst hA1 hAu
      clear hcell hPSr hru' HRU
      go_upto_region 9 with fail
      clear hcu hbL hkz hk0
      obtain ⟨w, hw⟩ : ∃ y, y = wr := ⟨_, rfl⟩
      subst hw
      have HB0 : Hid (Below w.heap.size w w) := hide (Below.refl _ _)
      go_loopw [8, 31] (fun s i wr => ∃ m : Nat, m ≤ l.length ∧ i = .int .i64 (m : Int) ∧ s = .int .i64 (turnS l m) ∧ Hid (Below w.heap.size w wr)) (fun _ i _ => l.length - (intOf i).toNat)
      case atStart => exact ⟨0, Nat.zero_le _, rfl, rfl, HB0⟩
      case round =>
        clear HB0
        obtain ⟨m, hm, rfl, rfl, HB⟩ := hrel
        have hll := HL.out
        by_cases hlt : m < l.length
        · have mz : (m : Int) < (l.length : Int) := by omega
          have m0 : (0 : Int) ≤ (m : Int) := by omega
          have d0 := (HB.out.cell (p := ⟨b, _, none⟩) hb).trans (HCL.out m hlt).1
          have d1 := (HB.out.cell (p := ⟨b, _, none⟩) hb).trans (HCL.out m hlt).2
          have hbr : b < wr.heap.size := Nat.lt_of_lt_of_le hb HB.out.size
          go_upto_region 11 with fail
          refine wp_name fun w2 hw2 => ?_
          obtain ⟨g, hg⟩ : ∃ g, wr.heap.size = g := ⟨_, rfl⟩
          have hb2 : Below wr.heap.size wr w2 := by rw [hw2]; exact (Below.refl _ _).alloc (Nat.le_refl _) _
          have HP2 : Hid (Bx2 w2 g (pAt l m).1 (pAt l m).2) := hide ⟨by rw [hw2, ← hg]; simp, by rw [hw2, ← hg]; simp [go_sem], by rw [hw2, ← hg]; simp [go_sem]⟩
          have HB2 := hide (HB.out.trans (hb2.mono HB.out.size))
          rw [hg]
          clear hw2 hb2 d0 d1 hbr HB hg
          obtain ⟨j, hj⟩ : ∃ j, (m + 1) % l.length = j := ⟨_, rfl⟩
          have hjl : j < l.length := by rw [← hj]; exact Nat.mod_lt _ (by omega)
          have hmod : ((m : Int) + 1) % (l.length : Int) = (j : Int) := by rw [← hj]; simp
          have HQ : Hid (qAt l m = pAt l j) := hide (by unfold qAt; rw [hj])
          obtain ⟨k, hk⟩ : ∃ j, (m + 2) % l.length = j := ⟨_, rfl⟩
          have hkl : k < l.length := by rw [← hk]; exact Nat.mod_lt _ (by omega)
          have hmod2 : ((m : Int) + 2) % (l.length : Int) = (k : Int) := by rw [← hk]; simp
          have HR : Hid (rAt l m = pAt l k) := hide (by unfold rAt; rw [hk])
          have e0 := (HB2.out.cell (p := ⟨b, _, none⟩) hb).trans (HCL.out j hjl).1
          have e1 := (HB2.out.cell (p := ⟨b, _, none⟩) hb).trans (HCL.out j hjl).2
          have f0 := (HB2.out.cell (p := ⟨b, _, none⟩) hb).trans (HCL.out k hkl).1
          have f1 := (HB2.out.cell (p := ⟨b, _, none⟩) hb).trans (HCL.out k hkl).2
          have hbr : b < w2.heap.size := Nat.lt_of_lt_of_le hb HB2.out.size
          have HWQ := hide (wayF_bd (pAt l m) (pAt l j) (pAt l k))
          have HNX : Hid (turnS l (m + 1) = turnS l m + crs (wayF (pAt l m, pAt l j)) (wayF (pAt l j, pAt l k))) := hide (by rw [← HQ.out, ← HR.out]; rfl)
          have HSB : Hid (-4000 ≤ turnS l m ∧ turnS l m ≤ 4000) := hide (by have := turnS_bd l m; omega)
          have HWB := HWQ
          have w1' : IntKind.i64.wrap ((m : Int) + 1) = (m : Int) + 1 := IntWalk.i64_in _ (by omega)
          have w2' : IntKind.i64.wrap ((m : Int) + 2) = (m : Int) + 2 := IntWalk.i64_in _ (by omega)
          have jz : (j : Int) < (l.length : Int) := by omega
          have j0 : (0 : Int) ≤ (j : Int) := by omega
          have kz : (k : Int) < (l.length : Int) := by omega
          have k0 : (0 : Int) ≤ (k : Int) := by omega
          have l0 : ¬ (l.length : Int) = 0 := by omega
          have lnil : ¬ l = [] := fun e => by rw [e] at hlt; simp at hlt
          have tm1 : ((m : Int) + 1).tmod (l.length : Int) = (j : Int) := by have h9 := tmod_nat (m + 1) l.length; rw [hj] at h9; exact h9
          have tm2 : ((m : Int) + 2).tmod (l.length : Int) = (k : Int) := by have h9 := tmod_nat (m + 2) l.length; rw [hk] at h9; exact h9
          have HCE := hide (And.intro (And.intro e0 e1) (And.intro (And.intro f0 f1) hbr))
          clear hj hk hll hlt e0 e1 f0 f1 hbr HQ HR HWQ
          generalize pAt l m = P9 at *
          generalize pAt l j = Q9 at *
          generalize pAt l k = R9 at *
          generalize turnS l m = SM at *
          apply wp_join (R := fun gq gr w' => Below w2.heap.size w2 w' ∧ Bx2 w' gq Q9.1 Q9.2 ∧ Bx2 w' gr R9.1 R9.2)
          · have HBK : Hid (Below w2.heap.size w2 w2.drew) := hide (Below.refl _ _).drew
            refine wp_region_ords [0, 1, 2, 3, 4, 5, 6, 7, 8, 9, 10, 11, 12, 13, 14, 15] 4 (.two 16 (.one 17 (.one 18 (.one 19 .done))) 17 (.one 16 (.one 18 (.one 19 .done)))) (fun w' => Below w2.heap.size w2 w') (by kernel_rfl) (by kernel_rfl) HBK.out ?_
            simp only [List.map_cons, List.map_nil, opAt, List.getElem?_cons_succ, List.getElem?_cons_zero, Option.getD_some]
            generalize w2.drew = wk at *
            iterate 16
              refine ⟨?_, Or.inl ⟨by rfl, ?_⟩, ?_⟩
              rotate_left 1
              · intro w' hSw
                obtain ⟨⟨e0, e1⟩, ⟨f0, f1⟩, q1⟩ := HCE.out
                replace e0 := (hSw.cell (p := ⟨b, _, none⟩) q1).trans e0
                replace e1 := (hSw.cell (p := ⟨b, _, none⟩) q1).trans e1
                replace f0 := (hSw.cell (p := ⟨b, _, none⟩) q1).trans f0
                replace f1 := (hSw.cell (p := ⟨b, _, none⟩) q1).trans f1
                have hq1 : b < w'.heap.size := Nat.lt_of_lt_of_le q1 hSw.size
                clear hSw q1
                go_simp
                first | done | with_reducible rfl
              simp only [Act.put, List.setIfInBounds_toArray, List.set_cons_zero, List.set_cons_succ]
            simp only [wpReads, wpOrds, wpOne, opAt, List.getElem?_cons_succ, List.getElem?_cons_zero, Option.getD_some]
            refine ⟨?_, ?_⟩
            · intro K0 hK
              simp only [Act.put, List.setIfInBounds_toArray, List.set_cons_zero, List.set_cons_succ] at hK ⊢
              go_simp
              refine hK _ _ ⟨(by repeat (first | with_reducible exact HBK.out | with_reducible refine Below.setCell ?_ (by first | exact HBK.out.size | (simp; done) | (have := HBK.out.size; simp; omega)) _ | with_reducible refine Below.alloc ?_ (by first | exact HBK.out.size | omega | (simp; done) | (have := HBK.out.size; simp; omega)) _)), ?_⟩
              clear hK K0
              intro K0 hK
              simp only [Act.put, List.setIfInBounds_toArray, List.set_cons_zero, List.set_cons_succ] at hK ⊢
              go_simp
              refine hK _ _ ⟨fun _ => (by repeat (first | with_reducible exact HBK.out | with_reducible refine Below.setCell ?_ (by first | exact HBK.out.size | (simp; done) | (have := HBK.out.size; simp; omega)) _ | with_reducible refine Below.alloc ?_ (by first | exact HBK.out.size | omega | (simp; done) | (have := HBK.out.size; simp; omega)) _)), ?_⟩
              clear hK K0
              intro K0 hK
              simp only [Act.put, List.setIfInBounds_toArray, List.set_cons_zero, List.set_cons_succ] at hK ⊢
              go_simp
              refine hK _ _ ⟨fun _ => (by repeat (first | with_reducible exact HBK.out | with_reducible refine Below.setCell ?_ (by first | exact HBK.out.size | (simp; done) | (have := HBK.out.size; simp; omega)) _ | with_reducible refine Below.alloc ?_ (by first | exact HBK.out.size | omega | (simp; done) | (have := HBK.out.size; simp; omega)) _)), ?_⟩
              clear hK K0
              intro K0 hK
              simp only [Act.put, List.setIfInBounds_toArray, List.set_cons_zero, List.set_cons_succ] at hK ⊢
              go_simp
              refine hK _ _ ⟨fun h => absurd h (by decide), ?_⟩
              clear hK K0
              refine NoPanic.normal ?_
              refine ⟨wk.heap.size, wk.heap.size + 1, rfl, ?_, (by repeat (first | with_reducible exact HBK.out | with_reducible refine Below.setCell ?_ (by first | exact HBK.out.size | (simp; done) | (have := HBK.out.size; simp; omega)) _ | with_reducible refine Below.alloc ?_ (by first | exact HBK.out.size | omega | (simp; done) | (have := HBK.out.size; simp; omega)) _)), ⟨by first | (simp; done) | (simp; omega), by simp [go_sem], by simp [go_sem]⟩, ⟨by first | (simp; done) | (simp; omega), by simp [go_sem], by simp [go_sem]⟩⟩
              generalize wk.heap.size + 1 = ga
              generalize wk.heap.size = gb
              rfl
            · intro K0 hK
              simp only [Act.put, List.setIfInBounds_toArray, List.set_cons_zero, List.set_cons_succ] at hK ⊢
              go_simp
              refine hK _ _ ⟨(by repeat (first | with_reducible exact HBK.out | with_reducible refine Below.setCell ?_ (by first | exact HBK.out.size | (simp; done) | (have := HBK.out.size; simp; omega)) _ | with_reducible refine Below.alloc ?_ (by first | exact HBK.out.size | omega | (simp; done) | (have := HBK.out.size; simp; omega)) _)), ?_⟩
              clear hK K0
              intro K0 hK
              simp only [Act.put, List.setIfInBounds_toArray, List.set_cons_zero, List.set_cons_succ] at hK ⊢
              go_simp
              refine hK _ _ ⟨fun _ => (by repeat (first | with_reducible exact HBK.out | with_reducible refine Below.setCell ?_ (by first | exact HBK.out.size | (simp; done) | (have := HBK.out.size; simp; omega)) _ | with_reducible refine Below.alloc ?_ (by first | exact HBK.out.size | omega | (simp; done) | (have := HBK.out.size; simp; omega)) _)), ?_⟩
              clear hK K0
              intro K0 hK
              simp only [Act.put, List.setIfInBounds_toArray, List.set_cons_zero, List.set_cons_succ] at hK ⊢
              go_simp
              refine hK _ _ ⟨fun _ => (by repeat (first | with_reducible exact HBK.out | with_reducible refine Below.setCell ?_ (by first | exact HBK.out.size | (simp; done) | (have := HBK.out.size; simp; omega)) _ | with_reducible refine Below.alloc ?_ (by first | exact HBK.out.size | omega | (simp; done) | (have := HBK.out.size; simp; omega)) _)), ?_⟩
              clear hK K0
              intro K0 hK
              simp only [Act.put, List.setIfInBounds_toArray, List.set_cons_zero, List.set_cons_succ] at hK ⊢
              go_simp
              refine hK _ _ ⟨fun h => absurd h (by decide), ?_⟩
              clear hK K0
              refine NoPanic.normal ?_
              refine ⟨wk.heap.size + 1, wk.heap.size, rfl, ?_, (by repeat (first | with_reducible exact HBK.out | with_reducible refine Below.setCell ?_ (by first | exact HBK.out.size | (simp; done) | (have := HBK.out.size; simp; omega)) _ | with_reducible refine Below.alloc ?_ (by first | exact HBK.out.size | omega | (simp; done) | (have := HBK.out.size; simp; omega)) _)), ⟨by first | (simp; done) | (simp; omega), by simp [go_sem], by simp [go_sem]⟩, ⟨by first | (simp; done) | (simp; omega), by simp [go_sem], by simp [go_sem]⟩⟩
              generalize wk.heap.size + 1 = ga
              generalize wk.heap.size = gb
              rfl
          intro gq gr w3 hR3
          obtain ⟨hb32, hq9, hr9⟩ := hR3
          have HB32 := hide hb32
          have HQ9 := hide hq9
          have HR9 := hide hr9
          have HP9 := hide (HP2.out.below HB32.out)
          have HB3 := hide (HB2.out.trans (HB32.out.mono HB2.out.size))
          clear hb32 hq9 hr9 HB32 HCE HP2 HB2 w1' w2' hmod hmod2 jz j0 kz k0 l0 lnil tm1 tm2
          go_upto_region 12 with fail
          apply wp_join (R := fun g1 g2 w' => Below w3.heap.size w3 w' ∧ Bx2 w' g1 (wayF (P9, Q9)).1 (wayF (P9, Q9)).2 ∧ Bx2 w' g2 (wayF (Q9, R9)).1 (wayF (Q9, R9)).2)
          · have HBC : Hid (Below w3.heap.size w3 w3.drew) := hide (Below.refl _ _).drew
            refine wp_region_ordN [0, 1, 2, 4, 5, 6] 6 (.cons 3 (.cons 7 (.cons 8 (.cons 9 (.cons 10 (.cons 11 .nil .nil) .nil) .nil) (.cons 9 (.cons 8 (.cons 10 (.cons 11 .nil .nil) .nil) .nil) .nil)) (.cons 8 (.cons 7 (.cons 9 (.cons 10 (.cons 11 .nil .nil) .nil) .nil) (.cons 9 (.cons 7 (.cons 10 (.cons 11 .nil .nil) .nil) .nil) .nil)) (.cons 9 (.cons 7 (.cons 8 (.cons 10 (.cons 11 .nil .nil) .nil) .nil) (.cons 8 (.cons 7 (.cons 10 (.cons 11 .nil .nil) .nil) .nil) .nil)) .nil))) (.cons 8 (.cons 3 (.cons 7 (.cons 9 (.cons 10 (.cons 11 .nil .nil) .nil) .nil) (.cons 9 (.cons 7 (.cons 10 (.cons 11 .nil .nil) .nil) .nil) .nil)) (.cons 9 (.cons 3 (.cons 7 (.cons 10 (.cons 11 .nil .nil) .nil) .nil) .nil) .nil)) (.cons 9 (.cons 3 (.cons 7 (.cons 8 (.cons 10 (.cons 11 .nil .nil) .nil) .nil) (.cons 8 (.cons 7 (.cons 10 (.cons 11 .nil .nil) .nil) .nil) .nil)) (.cons 8 (.cons 3 (.cons 7 (.cons 10 (.cons 11 .nil .nil) .nil) .nil) .nil) .nil)) .nil))) (fun w' => Below w3.heap.size w3 w') (by kernel_rfl) (by kernel_rfl) HBC.out ?_
            simp only [List.map_cons, List.map_nil, opAt, List.getElem?_cons_succ, List.getElem?_cons_zero, Option.getD_some]
            obtain ⟨wc, hwc⟩ : ∃ y, w3.drew = y := ⟨_, rfl⟩
            rw [hwc] at HBC ⊢
            clear hwc
            iterate 6
              refine ⟨?_, Or.inl ⟨by rfl, ?_⟩, ?_⟩
              rotate_left 1
              · intro w' hSw
                obtain ⟨hp0, hp1, hp2⟩ := HP9.out.below hSw
                obtain ⟨hq0, hq1, hq2⟩ := HQ9.out.below hSw
                obtain ⟨hr0, hr1, hr2⟩ := HR9.out.below hSw
                clear hSw
                go_simp
                first | done | with_reducible rfl
              simp only [Act.put, List.setIfInBounds_toArray, List.set_cons_zero, List.set_cons_succ]
            simp only [wpReads, wpOrdN, wpOne, opAt, List.getElem?_cons_succ, List.getElem?_cons_zero, Option.getD_some]
            have HW1 : Hid (∀ W : World, Calls Tryz.prog 41 #[.agg #[.int .i64 P9.1, .int .i64 P9.2, .int .i64 Q9.1, .int .i64 Q9.2]] W fun r w' => r = .returned (.agg #[.int .i64 (wayF (P9, Q9)).1, .int .i64 (wayF (P9, Q9)).2]) ∧ Below W.heap.size W w') := hide (fun W => way_any (P9, Q9) W)
            have HW2 : Hid (∀ W : World, Calls Tryz.prog 41 #[.agg #[.int .i64 Q9.1, .int .i64 Q9.2, .int .i64 R9.1, .int .i64 R9.2]] W fun r w' => r = .returned (.agg #[.int .i64 (wayF (Q9, R9)).1, .int .i64 (wayF (Q9, R9)).2]) ∧ Below W.heap.size W w') := hide (fun W => way_any (Q9, R9) W)
            repeat' (first
              | with_reducible exact trivial
              | with_reducible refine ⟨?_, ?_⟩
              | (with_reducible intro K0 hK
                 try obtain ⟨hz1, ⟨u1, hz2⟩, ⟨u2, hz3⟩, hz4, hz5⟩ := HZ1.out
                 try obtain ⟨hy1, ⟨x1, hy2⟩, ⟨x2, hy3⟩, hy4, hy5⟩ := HZ2.out
                 simp only [Act.put, List.setIfInBounds_toArray, List.set_cons_zero, List.set_cons_succ] at hK ⊢
                 go_simp
                 try clear hz1 hz2 hz3 hz4 hz5
                 try clear hy1 hy2 hy3 hy4 hy5
                 first
                   | (first
                        | with_reducible refine (HW1.out _).mono ?_
                        | with_reducible refine (HW2.out _).mono ?_
                        | fail
                      rintro e wn ⟨rfl, hbn⟩
                      replace HBC := hide (HBC.out.trans (hbn.mono HBC.out.size))
                      try replace HZ1 := hide (HZ1.out.below hbn)
                      try replace HZ2 := hide (HZ2.out.below hbn)
                      clear hbn
                      clear wc
                      obtain ⟨wc, hwc⟩ : ∃ y, y = wn := ⟨_, rfl⟩
                      subst hwc
                      refine hK _ _ ⟨fun _ => HBC.out, ?_⟩
                      clear hK K0)
                   | (obtain ⟨wd, hwd⟩ : ∃ y, (wc.setCell ⟨g1, 0, none⟩ (.int .i64 (wayF (P9, Q9)).1)).setCell ⟨g1, 1, none⟩ (.int .i64 (wayF (P9, Q9)).2) = y := ⟨_, rfl⟩
                      rw [hwd]
                      have HX8 : Hid (Bx2 wd g1 (wayF (P9, Q9)).1 (wayF (P9, Q9)).2) := hide (by rw [← hwd]; exact HZ1.out.set _ _)
                      replace HBC : Hid (Below w3.heap.size w3 wd) := hide (by rw [← hwd]; exact (HBC.out.setCell HG1.out _).setCell HG1.out _)
                      replace HZ2 : Hid (Bz wd g2) := hide (by rw [← hwd]; exact HZ2.out.far (Ne.symm HNE.out))
                      clear hwd HZ1 wc
                      obtain ⟨wc, hwc⟩ : ∃ y, y = wd := ⟨_, rfl⟩
                      subst hwc
                      refine hK _ _ ⟨fun _ => HBC.out, ?_⟩
                      clear hK K0)
                   | (obtain ⟨wd, hwd⟩ : ∃ y, (wc.setCell ⟨g2, 0, none⟩ (.int .i64 (wayF (P9, Q9)).1)).setCell ⟨g2, 1, none⟩ (.int .i64 (wayF (P9, Q9)).2) = y := ⟨_, rfl⟩
                      rw [hwd]
                      have HX8 : Hid (Bx2 wd g2 (wayF (P9, Q9)).1 (wayF (P9, Q9)).2) := hide (by rw [← hwd]; exact HZ2.out.set _ _)
                      replace HBC : Hid (Below w3.heap.size w3 wd) := hide (by rw [← hwd]; exact (HBC.out.setCell HG2.out _).setCell HG2.out _)
                      replace HZ1 : Hid (Bz wd g1) := hide (by rw [← hwd]; exact HZ1.out.far (HNE.out))
                      clear hwd HZ2 wc
                      obtain ⟨wc, hwc⟩ : ∃ y, y = wd := ⟨_, rfl⟩
                      subst hwc
                      refine hK _ _ ⟨fun _ => HBC.out, ?_⟩
                      clear hK K0)
                   | (obtain ⟨wd, hwd⟩ : ∃ y, (wc.setCell ⟨g1, 0, none⟩ (.int .i64 (wayF (Q9, R9)).1)).setCell ⟨g1, 1, none⟩ (.int .i64 (wayF (Q9, R9)).2) = y := ⟨_, rfl⟩
                      rw [hwd]
                      have HX9 : Hid (Bx2 wd g1 (wayF (Q9, R9)).1 (wayF (Q9, R9)).2) := hide (by rw [← hwd]; exact HZ1.out.set _ _)
                      replace HBC : Hid (Below w3.heap.size w3 wd) := hide (by rw [← hwd]; exact (HBC.out.setCell HG1.out _).setCell HG1.out _)
                      replace HX8 : Hid (Bx2 wd g2 (wayF (P9, Q9)).1 (wayF (P9, Q9)).2) := hide (by rw [← hwd]; exact HX8.out.far (Ne.symm HNE.out))
                      clear hwd HZ1
                      refine hK _ _ ⟨fun h => absurd h (by decide), ?_⟩
                      clear hK K0
                      refine NoPanic.normal ?_
                      first | exact ⟨g1, g2, rfl, rfl, HBC.out, HX8.out, HX9.out⟩ | exact ⟨g2, g1, rfl, rfl, HBC.out, HX8.out, HX9.out⟩)
                   | (obtain ⟨wd, hwd⟩ : ∃ y, (wc.setCell ⟨g2, 0, none⟩ (.int .i64 (wayF (Q9, R9)).1)).setCell ⟨g2, 1, none⟩ (.int .i64 (wayF (Q9, R9)).2) = y := ⟨_, rfl⟩
                      rw [hwd]
                      have HX9 : Hid (Bx2 wd g2 (wayF (Q9, R9)).1 (wayF (Q9, R9)).2) := hide (by rw [← hwd]; exact HZ2.out.set _ _)
                      replace HBC : Hid (Below w3.heap.size w3 wd) := hide (by rw [← hwd]; exact (HBC.out.setCell HG2.out _).setCell HG2.out _)
                      replace HX8 : Hid (Bx2 wd g1 (wayF (P9, Q9)).1 (wayF (P9, Q9)).2) := hide (by rw [← hwd]; exact HX8.out.far (HNE.out))
                      clear hwd HZ2
                      refine hK _ _ ⟨fun h => absurd h (by decide), ?_⟩
                      clear hK K0
                      refine NoPanic.normal ?_
                      first | exact ⟨g1, g2, rfl, rfl, HBC.out, HX8.out, HX9.out⟩ | exact ⟨g2, g1, rfl, rfl, HBC.out, HX8.out, HX9.out⟩)
                   | (have HZ2 : Hid (Bz (wc.alloc (.cells #[.int .i64 0, .int .i64 0] 53)) wc.heap.size) := hide (Bz.made wc)
                      have hbn : Below wc.heap.size wc (wc.alloc (.cells #[.int .i64 0, .int .i64 0] 53)) := (Below.refl _ _).alloc (Nat.le_refl _) _
                      have HG2 : Hid (w3.heap.size ≤ wc.heap.size) := hide HBC.out.size
                      have HNE : Hid (g1 ≠ wc.heap.size) := hide (Nat.ne_of_lt HZ1.out.1)
                      replace HZ1 := hide (HZ1.out.below hbn)
                      replace HBC := hide (HBC.out.trans (hbn.mono HBC.out.size))
                      obtain ⟨g2, hg2⟩ : ∃ g, wc.heap.size = g := ⟨_, rfl⟩
                      rw [hg2] at HZ2 HG2 HNE ⊢
                      clear hbn hg2
                      obtain ⟨wc, hwc⟩ : ∃ y, wc.alloc (.cells #[.int .i64 0, .int .i64 0] 53) = y := ⟨_, rfl⟩
                      rw [hwc] at HZ2 HBC HZ1 ⊢
                      clear hwc
                      refine hK _ _ ⟨fun _ => HBC.out, ?_⟩
                      clear hK K0)
                   | (have HZ1 : Hid (Bz (wc.alloc (.cells #[.int .i64 0, .int .i64 0] 53)) wc.heap.size) := hide (Bz.made wc)
                      have hbn : Below wc.heap.size wc (wc.alloc (.cells #[.int .i64 0, .int .i64 0] 53)) := (Below.refl _ _).alloc (Nat.le_refl _) _
                      have HG1 : Hid (w3.heap.size ≤ wc.heap.size) := hide HBC.out.size
                      skip
                      replace HBC := hide (HBC.out.trans (hbn.mono HBC.out.size))
                      obtain ⟨g1, hg1⟩ : ∃ g, wc.heap.size = g := ⟨_, rfl⟩
                      rw [hg1] at HZ1 HG1 ⊢
                      clear hbn hg1
                      obtain ⟨wc, hwc⟩ : ∃ y, wc.alloc (.cells #[.int .i64 0, .int .i64 0] 53) = y := ⟨_, rfl⟩
                      rw [hwc] at HZ1 HBC ⊢
                      clear hwc
                      refine hK _ _ ⟨fun _ => HBC.out, ?_⟩
                      clear hK K0)
                   | fail)
              | fail)
          intro g1 g2 w4 hR4
          obtain ⟨hb4, ⟨hx0, hx1, hx2⟩, hy0, hy1, hy2⟩ := hR4
          have HBF := hide (HB3.out.trans (hb4.mono HB3.out.size))
          have hb1 := mul_one_bd HWB.out.1 HWB.out.2.2.2
          have hb2 := mul_one_bd HWB.out.2.1 HWB.out.2.2.1
          have hsm := HSB.out
          have hne := HNX.out
          unfold crs at hne
          obtain ⟨a1, ha1⟩ : ∃ a, (wayF (P9, Q9)).1 = a := ⟨_, rfl⟩
          obtain ⟨a2, ha2⟩ : ∃ a, (wayF (P9, Q9)).2 = a := ⟨_, rfl⟩
          obtain ⟨c1, hc1⟩ : ∃ a, (wayF (Q9, R9)).1 = a := ⟨_, rfl⟩
          obtain ⟨c2, hc2⟩ : ∃ a, (wayF (Q9, R9)).2 = a := ⟨_, rfl⟩
          rw [ha1] at hx1 hb1 hne
          rw [ha2] at hx2 hb2 hne
          rw [hc1] at hy1 hb2 hne
          rw [hc2] at hy2 hb1 hne
          have HNE3 := hide hne
          have k1 : IntKind.i64.wrap (a1 * c2) = a1 * c2 := wr63 (by omega) (by omega)
          have k2 : IntKind.i64.wrap (a2 * c1) = a2 * c1 := wr63 (by omega) (by omega)
          have k3 : IntKind.i64.wrap (a1 * c2 - a2 * c1) = a1 * c2 - a2 * c1 := wr63 (by omega) (by omega)
          have k4 : IntKind.i64.wrap (SM + (a1 * c2 - a2 * c1)) = SM + (a1 * c2 - a2 * c1) := wr63 (by omega) (by omega)
          clear hb1 hb2 hsm hne ha1 ha2 hc1 hc2 hb4
          go_wp2
          go_roundw
          case rel => exact ⟨m + 1, by omega, by go_num, by rw [HNE3.out], HBF⟩
          case measure => simp [intOf]; omega
        · have mz : ¬ (m : Int) < (l.length : Int) := by omega
          obtain rfl : m = l.length := by omega
          have HFLo := HFL.out
          by_cases hp : 0 < turnS l l.length
          · have HPO : Hid (posL l = true) := hide (by unfold posL; simpa using hp)
            have gz : 0 < turnS l l.length := hp
            clear hp
            generalize turnS l l.length = TS at *
            go_wp2
            go_roundw
            case rel => exact ⟨k9 + 1, by omega, by go_num, by rw [HNP.out, if_pos HPO.out]; go_num, by rw [HNP.out, if_pos HPO.out]; first | go_num | (congr 2; omega), hide (HBB.out.trans (HB.out.mono HBB.out.size))⟩
            case measure => simp [intOf]; omega
          · have HPO : Hid (¬ posL l = true) := hide (by unfold posL; simpa using hp)
            have gz : ¬ 0 < turnS l l.length := hp
            clear hp
            generalize turnS l l.length = TS at *
            go_wp2
            go_roundw
            case rel => exact ⟨k9 + 1, by omega, by go_num, by rw [HNP.out, if_neg HPO.out]; rfl, by rw [HNP.out, if_neg HPO.out]; first | go_num | (congr 2; omega), hide (HBB.out.trans (HB.out.mono HBB.out.size))⟩
            case measure => simp [intOf]; omega
    · have hkz : ¬ (k9 : Int) < (L.length : Int) := by omega
      obtain rfl : k9 = L.length := by omega
      clear hk9 hlt9
      rw [List.take_length] at *
      go_wp2
      go_ret3
      exact ⟨⟨L, HOUT.out, rfl⟩, HB1.out.trans (HBB.out.mono HB1.out.size)⟩
end Go.Proofs.YtdfpbhlnlkjjlaaGreat
