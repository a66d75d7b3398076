/- Texts laid together: RefC, RefA, RefF, RefJ, RefE, Made, EqR, IdxA, IdxB. Lemmas for the statements of this seat; no condition. -/
import Derived.Test.YtdfpbhlnlkjjlaaGreatPk3
import Derived.Test.YtdfpbhlnlkjjlaaGreatPk1
import Derived.Laws.StructEq
import Derived.Deep.QuietTactic
import Derived.BigQuiet
import Derived.Test.YtdfpbhlnlkjjlaaGreatPk4
import Derived.Test.YtdfpbhlnlkjjlaaGreatPk2
import Derived.Deep.LoopGhost
import Derived.Shelf.Abstract

/- The reference's Canon. -/
namespace Go.Proofs.YtdfpbhlnlkjjlaaGreat
open Go.RowKit
set_option linter.unusedVariables false
set_option linter.unusedSimpArgs false
def encBo (x : Bool) : List Value := [.bool x]
theorem flat_encBo (l : List Bool) : l.flatMap encBo = l.map Value.bool := by
 induction l with
 | nil => rfl
 | cons a l ih => simp [List.flatMap_cons, encBo, ih]
def canP (cs : List Int) (bs : List Bool) (m : Nat) : List Sp := (((prs cs).zip bs).take m).foldl (fun out x => if x.2 then sext out x.1.1 x.1.2 else out) []
theorem canP_zero (cs : List Int) (bs : List Bool) : canP cs bs 0 = [] := rfl
theorem canP_step {cs : List Int} {bs : List Bool} {m : Nat} {c d : Int} {p : Bool} (hc : cs[m]? = some c) (hd : cs[m + 1]? = some d) (hp : bs[m]? = some p) : canP cs bs (m + 1) = if p then sext (canP cs bs m) c d else canP cs bs m := by
 have h := prs_get cs m c d hc hd
 have hz : ((prs cs).zip bs)[m]? = some ((c, d), p) := by rw [List.getElem?_zip_eq_some]; exact ⟨h, hp⟩
 obtain ⟨i1, e1⟩ := List.getElem?_eq_some_iff.1 hz
 unfold canP
 rw [List.take_succ_eq_append_getElem i1, List.foldl_append, e1]
 rfl
theorem canP_all {cs : List Int} {bs : List Bool} {m : Nat} (hm : cs.length ≤ m + 1) : canP cs bs m = canF cs bs := by
 unfold canP canF
 rw [List.take_of_length_le]
 have := prs_len cs
 simp; omega
theorem canP_len (cs : List Int) (bs : List Bool) (m : Nat) : (canP cs bs m).length ≤ cs.length := by
 have h1 := canF_len_from (((prs cs).zip bs).take m) []
 have h2 := prs_len cs
 have h3 : (((prs cs).zip bs).take m).length ≤ (prs cs).length := by simp; omega
 unfold canP
 simp at h1 h3 ⊢
 omega
set_option maxRecDepth 100000 in
set_option maxHeartbeats 4000000 in
theorem rCanon_any {w : World} {vc vb : Value} {cs : List Int} {bs : List Bool} {B : Nat} (hc : RdK encI 1 w B vc cs) (hb : RdK encBo 1 w B vb bs) (hB : B ≤ w.heap.size) (hl : cs.length ≤ 100000000) (hlen : bs.length = cs.length) :
  Calls Tryz.prog 90 #[vc, vb] w fun e w' => ∃ vo, e = .returned vo ∧ w'.ownsRow w.heap.size 104 2 vo (canF cs bs).length ((canF cs bs).flatMap encS) ∧ Below w.heap.size w w' := by
 obtain ⟨i1, gi, gz0, gz1, gz2⟩ := info_parts infoSp
 obtain ⟨A, c0, rfl, hca⟩ := hc
 obtain ⟨A2, c2, rfl, hcb⟩ := hb
 have HA := hide hca
 have HB0 := hide hcb
 have HLN := hide hlen
 clear hca hcb
 have hbl : bs.length ≤ 100000000 := by omega
 clear hlen
 go_enter Tryz.func90, Tryz.ntmps90
 go_wp2
 go_loopw [5, 6, 7] (fun v i _ wr => ∃ m : Nat, (m = 0 ∨ m < cs.length) ∧ i = .int .i64 m ∧ ∃ Av n cv, v = .slice Av n cv ∧ Hid (wr.ownsRow w.heap.size 104 2 v n ((canP cs bs m).flatMap encS)) ∧ Hid (Below w.heap.size w wr)) (fun _ i _ _ => cs.length - (intOf i).toNat)
 case atStart => exact ⟨0, .inl rfl, rfl, none, 0, 0, rfl, hide (World.ownsRow_nil _ _ _ _), hide (Below.refl _ _)⟩
 case round =>
  obtain ⟨m, hm, rfl, Av, n, cv, rfl, HO, HB⟩ := hrel
  by_cases hlt : m + 1 < cs.length
  ·obtain ⟨c, hc⟩ : ∃ c, cs[m]? = some c := ⟨_, List.getElem?_eq_getElem (by omega)⟩
   obtain ⟨d, hd⟩ : ∃ d, cs[m + 1]? = some d := ⟨_, List.getElem?_eq_getElem hlt⟩
   have hbm : m < bs.length := by rw [HLN.out]; omega
   obtain ⟨p, hp⟩ : ∃ p, bs[m]? = some p := ⟨_, List.getElem?_eq_getElem hbm⟩
   obtain ⟨bk, off, rfl, hbk, kc⟩ := HA.out (by intro e; rw [e] at hlt; simp at hlt)
   obtain ⟨b2, off2, rfl, hb2, kb⟩ := HB0.out (by intro e; rw [e] at hbm; simp at hbm)
   have dW : ∀ W, Below w.heap.size w W → W.cell? ⟨bk, off + m, none⟩ = some (.int .i64 c) ∧ W.cell? ⟨bk, off + (m + 1), none⟩ = some (.int .i64 d) := fun W hW =>
    ⟨(hW.cell (p := ⟨bk, _, none⟩) (by show bk < _; omega)).trans (by have := kc m _ hc 0 _ rfl; rwa [Nat.mul_one] at this), (hW.cell (p := ⟨bk, _, none⟩) (by show bk < _; omega)).trans (by have := kc (m + 1) _ hd 0 _ rfl; rwa [Nat.mul_one] at this)⟩
   have eW : wr.cell? ⟨b2, off2 + m, none⟩ = some (.bool p) := (HB.out.cell (p := ⟨b2, _, none⟩) (by show b2 < _; omega)).trans (by have := kb m _ hp 0 _ rfl; rwa [Nat.mul_one] at this)
   have DW := hide dW
   have mz : (m : Int) + 1 < (cs.length : Int) := by omega
   have mz2 : (m : Int) < (bs.length : Int) := by omega
   have mz3 : (m : Int) < (cs.length : Int) := by omega
   have hT := canP_step hc hd hp
   have hSl := canP_len cs bs m
   have HN := hide (own_len (k := 2) HO.out (fun _ => rfl) (by omega))
   have hn : n ≤ 100000000 := by have := HN.out; omega
   obtain ⟨d0, d1⟩ := dW wr HB.out
   clear kc kb dW hc hd hp
   generalize canP cs bs m = S at *
   cases p with
   | false =>
    have HT : Hid (canP cs bs (m + 1) = S) := hide hT
    clear hT
    go_wp2
    go_roundw
    case rel => exact ⟨m + 1, by omega, by go_num, Av, n, cv, rfl, hide (by rw [HT.out]; exact HO.out), HB⟩
    case measure => simp [intOf]; omega
   | true =>
    have HT : Hid (canP cs bs (m + 1) = sext S c d) := hide hT
    clear hT
    rcases List.eq_nil_or_concat S with hS | ⟨q, ⟨x, y⟩, hS⟩
    ·have hn0 : n = 0 := by rw [HN.out, hS]; rfl
     have HE : Hid (sext S c d = S ++ [(c, d)]) := hide (by rw [hS]; rfl)
     clear hS HN hn
     subst hn0
     go_wp2
     go_quiet (fail)
     refine name_exit fun wd hwd => ?_
     have hbd : Below w.heap.size w wd := by rw [hwd]; exact below_drewN HB.out _
     have hod : wd.ownsRow w.heap.size 104 2 (.slice Av 0 cv) (0) (S.flatMap encS) := by rw [hwd]; exact HO.out
     obtain ⟨k1, k2⟩ := DW.out wd hbd
     have HBD := hide hbd
     have HOD := hide hod
     have hsz := hbd.size
     have hbkd : bk < wd.heap.size := by omega
     clear hwd hod hbd
     go_wp2
     have r1 : IntKind.i64.wrap ((m : Int) + 1) = (m : Int) + 1 := by simp [IntKind.wrap, IntKind.bits, IntKind.signed]; omega
     have r2 : (0 : Int) ≤ (m : Int) + 1 := by omega
     have r3 : (m : Int) + 1 < (cs.length : Int) := by omega
     have r4 : ((m : Int) + 1).toNat = m + 1 := by omega
     have r5 : (m : Int) < (cs.length : Int) := by omega
     have r6 : (0 : Int) ≤ (m : Int) := by omega
     refine wp_region_reads 11 (fun w' => w'.cell? ⟨bk, off + m, none⟩ = some (.int .i64 c) ∧ w'.cell? ⟨bk, off + (m + 1), none⟩ = some (.int .i64 d)) (by kernel_rfl) (by kernel_rfl) ⟨k1, k2⟩ ?_
     simp only [List.take_succ_cons, List.take_zero, List.drop_succ_cons, List.drop_zero]
     iterate 11
      refine ⟨?_, Or.inl ⟨by rfl, ?_⟩, ?_⟩
      rotate_left 1
      ·intro w' hSw
       obtain ⟨z1, z2⟩ := hSw
       go_simp
       first | done | with_reducible rfl
      simp only [Act.put, List.setIfInBounds_toArray, List.set_cons_zero, List.set_cons_succ]
     clear r1 r2 r3 r4 r5 r6
     simp only [wpReads]
     intro K hK
     go_simp
     refine hK _ _ (fun _ => ⟨by go_keep, by go_keep⟩) ?_
     clear hK K
     intro K hK
     refine step_append_lies _ rfl (.tmp 47) (.tmp 58) 99 rfl w.heap.size 104 i1 (.agg #[.int .i64 0, .int .i64 0]) 2 16 Tryz.underlying99 gi gz0 gz1 gz2 rfl (by decide) _ _ _ rfl (own_drew (World.ownsRow.alloc (w := wd) HOD.out _)) ⟨wd.heap.size, 0, none⟩ 1 1 [.int .i64 c, .int .i64 d] rfl rfl (news_drew wd _ _ _ rfl) (ints_one rfl) (by omega) (by unfold maxLen; omega) (by omega) (by simp; omega) _ rfl ?_
     intro g9 cap9 w9 hown9 hgrow9 _ _
     have hb9 : Below w.heap.size w w9 := ((HBD.out.alloc hsz _).drew).grown hgrow9 (by simp; omega) (fun q hq => (HOD.out.lt q hq).1)
     have hx9 : S.flatMap encS ++ [.int .i64 c, .int .i64 d] = (S ++ [(c, d)]).flatMap encS := by simp [encS]
     rw [hx9, ← HE.out] at hown9
     have HO9 := hide hown9
     have HB9 := hide hb9
     clear hown9 hgrow9 hx9 hb9
     refine hK _ _ (fun _ => DW.out _ HB9.out) ?_
     clear hK K
     intro K hK
     simp only [Act.put, List.setIfInBounds_toArray, List.set_cons_zero, List.set_cons_succ] at hK ⊢
     go_simp
     refine hK _ _ (fun h => absurd rfl h) ?_
     clear hK K
     refine NoPanic.normal ?_
     go_wp2
     go_roundw
     case rel => exact ⟨m + 1, by omega, by go_num, _, _, cap9, rfl, hide (by rw [HT.out]; exact HO9.out), HB9⟩
     case measure => simp [intOf]; omega
    ·rw [List.concat_eq_append] at hS
     obtain ⟨j, hj⟩ : ∃ j, q.length = j := ⟨_, rfl⟩
     have hn1 : n = j + 1 := by rw [HN.out, hS, List.length_append, hj]; rfl
     clear HN
     subst hn1
     obtain ⟨g, cap, hv, hBg, hgw⟩ := HO.out.form (by omega)
     injection hv with e1 _ e3
     subst e1; subst e3
     have cy : wr.cell? ⟨g, j * 2 + 1, none⟩ = some (.int .i64 y) := by
      have := (HO.out.cells (g := g) rfl) _ _ (flat_get (k := 2) (fun _ => rfl) S j (x, y) 1 _ (by rw [hS, List.getElem?_append_right (by omega), hj]; simp) rfl)
      rwa [addr_add] at this
     have q1 : (0 : Int) < (j : Int) + 1 := by omega
     have q2 : (j : Int) < (j : Int) + 1 := by omega
     have q3 : IntKind.i64.wrap ((j : Int) + 1 - 1) = j := by simp [IntKind.wrap, IntKind.bits, IntKind.signed]; omega
     have q4 : (0 : Int) ≤ (j : Int) := by omega
     have HJ := hide hj
     have HS := hide hS
     clear hj hS
     by_cases hyc : y = c
     ·subst hyc
      have hee : (y == y) = true := by simp
      have HE : Hid (sext S y d = q ++ [(x, d)]) := hide (by rw [HS.out]; unfold sext; simp)
      go_wp2
      go_quiet (fail)
      refine name_exit fun wd hwd => ?_
      have hbd : Below w.heap.size w wd := by rw [hwd]; exact below_drewN HB.out _
      have hod : wd.ownsRow w.heap.size 104 2 (.slice (some ⟨g, 0, none⟩) (j + 1) cv) (j + 1) (S.flatMap encS) := by rw [hwd]; exact HO.out
      have cy2 : wd.cell? ⟨g, j * 2 + 1, none⟩ = some (.int .i64 y) := by rw [hwd]; exact cy
      have f2 : wd.frozen? ⟨g, j * 2 + 1, none⟩ = false := hod.frozenAt _
      have hst := hod.stored (j * 2 + 1) (.int .i64 d)
      have hset := set_last q x y d
      rw [HJ.out, ← HS.out] at hset
      rw [hset] at hst
      obtain ⟨k1, k2⟩ := DW.out wd hbd
      have HST := hide hst
      have HBD := hide hbd
      clear hwd hod hbd hst hset cy
      go_wp2
      go_roundw
      case rel => exact ⟨m + 1, by omega, by go_num, _, _, cv, rfl, hide (by rw [HT.out, HE.out]; exact HST.out.1), hide (HBD.out.setCell hBg _)⟩
      case measure => simp [intOf]; omega
     ·have hee : (y == c) = false := by simpa using hyc
      have HE : Hid (sext S c d = S ++ [(c, d)]) := hide (by rw [HS.out]; unfold sext; simp [hyc])
      clear hyc
      go_wp2
      go_quiet (fail)
      refine name_exit fun wd hwd => ?_
      have hbd : Below w.heap.size w wd := by rw [hwd]; exact below_drewN HB.out _
      have hod : wd.ownsRow w.heap.size 104 2 (.slice (some ⟨g, 0, none⟩) (j + 1) cv) (j + 1) (S.flatMap encS) := by rw [hwd]; exact HO.out
      obtain ⟨k1, k2⟩ := DW.out wd hbd
      have HBD := hide hbd
      have HOD := hide hod
      have hsz := hbd.size
      have hbkd : bk < wd.heap.size := by omega
      clear hwd hod hbd
      go_wp2
      have r1 : IntKind.i64.wrap ((m : Int) + 1) = (m : Int) + 1 := by simp [IntKind.wrap, IntKind.bits, IntKind.signed]; omega
      have r2 : (0 : Int) ≤ (m : Int) + 1 := by omega
      have r3 : (m : Int) + 1 < (cs.length : Int) := by omega
      have r4 : ((m : Int) + 1).toNat = m + 1 := by omega
      have r5 : (m : Int) < (cs.length : Int) := by omega
      have r6 : (0 : Int) ≤ (m : Int) := by omega
      refine wp_region_reads 11 (fun w' => w'.cell? ⟨bk, off + m, none⟩ = some (.int .i64 c) ∧ w'.cell? ⟨bk, off + (m + 1), none⟩ = some (.int .i64 d)) (by kernel_rfl) (by kernel_rfl) ⟨k1, k2⟩ ?_
      simp only [List.take_succ_cons, List.take_zero, List.drop_succ_cons, List.drop_zero]
      iterate 11
       refine ⟨?_, Or.inl ⟨by rfl, ?_⟩, ?_⟩
       rotate_left 1
       ·intro w' hSw
        obtain ⟨z1, z2⟩ := hSw
        go_simp
        first | done | with_reducible rfl
       simp only [Act.put, List.setIfInBounds_toArray, List.set_cons_zero, List.set_cons_succ]
      clear r1 r2 r3 r4 r5 r6
      simp only [wpReads]
      intro K hK
      go_simp
      refine hK _ _ (fun _ => ⟨by go_keep, by go_keep⟩) ?_
      clear hK K
      intro K hK
      refine step_append_lies _ rfl (.tmp 47) (.tmp 58) 99 rfl w.heap.size 104 i1 (.agg #[.int .i64 0, .int .i64 0]) 2 16 Tryz.underlying99 gi gz0 gz1 gz2 rfl (by decide) _ _ _ rfl (own_drew (World.ownsRow.alloc (w := wd) HOD.out _)) ⟨wd.heap.size, 0, none⟩ 1 1 [.int .i64 c, .int .i64 d] rfl rfl (news_drew wd _ _ _ rfl) (ints_one rfl) (by omega) (by unfold maxLen; omega) (by omega) (by simp; omega) _ rfl ?_
      intro g9 cap9 w9 hown9 hgrow9 _ _
      have hb9 : Below w.heap.size w w9 := ((HBD.out.alloc hsz _).drew).grown hgrow9 (by simp; omega) (fun q hq => (HOD.out.lt q hq).1)
      have hx9 : S.flatMap encS ++ [.int .i64 c, .int .i64 d] = (S ++ [(c, d)]).flatMap encS := by simp [encS]
      rw [hx9, ← HE.out] at hown9
      have HO9 := hide hown9
      have HB9 := hide hb9
      clear hown9 hgrow9 hx9 hb9
      refine hK _ _ (fun _ => DW.out _ HB9.out) ?_
      clear hK K
      intro K hK
      simp only [Act.put, List.setIfInBounds_toArray, List.set_cons_zero, List.set_cons_succ] at hK ⊢
      go_simp
      refine hK _ _ (fun h => absurd rfl h) ?_
      clear hK K
      refine NoPanic.normal ?_
      go_wp2
      go_roundw
      case rel => exact ⟨m + 1, by omega, by go_num, _, _, cap9, rfl, hide (by rw [HT.out]; exact HO9.out), HB9⟩
      case measure => simp [intOf]; omega
  ·have mz : ¬ (m : Int) + 1 < (cs.length : Int) := by omega
   have ht := canP_all (cs := cs) (bs := bs) (m := m) (by omega)
   rw [ht] at HO
   have HN := hide (own_len (k := 2) HO.out (fun _ => rfl) (by omega))
   have hml : (m : Int) + 1 ≤ 200000000 := by omega
   clear ht
   go_wp2
   go_ret
   exact ⟨_, rfl, own_n HO.out HN.out, HB.out⟩
end Go.Proofs.YtdfpbhlnlkjjlaaGreat

/- The reference's small functions: In, Valid, Has, Holds, Great. -/
namespace Go.Proofs.YtdfpbhlnlkjjlaaGreat
open Go.RowKit
set_option linter.unusedVariables false
set_option linter.unusedSimpArgs false
instance (x : Int) : Decidable (fineP x) := by unfold fineP; infer_instance
set_option maxHeartbeats 1000000 in
theorem rIn_any (x : Int) (w : World) : Calls Tryz.prog 86 #[.int .i64 x] w fun e w' => e = .returned (.bool (decide (fineP x))) ∧ w = w' := by
 go_enter Tryz.func86, Tryz.ntmps86
 go_wp2
 all_goals
  go_ret
  refine ⟨ret_eq (bool_eq ?_), rfl⟩
  first
   | exact (decide_eq_false (by simp only [fineP]; omega)).symm
   | exact (decide_eq_true (by simp only [fineP]; omega)).symm
   | exact decide_eq_decide.2 (by simp only [fineP]; omega)
set_option maxHeartbeats 2000000 in
theorem rValid_any (r : R4) (w : World) :
  Calls Tryz.prog 52 #[.agg (encR r).toArray] w fun e w' => e = .returned (.bool (decide (valid4 r))) ∧ Below w.heap.size w w' := by
 obtain ⟨a, b, c, d⟩ := r
 show Calls Tryz.prog 52 #[.agg #[.int .i64 a, .int .i64 b, .int .i64 c, .int .i64 d]] w _
 have h1 : decide (valid4 ⟨a, b, c, d⟩) = (decide (a < c) && decide (b < d) && decide (fineP a) && decide (fineP c) && decide (fineP b) && decide (fineP d)) := by
  rw [Bool.eq_iff_iff, decide_eq_true_iff]; simp [valid4, and_assoc]
 rw [h1]
 have ha := fun W => rIn_any a W
 have hb := fun W => rIn_any b W
 have hc := fun W => rIn_any c W
 have hd := fun W => rIn_any d W
 generalize decide (fineP a) = fa at *
 generalize decide (fineP b) = fb at *
 generalize decide (fineP c) = fc at *
 generalize decide (fineP d) = fd at *
 have HA := hide ha
 have HB := hide hb
 have HC := hide hc
 have HD := hide hd
 clear ha hb hc hd h1
 have fin : Below w.heap.size w (w.alloc (.cells #[.int .i64 a, .int .i64 b, .int .i64 c, .int .i64 d] 49)) := (Below.refl _ _).alloc (Nat.le_refl _) _
 have FIN := hide fin
 clear fin
 by_cases t1 : a < c
 ·by_cases t2 : b < d
  ·cases fa with
   | false =>
    go_enter Tryz.func52, Tryz.ntmps52
    go_wp2_with (go_at_call 86; refine (HA.out _).mono ?_; rintro e w1 ⟨rfl, rfl⟩)
    go_ret
    exact ⟨ret_eq (bool_eq (by simp)), FIN.out⟩
   | true =>
    cases fc with
    | false =>
     go_enter Tryz.func52, Tryz.ntmps52
     go_wp2_with (fail)
     refine (HA.out _).mono ?_
     rintro e w1 ⟨rfl, rfl⟩
     go_wp2_with (fail)
     refine (HC.out _).mono ?_
     rintro e w1 ⟨rfl, rfl⟩
     go_wp2_with (fail)
     go_ret
     exact ⟨ret_eq (bool_eq (by simp)), FIN.out⟩
    | true =>
     cases fb with
     | false =>
      go_enter Tryz.func52, Tryz.ntmps52
      go_wp2_with (fail)
      refine (HA.out _).mono ?_
      rintro e w1 ⟨rfl, rfl⟩
      go_wp2_with (fail)
      refine (HC.out _).mono ?_
      rintro e w1 ⟨rfl, rfl⟩
      go_wp2_with (fail)
      refine (HB.out _).mono ?_
      rintro e w1 ⟨rfl, rfl⟩
      go_wp2_with (fail)
      go_ret
      exact ⟨ret_eq (bool_eq (by simp)), FIN.out⟩
     | true =>
      go_enter Tryz.func52, Tryz.ntmps52
      go_wp2_with (fail)
      refine (HA.out _).mono ?_
      rintro e w1 ⟨rfl, rfl⟩
      go_wp2_with (fail)
      refine (HC.out _).mono ?_
      rintro e w1 ⟨rfl, rfl⟩
      go_wp2_with (fail)
      refine (HB.out _).mono ?_
      rintro e w1 ⟨rfl, rfl⟩
      go_wp2_with (fail)
      refine (HD.out _).mono ?_
      rintro e w1 ⟨rfl, rfl⟩
      go_wp2_with (fail)
      go_ret
      exact ⟨ret_eq (bool_eq (by simp [t1, t2])), FIN.out⟩
  ·go_enter Tryz.func52, Tryz.ntmps52
   have t2' : decide (b < d) = false := decide_eq_false t2
   go_wp2
   go_ret
   exact ⟨ret_eq (bool_eq (by simp [t2])), FIN.out⟩
 ·go_enter Tryz.func52, Tryz.ntmps52
  have t1' : decide (a < c) = false := decide_eq_false t1
  go_wp2
  go_ret
  exact ⟨ret_eq (bool_eq (by simp [t1])), FIN.out⟩
set_option maxHeartbeats 2000000 in
theorem rHas_any {w : World} {v : Value} {l : List R4} {B : Nat} (hr : RdK encR 4 w B v l) (hl : l.length ≤ 100000000) (x y : Int) :
    Calls Tryz.prog 25 #[v, .int .i64 x, .int .i64 y] w fun e w' => e = .returned (.bool (decide (pmem l x y))) ∧ w = w' := by
  obtain ⟨A, c, rfl, hc⟩ := hr
  have HR := hide hc
  clear hc
  go_enter Tryz.func25, Tryz.ntmps25
  go_wp2
  go_loop [7] (fun i => ∃ m : Nat, m ≤ l.length ∧ i = .int .i64 m ∧ Hid (∀ r ∈ l.take m, ¬ rin r x y)) (fun i => l.length - (intOf i).toNat)
  case atStart => exact ⟨0, Nat.zero_le _, rfl, hide (by simp)⟩
  case round =>
    obtain ⟨m, hm, rfl, HN⟩ := hrel
    by_cases hlt : m < l.length
    · obtain ⟨⟨x0, y0, x1, y1⟩, hp⟩ : ∃ p, l[m]? = some p := ⟨_, List.getElem?_eq_getElem hlt⟩
      obtain ⟨b, o, rfl, hbl, k⟩ := HR.out (by intro e; rw [e] at hlt; simp at hlt)
      have d0 : w.cell? ⟨b, o + m * 4, none⟩ = some (.int .i64 x0) := k m _ hp 0 _ rfl
      have d1 : w.cell? ⟨b, o + m * 4 + 1, none⟩ = some (.int .i64 y0) := k m _ hp 1 _ rfl
      have d2 : w.cell? ⟨b, o + m * 4 + 2, none⟩ = some (.int .i64 x1) := k m _ hp 2 _ rfl
      have d3 : w.cell? ⟨b, o + m * 4 + 3, none⟩ = some (.int .i64 y1) := k m _ hp 3 _ rfl
      have mz : (m : Int) < (l.length : Int) := by omega
      have HP := hide hp
      clear k hp
      go_wp2
      all_goals first
        | (go_ret
           refine ⟨ret_eq (bool_eq (decide_eq_true ?_).symm), rfl⟩
           exact ⟨_, List.mem_of_getElem? HP.out, by assumption, by assumption, by assumption, by assumption⟩)
        | (go_round
           case rel =>
             refine ⟨m + 1, by omega, by go_num, hide ?_⟩
             obtain ⟨i1, e1⟩ := List.getElem?_eq_some_iff.1 HP.out
             intro r hr
             rw [List.take_succ_eq_append_getElem i1, List.mem_append] at hr
             rcases hr with hr | hr
             · exact HN.out r hr
             · rw [List.mem_singleton] at hr
               subst hr
               rw [e1]
               unfold rin
               simp only
               omega
           case measure => simp [intOf]; omega)
    · have mz : ¬ (m : Int) < (l.length : Int) := by omega
      go_wp2
      go_ret
      refine ⟨ret_eq (bool_eq (decide_eq_false ?_).symm), rfl⟩
      rintro ⟨r, hr, h⟩
      have := HN.out
      rw [List.take_of_length_le (by omega)] at this
      exact this r hr h
def hk (k : Int) (a b : Bool) : Bool := if k = 1 then a && b else if k = 2 then a || b else a && !b
set_option maxHeartbeats 1000000 in
theorem rHolds_any (k : Int) (hk0 : k = 1 ∨ k = 2 ∨ k = 3) (a b : Bool) (w : World) : Calls Tryz.prog 89 #[.int .i64 k, .bool a, .bool b] w fun e w' => e = .returned (.bool (hk k a b)) ∧ w = w' := by
 rcases hk0 with rfl | rfl | rfl <;> cases a <;> cases b
 all_goals
  go_enter Tryz.func89, Tryz.ntmps89
  go_wp2
  go_ret
  exact ⟨rfl, rfl⟩
def greatP (n : Nat) : Prop := (60 < n ∧ n ≤ 400) ∨ 420 < n
instance (n : Nat) : Decidable (greatP n) := by unfold greatP; infer_instance
end Go.Proofs.YtdfpbhlnlkjjlaaGreat

/- The reference's Same of spans: two lists are one. -/
namespace Go.Proofs.YtdfpbhlnlkjjlaaGreat
open Go.RowKit
set_option linter.unusedVariables false
set_option linter.unusedSimpArgs false
set_option maxHeartbeats 4000000 in
theorem rSameS_any {w : World} {vs vt : Value} {s t : List Sp} {B C : Nat} (hs : RdK encS 2 w B vs s) (ht : RdK encS 2 w C vt t) (ns : s.length ≤ 100000000) (hB : B ≤ w.heap.size) (hC : C ≤ w.heap.size) :
  Calls Tryz.prog 91 #[vs, vt] w fun e w' => e = .returned (.bool (decide (s = t))) ∧ Below w.heap.size w w' := by
 obtain ⟨A1, c1, rfl, h1⟩ := hs
 obtain ⟨A2, c2, rfl, h2⟩ := ht
 have g : Tryz.prog.eqGuardType Tryz.prog.depth 104 = false := by kernel_rfl
 have H1 := hide h1
 have H2 := hide h2
 clear h1 h2
 go_enter Tryz.func91, Tryz.ntmps91
 by_cases hl : s.length = t.length
 ·have hne : ((s.length : Int) != (t.length : Int)) = false := by rw [hl]; simp
  have HL := hide hl
  clear hl
  go_wp2
  go_loopw [5] (fun i wr => ∃ k : Nat, k ≤ s.length ∧ i = .int .i64 k ∧ Hid (s.take k = t.take k) ∧ Below w.heap.size w wr) (fun i _ => s.length - (intOf i).toNat)
  case atStart => exact ⟨0, Nat.zero_le _, rfl, hide rfl, Below.refl _ _⟩
  case round =>
   obtain ⟨k, hk, rfl, HT, hb⟩ := hrel
   by_cases hlt : k < s.length
   ·obtain ⟨⟨a0, a1⟩, hp⟩ : ∃ p, s[k]? = some p := ⟨_, List.getElem?_eq_getElem hlt⟩
    have hlt2 : k < t.length := by rw [← HL.out]; exact hlt
    obtain ⟨⟨b0, b1⟩, hq⟩ : ∃ p, t[k]? = some p := ⟨_, List.getElem?_eq_getElem hlt2⟩
    obtain ⟨p1, o1, rfl, hp1, k1⟩ := H1.out (by intro e; rw [e] at hlt; simp at hlt)
    obtain ⟨p2, o2, rfl, hp2, k2⟩ := H2.out (by intro e; rw [e] at hlt2; simp at hlt2)
    have x0 : wr.cell? ⟨p1, o1 + k * 2, none⟩ = some (.int .i64 a0) := (hb.cell (p := ⟨p1, _, none⟩) (by show p1 < _; omega)).trans (k1 k _ hp 0 _ rfl)
    have y0 : wr.cell? ⟨p2, o2 + k * 2, none⟩ = some (.int .i64 b0) := (hb.cell (p := ⟨p2, _, none⟩) (by show p2 < _; omega)).trans (k2 k _ hq 0 _ rfl)
    have x1 : wr.cell? ⟨p1, o1 + k * 2 + 1, none⟩ = some (.int .i64 a1) := (hb.cell (p := ⟨p1, _, none⟩) (by show p1 < _; omega)).trans (k1 k _ hp 1 _ rfl)
    have y1 : wr.cell? ⟨p2, o2 + k * 2 + 1, none⟩ = some (.int .i64 b1) := (hb.cell (p := ⟨p2, _, none⟩) (by show p2 < _; omega)).trans (k2 k _ hq 1 _ rfl)
    have z1 : (k : Int) < (s.length : Int) := by omega
    have z2 : (k : Int) < (t.length : Int) := by omega
    have HP := hide hp
    have HQ := hide hq
    clear hp hq k1 k2
    by_cases e0 : a0 = b0
    rotate_left 1
    ·have hd : decide (s = t) = false := decide_eq_false fun e => by
      subst e
      have := HP.out.symm.trans HQ.out
      simp only [Option.some.injEq, Prod.mk.injEq] at this
      omega
     have HD := hide hd
     clear hd
     go_wp2
     go_region
     go_wp2
     go_ret
     exact ⟨ret_eq (bool_eq HD.out.symm), hb.drew⟩
    by_cases e1 : a1 = b1
    rotate_left 1
    ·have hd : decide (s = t) = false := decide_eq_false fun e => by
      subst e
      have := HP.out.symm.trans HQ.out
      simp only [Option.some.injEq, Prod.mk.injEq] at this
      omega
     have HD := hide hd
     clear hd
     subst e0
     go_wp2
     go_region
     go_wp2
     go_ret
     exact ⟨ret_eq (bool_eq HD.out.symm), hb.drew⟩
    subst e0
    subst e1
    go_wp2
    go_region
    go_wp2
    go_roundw
    case rel =>
     refine ⟨k + 1, by omega, by go_num, hide ?_, hb.drew⟩
     obtain ⟨i1, e1⟩ := List.getElem?_eq_some_iff.1 HP.out
     obtain ⟨i2, e2⟩ := List.getElem?_eq_some_iff.1 HQ.out
     rw [List.take_succ_eq_append_getElem i1, List.take_succ_eq_append_getElem i2, HT.out, e1, e2]
    case measure => simp [intOf]; omega
   ·have hlz : ¬ (k : Int) < (s.length : Int) := by omega
    have hd : decide (s = t) = true := decide_eq_true (by
     have := HT.out
     rw [List.take_of_length_le (by omega), List.take_of_length_le (by rw [← HL.out]; omega)] at this
     exact this)
    have HD := hide hd
    clear hd
    go_wp2
    go_ret
    exact ⟨ret_eq (bool_eq HD.out.symm), hb⟩
 ·have hne : ((s.length : Int) != (t.length : Int)) = true := by simp; omega
  have hd : decide (s = t) = false := decide_eq_false fun e => hl (by rw [e])
  rw [hd]
  clear hl hd
  go_wp2
  go_ret
  exact ⟨rfl, Below.refl _ _⟩
end Go.Proofs.YtdfpbhlnlkjjlaaGreat

/- The reference's Joined. -/
namespace Go.Proofs.YtdfpbhlnlkjjlaaGreat
open Go.RowKit
set_option linter.unusedVariables false
set_option linter.unusedSimpArgs false
structure RJ (w : World) (vx vy vo vl : Value) (xs ys : List Int) (L : List R4) (last : List Sp) (wr : World) : Prop where
 low : Below w.heap.size w wr
 x : wr.ownsRow w.heap.size 3 1 vx xs.length (xs.map iv)
 y : wr.ownsRow w.heap.size 3 1 vy ys.length (ys.map iv)
 o : wr.ownsRow w.heap.size 49 4 vo L.length (L.flatMap encR)
 l : wr.ownsRow w.heap.size 104 2 vl last.length (last.flatMap encS)
section
variable {w wr w2 : World} {vx vy vo vl v2 : Value} {xs ys : List Int} {L L' : List R4} {ll : List Sp}
theorem RJ.below (h : RJ w vx vy vo vl xs ys L ll wr) (hb : Below wr.heap.size wr w2) : RJ w vx vy vo vl xs ys L ll w2 :=
 ⟨h.low.trans (hb.mono h.low.size), own_below h.x hb, own_below h.y hb, own_below h.o hb, own_below h.l hb⟩
theorem RJ.pushed (h : RJ w vx vy vo vl xs ys L ll wr) {n : Nat} (hg : wr.grownBy w2 vo.ownBlock) (ho : w2.ownsRow w.heap.size 49 4 v2 n (L'.flatMap encR)) : RJ w vx vy v2 vl xs ys L' ll w2 := by
 have hn := own_len (k := 4) ho (fun _ => rfl) (by omega)
 subst hn
 exact ⟨h.low.grown hg h.low.size (fun q hq => (h.o.lt q hq).1), h.x.kept hg (own_apart h.x h.o (by decide)), h.y.kept hg (own_apart h.y h.o (by decide)), ho, h.l.kept hg (own_apart h.l h.o (by decide))⟩
theorem RJ.other (h : RJ w vx vy vo vl xs ys L ll wr) {B size n : Nat} {v : Value} {zs : List Value} (hv : wr.ownsRow B 4 size v n zs) (hB : w.heap.size ≤ B) (hg : wr.grownBy w2 v.ownBlock) : RJ w vx vy vo vl xs ys L ll w2 :=
 ⟨h.low.grown hg h.low.size (fun q hq => by have := (hv.lt q hq).1; omega), h.x.kept hg (own_apart h.x hv (by decide)), h.y.kept hg (own_apart h.y hv (by decide)), h.o.kept hg (own_apart h.o hv (by decide)), h.l.kept hg (own_apart h.l hv (by decide))⟩
theorem RJ.last (h : RJ w vx vy vo vl xs ys L ll wr) {s : List Sp} (hs : wr.ownsRow w.heap.size 104 2 v2 s.length (s.flatMap encS)) : RJ w vx vy vo v2 xs ys L s wr := ⟨h.low, h.x, h.y, h.o, hs⟩
theorem RJ.xcells {gx cx i : Nat} {c d : Int} (h : RJ w (.slice (some ⟨gx, 0, none⟩) xs.length cx) vy vo vl xs ys L ll wr) (hc : xs[i]? = some c) (hd : xs[i + 1]? = some d) :
  wr.cell? ⟨gx, i, none⟩ = some (.int .i64 c) ∧ wr.cell? ⟨gx, i + 1, none⟩ = some (.int .i64 d) := by
 have h1 := (h.x.cells (g := gx) rfl) i (iv c) (by simp [hc])
 have h2 := (h.x.cells (g := gx) rfl) (i + 1) (iv d) (by simp [hd])
 rw [addr_add] at h1 h2
 exact ⟨h1, h2⟩
end
theorem infoB : (Tryz.prog.info? 4).map (fun i => (i.zero, i.size, i.bytes)) = some (some (.bool false), 1, 1) := by kernel_rfl
theorem own_rdB {w : World} {base : Nat} {e : TypeId} {v : Value} {l : List Bool} (h : w.ownsRow base e 1 v l.length (l.map Value.bool)) : RdK encBo 1 w w.heap.size v l :=
 own_rd (enc := encBo) (k := 1) (by rw [flat_encBo]; exact h) (fun _ => rfl)
theorem rj_push {S : List Slab} {last s : List Sp} {first no i : Nat} {c d : Int} {xs : List Int} (hxs : xs.Pairwise (· < ·)) (hc : xs[i]? = some c) (hd : xs[i + 1]? = some d) (hinv : BInv S last first c) (hn : ¬ (s ≠ [] ∧ c = c ∧ last = s)) (hno : no = (flat S).length) :
    flat (addS S c d s) = flat S ++ s.map (fun p => ⟨c, p.1, d, p.2⟩) ∧ (∀ c', xs[i + 1]? = some c' → BInv (addS S c d s) s no c') ∧ (s = [] → no = (flat (addS S c d s)).length) := by
  have hcd : c < d := by
    obtain ⟨h1, rfl⟩ := List.getElem?_eq_some_iff.1 hc
    obtain ⟨h2, rfl⟩ := List.getElem?_eq_some_iff.1 hd
    exact List.pairwise_iff_getElem.1 hxs i (i + 1) h1 h2 (by omega)
  obtain ⟨h1, h2⟩ := BInv.push (f := c) (t := d) hinv (.inr (Int.le_refl _)) hcd hn
  subst hno
  refine ⟨h1, fun c' hc' => ?_, fun hs => ?_⟩
  · rw [hd] at hc'; injection hc' with hc'; subst hc'; exact h2
  · rw [h1, hs]; simp
theorem rj_join {S : List Slab} {last : List Sp} {first i : Nat} {c d : Int} {xs : List Int} (hxs : xs.Pairwise (· < ·)) (hc : xs[i]? = some c) (hd : xs[i + 1]? = some d) (hinv : BInv S last first c) (hf : last = [] → first = (flat S).length) :
    upTo d first (flat S).length (flat S) = flat (addS S c d last) ∧ (∀ c', xs[i + 1]? = some c' → BInv (addS S c d last) last first c') ∧ (last = [] → first = (flat (addS S c d last)).length) := by
  have hcd : c < d := by
    obtain ⟨h1, rfl⟩ := List.getElem?_eq_some_iff.1 hc
    obtain ⟨h2, rfl⟩ := List.getElem?_eq_some_iff.1 hd
    exact List.pairwise_iff_getElem.1 hxs i (i + 1) h1 h2 (by omega)
  by_cases hl : last = []
  · obtain ⟨h1, h2⟩ := BInv.push (f := c) (t := d) hinv (.inr (Int.le_refl _)) hcd (s := last) (fun h => h.1 hl)
    have e := hf hl
    subst hl
    have ha : addS S c d [] = S := by simp [addS]
    refine ⟨by rw [ha, e, upTo_start], fun c' hc' => ?_, fun _ => by rw [ha]; exact e⟩
    rw [hd] at hc'; injection hc' with hc'; subst hc'; rw [e]; exact h2
  · obtain ⟨S0, f0, h1, h2, h3, h4⟩ := BInv.join (f := c) (t := d) hinv hl rfl rfl
    refine ⟨?_, fun c' hc' => ?_, fun h => absurd h hl⟩
    · have := upTo_end S0 f0 c d last
      rw [← h2, ← h1, ← h3] at this
      exact this
    · rw [hd] at hc'; injection hc' with hc'; subst hc'; exact h4
theorem rj_first {S : List Slab} {last : List Sp} {first : Nat} {c : Int} (hinv : BInv S last first c) (hf : last = [] → first = (flat S).length) : first ≤ (flat S).length := by
 rcases hinv with ⟨h, _⟩ | ⟨_, S0, f0, h1, h2⟩
 ·exact Nat.le_of_eq (hf h)
 ·rw [h1, flat_append, List.length_append, h2]; omega
set_option maxRecDepth 100000 in
set_option maxHeartbeats 8000000 in
theorem rJoinedC_any (kd : Int) (hkd : kd = 1 ∨ kd = 2 ∨ kd = 3) {w : World} {va vb : Value} {a b : List R4} {B : Nat} (ha : RdK encR 4 w B va a) (hb : RdK encR 4 w B vb b) (hB : B ≤ w.heap.size) (la : a.length ≤ 10000000) (lb : b.length ≤ 10000000)
  (hxl : (srt (cutsL a ++ cutsL b)).length ≤ 10000) (hyl : (srt (cutsY a ++ cutsY b)).length ≤ 10000) :
  Calls Tryz.prog 53 #[.int .i64 kd, va, vb] w fun e w' => ∃ vo, e = .returned vo ∧ w'.ownsRow w.heap.size 49 4 vo (flat (swp (refG (hk kd) a b (srt (cutsY a ++ cutsY b))) (prs (srt (cutsL a ++ cutsL b))))).length ((flat (swp (refG (hk kd) a b (srt (cutsY a ++ cutsY b))) (prs (srt (cutsL a ++ cutsL b))))).flatMap encR) ∧ Below w.heap.size w w' := by
 obtain ⟨i1, gi, gz0, gz1, gz2⟩ := info_parts infoRc
 obtain ⟨i2, fi, fz0, fz1, fz2⟩ := info_parts infoB
 have hX := fun (W : World) (hW : Below w.heap.size w W) => rXs_any (w := W) (ha.below (hW.mono hB)) (hb.below (hW.mono hB)) (Nat.le_trans hB hW.size) (by omega) (by omega)
 have hY := fun (W : World) (hW : Below w.heap.size w W) => rYs_any (w := W) (ha.below (hW.mono hB)) (hb.below (hW.mono hB)) (Nat.le_trans hB hW.size) (by omega) (by omega)
 have hxs := (srt_ok (cutsL a ++ cutsL b)).1
 generalize srt (cutsL a ++ cutsL b) = xs at *
 generalize srt (cutsY a ++ cutsY b) = ys at *
 have hGl : ∀ x, (refG (hk kd) a b ys x).length ≤ 10000 := fun x => Nat.le_trans (refG_len _ _ _ _ _) hyl
 have HGL := hide hGl
 have HX := hide hX
 have HY := hide hY
 have HXS := hide hxs
 have HKD := hide hkd
 obtain ⟨A1, c1, hva, _⟩ := id ha
 obtain ⟨A2, c2, hvb, _⟩ := id hb
 subst hva; subst hvb
 have HA := hide ha
 have HB0 := hide hb
 clear ha hb hX hY hxs hGl hkd
 go_enter Tryz.func53, Tryz.ntmps53
 go_wp2_with (first
  | (go_at_call 87; refine (HX.out _ (Below.refl _ _)).mono ?_; rintro e w1 ⟨vx, rfl, ox, hb1⟩; have OX := hide ox; have HB1 := hide hb1; clear ox hb1)
  | (go_at_call 88; refine (HY.out _ HB1.out).mono ?_; rintro e w2 ⟨vy, rfl, oy, hb2⟩; have OY := hide oy; have HB2 := hide hb2; clear oy hb2; obtain ⟨Ax, cx, hvx⟩ := own_form OX.out; subst hvx; obtain ⟨Ay, cy, hvy⟩ := own_form OY.out; subst hvy))
 have HJ0 := hide (show RJ w (.slice Ax xs.length cx) (.slice Ay ys.length cy) (.slice none 0 0) (.slice none 0 0) xs ys [] [] w2 from ⟨HB1.out.trans (HB2.out.mono HB1.out.size), own_below OX.out HB2.out, own_base OY.out HB1.out.size, World.ownsRow_nil _ _ _ _, World.ownsRow_nil _ _ _ _⟩)
 clear OX OY HB1 HB2 HX HY
 go_loopw [9, 10, 11, 12] (fun v9 v10 v11 v12 wr => ∃ i : Nat, (i = 0 ∨ i < xs.length) ∧ v12 = .int .i64 i ∧ ∃ Ao no co, v9 = .slice Ao no co ∧ ∃ Al nl cl, v10 = .slice Al nl cl ∧ ∃ (S : List Slab) (last : List Sp) (first : Nat), Hid (nl = last.length) ∧ Hid (no = (flat S).length) ∧ v11 = .int .i64 first ∧
   Hid (swp (refG (hk kd) a b ys) ((prs xs).take i) = S) ∧ Hid ((∀ c, xs[i]? = some c → BInv S last first c) ∧ (last = [] → first = (flat S).length) ∧ (i = 0 → last = [])) ∧ Hid (RJ w (.slice Ax xs.length cx) (.slice Ay ys.length cy) (.slice Ao no co) (.slice Al nl cl) xs ys (flat S) last wr))
  (fun _ _ _ v _ => xs.length - (intOf v).toNat)
 case atStart => exact ⟨0, .inl rfl, rfl, none, 0, 0, rfl, none, 0, 0, rfl, [], [], 0, hide rfl, hide rfl, rfl, hide rfl, hide ⟨fun c _ => .inl ⟨rfl, by simp⟩, fun _ => rfl, fun _ => rfl⟩, HJ0⟩
 case round =>
  clear HJ0
  obtain ⟨i, hi, rfl, Ao, no, co, rfl, Al, nl, cl, rfl, S, last, first, HNL, HNO, rfl, HSS, HI, HJ⟩ := hrel
  by_cases hlt : i + 1 < xs.length
  ·obtain ⟨c, hc⟩ : ∃ c, xs[i]? = some c := ⟨_, List.getElem?_eq_getElem (by omega)⟩
   obtain ⟨d, hd⟩ : ∃ d, xs[i + 1]? = some d := ⟨_, List.getElem?_eq_getElem hlt⟩
   have mz : (i : Int) + 1 < (xs.length : Int) := by omega
   have mz2 : (i : Int) < (xs.length : Int) := by omega
   obtain ⟨gx, cpx, hvx, hBx, hgx⟩ := HJ.out.x.form (by omega)
   injection hvx with e1 _ e3
   subst e1; subst e3
   have hflat : (flat S).length ≤ 100000000 := by
    have h1 := swp_len _ 10000 HGL.out ((prs xs).take i)
    rw [HSS.out] at h1
    have h2 : ((prs xs).take i).length ≤ 10000 := by have := prs_len xs; simp; omega
    have := Nat.mul_le_mul_right 10000 h2
    omega
   have hnoz : no ≤ 100000000 := by have := HNO.out; omega
   have hfirst : first ≤ no := by rw [HNO.out]; exact rj_first (HI.out.1 c hc) HI.out.2.1
   have HSW : Hid (swp (refG (hk kd) a b ys) ((prs xs).take (i + 1)) = addS S c d (refG (hk kd) a b ys c)) := hide (by
    have hp := prs_get xs i c d hc hd
    obtain ⟨h1, h2⟩ := List.getElem?_eq_some_iff.1 hp
    rw [List.take_succ_eq_append_getElem h1, h2, swp_snoc, HSS.out])
   have HC := hide hc
   have HD := hide hd
   clear hc hd
   go_wp2
   go_loopw [13, 14] (fun v q wr => ∃ j : Nat, j ≤ ys.length ∧ q = .int .i64 j ∧ ∃ Ai ni ci, v = .slice Ai ni ci ∧ Hid (wr.ownsRow w.heap.size 4 1 v ni (((ys.take j).map (fun y => hk kd (decide (pmem a c y)) (decide (pmem b c y)))).map Value.bool)) ∧ Hid (RJ w (.slice (some ⟨gx, 0, none⟩) xs.length cx) (.slice Ay ys.length cy) (.slice Ao no co) (.slice Al nl cl) xs ys (flat S) last wr)) (fun _ q _ => ys.length - (intOf q).toNat)
   case atStart => exact ⟨0, Nat.zero_le _, rfl, none, 0, 0, rfl, hide (World.ownsRow_nil _ _ _ _), HJ⟩
   case round =>
    clear HJ
    obtain ⟨j, hj, rfl, Ai, ni, ci, rfl, HIN, HJ⟩ := hrel
    by_cases hjl : j < ys.length
    ·obtain ⟨y, hy⟩ : ∃ y, ys[j]? = some y := ⟨_, List.getElem?_eq_getElem hjl⟩
     have jz : (j : Int) < (ys.length : Int) := by omega
     obtain ⟨gy, cpy, hvy, hBy, hgy⟩ := HJ.out.y.form (by omega)
     injection hvy with e1 _ e3
     subst e1; subst e3
     obtain ⟨x0, _⟩ := HJ.out.xcells HC.out HD.out
     have y0 : wr.cell? ⟨gy, j, none⟩ = some (.int .i64 y) := by
      have := (HJ.out.y.cells (g := gy) rfl) j (iv y) (by simp [hy])
      rwa [addr_add] at this
     have HT : Hid ((ys.take (j + 1)).map (fun y => hk kd (decide (pmem a c y)) (decide (pmem b c y))) = (ys.take j).map (fun y => hk kd (decide (pmem a c y)) (decide (pmem b c y))) ++ [hk kd (decide (pmem a c y)) (decide (pmem b c y))]) := hide (by
      obtain ⟨h1, h2⟩ := List.getElem?_eq_some_iff.1 hy
      rw [List.take_succ_eq_append_getElem h1, List.map_append, h2]; rfl)
     have HYY := hide hy
     have hni : ni ≤ 10000 := by
      have := HIN.out.1
      simp at this; omega
     clear hy
     generalize (ys.take j).map (fun y => hk kd (decide (pmem a c y)) (decide (pmem b c y))) = bs at *
     go_wp2
     have hsz := HJ.out.low.size
     have hbd : Below w.heap.size w wr.drew := HJ.out.low.drew
     have hh1 := rHas_any (w := wr.drew) (HA.out.below (hbd.mono hB)) (by omega) c y
     have hh2 := rHas_any (w := wr.drew) (HB0.out.below (hbd.mono hB)) (by omega) c y
     have hh3 := rHolds_any kd HKD.out (decide (pmem a c y)) (decide (pmem b c y)) wr.drew
     have H1 := hide hh1
     have H2 := hide hh2
     have H3 := hide hh3
     clear hh1 hh2 hh3 hbd
     generalize decide (pmem a c y) = pa at *
     generalize decide (pmem b c y) = pb at *
     have r6 : (0 : Int) ≤ (i : Int) := by omega
     have r7 : (0 : Int) ≤ (j : Int) := by omega
     refine wp_region_mix [0, 1, 2, 3, 4, 5, 6, 7, 8, 9, 10, 12, 13, 14, 15, 16, 17, 18, 19, 20] [11, 21, 22, 23, 24, 25] (fun w' => w'.cell? ⟨gx, i, none⟩ = some (.int .i64 c) ∧ w'.cell? ⟨gy, j, none⟩ = some (.int .i64 y)) (by kernel_rfl) (by kernel_rfl) ⟨x0, y0⟩ ?_
     simp only [List.map_cons, List.map_nil, opAt, List.getElem?_cons_succ, List.getElem?_cons_zero, Option.getD_some]
     iterate 20
      refine ⟨?_, Or.inl ⟨by rfl, ?_⟩, ?_⟩
      rotate_left 1
      ·intro w' hSw
       obtain ⟨z1, z2⟩ := hSw
       go_simp
       first | done | with_reducible rfl
      simp only [Act.put, List.setIfInBounds_toArray, List.set_cons_zero, List.set_cons_succ]
     clear r6 r7
     simp only [wpReads]
     intro K hK
     go_simp
     refine H1.out.mono ?_
     rintro e w' ⟨rfl, rfl⟩
     refine hK _ _ (fun _ => ⟨x0, y0⟩) ?_
     clear hK K
     intro K hK
     simp only [Act.put, List.setIfInBounds_toArray, List.set_cons_zero, List.set_cons_succ] at hK ⊢
     go_simp
     refine H2.out.mono ?_
     rintro e w' ⟨rfl, rfl⟩
     refine hK _ _ (fun _ => ⟨x0, y0⟩) ?_
     clear hK K
     intro K hK
     simp only [Act.put, List.setIfInBounds_toArray, List.set_cons_zero, List.set_cons_succ] at hK ⊢
     go_simp
     refine H3.out.mono ?_
     rintro e w' ⟨rfl, rfl⟩
     refine hK _ _ (fun _ => ⟨x0, y0⟩) ?_
     clear hK K H1 H2 H3
     generalize hk kd pa pb = pc at *
     have hgxw : gx < wr.heap.size := (HJ.out.x.lt gx rfl).2
     have hgyw : gy < wr.heap.size := (HJ.out.y.lt gy rfl).2
     intro K hK
     simp only [Act.put, List.setIfInBounds_toArray, List.set_cons_zero, List.set_cons_succ] at hK ⊢
     go_simp
     refine hK _ _ (fun _ => ⟨by go_keep, by go_keep⟩) ?_
     clear hK K
     intro K hK
     refine step_append_lies _ rfl (.tmp 37) (.tmp 60) 141 rfl w.heap.size 4 i2 (.bool false) 1 1 Tryz.underlying141 fi fz0 fz1 fz2 rfl (by decide) _ ni _ rfl (own_drew (World.ownsRow.alloc (w := wr) HIN.out _)) ⟨wr.heap.size, 0, none⟩ 1 1 [.bool pc] rfl rfl (news_drew wr _ _ _ rfl) (by intro u hu; rw [List.mem_singleton] at hu; subst hu; rfl) (by omega) (by unfold maxLen; omega) (by omega) (by simp; omega) _ rfl ?_
     intro g9 cap9 w9 hown9 hgrow9 _ _
     have hx9 : bs.map Value.bool ++ [.bool pc] = (bs ++ [pc]).map Value.bool := by simp
     rw [hx9, ← HT.out] at hown9
     have hj9 := (HJ.out.below ((Below.refl _ _).alloc (Nat.le_refl _) _).drew).other (own_drew (World.ownsRow.alloc (w := wr) HIN.out _)) (Nat.le_refl _) hgrow9
     have hc9 := (hj9.xcells HC.out HD.out).1
     have hy9 : w9.cell? ⟨gy, j, none⟩ = some (.int .i64 y) := by
      have := (hj9.y.cells (g := gy) rfl) j (iv y) (by simp [HYY.out])
      rwa [addr_add] at this
     have HJ9 := hide hj9
     have HO9 := hide hown9
     clear hown9 hgrow9 hx9 hj9
     refine hK _ _ (fun _ => ⟨hc9, hy9⟩) ?_
     clear hK K
     intro K hK
     simp only [Act.put, List.setIfInBounds_toArray, List.set_cons_zero, List.set_cons_succ] at hK ⊢
     go_simp
     refine hK _ _ (fun h => absurd rfl h) ?_
     clear hK K
     refine NoPanic.normal ?_
     go_wp2
     go_roundw
     case rel => exact ⟨j + 1, by omega, by go_num, _, _, cap9, rfl, HO9, HJ9⟩
     case measure => simp [intOf]; omega
    ·have jz : ¬ (j : Int) < (ys.length : Int) := by omega
     have ht : ys.take j = ys := List.take_of_length_le (by omega)
     rw [ht] at HIN
     have hni : ni = (ys.map (fun y => hk kd (decide (pmem a c y)) (decide (pmem b c y)))).length := by have := HIN.out.1; simpa using this.symm
     have hcan := rCanon_any (w := wr) (own_rdI HJ.out.y) (own_rdB (own_n HIN.out hni)) (Nat.le_refl _) (by omega) (by simp)
     change Calls _ _ _ _ (fun e w' => ∃ vo, e = .returned vo ∧ w'.ownsRow wr.heap.size 104 2 vo (refG (hk kd) a b ys c).length ((refG (hk kd) a b ys c).flatMap encS) ∧ Below wr.heap.size wr w') at hcan
     have hsl : (refG (hk kd) a b ys c).length ≤ 10000 := HGL.out c
     have HCAN := hide hcan
     clear hcan ht hni HIN jz
     generalize refG (hk kd) a b ys c = s at *
     have hwsz := HJ.out.low.size
     have HJA := HJ
     by_cases hi0 : i = 0
     ·have hl0 := HI.out.2.2 hi0
      have HP := hide (rj_push HXS.out HC.out HD.out (HI.out.1 c HC.out) (s := s) (fun h => h.1 (by rw [← h.2.2]; exact hl0)) HNO.out)
      have hiz : ¬ (0 : Int) < (i : Int) := by omega
      have hizn : ¬ 0 < i := by omega
      clear hi0 hl0
      go_wp2_with (go_at_call 90; refine HCAN.out.mono ?_; rintro e w3 ⟨vs, rfl, os, hb3⟩; obtain ⟨As, cs, hvs⟩ := own_form os; subst hvs; have HJS := hide ((HJA.out.below hb3).last (own_base os hwsz)); clear os hb3)
      go_wp2
      go_loopw [9, 17] (fun v q wr => ∃ m : Nat, m ≤ s.length ∧ q = .int .i64 m ∧ ∃ Ao no co, v = .slice Ao no co ∧ Hid (no = (flat S ++ (s.take m).map (fun p : Sp => (⟨c, p.1, d, p.2⟩ : R4))).length) ∧ Hid (RJ w (.slice (some ⟨gx, 0, none⟩) xs.length cx) (.slice Ay ys.length cy) v (.slice As s.length cs) xs ys (flat S ++ (s.take m).map (fun p : Sp => (⟨c, p.1, d, p.2⟩ : R4))) s wr)) (fun _ q _ => s.length - (intOf q).toNat)
      case atStart => exact ⟨0, Nat.zero_le _, rfl, Ao, no, co, rfl, hide (by rw [List.take_zero, List.map_nil, List.append_nil]; exact HNO.out), hide (by rw [List.take_zero, List.map_nil, List.append_nil]; exact HJS.out)⟩
      case round =>
       clear HJS
       have HNO0 := HNO
       obtain ⟨m, hm, rfl, Ao, no1, co, rfl, HNO, HJ⟩ := hrel
       by_cases hlt : m < s.length
       ·have hmz : (m : Int) < (s.length : Int) := by omega
        obtain ⟨g2, cap2, hvs, hB2, hg2⟩ := HJ.out.l.form (by omega)
        injection hvs with e1 _ e3
        subst e1; subst e3
        obtain ⟨⟨p1, p2⟩, hp⟩ : ∃ p, s[m]? = some p := ⟨_, List.getElem?_eq_getElem hlt⟩
        have x0 : wr.cell? ⟨g2, m * 2, none⟩ = some (.int .i64 p1) := by
         have := (HJ.out.l.cells (g := g2) rfl) _ _ (flat_get (k := 2) (fun _ => rfl) _ m _ 0 _ hp rfl)
         rwa [addr_add] at this
        have x1 : wr.cell? ⟨g2, m * 2 + 1, none⟩ = some (.int .i64 p2) := by
         have := (HJ.out.l.cells (g := g2) rfl) _ _ (flat_get (k := 2) (fun _ => rfl) _ m _ 1 _ hp rfl)
         rwa [addr_add] at this
        obtain ⟨y0, y1⟩ := HJ.out.xcells HC.out HD.out
        have HT : Hid (flat S ++ (s.take (m + 1)).map (fun p : Sp => (⟨c, p.1, d, p.2⟩ : R4)) = (flat S ++ (s.take m).map (fun p : Sp => (⟨c, p.1, d, p.2⟩ : R4))) ++ [⟨c, p1, d, p2⟩]) := hide (by
         obtain ⟨hk, hpe⟩ := List.getElem?_eq_some_iff.1 hp
         rw [List.take_succ_eq_append_getElem hk, List.map_append, hpe, ← List.append_assoc]; rfl)
        have hno : no1 ≤ 200020000 := by
         have := HNO.out
         rw [List.length_append, List.length_map, List.length_take] at this
         omega
        have HPP := hide hp
        clear hp
        generalize flat S ++ (s.take m).map (fun p : Sp => (⟨c, p.1, d, p.2⟩ : R4)) = L at *
        go_wp2
        have r1 : IntKind.i64.wrap ((i : Int) + 1) = (i : Int) + 1 := by simp [IntKind.wrap, IntKind.bits, IntKind.signed]; omega
        have r2 : (0 : Int) ≤ (i : Int) + 1 := by omega
        have r4 : ((i : Int) + 1).toNat = i + 1 := by omega
        have r6 : (0 : Int) ≤ (i : Int) := by omega
        have r7 : (0 : Int) ≤ (m : Int) := by omega
        have hsz := HJ.out.low.size
        have hgxw : gx < wr.heap.size := (HJ.out.x.lt gx rfl).2
        refine wp_region_mix [0, 1, 2, 3, 4, 5, 6, 7, 8, 9, 10, 11, 12, 13, 14, 15, 16, 17, 18, 19, 20] [21, 22, 23] (fun w' => (w'.cell? ⟨g2, m * 2, none⟩ = some (.int .i64 p1) ∧ w'.cell? ⟨g2, m * 2 + 1, none⟩ = some (.int .i64 p2)) ∧ w'.cell? ⟨gx, i, none⟩ = some (.int .i64 c) ∧ w'.cell? ⟨gx, i + 1, none⟩ = some (.int .i64 d)) (by kernel_rfl) (by kernel_rfl) ⟨⟨x0, x1⟩, y0, y1⟩ ?_
        simp only [List.map_cons, List.map_nil, opAt, List.getElem?_cons_succ, List.getElem?_cons_zero, Option.getD_some]
        iterate 21
         refine ⟨?_, Or.inl ⟨by rfl, ?_⟩, ?_⟩
         rotate_left 1
         ·intro w' hSw
          obtain ⟨⟨z1, z2⟩, z3, z4⟩ := hSw
          go_simp
          first | done | with_reducible rfl
         simp only [Act.put, List.setIfInBounds_toArray, List.set_cons_zero, List.set_cons_succ]
        clear r1 r2 r4 r6 r7
        simp only [wpReads]
        intro K hK
        go_simp
        refine hK _ _ (fun _ => ⟨⟨by go_keep, by go_keep⟩, by go_keep, by go_keep⟩) ?_
        clear hK K
        intro K hK
        refine step_append_lies _ rfl (.tmp 97) (.tmp 118) 34 rfl w.heap.size 49 i1 (.agg #[.int .i64 0, .int .i64 0, .int .i64 0, .int .i64 0]) 4 32 Tryz.underlying34 gi gz0 gz1 gz2 rfl (by decide) _ no1 _ rfl (own_drew (World.ownsRow.alloc (w := wr) (own_n HJ.out.o HNO.out.symm) _)) ⟨wr.heap.size, 0, none⟩ 1 1 [.int .i64 c, .int .i64 p1, .int .i64 d, .int .i64 p2] rfl rfl (news_drew wr _ _ _ rfl) (ints_one rfl) (by omega) (by unfold maxLen; omega) (by omega) (by simp; omega) _ rfl ?_
        intro g9 cap9 w9 hown9 hgrow9 _ _
        have hx9 : L.flatMap encR ++ [.int .i64 c, .int .i64 p1, .int .i64 d, .int .i64 p2] = (L ++ [(⟨c, p1, d, p2⟩ : R4)]).flatMap encR := by simp [encR]
        rw [hx9, ← HT.out] at hown9
        have hj9 := (HJ.out.below ((Below.refl _ _).alloc (Nat.le_refl _) _).drew).pushed hgrow9 hown9
        have hc9 := hj9.xcells HC.out HD.out
        have hs0 : w9.cell? ⟨g2, m * 2, none⟩ = some (.int .i64 p1) := by
         have := (hj9.l.cells (g := g2) rfl) _ _ (flat_get (k := 2) (fun _ => rfl) _ m _ 0 _ HPP.out rfl)
         rwa [addr_add] at this
        have hs1 : w9.cell? ⟨g2, m * 2 + 1, none⟩ = some (.int .i64 p2) := by
         have := (hj9.l.cells (g := g2) rfl) _ _ (flat_get (k := 2) (fun _ => rfl) _ m _ 1 _ HPP.out rfl)
         rwa [addr_add] at this
        have HJ9 := hide hj9
        have HN9 := hide (own_len (k := 4) hown9 (fun _ => rfl) (by omega))
        clear hown9 hgrow9 hx9 hj9
        refine hK _ _ (fun _ => ⟨⟨hs0, hs1⟩, hc9⟩) ?_
        clear hK K
        intro K hK
        simp only [Act.put, List.setIfInBounds_toArray, List.set_cons_zero, List.set_cons_succ] at hK ⊢
        go_simp
        refine hK _ _ (fun h => absurd rfl h) ?_
        clear hK K
        refine NoPanic.normal ?_
        go_wp2
        go_roundw
        case rel => exact ⟨m + 1, by omega, by go_num, _, _, cap9, rfl, HN9, HJ9⟩
        case measure => simp [intOf]; omega
       ·obtain rfl : m = s.length := by omega
        have hmz : ¬ (s.length : Int) < (s.length : Int) := by omega
        rw [List.take_length, ← HP.out.1] at HNO HJ
        go_wp2
        go_roundw
        case rel => exact ⟨i + 1, by omega, by go_num, Ao, no1, co, rfl, As, s.length, cs, rfl, _, s, no, hide rfl, HNO, rfl, HSW, hide ⟨HP.out.2.1, HP.out.2.2, fun h => by omega⟩, HJ⟩
        case measure => simp [intOf]; omega
     ·have hiz : (0 : Int) < (i : Int) := by omega
      have hizn : 0 < i := by omega
      have hsame : ∀ (W : World) (vs : Value), RJ w (.slice (some ⟨gx, 0, none⟩) xs.length cx) (.slice Ay ys.length cy) (.slice Ao no co) (.slice Al nl cl) xs ys (flat S) last W → W.ownsRow w.heap.size 104 2 vs s.length (s.flatMap encS) → _ := fun W vs h1 h2 => rSameS_any (w := W) (own_rd h2 (fun _ => rfl)) (own_rd h1.l (fun _ => rfl)) (by omega) (Nat.le_refl _) (Nat.le_refl _)
      have HSM := hide hsame
      clear hi0 hsame
      by_cases hsl2 : s = last
      ·have HP : Hid (upTo d first (flat S).length (flat S) = flat (addS S c d s) ∧ (∀ c', xs[i + 1]? = some c' → BInv (addS S c d s) last first c') ∧ (last = [] → first = (flat (addS S c d s)).length)) := hide (by rw [hsl2]; exact rj_join HXS.out HC.out HD.out (HI.out.1 c HC.out) HI.out.2.1)
       have hdd : decide (s = last) = true := decide_eq_true hsl2
       have HDD := hide hdd
       clear hdd hsl2
       go_wp2_with (first
        | (go_at_call 90; refine HCAN.out.mono ?_; rintro e w3 ⟨vs, rfl, os, hb3⟩; obtain ⟨As, cs, hvs⟩ := own_form os; subst hvs; have HJL3 := hide (HJA.out.below hb3); have HOS := hide (own_base os hwsz); clear os hb3)
        | (go_at_call 91; refine (HSM.out _ _ HJL3.out HOS.out).mono ?_; rintro e w4 ⟨rfl, hb4⟩; rw [HDD.out]; have HJL := hide (HJL3.out.below hb4); clear hb4))
       go_wp2
       go_loopw [16] (fun q wr => ∃ k : Nat, first ≤ k ∧ k ≤ no ∧ q = .int .i64 k ∧ Hid (RJ w (.slice (some ⟨gx, 0, none⟩) xs.length cx) (.slice Ay ys.length cy) (.slice Ao no co) (.slice Al nl cl) xs ys (upTo d first k (flat S)) last wr)) (fun q _ => no - (intOf q).toNat)
       case atStart => exact ⟨first, Nat.le_refl _, by omega, rfl, hide (by rw [upTo_start]; exact HJL.out)⟩
       case round =>
        clear HJL
        obtain ⟨k, hk1, hk2, rfl, HJ⟩ := hrel
        by_cases hlt : k < no
        ·have hkz : (k : Int) < (no : Int) := by omega
         obtain ⟨r, hr⟩ : ∃ r, (upTo d first k (flat S))[k]? = some r := ⟨_, List.getElem?_eq_getElem (by rw [upTo_len, ← HNO.out]; exact hlt)⟩
         have hlen : (upTo d first k (flat S)).length = no := by rw [upTo_len, HNO.out]
         obtain ⟨g, cap, hvo, hBg, hgw⟩ := HJ.out.o.form (by rw [hlen]; omega)
         injection hvo with e1 _ e3
         subst e1; subst e3
         have x1 : wr.cell? ⟨g, k * 4 + 2, none⟩ = some (.int .i64 r.x1) := by
          have := (HJ.out.o.cells (g := g) rfl) _ _ (flat_get (k := 4) (fun _ => rfl) _ k r 2 _ hr rfl)
          rwa [addr_add] at this
         have f1 : wr.frozen? ⟨g, k * 4 + 2, none⟩ = false := (own_n HJ.out.o hlen).frozenAt _
         obtain ⟨y0, y1⟩ := HJ.out.xcells HC.out HD.out
         have hst := (own_n HJ.out.o hlen).stored (k * 4 + 2) (.int .i64 d)
         rw [flat_set d _ k r hr, upTo_step d first k _ r hk1 hr] at hst
         have HJ2 := hide (HJ.out.pushed hst.2 hst.1)
         clear hr hst hlen
         go_wp2
         go_roundw
         case rel => exact ⟨k + 1, by omega, by omega, by go_num, HJ2⟩
         case measure => simp [intOf]; omega
        ·obtain rfl : k = no := by omega
         have hkz : ¬ (k : Int) < (k : Int) := by omega
         have hend := HP.out.1
         rw [← HNO.out] at hend
         have hj := HJ.out
         rw [hend] at hj
         have HJ3 := hide hj
         have hn3 : k = (flat (addS S c d s)).length := by rw [← hend, upTo_len]; exact HNO.out
         have HN3 := hide hn3
         clear hend hj hn3
         go_wp2
         go_roundw
         case rel => exact ⟨i + 1, by omega, by go_num, Ao, k, co, rfl, Al, nl, cl, rfl, _, last, first, HNL, HN3, rfl, HSW, hide ⟨HP.out.2.1, HP.out.2.2, fun h => by omega⟩, HJ3⟩
         case measure => simp [intOf]; omega
      ·have HP := hide (rj_push HXS.out HC.out HD.out (HI.out.1 c HC.out) (s := s) (fun h => hsl2 h.2.2.symm) HNO.out)
       have hdd : decide (s = last) = false := decide_eq_false hsl2
       have HDD := hide hdd
       clear hdd hsl2
       go_wp2_with (first
        | (go_at_call 90; refine HCAN.out.mono ?_; rintro e w3 ⟨vs, rfl, os, hb3⟩; obtain ⟨As, cs, hvs⟩ := own_form os; subst hvs; have HJL3 := hide (HJA.out.below hb3); have HOS := hide (own_base os hwsz); clear os hb3)
        | (go_at_call 91; refine (HSM.out _ _ HJL3.out HOS.out).mono ?_; rintro e w4 ⟨rfl, hb4⟩; rw [HDD.out]; have HJS := hide ((HJL3.out.below hb4).last (own_below HOS.out hb4)); clear hb4))
       go_wp2
       go_loopw [9, 17] (fun v q wr => ∃ m : Nat, m ≤ s.length ∧ q = .int .i64 m ∧ ∃ Ao no co, v = .slice Ao no co ∧ Hid (no = (flat S ++ (s.take m).map (fun p : Sp => (⟨c, p.1, d, p.2⟩ : R4))).length) ∧ Hid (RJ w (.slice (some ⟨gx, 0, none⟩) xs.length cx) (.slice Ay ys.length cy) v (.slice As s.length cs) xs ys (flat S ++ (s.take m).map (fun p : Sp => (⟨c, p.1, d, p.2⟩ : R4))) s wr)) (fun _ q _ => s.length - (intOf q).toNat)
       case atStart => exact ⟨0, Nat.zero_le _, rfl, Ao, no, co, rfl, hide (by rw [List.take_zero, List.map_nil, List.append_nil]; exact HNO.out), hide (by rw [List.take_zero, List.map_nil, List.append_nil]; exact HJS.out)⟩
       case round =>
        clear HJS
        have HNO0 := HNO
        obtain ⟨m, hm, rfl, Ao, no1, co, rfl, HNO, HJ⟩ := hrel
        by_cases hlt : m < s.length
        ·have hmz : (m : Int) < (s.length : Int) := by omega
         obtain ⟨g2, cap2, hvs, hB2, hg2⟩ := HJ.out.l.form (by omega)
         injection hvs with e1 _ e3
         subst e1; subst e3
         obtain ⟨⟨p1, p2⟩, hp⟩ : ∃ p, s[m]? = some p := ⟨_, List.getElem?_eq_getElem hlt⟩
         have x0 : wr.cell? ⟨g2, m * 2, none⟩ = some (.int .i64 p1) := by
          have := (HJ.out.l.cells (g := g2) rfl) _ _ (flat_get (k := 2) (fun _ => rfl) _ m _ 0 _ hp rfl)
          rwa [addr_add] at this
         have x1 : wr.cell? ⟨g2, m * 2 + 1, none⟩ = some (.int .i64 p2) := by
          have := (HJ.out.l.cells (g := g2) rfl) _ _ (flat_get (k := 2) (fun _ => rfl) _ m _ 1 _ hp rfl)
          rwa [addr_add] at this
         obtain ⟨y0, y1⟩ := HJ.out.xcells HC.out HD.out
         have HT : Hid (flat S ++ (s.take (m + 1)).map (fun p : Sp => (⟨c, p.1, d, p.2⟩ : R4)) = (flat S ++ (s.take m).map (fun p : Sp => (⟨c, p.1, d, p.2⟩ : R4))) ++ [⟨c, p1, d, p2⟩]) := hide (by
          obtain ⟨hk, hpe⟩ := List.getElem?_eq_some_iff.1 hp
          rw [List.take_succ_eq_append_getElem hk, List.map_append, hpe, ← List.append_assoc]; rfl)
         have hno : no1 ≤ 200020000 := by
          have := HNO.out
          rw [List.length_append, List.length_map, List.length_take] at this
          omega
         have HPP := hide hp
         clear hp
         generalize flat S ++ (s.take m).map (fun p : Sp => (⟨c, p.1, d, p.2⟩ : R4)) = L at *
         go_wp2
         have r1 : IntKind.i64.wrap ((i : Int) + 1) = (i : Int) + 1 := by simp [IntKind.wrap, IntKind.bits, IntKind.signed]; omega
         have r2 : (0 : Int) ≤ (i : Int) + 1 := by omega
         have r4 : ((i : Int) + 1).toNat = i + 1 := by omega
         have r6 : (0 : Int) ≤ (i : Int) := by omega
         have r7 : (0 : Int) ≤ (m : Int) := by omega
         have hsz := HJ.out.low.size
         have hgxw : gx < wr.heap.size := (HJ.out.x.lt gx rfl).2
         refine wp_region_mix [0, 1, 2, 3, 4, 5, 6, 7, 8, 9, 10, 11, 12, 13, 14, 15, 16, 17, 18, 19, 20] [21, 22, 23] (fun w' => (w'.cell? ⟨g2, m * 2, none⟩ = some (.int .i64 p1) ∧ w'.cell? ⟨g2, m * 2 + 1, none⟩ = some (.int .i64 p2)) ∧ w'.cell? ⟨gx, i, none⟩ = some (.int .i64 c) ∧ w'.cell? ⟨gx, i + 1, none⟩ = some (.int .i64 d)) (by kernel_rfl) (by kernel_rfl) ⟨⟨x0, x1⟩, y0, y1⟩ ?_
         simp only [List.map_cons, List.map_nil, opAt, List.getElem?_cons_succ, List.getElem?_cons_zero, Option.getD_some]
         iterate 21
          refine ⟨?_, Or.inl ⟨by rfl, ?_⟩, ?_⟩
          rotate_left 1
          ·intro w' hSw
           obtain ⟨⟨z1, z2⟩, z3, z4⟩ := hSw
           go_simp
           first | done | with_reducible rfl
          simp only [Act.put, List.setIfInBounds_toArray, List.set_cons_zero, List.set_cons_succ]
         clear r1 r2 r4 r6 r7
         simp only [wpReads]
         intro K hK
         go_simp
         refine hK _ _ (fun _ => ⟨⟨by go_keep, by go_keep⟩, by go_keep, by go_keep⟩) ?_
         clear hK K
         intro K hK
         refine step_append_lies _ rfl (.tmp 97) (.tmp 118) 34 rfl w.heap.size 49 i1 (.agg #[.int .i64 0, .int .i64 0, .int .i64 0, .int .i64 0]) 4 32 Tryz.underlying34 gi gz0 gz1 gz2 rfl (by decide) _ no1 _ rfl (own_drew (World.ownsRow.alloc (w := wr) (own_n HJ.out.o HNO.out.symm) _)) ⟨wr.heap.size, 0, none⟩ 1 1 [.int .i64 c, .int .i64 p1, .int .i64 d, .int .i64 p2] rfl rfl (news_drew wr _ _ _ rfl) (ints_one rfl) (by omega) (by unfold maxLen; omega) (by omega) (by simp; omega) _ rfl ?_
         intro g9 cap9 w9 hown9 hgrow9 _ _
         have hx9 : L.flatMap encR ++ [.int .i64 c, .int .i64 p1, .int .i64 d, .int .i64 p2] = (L ++ [(⟨c, p1, d, p2⟩ : R4)]).flatMap encR := by simp [encR]
         rw [hx9, ← HT.out] at hown9
         have hj9 := (HJ.out.below ((Below.refl _ _).alloc (Nat.le_refl _) _).drew).pushed hgrow9 hown9
         have hc9 := hj9.xcells HC.out HD.out
         have hs0 : w9.cell? ⟨g2, m * 2, none⟩ = some (.int .i64 p1) := by
          have := (hj9.l.cells (g := g2) rfl) _ _ (flat_get (k := 2) (fun _ => rfl) _ m _ 0 _ HPP.out rfl)
          rwa [addr_add] at this
         have hs1 : w9.cell? ⟨g2, m * 2 + 1, none⟩ = some (.int .i64 p2) := by
          have := (hj9.l.cells (g := g2) rfl) _ _ (flat_get (k := 2) (fun _ => rfl) _ m _ 1 _ HPP.out rfl)
          rwa [addr_add] at this
         have HJ9 := hide hj9
         have HN9 := hide (own_len (k := 4) hown9 (fun _ => rfl) (by omega))
         clear hown9 hgrow9 hx9 hj9
         refine hK _ _ (fun _ => ⟨⟨hs0, hs1⟩, hc9⟩) ?_
         clear hK K
         intro K hK
         simp only [Act.put, List.setIfInBounds_toArray, List.set_cons_zero, List.set_cons_succ] at hK ⊢
         go_simp
         refine hK _ _ (fun h => absurd rfl h) ?_
         clear hK K
         refine NoPanic.normal ?_
         go_wp2
         go_roundw
         case rel => exact ⟨m + 1, by omega, by go_num, _, _, cap9, rfl, HN9, HJ9⟩
         case measure => simp [intOf]; omega
        ·obtain rfl : m = s.length := by omega
         have hmz : ¬ (s.length : Int) < (s.length : Int) := by omega
         rw [List.take_length, ← HP.out.1] at HNO HJ
         go_wp2
         go_roundw
         case rel => exact ⟨i + 1, by omega, by go_num, Ao, no1, co, rfl, As, s.length, cs, rfl, _, s, no, hide rfl, HNO, rfl, HSW, hide ⟨HP.out.2.1, HP.out.2.2, fun h => by omega⟩, HJ⟩
         case measure => simp [intOf]; omega
  ·have mz : ¬ (i : Int) + 1 < (xs.length : Int) := by omega
   have hib : (i : Int) + 1 ≤ 100000 := by omega
   have ht : (prs xs).take i = prs xs := List.take_of_length_le (by have := prs_len xs; omega)
   rw [ht] at HSS
   clear ht
   go_wp2
   go_ret
   exact ⟨_, rfl, by rw [HSS.out]; exact HJ.out.o, HJ.out.low⟩
theorem rJoined_any (kd : Int) (hkd : kd = 1 ∨ kd = 2 ∨ kd = 3) {w : World} {va vb : Value} {a b : List R4} {B : Nat} (ha : RdK encR 4 w B va a) (hb : RdK encR 4 w B vb b) (hB : B ≤ w.heap.size) (la : a.length ≤ 2500) (lb : b.length ≤ 2500) :
  Calls Tryz.prog 53 #[.int .i64 kd, va, vb] w fun e w' => ∃ vo, e = .returned vo ∧ w'.ownsRow w.heap.size 49 4 vo (flat (swp (refG (hk kd) a b (srt (cutsY a ++ cutsY b))) (prs (srt (cutsL a ++ cutsL b))))).length ((flat (swp (refG (hk kd) a b (srt (cutsY a ++ cutsY b))) (prs (srt (cutsL a ++ cutsL b))))).flatMap encR) ∧ Below w.heap.size w w' :=
 rJoinedC_any kd hkd ha hb hB (by omega) (by omega)
  (by have := srt_len (cutsL a ++ cutsL b); rw [List.length_append, cutsL_len, cutsL_len] at this; omega)
  (by have := srt_len (cutsY a ++ cutsY b); rw [List.length_append, cutsY_len, cutsY_len] at this; omega)
end Go.Proofs.YtdfpbhlnlkjjlaaGreat

/- The reference's SameRects: two lists are one. -/
namespace Go.Proofs.YtdfpbhlnlkjjlaaGreat
open Go.RowKit
set_option linter.unusedVariables false
set_option linter.unusedSimpArgs false
set_option maxHeartbeats 4000000 in
theorem rSameRects_any {w : World} {vs vt : Value} {s t : List R4} {B C : Nat} (hs : RdK encR 4 w B vs s) (ht : RdK encR 4 w C vt t) (ns : s.length ≤ 100000000) (hB : B ≤ w.heap.size) (hC : C ≤ w.heap.size) :
  Calls Tryz.prog 20 #[vs, vt] w fun e w' => e = .returned (.bool (decide (s = t))) ∧ Below w.heap.size w w' := by
 obtain ⟨A1, c1, rfl, h1⟩ := hs
 obtain ⟨A2, c2, rfl, h2⟩ := ht
 have g : Tryz.prog.eqGuardType Tryz.prog.depth 49 = false := by kernel_rfl
 have H1 := hide h1
 have H2 := hide h2
 clear h1 h2
 go_enter Tryz.func20, Tryz.ntmps20
 by_cases hl : s.length = t.length
 ·have hne : ((s.length : Int) != (t.length : Int)) = false := by rw [hl]; simp
  have HL := hide hl
  clear hl
  go_wp2
  go_loopw [5] (fun i wr => ∃ k : Nat, k ≤ s.length ∧ i = .int .i64 k ∧ Hid (s.take k = t.take k) ∧ Below w.heap.size w wr) (fun i _ => s.length - (intOf i).toNat)
  case atStart => exact ⟨0, Nat.zero_le _, rfl, hide rfl, Below.refl _ _⟩
  case round =>
   obtain ⟨k, hk, rfl, HT, hb⟩ := hrel
   by_cases hlt : k < s.length
   ·obtain ⟨⟨a0, a1, a2, a3⟩, hp⟩ : ∃ p, s[k]? = some p := ⟨_, List.getElem?_eq_getElem hlt⟩
    have hlt2 : k < t.length := by rw [← HL.out]; exact hlt
    obtain ⟨⟨b0, b1, b2, b3⟩, hq⟩ : ∃ p, t[k]? = some p := ⟨_, List.getElem?_eq_getElem hlt2⟩
    obtain ⟨p1, o1, rfl, hp1, k1⟩ := H1.out (by intro e; rw [e] at hlt; simp at hlt)
    obtain ⟨p2, o2, rfl, hp2, k2⟩ := H2.out (by intro e; rw [e] at hlt2; simp at hlt2)
    have x0 : wr.cell? ⟨p1, o1 + k * 4, none⟩ = some (.int .i64 a0) := (hb.cell (p := ⟨p1, _, none⟩) (by show p1 < _; omega)).trans (k1 k _ hp 0 _ rfl)
    have y0 : wr.cell? ⟨p2, o2 + k * 4, none⟩ = some (.int .i64 b0) := (hb.cell (p := ⟨p2, _, none⟩) (by show p2 < _; omega)).trans (k2 k _ hq 0 _ rfl)
    have x1 : wr.cell? ⟨p1, o1 + k * 4 + 1, none⟩ = some (.int .i64 a1) := (hb.cell (p := ⟨p1, _, none⟩) (by show p1 < _; omega)).trans (k1 k _ hp 1 _ rfl)
    have y1 : wr.cell? ⟨p2, o2 + k * 4 + 1, none⟩ = some (.int .i64 b1) := (hb.cell (p := ⟨p2, _, none⟩) (by show p2 < _; omega)).trans (k2 k _ hq 1 _ rfl)
    have x2 : wr.cell? ⟨p1, o1 + k * 4 + 2, none⟩ = some (.int .i64 a2) := (hb.cell (p := ⟨p1, _, none⟩) (by show p1 < _; omega)).trans (k1 k _ hp 2 _ rfl)
    have y2 : wr.cell? ⟨p2, o2 + k * 4 + 2, none⟩ = some (.int .i64 b2) := (hb.cell (p := ⟨p2, _, none⟩) (by show p2 < _; omega)).trans (k2 k _ hq 2 _ rfl)
    have x3 : wr.cell? ⟨p1, o1 + k * 4 + 3, none⟩ = some (.int .i64 a3) := (hb.cell (p := ⟨p1, _, none⟩) (by show p1 < _; omega)).trans (k1 k _ hp 3 _ rfl)
    have y3 : wr.cell? ⟨p2, o2 + k * 4 + 3, none⟩ = some (.int .i64 b3) := (hb.cell (p := ⟨p2, _, none⟩) (by show p2 < _; omega)).trans (k2 k _ hq 3 _ rfl)
    have z1 : (k : Int) < (s.length : Int) := by omega
    have z2 : (k : Int) < (t.length : Int) := by omega
    have HP := hide hp
    have HQ := hide hq
    clear hp hq k1 k2
    by_cases e0 : a0 = b0
    rotate_left 1
    ·have hd : decide (s = t) = false := decide_eq_false fun e => by
      subst e
      have := HP.out.symm.trans HQ.out
      simp only [Option.some.injEq, R4.mk.injEq] at this
      omega
     have HD := hide hd
     clear hd
     go_wp2
     go_region
     go_wp2
     go_ret
     exact ⟨ret_eq (bool_eq HD.out.symm), hb.drew⟩
    by_cases e1 : a1 = b1
    rotate_left 1
    ·have hd : decide (s = t) = false := decide_eq_false fun e => by
      subst e
      have := HP.out.symm.trans HQ.out
      simp only [Option.some.injEq, R4.mk.injEq] at this
      omega
     have HD := hide hd
     clear hd
     subst e0
     go_wp2
     go_region
     go_wp2
     go_ret
     exact ⟨ret_eq (bool_eq HD.out.symm), hb.drew⟩
    by_cases e2 : a2 = b2
    rotate_left 1
    ·have hd : decide (s = t) = false := decide_eq_false fun e => by
      subst e
      have := HP.out.symm.trans HQ.out
      simp only [Option.some.injEq, R4.mk.injEq] at this
      omega
     have HD := hide hd
     clear hd
     subst e0
     subst e1
     go_wp2
     go_region
     go_wp2
     go_ret
     exact ⟨ret_eq (bool_eq HD.out.symm), hb.drew⟩
    by_cases e3 : a3 = b3
    rotate_left 1
    ·have hd : decide (s = t) = false := decide_eq_false fun e => by
      subst e
      have := HP.out.symm.trans HQ.out
      simp only [Option.some.injEq, R4.mk.injEq] at this
      omega
     have HD := hide hd
     clear hd
     subst e0
     subst e1
     subst e2
     go_wp2
     go_region
     go_wp2
     go_ret
     exact ⟨ret_eq (bool_eq HD.out.symm), hb.drew⟩
    subst e0
    subst e1
    subst e2
    subst e3
    go_wp2
    go_region
    go_wp2
    go_roundw
    case rel =>
     refine ⟨k + 1, by omega, by go_num, hide ?_, hb.drew⟩
     obtain ⟨i1, e1⟩ := List.getElem?_eq_some_iff.1 HP.out
     obtain ⟨i2, e2⟩ := List.getElem?_eq_some_iff.1 HQ.out
     rw [List.take_succ_eq_append_getElem i1, List.take_succ_eq_append_getElem i2, HT.out, e1, e2]
    case measure => simp [intOf]; omega
   ·have hlz : ¬ (k : Int) < (s.length : Int) := by omega
    have hd : decide (s = t) = true := decide_eq_true (by
     have := HT.out
     rw [List.take_of_length_le (by omega), List.take_of_length_le (by rw [← HL.out]; omega)] at this
     exact this)
    have HD := hide hd
    clear hd
    go_wp2
    go_ret
    exact ⟨ret_eq (bool_eq HD.out.symm), hb⟩
 ·have hne : ((s.length : Int) != (t.length : Int)) = true := by simp; omega
  have hd : decide (s = t) = false := decide_eq_false fun e => hl (by rw [e])
  rw [hd]
  clear hl hd
  go_wp2
  go_ret
  exact ⟨rfl, Below.refl _ _⟩
end Go.Proofs.YtdfpbhlnlkjjlaaGreat

/- region.made: the region of a list of valid rectangles. -/
namespace Go.Proofs.YtdfpbhlnlkjjlaaGreat
open Go.RowKit
set_option linter.unusedVariables false
set_option linter.unusedSimpArgs false
attribute [local go_sem] Oper.semAt_some
def RegRet (B : Nat) (x : List R4 × Int) (e : Ending) (w' : World) : Prop :=
 ∃ A c, e = .returned (.tuple #[.slice A x.1.length c, .int .i64 x.2]) ∧ w'.ownsRow B 49 4 (.slice A x.1.length c) x.1.length (x.1.flatMap encR)
theorem BW.below {bb Bo : Nat} {S : List Slab} {last : List Sp} {first : Nat} {e : Int} {A B : World} (h : BW bb Bo S last first e A) (hb : Below A.heap.size A B) : BW bb Bo S last first e B := by
 have hbs : bb < A.heap.size := Nat.lt_of_lt_of_le h.low h.size
 have hc : ∀ o, B.cell? ⟨bb, o, none⟩ = A.cell? ⟨bb, o, none⟩ := fun o => hb.cell (p := ⟨bb, o, none⟩) hbs
 have hf : ∀ o, B.frozen? ⟨bb, o, none⟩ = A.frozen? ⟨bb, o, none⟩ := fun o => hb.frozen (p := ⟨bb, o, none⟩) hbs
 obtain ⟨vo, o1, o2⟩ := h.out
 obtain ⟨vl, l1, l2⟩ := h.la
 exact ⟨h.low, Nat.le_trans h.size hb.size, ⟨vo, (hc 0).trans o1, own_below o2 hb⟩, ⟨vl, (hc 1).trans l1, own_below l2 hb⟩, (hc 2).trans h.fi, (hc 3).trans h.en, fun j => (hf j).trans (h.fz j), h.inv⟩
theorem BW.putObj {bb Bo : Nat} {S : List Slab} {last : List Sp} {first : Nat} {e : Int} {A : World} (h : BW bb Bo S last first e A) {l : Nat} {o o' : Obj} (hl : A.heap[l]? = some o) (ho : o.isCells = false) (ho' : o'.isCells = false) : BW bb Bo S last first e (A.putObj l o') := by
 have hc := cell_putObj (o' := o') hl ho ho'
 obtain ⟨vo, o1, o2⟩ := h.out
 obtain ⟨vl, l1, l2⟩ := h.la
 exact ⟨h.low, by simpa using h.size, ⟨vo, (hc _).1.trans o1, own_putObj o2 hl ho⟩, ⟨vl, (hc _).1.trans l1, own_putObj l2 hl ho⟩, (hc _).1.trans h.fi, (hc _).1.trans h.en, fun j => (hc _).2.trans (h.fz j), h.inv⟩
theorem KpX.below {bb n : Nat} {A B : World} (hn : n ≤ A.heap.size) (hb : Below A.heap.size A B) : KpX bb n A B := ⟨hb.size, fun b o h _ => hb.cell (p := ⟨b, o, none⟩) (by show b < _; omega)⟩
theorem KeepsFrom.of_below' {n : Nat} {A B : World} (hb : Below A.heap.size A B) : KeepsFrom n A B := (keeps_below hb).from n
theorem BW.grown {bb Bo : Nat} {S : List Slab} {last : List Sp} {first : Nat} {e : Int} {A B : World} (h : BW bb Bo S last first e A) {l : Nat} {o : Obj} (hg : A.grownBy B (some l)) (hl : A.heap[l]? = some o) (ho : o.isCells = false) : BW bb Bo S last first e B := by
 have hbs : bb < A.heap.size := Nat.lt_of_lt_of_le h.low h.size
 have hne : bb ≠ l := by
  rintro rfl
  obtain ⟨ob, h1, h2⟩ := cells_of_cell h.fi
  rw [hl] at h1
  injection h1 with h1
  subst h1
  rw [ho] at h2; cases h2
 have hbk := hg.block bb hbs (fun e => by injection e with e; exact hne e)
 have hc : ∀ o, B.cell? ⟨bb, o, none⟩ = A.cell? ⟨bb, o, none⟩ := fun o => World.cell?_of_block (w := A) hbk
 have hf : ∀ o, B.frozen? ⟨bb, o, none⟩ = A.frozen? ⟨bb, o, none⟩ := fun o => World.frozen?_of_block (w := A) hbk
 have key : ∀ {t size v n xs}, A.ownsRow Bo t size v n xs → B.ownsRow Bo t size v n xs := fun {t size v n xs} hw => hw.kept hg (by
  right
  intro e
  have := own_cells hw l o e hl
  rw [ho] at this; cases this)
 obtain ⟨vo, o1, o2⟩ := h.out
 obtain ⟨vl, l1, l2⟩ := h.la
 exact ⟨h.low, Nat.le_trans h.size hg.size, ⟨vo, (hc 0).trans o1, key o2⟩, ⟨vl, (hc 1).trans l1, key l2⟩, (hc 2).trans h.fi, (hc 3).trans h.en, fun j => (hf j).trans (h.fz j), h.inv⟩
structure MI (bb Bo : Nat) (g : Int → List Sp) (m : Nat) (w : World) (pre : List (Int × Int)) (W : World) : Prop where
 bw : ∃ last first e, BW bb Bo (swp g pre) last first e W ∧ last.length ≤ m ∧ (pre = [] ∨ ∃ p, pre.getLast? = some p ∧ e = p.2)
 low : Below w.heap.size w W
theorem MI.below {bb Bo : Nat} {g : Int → List Sp} {m : Nat} {w : World} {pre : List (Int × Int)} {A B : World} (h : MI bb Bo g m w pre A) (hb : Below A.heap.size A B) : MI bb Bo g m w pre B := by
 obtain ⟨last, first, e, h1, h2, h3⟩ := h.bw
 exact ⟨⟨last, first, e, h1.below hb, h2, h3⟩, h.low.trans (hb.mono h.low.size)⟩
theorem MI.putObj {bb Bo : Nat} {g : Int → List Sp} {m : Nat} {w : World} {pre : List (Int × Int)} {A : World} (h : MI bb Bo g m w pre A) {l : Nat} {o o' : Obj} (hw : w.heap.size ≤ l) (hl : A.heap[l]? = some o) (ho : o.isCells = false) (ho' : o'.isCells = false) : MI bb Bo g m w pre (A.putObj l o') := by
 obtain ⟨last, first, e, h1, h2, h3⟩ := h.bw
 exact ⟨⟨last, first, e, h1.putObj hl ho ho', h2, h3⟩, below_putObj h.low hw _⟩
theorem MI.grown {bb Bo : Nat} {g : Int → List Sp} {m : Nat} {w : World} {pre : List (Int × Int)} {A B : World} (h : MI bb Bo g m w pre A) {l : Nat} {o : Obj} (hw : w.heap.size ≤ l) (hg : A.grownBy B (some l)) (hl : A.heap[l]? = some o) (ho : o.isCells = false) : MI bb Bo g m w pre B := by
 obtain ⟨last, first, e, h1, h2, h3⟩ := h.bw
 exact ⟨⟨last, first, e, h1.grown hg hl ho, h2, h3⟩, h.low.grown hg h.low.size (fun k hk => by injection hk with hk; omega)⟩
set_option maxRecDepth 100000 in
set_option maxHeartbeats 4000000 in
theorem made_any {l : List R4} {v : Value} {w : World} (hr : RdK encR 4 w w.heap.size v l) (hl : l.length ≤ 400) (hv : ∀ r ∈ l, valid4 r) :
  Calls Tryz.prog 43 #[v] w fun e w' => RegRet w.heap.size (madeF l) e w' ∧ Below w.heap.size w w' := by
 have hwf : ∀ r ∈ l, wf4 r := fun r h => ⟨(hv r h).1, (hv r h).2.1⟩
 have hcl : (List.flatMap cutsL [l]).length ≤ 100000000 := by simp [cutsL_len]; omega
 have hcs := cutsOf_ok (List.flatMap cutsL [l])
 have hcn := cutsOf_len (List.flatMap cutsL [l])
 have hfin := swp_join (h := hFst) rfl hwf (b := []) (by simp) hcs.1 (fun c hc => (hcs.2 c).2 (by simpa using hc)) (by simp [cutsL])
 have hgl : ∀ c, (sjoin hFst (crossL l c) (crossL [] c)).length ≤ 1000 := by
  intro c
  have h1 := sjoin_len hFst (crossL l c) (crossL [] c)
  have h2 := crossL_len l c
  have h3 : (crossL [] c).length = 0 := rfl
  omega
 have hslab : ∀ (W : World) (L : Nat), L < W.heap.size → (∃ v, W.cell? ⟨L, 0, none⟩ = some v ∧ RdK encR 4 W W.heap.size v l) → _ := fun W L h1 h2 =>
  slabsA_any [l] L 1 W h1 (fun k l' hk => by
   have : k = 0 ∧ l = l' := by
    cases k with
    | zero => simpa using hk
    | succ k => simp at hk
   obtain ⟨rfl, rfl⟩ := this
   exact h2) hcl (by simp)
 simp only [List.length_singleton] at hslab
 generalize hcsd : cutsOf (List.flatMap cutsL [l]) = cs at *
 clear hcsd
 have HR := hide hr
 have HV := hide hv
 have HS := hide hslab
 have HF := hide hfin
 have HG := hide hgl
 have HC := hide hcs
 clear hr hv hslab hfin hgl hcs hwf
 obtain ⟨A0, c0, hv0, _⟩ := HR.out
 subst hv0
 refine (callsIn_wide (n := 0)).1 ?_
 refine callsIn_of_wp_marks Tryz.func43 rfl trivial ?_
 simp only [Tryz.ntmps43, List.size_toArray, List.length_cons, List.length_nil, Nat.reduceAdd, Nat.reduceSub, Array.replicate_succ, Array.replicate_zero, List.push_toArray, List.append_toArray, List.nil_append, List.cons_append]
 refine wpIn_wide.2 ?_
 go_wp2_with (fail)
 have hb1 : Below w.heap.size w ((w.alloc (.cells #[.slice none 0 0, .slice none 0 0, .int .i64 0, .int .i64 0] 114)).alloc (.cells #[.slice A0 l.length c0] 22)) := ((Below.refl _ _).alloc (Nat.le_refl _) _).alloc (by simp) _
 have hL1 : ((w.alloc (.cells #[.slice none 0 0, .slice none 0 0, .int .i64 0, .int .i64 0] 114)).alloc (.cells #[.slice A0 l.length c0] 22)).cell? ⟨w.heap.size + 1, 0, none⟩ = some (.slice A0 l.length c0) := by simp [go_sem]
 have hs := HS.out ((w.alloc (.cells #[.slice none 0 0, .slice none 0 0, .int .i64 0, .int .i64 0] 114)).alloc (.cells #[.slice A0 l.length c0] 22)) (w.heap.size + 1) (by simp) ⟨_, hL1, (HR.out.below hb1).mono hb1.size⟩
 simp only [World.size_alloc, Nat.add_assoc, Nat.reduceAdd] at hs
 have hbc : ∀ j u, (#[Value.slice none 0 0, .slice none 0 0, .int .i64 0, .int .i64 0] : Array Value)[j]? = some u → ((w.alloc (.cells #[.slice none 0 0, .slice none 0 0, .int .i64 0, .int .i64 0] 114)).alloc (.cells #[.slice A0 l.length c0] 22)).cell? ⟨w.heap.size, j, none⟩ = some u := by
  intro j u hj
  refine (World.cell?_alloc_lt (w.alloc _) _ ⟨w.heap.size, j, none⟩ (by simp)).trans ?_
  have := news_new w [Value.slice none 0 0, .slice none 0 0, .int .i64 0, .int .i64 0] 114 w.heap.size rfl j u (by simpa using hj)
  rwa [addr_add] at this
 refine hs.mono ?_
 clear hs
 rintro e wS ⟨vc, rfl, hbl, hbc2, hown, hbS⟩
 have hsz1 : ((w.alloc (.cells #[.slice none 0 0, .slice none 0 0, .int .i64 0, .int .i64 0] 114)).alloc (.cells #[.slice A0 l.length c0] 22)).heap.size = w.heap.size + 2 := by simp
 have hz1 : ∀ j, ((w.alloc (.cells #[.slice none 0 0, .slice none 0 0, .int .i64 0, .int .i64 0] 114)).alloc (.cells #[.slice A0 l.length c0] 22)).frozen? ⟨w.heap.size, j, none⟩ = false := fun j => by simp [go_sem]
 go_wp2_with (fail)
 obtain ⟨w1, hw1⟩ : ∃ w1, (w.alloc (.cells #[.slice none 0 0, .slice none 0 0, .int .i64 0, .int .i64 0] 114)).alloc (.cells #[.slice A0 l.length c0] 22) = w1 := ⟨_, rfl⟩
 rw [hw1] at hb1 hL1 hbc hbS hsz1 hz1
 clear hw1
 have hcsz := hbS.size
 obtain ⟨Ac, cc, hvc⟩ := own_form hown
 subst hvc
 have hbS2 : Below (w.heap.size + 2) w1 wS := hbS.mono (by omega)
 have hlow : Below w.heap.size w wS := hb1.trans (hbS.mono (by omega))
 have kS : ∀ j, wS.cell? ⟨w.heap.size, j, none⟩ = w1.cell? ⟨w.heap.size, j, none⟩ := fun j => hbS2.cell (p := ⟨w.heap.size, j, none⟩) (by show w.heap.size < _; omega)
 have zS : ∀ j, wS.frozen? ⟨w.heap.size, j, none⟩ = w1.frozen? ⟨w.heap.size, j, none⟩ := fun j => hbS2.frozen (p := ⟨w.heap.size, j, none⟩) (by show w.heap.size < _; omega)
 have hbw0 : BW w.heap.size wS.heap.size (swp (fun c => sjoin hFst (crossL l c) (crossL [] c)) []) [] 0 0 wS :=
  ⟨by omega, Nat.le_refl _, ⟨_, (kS 0).trans (hbc 0 _ rfl), World.ownsRow_nil _ _ _ _⟩, ⟨_, (kS 1).trans (hbc 1 _ rfl), World.ownsRow_nil _ _ _ _⟩, (kS 2).trans (hbc 2 _ rfl), (kS 3).trans (hbc 3 _ rfl), fun j => (zS j).trans (hz1 j), BInv.start⟩
 have hL1S := (hbS2.cell (p := ⟨w.heap.size + 1, 0, none⟩) (by show w.heap.size + 1 < _; omega)).trans hL1
 have hit := slabsItA [l] cs (w.heap.size + 3) (w.heap.size + 2) (w.heap.size + 1) 1 cc w.heap.size (w.heap.size + 4) Ac wS (lt_of_cell hbl) (lt_of_cell hbc2) (by omega) (by omega) (by omega) (by omega) (by omega) (by omega)
  hbl hbc2 hown (fun k l' hk => by
   have : k = 0 ∧ l = l' := by
    cases k with
    | zero => simpa using hk
    | succ k => simp at hk
   obtain ⟨rfl, rfl⟩ := this
   exact ⟨by omega, _, hL1S, (HR.out.below (hb1.trans (hbS.mono (by omega))))⟩) (by simp) (by simp [cutsL_len] at hcn hcl; omega)
 have hws : w.heap.size + 4 ≤ wS.heap.size := lt_of_cell hbc2
 have hI0 : MI w.heap.size wS.heap.size (fun c => sjoin hFst (crossL l c) (crossL [] c)) 1000 w [] wS := ⟨⟨[], 0, 0, hbw0, by simp, .inl rfl⟩, hlow⟩
 clear hb1 hL1 hbc hbS hsz1 hz1 hcsz hbS2 hlow kS zS hbw0 hL1S hbl hbc2 hown
 refine (wpIn_wide (n := 0)).1 ?_
 refine wp_range rfl (enters_of Tryz.func109 (by kernel_rfl) rfl) hit (Below.refl _ _) (fun x args A hx => by obtain ⟨Rw, rfl, _⟩ := hx; rfl) KpX.trans ?_
  (MI w.heap.size wS.heap.size (fun c => sjoin hFst (crossL l c) (crossL [] c)) 1000 w) (fun _ _ => False) (fun pre A B h hb => h.below hb) (fun pre A l o o' h hw hl ho ho' => h.putObj (by omega) hl ho ho') (fun _ _ _ _ _ h => h.elim) hI0 ?_ ?_ (fun _ _ _ _ h => h.elim)
 ·intro A l o o' _ h1 h2 h3
  exact ⟨by simp, fun b off _ _ => (cell_putObj h1 h2 h3 _).1⟩
 ·rintro l2 pre ⟨c, d⟩ args A hMI ⟨post, hpost⟩ ⟨Rw, rfl, hRw, hrows⟩ hl1 ⟨ol, hl2, hl3⟩
  have hll : l2 < A.heap.size := (Array.getElem?_eq_some_iff.1 hl2).1
  obtain ⟨vx, hx1, hx2⟩ := hrows 0 l rfl
  have hlo := hMI.low.size
  have hBoA : wS.heap.size ≤ A.heap.size := by obtain ⟨_, _, _, h1, _⟩ := hMI.bw; exact h1.size
  have hM := hide hMI
  have HX1 := hide hx1
  have HX2 := hide hx2
  have HL2 := hide hl2
  have HP := hide hpost
  clear hMI hrows hx1 hx2 hit hI0 hl2 hpost
  simp only [List.length_singleton]
  gi_wp2
  refine ⟨KeepsFrom.of_below' ((Below.refl _ _).alloc (Nat.le_refl _) _), KpX.below hBoA ((Below.refl _ _).alloc (Nat.le_refl _) _), ?_⟩
  intro A2 g2 s2 e2 f2
  have c20 : A2.cell? ⟨A.heap.size, 0, none⟩ = some (.int .i64 c) := (e2 _).trans (by simp [go_sem])
  have c21 : A2.cell? ⟨A.heap.size, 1, none⟩ = some (.int .i64 d) := (e2 _).trans (by simp [go_sem])
  have c22 : A2.cell? ⟨A.heap.size, 2, none⟩ = some (.slice (some ⟨Rw, 0, none⟩) 1 1) := (e2 _).trans (by simp [go_sem])
  have s3 : A2.heap.size = A.heap.size + 1 := by rw [s2]; simp
  have cRw : A2.cell? ⟨Rw, 0, none⟩ = some vx := (e2 _).trans ((World.cell?_alloc_lt A _ ⟨Rw, 0, none⟩ hRw).trans HX1.out)
  have rd : RdK encS 2 A2 A2.heap.size vx (crossL l c) := (HX2.out.keep fun b o hb => (e2 _).trans (World.cell?_alloc_lt A _ ⟨b, o, none⟩ hb)).mono (by omega)
  have M2 := (hM.out.below ((Below.refl _ _).alloc (Nat.le_refl _) (.cells #[.int .i64 c, .int .i64 d, .slice (some ⟨Rw, 0, none⟩) 1 1] 119))).grown (by omega) g2 ((Below.heap_alloc _ _ _ hll).trans HL2.out) hl3
  have hmk := spanMake_ok rd (Nat.le_trans (crossL_len l c) hl) (fun p hp => by
   obtain ⟨r, hr, rfl⟩ := List.mem_map.1 hp
   have hvr := HV.out r (List.mem_filter.1 hr).1
   exact ⟨hvr.2.1, hvr.2.2.2.2.1.1, hvr.2.2.2.2.2.2⟩)
  obtain ⟨last, first, e, B2, q1, q2⟩ := M2.bw
  have hprs := HP.out
  have hlt := prs_lt cs HC.out.1 (c, d) (by rw [hprs]; simp)
  have hnx := prs_next cs pre (c, d) post hprs
  have hplen : pre.length ≤ 800 := by
   have h1 := prs_len cs
   rw [hprs] at h1
   simp [cutsL_len] at h1 hcn
   omega
  have hfl := swp_len (fun c => sjoin hFst (crossL l c) (crossL [] c)) 1000 HG.out pre
  have hsl := HG.out c
  have hef : swp (fun c => sjoin hFst (crossL l c) (crossL [] c)) pre = [] ∨ e ≤ c := by
   rcases q2 with rfl | ⟨p, hp, rfl⟩
   ·exact .inl rfl
   ·exact .inr (by rw [hnx p hp]; exact Int.le_refl _)
  have hadd : ∀ (A3 : World) (Am : Option Addr) (cm : Nat), Below A2.heap.size A2 A3 → A3.ownsRow A2.heap.size 104 2 (.slice Am (sjoin hFst (crossL l c) []).length cm) (sjoin hFst (crossL l c) []).length ((sjoin hFst (crossL l c) []).flatMap encS) → _ := fun A3 Am cm hb ho =>
   add_any (s := sjoin hFst (crossL l c) []) (f := c) (t := d) (B2.below hb) (own_base ho (by omega)) (by omega) (Nat.le_trans hsl (by omega)) (by omega) hef hlt.1
  have HA := hide hadd
  have HB2 := hide B2
  have HM2 := hide M2.low
  have HR2 := hide rd
  have HN := hide hnx
  clear g2 s2 e2 f2 M2 B2 hadd rd hlt hnx hef hprs q2
  obtain ⟨av, cv, hvx, _⟩ := HR2.out
  subst hvx
  gi_wp2_with (first
   | (refine ⟨trivial, rfl, ?_⟩)
   | (gi_at_call 76; refine (CallsIn.inRound l2 (callsIn_wide.2 hmk)).mono ?_; rintro e' A3 ⟨Am, cm, rfl, ho3, hb3⟩; have d0 := (hb3.cell (p := ⟨A.heap.size, 0, none⟩) (by show A.heap.size < _; omega)).trans c20; have d1 := (hb3.cell (p := ⟨A.heap.size, 1, none⟩) (by show A.heap.size < _; omega)).trans c21; have hadd := HA.out A3 Am cm hb3 ho3; have HO3 := hide ho3; have HB3 := hide hb3; clear ho3 hb3 c20 c21 c22 cRw hmk)
   | (gi_at_call 77; refine (CallsIn.inRound l2 (callsIn_wide.2 hadd)).mono ?_; rintro e' A4 ⟨rfl, first', hbw4, hb4, hblk4, hk4⟩))
  have hb3 := HB3.out
  refine ⟨(KeepsFrom.of_below' hb3).trans (hk4.from _), (KpX.below (by omega) hb3).trans ⟨hk4.size, fun b o h1 h2 => World.cell?_of_block (w := A3) (hblk4 b h1 h2)⟩, ⟨_, first', d, by rw [swp_snoc]; exact hbw4, hsl, .inr ⟨(c, d), by simp, rfl⟩⟩, ?_⟩
  exact (HM2.out.trans (hb3.mono (by omega))).trans hb4
 ·rintro D W hD hMI hK
  obtain ⟨last, first, e, hB, _, _⟩ := hMI.bw
  have hplen : (prs cs).length ≤ 800 := by
   have h1 := prs_len cs
   simp [cutsL_len] at hcn
   omega
  have hfl := swp_len (fun c => sjoin hFst (crossL l c) (crossL [] c)) 1000 HG.out (prs cs)
  have hres := result_any hB (by omega)
  rw [HF.out] at hres
  have hws2 := hB.size
  have HM := hide hMI.low
  have HK := hide hK
  have hD2 : D < W.heap.size := (Array.getElem?_eq_some_iff.1 hK).1
  clear hB hMI hfl hit hI0 hK
  simp only [Exit.inBlock, Exit.then]
  by_cases h4 : 400 < (rjoin hFst l []).length
  ·have hm : madeF l = ([], 4) := if_pos h4
   have HMF := hide hm
   clear hm
   go_wp2_with (go_at_call 78; refine hres.mono ?_; rintro e' w' ⟨rfl, hq⟩; obtain rfl : e' = .returned (.tuple #[.slice none 0 0, .int .i64 4]) := hq.elim (fun q => q.2) (fun q => absurd q.1 (by omega)); clear hq)
   refine ⟨by simp, .inl ⟨_, _, rfl, run_takeDeferred HK.out, ?_⟩⟩
   refine ⟨_, results_tmp2 rfl _ _ _, ⟨none, 0, by rw [HMF.out]; rfl, by rw [HMF.out]; exact World.ownsRow_nil _ _ _ _⟩, below_putObj HM.out (by omega) _⟩
  ·have hm : madeF l = (rjoin hFst l [], 0) := if_neg h4
   have HMF := hide hm
   clear hm
   generalize rjoin hFst l [] = R at *
   go_wp2_with (go_at_call 78; refine hres.mono ?_; rintro e' w' ⟨rfl, hq⟩; obtain ⟨Ar, cr, rfl, hor⟩ := hq.elim (fun q => absurd q.1 h4) (fun q => q.2); have HOR := hide hor; clear hq hor)
   refine ⟨by simp, .inl ⟨_, _, rfl, run_takeDeferred HK.out, ?_⟩⟩
   refine ⟨_, results_tmp2 rfl _ _ _, ⟨Ar, cr, by rw [HMF.out]; rfl, by rw [HMF.out]; exact own_base (own_putObj HOR.out HK.out rfl) (by omega)⟩, below_putObj HM.out (by omega) _⟩
end Go.Proofs.YtdfpbhlnlkjjlaaGreat

/- slices.Equal at Region: two lists are one. -/
namespace Go.Proofs.YtdfpbhlnlkjjlaaGreat
open Go.RowKit
set_option linter.unusedVariables false
set_option linter.unusedSimpArgs false
set_option maxHeartbeats 4000000 in
theorem eqRect_any {w : World} {vs vt : Value} {s t : List R4} {B C : Nat} (hs : RdK encR 4 w B vs s) (ht : RdK encR 4 w C vt t) (ns : s.length ≤ 100000000) (hB : B ≤ w.heap.size) (hC : C ≤ w.heap.size) :
  Calls Tryz.prog 57 #[vs, vt] w fun e w' => e = .returned (.bool (decide (s = t))) ∧ Below w.heap.size w w' := by
 obtain ⟨A1, c1, rfl, h1⟩ := hs
 obtain ⟨A2, c2, rfl, h2⟩ := ht
 have g : Tryz.prog.eqGuardType Tryz.prog.depth 49 = false := by kernel_rfl
 have H1 := hide h1
 have H2 := hide h2
 clear h1 h2
 go_enter Tryz.func57, Tryz.ntmps57
 by_cases hl : s.length = t.length
 ·have hne : ((s.length : Int) != (t.length : Int)) = false := by rw [hl]; simp
  have HL := hide hl
  clear hl
  go_wp2
  go_loopw [13] (fun i wr => ∃ k : Nat, k ≤ s.length ∧ i = .int .i64 k ∧ Hid (s.take k = t.take k) ∧ Below w.heap.size w wr) (fun i _ => s.length - (intOf i).toNat)
  case atStart => exact ⟨0, Nat.zero_le _, rfl, hide rfl, Below.refl _ _⟩
  case round =>
   obtain ⟨k, hk, rfl, HT, hb⟩ := hrel
   by_cases hlt : k < s.length
   ·obtain ⟨⟨a0, a1, a2, a3⟩, hp⟩ : ∃ p, s[k]? = some p := ⟨_, List.getElem?_eq_getElem hlt⟩
    have hlt2 : k < t.length := by rw [← HL.out]; exact hlt
    obtain ⟨⟨b0, b1, b2, b3⟩, hq⟩ : ∃ p, t[k]? = some p := ⟨_, List.getElem?_eq_getElem hlt2⟩
    obtain ⟨p1, o1, rfl, hp1, k1⟩ := H1.out (by intro e; rw [e] at hlt; simp at hlt)
    obtain ⟨p2, o2, rfl, hp2, k2⟩ := H2.out (by intro e; rw [e] at hlt2; simp at hlt2)
    have x0 : wr.cell? ⟨p1, o1 + k * 4, none⟩ = some (.int .i64 a0) := (hb.cell (p := ⟨p1, _, none⟩) (by show p1 < _; omega)).trans (k1 k _ hp 0 _ rfl)
    have y0 : wr.cell? ⟨p2, o2 + k * 4, none⟩ = some (.int .i64 b0) := (hb.cell (p := ⟨p2, _, none⟩) (by show p2 < _; omega)).trans (k2 k _ hq 0 _ rfl)
    have x1 : wr.cell? ⟨p1, o1 + k * 4 + 1, none⟩ = some (.int .i64 a1) := (hb.cell (p := ⟨p1, _, none⟩) (by show p1 < _; omega)).trans (k1 k _ hp 1 _ rfl)
    have y1 : wr.cell? ⟨p2, o2 + k * 4 + 1, none⟩ = some (.int .i64 b1) := (hb.cell (p := ⟨p2, _, none⟩) (by show p2 < _; omega)).trans (k2 k _ hq 1 _ rfl)
    have x2 : wr.cell? ⟨p1, o1 + k * 4 + 2, none⟩ = some (.int .i64 a2) := (hb.cell (p := ⟨p1, _, none⟩) (by show p1 < _; omega)).trans (k1 k _ hp 2 _ rfl)
    have y2 : wr.cell? ⟨p2, o2 + k * 4 + 2, none⟩ = some (.int .i64 b2) := (hb.cell (p := ⟨p2, _, none⟩) (by show p2 < _; omega)).trans (k2 k _ hq 2 _ rfl)
    have x3 : wr.cell? ⟨p1, o1 + k * 4 + 3, none⟩ = some (.int .i64 a3) := (hb.cell (p := ⟨p1, _, none⟩) (by show p1 < _; omega)).trans (k1 k _ hp 3 _ rfl)
    have y3 : wr.cell? ⟨p2, o2 + k * 4 + 3, none⟩ = some (.int .i64 b3) := (hb.cell (p := ⟨p2, _, none⟩) (by show p2 < _; omega)).trans (k2 k _ hq 3 _ rfl)
    have z1 : (k : Int) < (s.length : Int) := by omega
    have z2 : (k : Int) < (t.length : Int) := by omega
    have HP := hide hp
    have HQ := hide hq
    clear hp hq k1 k2
    by_cases e0 : a0 = b0
    rotate_left 1
    ·have hd : decide (s = t) = false := decide_eq_false fun e => by
      subst e
      have := HP.out.symm.trans HQ.out
      simp only [Option.some.injEq, R4.mk.injEq] at this
      omega
     have HD := hide hd
     clear hd
     go_wp2
     go_region
     go_wp2
     go_ret
     exact ⟨ret_eq (bool_eq HD.out.symm), hb.drew⟩
    by_cases e1 : a1 = b1
    rotate_left 1
    ·have hd : decide (s = t) = false := decide_eq_false fun e => by
      subst e
      have := HP.out.symm.trans HQ.out
      simp only [Option.some.injEq, R4.mk.injEq] at this
      omega
     have HD := hide hd
     clear hd
     subst e0
     go_wp2
     go_region
     go_wp2
     go_ret
     exact ⟨ret_eq (bool_eq HD.out.symm), hb.drew⟩
    by_cases e2 : a2 = b2
    rotate_left 1
    ·have hd : decide (s = t) = false := decide_eq_false fun e => by
      subst e
      have := HP.out.symm.trans HQ.out
      simp only [Option.some.injEq, R4.mk.injEq] at this
      omega
     have HD := hide hd
     clear hd
     subst e0
     subst e1
     go_wp2
     go_region
     go_wp2
     go_ret
     exact ⟨ret_eq (bool_eq HD.out.symm), hb.drew⟩
    by_cases e3 : a3 = b3
    rotate_left 1
    ·have hd : decide (s = t) = false := decide_eq_false fun e => by
      subst e
      have := HP.out.symm.trans HQ.out
      simp only [Option.some.injEq, R4.mk.injEq] at this
      omega
     have HD := hide hd
     clear hd
     subst e0
     subst e1
     subst e2
     go_wp2
     go_region
     go_wp2
     go_ret
     exact ⟨ret_eq (bool_eq HD.out.symm), hb.drew⟩
    subst e0
    subst e1
    subst e2
    subst e3
    go_wp2
    go_region
    go_wp2
    go_roundw
    case rel =>
     refine ⟨k + 1, by omega, by go_num, hide ?_, hb.drew⟩
     obtain ⟨i1, e1⟩ := List.getElem?_eq_some_iff.1 HP.out
     obtain ⟨i2, e2⟩ := List.getElem?_eq_some_iff.1 HQ.out
     rw [List.take_succ_eq_append_getElem i1, List.take_succ_eq_append_getElem i2, HT.out, e1, e2]
    case measure => simp [intOf]; omega
   ·have hlz : ¬ (k : Int) < (s.length : Int) := by omega
    have hd : decide (s = t) = true := decide_eq_true (by
     have := HT.out
     rw [List.take_of_length_le (by omega), List.take_of_length_le (by rw [← HL.out]; omega)] at this
     exact this)
    have HD := hide hd
    clear hd
    go_wp2
    go_ret
    exact ⟨ret_eq (bool_eq HD.out.symm), hb⟩
 ·have hne : ((s.length : Int) != (t.length : Int)) = true := by simp; omega
  have hd : decide (s = t) = false := decide_eq_false fun e => hl (by rw [e])
  rw [hd]
  clear hl hd
  go_wp2
  go_ret
  exact ⟨rfl, Below.refl _ _⟩
end Go.Proofs.YtdfpbhlnlkjjlaaGreat

/- slices.IndexFunc and slices.ContainsFunc at the program's structs. -/
namespace Go.Proofs.YtdfpbhlnlkjjlaaGreat
open Go.RowKit Go.Shelf
set_option linter.unusedVariables false
set_option linter.unusedSimpArgs false
end Go.Proofs.YtdfpbhlnlkjjlaaGreat

/- slices.IndexFunc and slices.ContainsFunc at the program's structs. -/
namespace Go.Proofs.YtdfpbhlnlkjjlaaGreat
open Go.RowKit Go.Shelf
set_option linter.unusedVariables false
set_option linter.unusedSimpArgs false
set_option maxHeartbeats 1000000 in
theorem cfReg_idx {w : World} {v : Value} {l : List R4} (h : RdK encR 4 w w.heap.size v l) (hl : l.length ≤ 1000000000) (g : Nat) (lb : Array Value) (p : R4 → Bool)
  (eg : ∀ args w, (callFunc g args).run Tryz.prog w = .ok (.enter g args) w)
  (hp : ∀ (W : World) (x : R4), x ∈ l → Below w.heap.size w W → Calls Tryz.prog g (#[.agg (encR x).toArray] ++ lb) W fun e w' => e = .returned (.bool (p x)) ∧ Below W.heap.size W w') :
  Calls Tryz.prog 92 #[v, .func (.func g) #[] lb] w fun e w' => e = .returned (.int .i64 (idxI p l)) ∧ Below w.heap.size w w' := by
 obtain ⟨A, c, rfl, hc⟩ := h
 go_enter Tryz.func92, Tryz.ntmps92
 go_wp2
 go_loopg [5, 8] l.length (fun gg _ s8 wr => ∃ kk : Nat, kk ≤ l.length ∧ l.length - kk ≤ gg ∧ s8 = .int .i64 kk ∧ Hid (Below w.heap.size w wr) ∧ Hid (∀ x ∈ l.take kk, p x = false))
 case atStart => exact ⟨0, Nat.zero_le _, by omega, rfl, hide (Below.refl _ w), hide (by simp)⟩
 case round =>
  obtain ⟨kk, hkk, hg, rfl, BW, A'⟩ := hrel
  by_cases hlt : kk < l.length
  ·have hltz : (kk : Int) < (l.length : Int) := by omega
   obtain ⟨b, off, rfl, hb, hcell⟩ := hc (by intro e; rw [e] at hlt; simp at hlt)
   have hx : l[kk]? = some l[kk] := List.getElem?_eq_getElem hlt
   have hcall := hp wr l[kk] (List.getElem_mem hlt) BW.out
   have hfi : l.take (kk + 1) = l.take kk ++ [l[kk]] := List.take_succ_eq_append_getElem hlt
   have c0 : wr.cell? ⟨b, off + kk * 4, none⟩ = some (.int .i64 l[kk].x0) := (BW.out.cell (p := ⟨b, off + kk * 4, none⟩) hb).trans (hcell kk _ hx 0 _ rfl)
   have c1 : wr.cell? ⟨b, off + kk * 4 + 1, none⟩ = some (.int .i64 l[kk].y0) := (BW.out.cell (p := ⟨b, off + kk * 4 + 1, none⟩) hb).trans (hcell kk _ hx 1 _ rfl)
   have c2 : wr.cell? ⟨b, off + kk * 4 + 2, none⟩ = some (.int .i64 l[kk].x1) := (BW.out.cell (p := ⟨b, off + kk * 4 + 2, none⟩) hb).trans (hcell kk _ hx 2 _ rfl)
   have c3 : wr.cell? ⟨b, off + kk * 4 + 3, none⟩ = some (.int .i64 l[kk].y1) := (BW.out.cell (p := ⟨b, off + kk * 4 + 3, none⟩) hb).trans (hcell kk _ hx 3 _ rfl)
   clear hc hcell hp
   obtain ⟨x, hxe⟩ : ∃ x, l[kk] = x := ⟨_, rfl⟩
   have XE := hide hxe
   have FI := hide hfi
   rw [hxe] at hcall c0 c1 c2 c3
   clear hx hxe hfi
   cases hq : p x with
   | true =>
    have HQ := hide hq
    rw [hq] at hcall
    clear hq
    go_wp2_with (go_at_fn g; refine hcall.mono ?_; rintro e w' ⟨rfl, hb'⟩)
    go_ret
    refine ⟨ret_eq (int_eq ?_), BW.out.trans (hb'.mono BW.out.size)⟩
    have hxl : p l[kk] = true := by rw [XE.out]; exact HQ.out
    unfold idxI
    rw [if_pos (List.any_eq_true.2 ⟨l[kk], List.getElem_mem hlt, hxl⟩)]
    have : l.findIdx p = kk := by
     rw [List.findIdx_eq hlt]
     refine ⟨hxl, fun j hj => ?_⟩
     have := A'.out l[j] (by rw [List.mem_take_iff_getElem]; exact ⟨j, by omega, rfl⟩)
     simpa using this
    rw [this]
   | false =>
    have HQ := hide hq
    rw [hq] at hcall
    clear hq
    go_wp2_with (go_at_fn g; refine hcall.mono ?_; rintro e w' ⟨rfl, hb'⟩)
    go_roundg (l.length - (kk + 1))
    case measure => omega
    case rel =>
     refine ⟨kk + 1, by omega, by omega, by go_num, hide (BW.out.trans (hb'.mono BW.out.size)), hide fun y hy => ?_⟩
     rw [FI.out, List.mem_append] at hy
     rcases hy with hy | hy
     ·exact A'.out y hy
     ·simp only [List.mem_singleton] at hy
      rw [hy, XE.out]; exact HQ.out
  ·have hltz : ¬ (kk : Int) < (l.length : Int) := by omega
   have hk : kk = l.length := by omega
   go_wp2
   go_ret
   refine ⟨ret_eq (int_eq ?_), BW.out⟩
   have hA := A'.out
   rw [hk, List.take_length] at hA
   unfold idxI
   rw [if_neg (by rw [List.any_eq_true]; rintro ⟨y, hy, hpy⟩; rw [hA y hy] at hpy; cases hpy)]
set_option maxHeartbeats 400000 in
theorem cfReg_any {w : World} {v : Value} {l : List R4} (h : RdK encR 4 w w.heap.size v l) (hl : l.length ≤ 1000000000) (g : Nat) (lb : Array Value) (p : R4 → Bool)
  (eg : ∀ args w, (callFunc g args).run Tryz.prog w = .ok (.enter g args) w)
  (hp : ∀ (W : World) (x : R4), x ∈ l → Below w.heap.size w W → Calls Tryz.prog g (#[.agg (encR x).toArray] ++ lb) W fun e w' => e = .returned (.bool (p x)) ∧ Below W.heap.size W w') :
  Calls Tryz.prog 54 #[v, .func (.func g) #[] lb] w fun e w' => e = .returned (.bool (l.any p)) ∧ Below w.heap.size w w' := by
 have hi := cfReg_idx h hl g lb p eg hp
 obtain ⟨A, c, rfl, hc⟩ := h
 clear hp hc eg
 cases ha : l.any p with
 | true =>
  simp only [idxI, ha, if_true] at hi
  clear ha
  obtain ⟨n, hn⟩ : ∃ n, l.findIdx p = n := ⟨_, rfl⟩
  rw [hn] at hi
  clear hn
  have hn0 : decide ((0 : Int) ≤ (n : Int)) = true := by simp
  go_enter Tryz.func54, Tryz.ntmps54
  go_wp2_with (go_at_call 92; refine hi.mono ?_; rintro e w1 ⟨rfl, hb1⟩)
  go_ret
  exact ⟨rfl, hb1⟩
 | false =>
  simp only [idxI, ha, Bool.false_eq_true, if_false] at hi
  clear ha
  go_enter Tryz.func54, Tryz.ntmps54
  go_wp2_with (go_at_call 92; refine hi.mono ?_; rintro e w1 ⟨rfl, hb1⟩)
  go_ret
  exact ⟨rfl, hb1⟩
end Go.Proofs.YtdfpbhlnlkjjlaaGreat
