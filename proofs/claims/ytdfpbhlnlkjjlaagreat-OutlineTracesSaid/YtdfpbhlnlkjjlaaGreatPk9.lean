/- Texts laid together: OudB, OueE, OueF, OueG, OutY, OumA. Lemmas for the statements of this seat; no condition. -/
import Derived.Test.YtdfpbhlnlkjjlaaGreatPk8
import Derived.Test.YtdfpbhlnlkjjlaaGreatPk7
import Derived.Test.YtdfpbhlnlkjjlaaGreatPk6
import Derived.Test.YtdfpbhlnlkjjlaaGreatPk4
import Derived.Deep.QuietTactic
import Derived.BigQuiet
import Derived.StillTactics
import Derived.Deep.CutBlock
import Derived.Maps.OwnSet
import Derived.DeepKeys4

/- Outlines: slices.Grow and Concat at points; turned. -/
namespace Go.Proofs.YtdfpbhlnlkjjlaaGreat
open Go.RowKit
set_option linter.unusedVariables false
set_option linter.unusedSimpArgs false
theorem run_append_zeros {P : Program} (w : World) (t q ty e : TypeId) (i : TypeInfo) (z : Value) (kd : IntKind) (ht : P.underlying t = some (.slice e)) (hq : P.underlying q = some (.int kd)) (hi : P.info? e = some i) (hz : i.zero = some z)
  (n : Nat) (h0 : 0 < n) (h63 : n ≤ 1000000) (hs : 0 < i.size) (hb : i.bytes ≤ 1000000) :
  (Builtin.append_ #[t, q] ty #[.slice none 0 0, .int .i64 n]).run P w =
   .ok (.slice (some ⟨w.heap.size, 0, none⟩) n (grownCap w n 0 e)) (w.drew.alloc (.cells (Builtin.zeroCells z.cells n ++ Builtin.zeroCells z.cells (grownCap w n 0 e - n)) e)) := by
 have hn : n ≠ 0 := by omega
 have hw : IntKind.i64.wrap (n : Int) = n := by simp [IntKind.wrap, IntKind.bits, IntKind.signed]; omega
 have h63' : ¬ (9223372036854775807 < (n : Int)) := by omega
 have hmul : n * i.bytes ≤ 1000000 * 1000000 := Nat.mul_le_mul h63 hb
 have hmz : (n : Int) * (i.bytes : Int) ≤ 1000000000000 := by
  have : ((n * i.bytes : Nat) : Int) ≤ ((1000000 * 1000000 : Nat) : Int) := by exact_mod_cast hmul
  simpa using this
 have h48 : ¬ (281474976710656 < (n : Int) * (i.bytes : Int)) := by omega
 have h48' : ¬ (281474976710656 < Builtin.nextslicecap n 0 * i.bytes) := by rw [nextslicecap_zero h0]; omega
 have hns : ¬ (n = 0 ∨ i.size = 0) := by omega
 have hneg : ¬ ((n : Int) < 0) := by omega
 simp [Builtin.append_, run_underlying ht, run_underlying hq, sizeOf, typeInfo, zeroValue, hi, hz, Builtin.lenOf, hn, hw, hneg, h48, h63', h48', hns, Question.forced, run_firstCells_none, newRow, grownCap, asInt, asIntOf]
 intro h
 have := Nat.mul_pos h0 hs
 omega
theorem wpList_app_zeros {P : Program} {w : World} {ops : Array Oper} {rest : List Oper} {o : Oper} {a : Act} {Q : Exit → Act → World → Prop} (hgd : o.guard = none) (s x : Operand) (t q : TypeId)
  (ho : o.op = .call { callee := .builtin .append, args := #[s, x], argTypes := #[t, q] }) (e : TypeId) (i : TypeInfo) (z : Value) (kd : IntKind) (k : Nat) (ht : P.underlying t = some (.slice e)) (hq : P.underlying q = some (.int kd)) (hi : P.info? e = some i) (hz : i.zero = some z)
  (hs : i.size = k) (hk : 0 < k) (hzs : z.cells.size = k) (hb : i.bytes ≤ 1000000) (n : Nat) (h0 : 0 < n) (h63 : n ≤ 1000000) (es : a.eval s = .slice none 0 0) (ex : a.eval x = .int .i64 n)
  (h : ∀ (g cap : Nat) (w' : World), w'.ownsRow w.heap.size e k (.slice (some ⟨g, 0, none⟩) 0 cap) 0 [] → Below w.heap.size w w' → n ≤ cap → g = w.heap.size → wpList P ops Q rest (a.put o.dst (.slice (some ⟨g, 0, none⟩) n cap)) w') : wpList P ops Q (o :: rest) a w := by
 refine wpList_plain hgd fun K' hK' => ?_
 have hrun := run_append_zeros (P := P) w t q o.type e i z kd ht hq hi hz n h0 h63 (by omega) hb
 have hge := grownCap_ge w n 0 e
 have hcm : grownCap w n 0 e ≤ maxLen := grownCap_le_maxLen w n 0 e (by unfold maxLen; omega)
 unfold Oper.wp execOp
 simp only [ho, resolve, invoke, builtin, Sem.run_bind, Sem.run_pure, Result.andThen_ok, List.map_toArray, List.map_cons, List.map_nil, es, ex, hrun]
 refine hK' _ _ (h w.heap.size _ _ (World.ownsRow_made w.drew _ _ (Nat.le_refl _) hcm ?_) ((Below.refl _ _).drew.alloc (Nat.le_refl _) _) hge rfl)
 simp only [Array.size_append, size_zeroCells, hzs, ← Nat.add_mul]
 congr 1
 omega
set_option maxHeartbeats 4000000 in
theorem growPt_any {w : World} (n : Nat) (h0 : 0 < n) (hn : n ≤ 1000000) :
  Calls Tryz.prog 97 #[.slice none 0 0, .int .i64 n] w fun e w' => ∃ g cap, e = .returned (.slice (some ⟨g, 0, none⟩) 0 cap) ∧ w'.ownsRow w.heap.size 53 2 (.slice (some ⟨g, 0, none⟩) 0 cap) 0 [] ∧ Below w.heap.size w w' := by
 obtain ⟨i1, gi, gz0, gz1, gz2⟩ := info_parts infoPtO
 have z1 : ¬ (n : Int) < 0 := by omega
 have z2 : (n : Int) > 0 := by omega
 have zn : IntKind.i64.wrap (n : Int) = n := by simp [IntKind.wrap, IntKind.bits, IntKind.signed]; omega
 go_enter Tryz.func97, Tryz.ntmps97
 go_wp2_with (at_builtin; go_loud (refine wpList_app_zeros rfl (.tmp 20) (.tmp 21) 36 3 rfl 53 i1 (.agg #[.int .i64 0, .int .i64 0]) .i64 2 Tryz.underlying36 Tryz.underlying3 gi gz0 gz1 (by decide) (by decide) (by omega) n h0 hn rfl rfl ?_))
 intro g cap w1 ho hb hc hg
 subst hg
 have HO := hide ho
 have HB := hide hb
 have hcz : (0 : Int) ≤ (cap : Int) := by omega
 clear ho hb
 go_wp2
 go_ret
 exact ⟨w.heap.size, cap, rfl, HO.out, HB.out⟩
def sumL (L : List (List Pt)) : Nat := (L.map List.length).sum
theorem sumL_take {L : List (List Pt)} {k : Nat} {l : List Pt} (h : L[k]? = some l) : sumL (L.take (k + 1)) = sumL (L.take k) + l.length := by
 unfold sumL
 rw [List.take_add_one, h, List.map_append, List.sum_append]
 simp
theorem sumL_le (L : List (List Pt)) (k : Nat) : sumL (L.take k) ≤ sumL L := by
 conv => rhs; rw [← List.take_append_drop k L]
 unfold sumL
 rw [List.map_append, List.sum_append]
 omega
theorem flat_takeO {L : List (List Pt)} {k : Nat} {l : List Pt} (h : L[k]? = some l) : (L.take (k + 1)).flatten = (L.take k).flatten ++ l := by
 rw [List.take_add_one, h, List.flatten_append]
 simp
set_option maxRecDepth 100000 in
set_option maxHeartbeats 8000000 in
theorem concatPt_any {w : World} {v : Value} {L : List (List Pt)} (hr : RdPs w w.heap.size v L) (h0 : 0 < sumL L) (hl : sumL L ≤ 1000000) (hL : L.length ≤ 100000000) :
  Calls Tryz.prog 70 #[v] w fun e w' => ∃ vo, e = .returned vo ∧ w'.ownsRow w.heap.size 53 2 vo (sumL L) (L.flatten.flatMap encS) ∧ Below w.heap.size w w' := by
 obtain ⟨i1, gi, gz0, gz1, gz2⟩ := info_parts infoPtO
 obtain ⟨A, c, rfl, h1⟩ := hr
 have H1 := hide h1
 clear h1
 go_enter Tryz.func70, Tryz.ntmps70
 go_wp2
 go_loopw [3, 11] (fun s i wr => ∃ k : Nat, k ≤ L.length ∧ i = .int .i64 (k : Int) ∧ s = .int .i64 (sumL (L.take k) : Nat) ∧ w = wr) (fun _ i _ => L.length - (intOf i).toNat)
 case atStart => exact ⟨0, Nat.zero_le _, rfl, rfl, rfl⟩
 case round =>
  obtain ⟨k, hk, rfl, rfl, rfl⟩ := hrel
  by_cases hlt : k < L.length
  ·have kz : (k : Int) < (L.length : Int) := by omega
   obtain ⟨l, hlk⟩ : ∃ l, L[k]? = some l := ⟨_, List.getElem?_eq_getElem hlt⟩
   obtain ⟨b, off, rfl, hb, hc⟩ := H1.out (by intro e; rw [e] at hlt; simp at hlt)
   obtain ⟨u, d0, A2, c2, rfl, _⟩ := hc k l hlk
   have HS : Hid (sumL (L.take (k + 1)) = sumL (L.take k) + l.length) := hide (sumL_take hlk)
   have hle := sumL_le L (k + 1)
   rw [HS.out] at hle
   have zs : ¬ ((sumL (L.take k) : Nat) : Int) + (l.length : Int) < 0 := by omega
   have ze : IntKind.i64.wrap (((sumL (L.take k) : Nat) : Int) + (l.length : Int)) = ((sumL (L.take k) : Nat) : Int) + (l.length : Int) := by simp [IntKind.wrap, IntKind.bits, IntKind.signed]; omega
   clear hlk hc
   go_wp2
   go_roundw
   case rel => exact ⟨k + 1, by omega, by go_num, by rw [HS.out]; simp, by trivial⟩
   case measure => simp [intOf]; omega
  ·have kz : ¬ (k : Int) < (L.length : Int) := by omega
   obtain rfl : k = L.length := by omega
   rw [List.take_length]
   have HG := hide (growPt_any (w := w) (sumL L) h0 hl)
   go_wp2_with (fail)
   refine HG.out.mono ?_
   rintro e w1 ⟨g, cap, rfl, ho, hb⟩
   have HO := hide ho
   have HB := hide hb
   clear ho hb HG
   go_wp2
   go_loopw [6, 27] (fun o i wr => ∃ (k : Nat) (Ao : Option Addr) (co : Nat), k ≤ L.length ∧ i = .int .i64 (k : Int) ∧ o = .slice Ao (sumL (L.take k)) co ∧ Hid (wr.ownsRow w.heap.size 53 2 (.slice Ao (sumL (L.take k)) co) (sumL (L.take k)) ((L.take k).flatten.flatMap encS)) ∧ Hid (Below w.heap.size w wr)) (fun _ i _ => L.length - (intOf i).toNat)
   case atStart => exact ⟨0, some ⟨g, 0, none⟩, cap, Nat.zero_le _, rfl, rfl, hide HO.out, HB⟩
   case round =>
    obtain ⟨k, Ao, co, hk, rfl, rfl, HO2, HB2⟩ := hrel
    by_cases hlt : k < L.length
    ·have kz : (k : Int) < (L.length : Int) := by omega
     obtain ⟨l, hlk⟩ : ∃ l, L[k]? = some l := ⟨_, List.getElem?_eq_getElem hlt⟩
     obtain ⟨b, off, rfl, hb, hc⟩ := H1.out (by intro e; rw [e] at hlt; simp at hlt)
     obtain ⟨u, d0, A2, c2, rfl, hrd⟩ := hc k l hlk
     replace d0 := (HB2.out.cell (p := ⟨b, _, none⟩) hb).trans d0
     have HRD : Hid (RdK encS 2 wr w.heap.size (.slice A2 l.length c2) l) := hide (RdK.below ⟨A2, c2, rfl, hrd⟩ HB2.out)
     have HS : Hid (sumL (L.take (k + 1)) = sumL (L.take k) + l.length) := hide (sumL_take hlk)
     have HF := hide (flat_takeO hlk)
     have hle := sumL_le L (k + 1)
     rw [HS.out] at hle
     have hws := HB2.out.size
     clear hlk hc hrd
     go_wp2_with (at_builtin; go_loud (refine wpList_app_rd (enc := encS) (k := 2) (l := l) rfl (fun _ => rfl) one_encSO (.tmp 31) (.tmp 32) 36 rfl w.heap.size 53 i1 (.agg #[.int .i64 0, .int .i64 0]) 16 Tryz.underlying36 gi gz0 gz1 gz2 rfl (by decide) _ (sumL (L.take k)) _ rfl HO2.out w.heap.size HRD.out (by unfold maxLen; omega) (by omega) hws ?_))
     intro v9 w9 hown9 hgrow9
     obtain ⟨A9, c9, rfl⟩ := own_form hown9
     have HB9 : Hid (Below w.heap.size w w9) := hide (HB2.out.grown hgrow9 hws (fun q hq => (HO2.out.lt q hq).1))
     have HO9 : Hid (w9.ownsRow w.heap.size 53 2 (.slice A9 (sumL (L.take (k + 1))) c9) (sumL (L.take (k + 1))) ((L.take (k + 1)).flatten.flatMap encS)) := hide (by
      rw [HS.out, HF.out, List.flatMap_append]
      exact hown9)
     clear hown9 hgrow9
     go_wp2
     go_roundw
     case rel => exact ⟨k + 1, A9, c9, by omega, by go_num, by rw [HS.out], HO9, HB9⟩
     case measure => simp [intOf]; omega
    ·have kz : ¬ (k : Int) < (L.length : Int) := by omega
     obtain rfl : k = L.length := by omega
     rw [List.take_length] at HO2
     go_wp2
     go_ret
     exact ⟨_, rfl, HO2.out, HB2.out⟩
theorem cmpP_lt (a b : Pt) : cmpP a b < 0 ↔ ptLt a b := by
 unfold cmpP cmpI ptLt
 repeat' split
 all_goals omega
theorem minU_at (l : List Pt) : ∀ k, ∃ j, j ≤ k ∧ minU l k = pAt l j
 | 0 => ⟨0, Nat.le_refl _, rfl⟩
 | k + 1 => by
  obtain ⟨j, hj, e⟩ := minU_at l k
  unfold minU
  split
  ·exact ⟨k + 1, Nat.le_refl _, rfl⟩
  ·exact ⟨j, by omega, e⟩
theorem minU_low (l : List Pt) : ∀ k j, j ≤ k → ¬ ptLt (pAt l j) (minU l k)
 | 0, j, hj => by
  obtain rfl : j = 0 := by omega
  exact ptLt_irr _
 | k + 1, j, hj => by
  unfold minU
  split
  ·rename_i h
   rw [cmpP_lt] at h
   by_cases hjk : j ≤ k
   ·have := minU_low l k j hjk
    exact fun h2 => this (ptLt_tr h2 h)
   ·obtain rfl : j = k + 1 := by omega
    exact ptLt_irr _
  ·rename_i h
   rw [cmpP_lt] at h
   by_cases hjk : j ≤ k
   ·exact minU_low l k j hjk
   ·obtain rfl : j = k + 1 := by omega
    exact h
theorem first_idx {l : List Pt} (h0 : 0 < l.length) : ∃ i : Nat, idxI (fun x => decide (x = minU l (l.length - 1))) l = i ∧ FirstMin l i := by
 obtain ⟨j, hj, e⟩ := minU_at l (l.length - 1)
 have hlow := minU_low l (l.length - 1)
 generalize minU l (l.length - 1) = m at *
 have hany : l.any (fun x => decide (x = m)) = true := List.any_eq_true.2 ⟨pAt l j, List.mem_of_getElem? (pAt_get (show j < l.length by omega)), by simp [e]⟩
 have hlt : l.findIdx (fun x => decide (x = m)) < l.length := List.findIdx_lt_length_of_exists (by simpa using hany)
 have hat := List.findIdx_getElem (w := hlt)
 have hpa : pAt l (l.findIdx (fun x => decide (x = m))) = m := by
  have h1 := pAt_get hlt
  rw [List.getElem?_eq_getElem hlt] at h1
  have h2 := Option.some.inj h1
  rw [← h2]
  simpa using hat
 refine ⟨l.findIdx (fun x => decide (x = m)), by unfold idxI; rw [if_pos hany], hlt, fun i hi => ?_, fun i h1 h2 => ?_⟩
 ·have hne := List.not_of_lt_findIdx hi
  have hne2 : pAt l i ≠ m := by
   have h1 := pAt_get (l := l) (i := i) (by omega)
   rw [List.getElem?_eq_getElem (by omega)] at h1
   rw [← Option.some.inj h1]
   simpa using hne
  show ptLt (pAt l _) (pAt l i)
  rw [hpa]
  exact (ptLt_or hne2).resolve_left (hlow i (by omega))
 ·show ¬ ptLt (pAt l i) (pAt l _)
  rw [hpa]
  exact hlow i (by omega)
set_option maxRecDepth 100000 in
set_option maxHeartbeats 8000000 in
theorem turned_any {w : World} {v : Value} {l : List Pt} {B : Nat} (ho : w.ownsRow B 53 2 v l.length (l.flatMap encS)) (h0 : 0 < l.length) (hl : l.length ≤ 1000000) :
  Calls Tryz.prog 36 #[v] w fun e w' => ∃ vo i, e = .returned vo ∧ FirstMin l i ∧ w'.ownsRow w.heap.size 53 2 vo l.length ((l.drop i ++ l.take i).flatMap encS) ∧ Below w.heap.size w w' := by
 have HR := hide (own_rd (l := l) ho (fun _ => rfl))
 obtain ⟨p, hp, hfm⟩ := first_idx h0
 obtain ⟨A, c, rfl, hc⟩ := HR.out
 obtain ⟨b, o, rfl, hb, _⟩ := hc (List.ne_nil_of_length_pos h0)
 obtain ⟨hcap, rfl⟩ := own_capO ho
 have HF := hide hfm
 have HPI := hide hp
 have HM := hide (minPt_any HR.out h0 (by omega))
 clear hc ho hp
 have hpl : p < l.length := hfm.1
 clear hfm
 go_enter Tryz.func36, Tryz.ntmps36
 go_wp2_with (fail)
 refine HM.out.mono ?_
 rintro e w1 ⟨rfl, hb1⟩
 have HB1 := hide hb1
 have HI := hide (idxPt_any ((HR.out.below hb1).mono hb1.size) (by omega) (minU l (l.length - 1)))
 clear hb1 HM
 go_wp2_with (fail)
 refine HI.out.mono ?_
 rintro e w2 ⟨rfl, hb2⟩
 have HB := hide (HB1.out.trans (hb2.mono HB1.out.size))
 rw [HPI.out]
 clear hb2 HI HB1
 have pz : (p : Int) ≤ (l.length : Int) := by omega
 have pc : (p : Int) ≤ (c : Int) := by omega
 have p0 : (0 : Int) ≤ (p : Int) := by omega
 have nc : (l.length : Int) ≤ (c : Int) := by omega
 have HRD : Hid (RdK encS 2 w2 w.heap.size (.slice (some ⟨b, 0, none⟩) l.length c) l) := hide (HR.out.below HB.out)
 have HTK : Hid (RdK encS 2 w2 w.heap.size (.slice (some ⟨b, 0, none⟩) p c) (l.take p)) := hide (rd_takeO HRD.out (by omega))
 have HDR : Hid (RdK encS 2 w2 w.heap.size (.slice (some ⟨b, p * 2, none⟩) (l.length - p) (c - p)) (l.drop p)) := hide (by
  have h := rd_dropO (c' := c - p) HRD.out (show p ≤ l.length by omega)
  rwa [Nat.zero_add] at h)
 have hne : ¬ c = p := by omega
 have HPL := hide hpl
 have HCN := hide hne
 have HH0 := hide h0
 clear hpl h0
 go_upto_region 2 with fail
 refine wp_region_mix [0, 1, 2, 3, 4, 5] [6, 7, 8] (fun w' => True) (by kernel_rfl) (by kernel_rfl) trivial ?_
 simp only [List.map_cons, List.map_nil, opAt, List.getElem?_cons_succ, List.getElem?_cons_zero, Option.getD_some]
 have HBK : Hid (Below w.heap.size w w2.drew) := hide HB.out.drew
 have HTK2 : Hid (RdK encS 2 w2.drew w.heap.size (.slice (some ⟨b, 0, none⟩) p c) (l.take p)) := hide (HTK.out.keep fun _ _ _ => rfl)
 have HDR2 : Hid (RdK encS 2 w2.drew w.heap.size (.slice (some ⟨b, p * 2, none⟩) (l.length - p) (c - p)) (l.drop p)) := hide (HDR.out.keep fun _ _ _ => rfl)
 generalize w2.drew = wk at *
 iterate 6
  refine ⟨?_, Or.inl ⟨by rfl, ?_⟩, ?_⟩
  rotate_left 1
  ·intro w' hSw
   go_simp
   first | done | with_reducible rfl
  simp only [Act.put, List.setIfInBounds_toArray, List.set_cons_zero, List.set_cons_succ]
 simp only [wpReads]
 intro K hK
 simp only [Act.put, List.setIfInBounds_toArray, List.set_cons_zero, List.set_cons_succ] at hK ⊢
 go_simp
 refine hK _ _ (fun _ => trivial) ?_
 clear hK K
 have HPS : Hid (RdPs (wk.alloc (.cells #[.slice (some ⟨b, p * 2, none⟩) (l.length - p) (c - p), .slice (some ⟨b, 0, none⟩) p c] 36)) (wk.alloc (.cells #[.slice (some ⟨b, p * 2, none⟩) (l.length - p) (c - p), .slice (some ⟨b, 0, none⟩) p c] 36)).heap.size (.slice (some ⟨wk.heap.size, 0, none⟩) 2 2) [l.drop p, l.take p]) := hide (by
  have hbA : Below wk.heap.size wk (wk.alloc (.cells #[.slice (some ⟨b, p * 2, none⟩) (l.length - p) (c - p), .slice (some ⟨b, 0, none⟩) p c] 36)) := (Below.refl _ _).alloc (Nat.le_refl _) _
  refine ⟨_, _, rfl, fun _ => ⟨wk.heap.size, 0, rfl, by simp, fun j r hr => ?_⟩⟩
  have hm : ∀ {v : Value} {x : List Pt}, RdK encS 2 wk w.heap.size v x → RdK encS 2 (wk.alloc (.cells #[.slice (some ⟨b, p * 2, none⟩) (l.length - p) (c - p), .slice (some ⟨b, 0, none⟩) p c] 36)) (wk.alloc (.cells #[.slice (some ⟨b, p * 2, none⟩) (l.length - p) (c - p), .slice (some ⟨b, 0, none⟩) p c] 36)).heap.size v x := fun h => (((h.mono HBK.out.size).below hbA).mono hbA.size)
  match j, hr with
  | 0, hr =>
   simp only [List.getElem?_cons_zero, Option.some.injEq] at hr
   subst hr
   exact ⟨_, by simp [go_sem], hm HDR2.out⟩
  | 1, hr =>
   simp only [List.getElem?_cons_succ, List.getElem?_cons_zero, Option.some.injEq] at hr
   subst hr
   exact ⟨_, by simp [go_sem], hm HTK2.out⟩
  | j + 2, hr => simp at hr)
 have HSL : Hid (sumL [l.drop p, l.take p] = l.length) := hide (by
  have := HPL.out
  simp [sumL]
  omega)
 have HBA : Hid (Below w.heap.size w (wk.alloc (.cells #[.slice (some ⟨b, p * 2, none⟩) (l.length - p) (c - p), .slice (some ⟨b, 0, none⟩) p c] 36))) := hide (HBK.out.alloc HBK.out.size _)
 have HCC := hide (concatPt_any HPS.out (by rw [HSL.out]; exact HH0.out) (by rw [HSL.out]; exact hl) (by simp))
 generalize wk.alloc (.cells #[.slice (some ⟨b, p * 2, none⟩) (l.length - p) (c - p), .slice (some ⟨b, 0, none⟩) p c] 36) = x1 at *
 intro K hK
 simp only [Act.put, List.setIfInBounds_toArray, List.set_cons_zero, List.set_cons_succ] at hK ⊢
 go_simp
 refine HCC.out.mono ?_
 rintro e x2 ⟨vo, rfl, ho2, hb2⟩
 have HO2 := hide ho2
 have HB2 := hide (HBA.out.trans (hb2.mono HBA.out.size))
 have HWS := HBA.out.size
 refine hK _ _ (fun _ => trivial) ?_
 clear hK K ho2 hb2 HCC
 intro K hK
 simp only [Act.put, List.setIfInBounds_toArray, List.set_cons_zero, List.set_cons_succ] at hK ⊢
 go_simp
 refine hK _ _ (fun h => absurd rfl h) ?_
 clear hK K
 refine NoPanic.normal ?_
 go_wp2
 go_ret
 refine ⟨_, p, rfl, HF.out, ?_, HB2.out⟩
 have h9 := own_base HO2.out HWS
 rw [HSL.out] at h9
 simpa using h9
end Go.Proofs.YtdfpbhlnlkjjlaaGreat

/- Outlines: what filled keeps in its second half. -/
namespace Go.Proofs.YtdfpbhlnlkjjlaaGreat
open Go.RowKit
set_option linter.unusedVariables false
set_option linter.unusedSimpArgs false
def colK (L : List (List Pt)) (i k : Nat) : List R4 :=
 match (cutsOf (xsL L))[i]?, (cutsOf (xsL L))[i + 1]? with
 | some x, some x' => preF L i ++ colR x x' (canP (cutsOf (ysL L)) (bsF L x) k)
 | _, _ => preF L i
theorem colK_zero (L : List (List Pt)) (i : Nat) : colK L i 0 = preF L i := by
 unfold colK
 split
 ·rw [canP_zero]; simp [colR]
 ·rfl
theorem colK_all (L : List (List Pt)) {i k : Nat} (hi : i < (cutsOf (xsL L)).length) (hk : (cutsOf (ysL L)).length ≤ k) : colK L i k = preF L (i + 1) := by
 unfold colK
 rw [List.getElem?_eq_getElem hi]
 rcases h : (cutsOf (xsL L))[i + 1]? with _ | x'
 ·simp only
  have := List.getElem?_eq_none_iff.1 h
  rw [preF_all (by omega), preF_all (by omega)]
 ·simp only
  rw [preF_step (List.getElem?_eq_getElem hi) h, canP_all (by omega)]
  rfl
theorem colK_no {L : List (List Pt)} {i k : Nat} {x y n : Int} (hx : (cutsOf (xsL L))[i]? = some x) (hy : (cutsOf (ysL L))[k]? = some y) (hn : n = wlS (x, y) (wallsF L)) (h : ¬ (n = 1 ∧ i + 1 < (cutsOf (xsL L)).length ∧ k + 1 < (cutsOf (ysL L)).length)) : colK L i (k + 1) = colK L i k := by
 unfold colK
 rw [hx]
 rcases h2 : (cutsOf (xsL L))[i + 1]? with _ | x'
 ·rfl
 ·simp only
  have hi : i + 1 < (cutsOf (xsL L)).length := (List.getElem?_eq_some_iff.1 h2).1
  rcases h3 : (cutsOf (ysL L))[k + 1]? with _ | y'
  ·have := List.getElem?_eq_none_iff.1 h3
   rw [canP_all (by omega), canP_all (by omega)]
  ·have hk : k + 1 < (cutsOf (ysL L)).length := (List.getElem?_eq_some_iff.1 h3).1
   have hb : (bsF L x)[k]? = some (decide (wlS (x, y) (wallsF L) = 1)) := by unfold bsF; rw [List.getElem?_map, hy]; rfl
   rw [canP_step hy h3 hb, if_neg]
   rw [decide_eq_true_eq, ← hn]
   exact fun e => h ⟨e, hi, hk⟩
theorem colK_yes {L : List (List Pt)} {i k : Nat} {x x' y y' : Int} (hx : (cutsOf (xsL L))[i]? = some x) (hx2 : (cutsOf (xsL L))[i + 1]? = some x') (hy : (cutsOf (ysL L))[k]? = some y) (hy2 : (cutsOf (ysL L))[k + 1]? = some y') (hn : wlS (x, y) (wallsF L) = 1) : colK L i (k + 1) = stepF (colK L i k) x y x' y' := by
 unfold colK
 rw [hx, hx2]
 simp only
 have hb : (bsF L x)[k]? = some (decide (wlS (x, y) (wallsF L) = 1)) := by unfold bsF; rw [List.getElem?_map, hy]; rfl
 rw [canP_step hy hy2 hb, if_pos (by simpa using hn), stepF_col (preF_left hx)]
theorem colK_len (L : List (List Pt)) (hx : (xsL L).length ≤ 2000) (hy : (ysL L).length ≤ 2000) (i k : Nat) : (colK L i k).length ≤ 4002000 := by
 have h1 := preF_len L hx hy i
 have h2 : 2000 * 2000 = 4000000 := rfl
 have h3 := cutsOf_len (ysL L)
 unfold colK
 split
 ·rename_i x x' _ _
  have h4 := canP_len (cutsOf (ysL L)) (bsF L x) k
  rw [List.length_append, colR, List.length_map]
  omega
 ·omega
theorem stepF_new {O : List R4} {x y x' y' : Int} (h : ∀ r, O.getLast? = some r → ¬ (r.x0 = x ∧ r.y1 = y)) : stepF O x y x' y' = O ++ [⟨x, y, x', y'⟩] := by
 unfold stepF
 split
 ·rename_i r hr
  rw [if_neg (h r hr)]
 ·rfl
theorem stepF_old {q : List R4} {r : R4} {x y x' y' : Int} (h1 : r.x0 = x) (h2 : r.y1 = y) : stepF (q ++ [r]) x y x' y' = q ++ [⟨r.x0, r.y0, r.x1, y'⟩] := by
 unfold stepF
 rw [List.getLast?_concat]
 simp [h1, h2]
def matF (O : List R4) (x y : Int) : Bool :=
 match O.getLast? with
 | some r => r.x0 == x && r.y1 == y
 | none => false
theorem matF_last (q : List R4) (r : R4) (x y : Int) : matF (q ++ [r]) x y = (r.x0 == x && r.y1 == y) := by
 unfold matF
 rw [List.getLast?_concat]
theorem matF_old {O : List R4} {x y : Int} (h : matF O x y = true) : ∃ q r, O = q ++ [r] ∧ r.x0 = x ∧ r.y1 = y := by
 rcases List.eq_nil_or_concat O with rfl | ⟨q, r, rfl⟩
 ·simp [matF] at h
 ·rw [List.concat_eq_append, matF_last] at h
  simp at h
  exact ⟨q, r, List.concat_eq_append, h⟩
theorem matF_new {O : List R4} {x y x' y' : Int} (h : matF O x y = false) : stepF O x y x' y' = O ++ [⟨x, y, x', y'⟩] := stepF_new fun r hr => by
 unfold matF at h
 rw [hr] at h
 simp at h
 exact fun h2 => h h2.1 h2.2
def Bx4 (W : World) (g : Nat) (w : Wl) : Prop := g < W.heap.size ∧ W.cell? ⟨g, 0, none⟩ = some (.int .i64 w.1) ∧ W.cell? ⟨g, 1, none⟩ = some (.int .i64 w.2.1) ∧ W.cell? ⟨g, 2, none⟩ = some (.int .i64 w.2.2.1) ∧ W.cell? ⟨g, 3, none⟩ = some (.int .i64 w.2.2.2)
theorem Bx4.same {W V : World} {g : Nat} {w : Wl} (h : Bx4 W g w) (hs : W.heap.size ≤ V.heap.size) (hb : V.heap[g]? = W.heap[g]?) : Bx4 V g w := by
 obtain ⟨h1, a, b, c, d⟩ := h
 have hc := fun o => World.cell?_of_block (w := W) (w' := V) (a := ⟨g, o, none⟩) hb
 exact ⟨Nat.lt_of_lt_of_le h1 hs, (hc 0).trans a, (hc 1).trans b, (hc 2).trans c, (hc 3).trans d⟩
theorem Bx4.below {W V : World} {g : Nat} {w : Wl} (h : Bx4 W g w) (hb : Below W.heap.size W V) : Bx4 V g w := h.same hb.size (hb.block g h.1)
structure DI (w6 wr : World) (g n : Nat) (C : List Int) (vo : Value) (O : List R4) : Prop where
 low : Below g w6 wr
 cnt : wr.ownsRow g 3 1 (.slice (some ⟨g, 0, none⟩) n n) n (C.map iv)
 out : wr.ownsRow (g + 1) 49 4 vo O.length (O.flatMap encR)
 size : g + 1 ≤ wr.heap.size
theorem DI.below {w6 wr w2 : World} {g n : Nat} {C : List Int} {vo : Value} {O : List R4} (h : DI w6 wr g n C vo O) (hb : Below wr.heap.size wr w2) : DI w6 w2 g n C vo O :=
 ⟨h.low.trans (hb.mono (by have := h.size; omega)), own_below h.cnt hb, own_below h.out hb, Nat.le_trans h.size hb.size⟩
theorem DI.get {w6 wr : World} {g n : Nat} {C : List Int} {vo : Value} {O : List R4} (h : DI w6 wr g n C vo O) {k : Nat} {c : Int} (hc : C[k]? = some c) : wr.cell? ⟨g, k, none⟩ = some (.int .i64 c) := by
 have := (h.cnt.cells (g := g) rfl) k (iv c) (by simp [hc])
 rw [addr_add] at this
 simpa using this
theorem DI.setc {w6 wr : World} {g n : Nat} {C : List Int} {vo : Value} {O : List R4} (h : DI w6 wr g n C vo O) (k : Nat) (c : Int) : DI w6 (wr.setCell ⟨g, k, none⟩ (.int .i64 c)) g n (C.set k c) vo O := by
 obtain ⟨s1, s2⟩ := h.cnt.stored k (.int .i64 c)
 refine ⟨h.low.setCell (Nat.le_refl _) _, ?_, h.out.kept s2 (.inr fun e => by have := (h.out.lt g e).1; omega), by simpa using h.size⟩
 have e : (C.map iv).set k (.int .i64 c) = (C.set k c).map iv := by rw [List.map_set]
 rw [e] at s1
 exact s1
theorem DI.push {w6 wr w9 : World} {g n : Nat} {C : List Int} {vo v9 : Value} {O O9 : List R4} (h : DI w6 wr g n C vo O) (hg : wr.grownBy w9 vo.ownBlock) (ho : w9.ownsRow (g + 1) 49 4 v9 O9.length (O9.flatMap encR)) : DI w6 w9 g n C v9 O9 :=
 ⟨h.low.grown hg (by have := h.size; omega) (fun q hq => by have := (h.out.lt q hq).1; omega), h.cnt.kept hg (.inr fun e => by have := (h.out.lt g e.symm).1; omega), ho, Nat.le_trans h.size hg.size⟩
theorem set_lastR (q : List R4) (r : R4) (e : Int) : ((q ++ [r]).flatMap encR).set (q.length * 4 + 3) (.int .i64 e) = (q ++ [(⟨r.x0, r.y0, r.x1, e⟩ : R4)]).flatMap encR := by
 have hl : (q.flatMap encR).length = q.length * 4 := by
  induction q with
  | nil => rfl
  | cons a q ih => rw [List.flatMap_cons, List.length_append, ih, List.length_cons]; simp [encR]; omega
 rw [List.flatMap_append, List.flatMap_append, List.set_append_right _ _ (by omega), hl, Nat.add_sub_cancel_left]
 rfl
theorem DI.setl {w6 wr : World} {g n : Nat} {C : List Int} {b cap : Nat} {q : List R4} {r : R4} (h : DI w6 wr g n C (.slice (some ⟨b, 0, none⟩) (q.length + 1) cap) (q ++ [r])) (e : Int) : DI w6 (wr.setCell ⟨b, q.length * 4 + 3, none⟩ (.int .i64 e)) g n C (.slice (some ⟨b, 0, none⟩) (q.length + 1) cap) (q ++ [(⟨r.x0, r.y0, r.x1, e⟩ : R4)]) := by
 have ho : wr.ownsRow (g + 1) 49 4 (.slice (some ⟨b, 0, none⟩) (q.length + 1) cap) (q.length + 1) ((q ++ [r]).flatMap encR) := by have := h.out; rwa [List.length_append] at this
 obtain ⟨s1, s2⟩ := ho.stored (q.length * 4 + 3) (.int .i64 e)
 rw [set_lastR] at s1
 exact h.push s2 (by rw [List.length_append]; exact s1)
theorem DI.last {w6 wr : World} {g n : Nat} {C : List Int} {vo : Value} {q : List R4} {r : R4} (h : DI w6 wr g n C vo (q ++ [r])) : ∃ b cap, vo = .slice (some ⟨b, 0, none⟩) (q.length + 1) cap ∧ g + 1 ≤ b ∧ b < wr.heap.size ∧ wr.cell? ⟨b, q.length * 4, none⟩ = some (.int .i64 r.x0) ∧ wr.cell? ⟨b, q.length * 4 + 3, none⟩ = some (.int .i64 r.y1) ∧ wr.frozen? ⟨b, q.length * 4 + 3, none⟩ = false := by
 have ho : wr.ownsRow (g + 1) 49 4 vo (q.length + 1) ((q ++ [r]).flatMap encR) := by have := h.out; rwa [List.length_append] at this
 obtain ⟨b, cap, rfl, h1, h2⟩ := ho.form (by omega)
 have hc := ho.cells (g := b) rfl
 have hlt := ho.lt b rfl
 have c0 := hc _ _ (flat_get (k := 4) (fun _ => rfl) (q ++ [r]) q.length r 0 _ (by simp) rfl)
 have c3 := hc _ _ (flat_get (k := 4) (fun _ => rfl) (q ++ [r]) q.length r 3 _ (by simp) rfl)
 rw [addr_add] at c0 c3
 refine ⟨b, cap, rfl, hlt.1, hlt.2, by simpa using c0, by simpa using c3, ho.frozenAt _⟩
theorem rdI_cell {w : World} {B : Nat} {A : Option Addr} {n c : Nat} {l : List Int} (h : RdK encI 1 w B (.slice A n c) l) (h0 : l ≠ []) : ∃ b o, A = some ⟨b, o, none⟩ ∧ b < B ∧ ∀ V, Below B w V → ∀ k y, l[k]? = some y → V.cell? ⟨b, o + k, none⟩ = some (.int .i64 y) := by
 obtain ⟨A1, c1, hv, h⟩ := h
 injection hv with e1 _ _
 subst e1
 obtain ⟨b, o, rfl, hb, hc⟩ := h h0
 refine ⟨b, o, rfl, hb, fun V hV k y hy => (hV.cell (p := ⟨b, _, none⟩) hb).trans ?_⟩
 have := hc k y hy 0 _ rfl
 rwa [Nat.mul_one] at this
def lenV : Value → Nat | .slice _ n _ => n | _ => 0
theorem cntW_nil (ys : List Int) : ys.map (cntW []) = List.replicate ys.length 0 := by
 induction ys with
 | nil => rfl
 | cons y ys ih => rw [List.map_cons, ih]; rfl
theorem rdW_drop {w : World} {B b o n c : Nat} {V : List Wl} {m : Nat} (h : RdK encW 4 w B (.slice (some ⟨b, o, none⟩) n c) (V.drop m)) (hm : m < V.length) (c' : Nat) : RdK encW 4 w B (.slice (some ⟨b, o + 1 * 4, none⟩) (V.length - (m + 1)) c') (V.drop (m + 1)) := by
 have h2 := rd_dropO (c' := c') h (m := 1) (by rw [List.length_drop]; omega)
 rw [List.drop_drop, List.length_drop] at h2
 have e : V.length - m - 1 = V.length - (m + 1) := by omega
 rwa [e] at h2
theorem cntW_at (V : List Wl) (ys : List Int) {k : Nat} {y : Int} (hy : ys[k]? = some y) : (ys.map (cntW V))[k]? = some (cntW V y) := by rw [List.getElem?_map, hy]; rfl
end Go.Proofs.YtdfpbhlnlkjjlaaGreat

/- Outlines, plain: what joined keeps while it runs. -/
namespace Go.Proofs.YtdfpbhlnlkjjlaaGreat
open Go.RowKit
set_option linter.unusedVariables false
set_option linter.unusedSimpArgs false
structure SlbQ (SL : List Slab) : Prop where
 ne : ∀ a ∈ SL, a.s ≠ []
 lt : SL.Pairwise fun a b => a.f < b.f
def JSt (S : List Slab) (first : Nat) (e : Int) : Prop := (S = [] ∧ first = 0 ∧ e = 0) ∨ ∃ Q a, S = Q ++ [a] ∧ first = (flat Q).length ∧ e = a.t ∧ a.s ≠ []
def yyR (r : R4) : Sp := (r.y0, r.y1)
theorem flat1_yy (a : Slab) : (flat1 a).map yyR = a.s := by
 unfold flat1
 rw [List.map_map]
 have : (yyR ∘ fun p : Sp => (⟨a.f, p.1, a.t, p.2⟩ : R4)) = id := by funext p; rfl
 rw [this, List.map_id]
theorem flat1_lenO (a : Slab) : (flat1 a).length = a.s.length := by unfold flat1; rw [List.length_map]
theorem JSt.tail {S : List Slab} {first : Nat} {e : Int} (h : JSt S first e) : first ≤ (flat S).length ∧ ((flat S).drop first).map yyR = (match S.getLast? with | some a => a.s | none => []) := by
 rcases h with ⟨rfl, rfl, _⟩ | ⟨Q, a, rfl, rfl, _, _⟩
 ·simp [flat]
 ·rw [flat_append, flat_one, List.drop_left, List.getLast?_concat]
  exact ⟨by rw [List.length_append]; omega, flat1_yy a⟩
def sameJ (S : List Slab) (f : Int) (s : List Sp) : Prop := ∃ Q a, S = Q ++ [a] ∧ a.t = f ∧ a.s = s
theorem JSt.same {S : List Slab} {first : Nat} {e f : Int} {s : List Sp} (h : JSt S first e) (hs : s ≠ []) : sameJ S f s ↔ ((flat S).length - first = s.length ∧ e = f ∧ ((flat S).drop first).map yyR = s) := by
 rcases h with ⟨rfl, rfl, rfl⟩ | ⟨Q, a, rfl, rfl, rfl, _⟩
 ·constructor
  ·rintro ⟨Q, a, h, _⟩
   simp at h
  ·rintro ⟨h, _⟩
   have := List.length_pos_iff.2 hs
   simp [flat] at h
   omega
 ·rw [flat_append, flat_one, List.drop_left, flat1_yy, List.length_append, Nat.add_sub_cancel_left, flat1_lenO]
  constructor
  ·rintro ⟨Q', a', h, h1, h2⟩
   have e1 := congrArg List.getLast? h
   rw [List.getLast?_concat, List.getLast?_concat] at e1
   injection e1 with e1
   subst e1
   exact ⟨by rw [h2], h1, h2⟩
  ·rintro ⟨_, h1, h2⟩
   exact ⟨Q, a, rfl, h1, h2⟩
def JMid (S : List Slab) (f t : Int) (s : List Sp) (O : List R4) (first : Nat) : Prop := ∃ Q f0 e, O = flat (Q ++ [⟨f0, e, s⟩]) ∧ first = (flat Q).length ∧ addS S f t s = Q ++ [⟨f0, t, s⟩]
theorem JMid.yes {S : List Slab} {first : Nat} {e f t : Int} {s : List Sp} (h : JSt S first e) (hs : s ≠ []) (hm : sameJ S f s) : JMid S f t s (flat S) first := by
 obtain ⟨Q, a, rfl, h1, h2⟩ := hm
 rcases h with ⟨h, _⟩ | ⟨Q', a', h, h4, _, _⟩
 ·simp at h
 ·have e1 := congrArg List.getLast? h
  rw [List.getLast?_concat, List.getLast?_concat] at e1
  injection e1 with e1
  have e2 := congrArg List.dropLast h
  rw [List.dropLast_concat, List.dropLast_concat] at e2
  subst e1; subst e2
  refine ⟨Q, a.f, a.t, by rw [← h2], h4, ?_⟩
  unfold addS
  rw [if_neg hs, List.getLast?_concat]
  simp [h1, h2]
theorem JMid.no {S : List Slab} {f t : Int} {s : List Sp} (hs : s ≠ []) (hm : ¬ sameJ S f s) : JMid S f t s (flat S ++ flat1 ⟨f, t, s⟩) (flat S).length := by
 refine ⟨S, f, t, by rw [flat_append, flat_one], rfl, ?_⟩
 unfold addS
 rw [if_neg hs]
 rcases List.eq_nil_or_concat S with rfl | ⟨Q, a, rfl⟩
 ·rfl
 ·rw [List.concat_eq_append, List.getLast?_concat]
  simp only
  rw [if_neg]
  rintro ⟨h1, h2⟩
  exact hm ⟨Q, a, List.concat_eq_append, h1, h2⟩
theorem JMid.done {S : List Slab} {f t : Int} {s : List Sp} {O : List R4} {first : Nat} (h : JMid S f t s O first) (hs : s ≠ []) : first ≤ O.length ∧ upTo t first O.length O = flat (addS S f t s) ∧ JSt (addS S f t s) first t := by
 obtain ⟨Q, f0, e, rfl, rfl, h3⟩ := h
 rw [h3]
 exact ⟨by rw [flat_append, List.length_append]; omega, upTo_end Q f0 e t s, .inr ⟨Q, _, rfl, rfl, rfl, hs⟩⟩
def cutJ (SL : List Slab) (j : Nat) : Nat := (flat (SL.take j)).length
theorem cutJ_step {SL : List Slab} {j : Nat} {a : Slab} (h : SL[j]? = some a) : cutJ SL (j + 1) = cutJ SL j + a.s.length := by
 unfold cutJ
 rw [List.take_add_one, h, Option.toList_some, flat_append, List.length_append, flat_one, flat1_lenO]
theorem cutJ_all {SL : List Slab} {j : Nat} (h : SL.length ≤ j) : cutJ SL j = (flat SL).length := by
 unfold cutJ
 rw [List.take_of_length_le h]
theorem flat_at {SL : List Slab} {j : Nat} {a : Slab} (h : SL[j]? = some a) : flat SL = flat (SL.take j) ++ (flat1 a ++ flat (SL.drop (j + 1))) := by
 conv => lhs; rw [← List.take_append_drop j SL]
 obtain ⟨h1, rfl⟩ := List.getElem?_eq_some_iff.1 h
 rw [List.drop_eq_getElem_cons h1, flat_append]
 rfl
theorem cutJ_le {SL : List Slab} {j : Nat} {a : Slab} (h : SL[j]? = some a) : cutJ SL j + a.s.length ≤ (flat SL).length := by
 have h2 := flat_at h
 rw [h2]
 simp only [List.length_append, flat1_lenO, cutJ]
 omega
theorem flat_cell {SL : List Slab} {j n : Nat} {a : Slab} {p : Sp} (h : SL[j]? = some a) (hp : a.s[n]? = some p) : (flat SL)[cutJ SL j + n]? = some ⟨a.f, p.1, a.t, p.2⟩ := by
 have hn := (List.getElem?_eq_some_iff.1 hp).1
 rw [flat_at h, List.getElem?_append_right (by unfold cutJ; omega)]
 unfold cutJ
 rw [Nat.add_sub_cancel_left, List.getElem?_append_left (by rw [flat1_lenO]; exact hn)]
 unfold flat1
 rw [List.getElem?_map, hp]
 rfl
theorem flat_next {SL : List Slab} (hq : SlbQ SL) {j : Nat} {a : Slab} {r : R4} (h : SL[j]? = some a) (hr : (flat SL)[cutJ SL j + a.s.length]? = some r) : r.x0 ≠ a.f := by
 rw [flat_at h, List.getElem?_append_right (by unfold cutJ; omega)] at hr
 unfold cutJ at hr
 rw [Nat.add_sub_cancel_left, List.getElem?_append_right (by rw [flat1_lenO]; omega), flat1_lenO, Nat.sub_self] at hr
 have hm : r ∈ flat (SL.drop (j + 1)) := List.mem_of_getElem? hr
 obtain ⟨b, hb, hr2⟩ := List.mem_flatMap.1 hm
 have e : r.x0 = b.f := by
  unfold flat1 at hr2
  obtain ⟨q, _, rfl⟩ := List.mem_map.1 hr2
  rfl
 obtain ⟨i, hi, rfl⟩ := List.mem_iff_getElem.1 hb
 obtain ⟨h1, rfl⟩ := List.getElem?_eq_some_iff.1 h
 rw [List.length_drop] at hi
 have := List.pairwise_iff_getElem.1 hq.lt j (j + 1 + i) h1 (by omega) (by omega)
 rw [e, List.getElem_drop]
 omega
theorem joinS_step {SL : List Slab} {j : Nat} {a : Slab} (h : SL[j]? = some a) : joinS (SL.take (j + 1)) = addS (joinS (SL.take j)) a.f a.t a.s := by
 unfold joinS
 rw [List.take_add_one, h, Option.toList_some, List.foldl_append]
 rfl
theorem joinS_ne (SL : List Slab) : joinS (SL.filter fun a => a.s ≠ []) = joinS SL := by
 unfold joinS
 generalize ([] : List Slab) = S
 induction SL generalizing S with
 | nil => rfl
 | cons a SL ih =>
  by_cases h : a.s = []
  ·rw [List.filter_cons_of_neg (by simp [h]), List.foldl_cons, ih]
   congr 1
   simp [addS, h]
  ·rw [List.filter_cons_of_pos (by simp [h]), List.foldl_cons, List.foldl_cons, ih]
theorem flat_ne (SL : List Slab) : flat (SL.filter fun a => a.s ≠ []) = flat SL := by
 induction SL with
 | nil => rfl
 | cons a SL ih =>
  by_cases h : a.s = []
  ·rw [List.filter_cons_of_neg (by simp [h]), ih]
   simp [flat, flat1, h]
  ·rw [List.filter_cons_of_pos (by simp [h])]
   simp only [flat, List.flatMap_cons] at ih ⊢
   rw [ih]
theorem joinS_len : ∀ (SL S : List Slab), (flat (SL.foldl (fun S a => addS S a.f a.t a.s) S)).length ≤ (flat S).length + (flat SL).length
 | [], S => by simp [flat]
 | a :: SL, S => by
  have h1 := joinS_len SL (addS S a.f a.t a.s)
  have h2 := addS_len S a.f a.t a.s
  have h3 : (flat (a :: SL)).length = a.s.length + (flat SL).length := by simp [flat, flat1]
  rw [List.foldl_cons]
  omega
def slbF (L : List (List Pt)) : List Slab := ((prs (cutsOf (xsL L))).map fun p => (⟨p.1, p.2, colF L p.1⟩ : Slab)).filter fun a => a.s ≠ []
theorem slbF_ok (L : List (List Pt)) : SlbQ (slbF L) := by
  refine ⟨fun a ha => by simpa using (List.mem_filter.1 ha).2, List.Pairwise.filter _ ?_⟩
  rw [List.pairwise_map]
  have key : ∀ xs : List Int, xs.Pairwise (· < ·) → (prs xs).Pairwise fun a b => a.1 < b.1 := by
    intro xs
    induction xs with
    | nil => intro _; exact List.Pairwise.nil
    | cons c xs ih =>
      intro h
      cases xs with
      | nil => exact List.Pairwise.nil
      | cons d xs =>
        rw [List.pairwise_cons] at h
        refine List.pairwise_cons.2 ⟨fun p hp => ?_, ih h.2⟩
        have hm : p.1 ∈ d :: xs := by
          have : ∀ (l : List Int) (p : Int × Int), p ∈ prs l → p.1 ∈ l := by
            intro l
            induction l with
            | nil => intro p hp; simp [prs] at hp
            | cons a l ih =>
              intro p hp
              cases l with
              | nil => simp [prs] at hp
              | cons b l =>
                simp only [prs, List.mem_cons] at hp
                rcases hp with rfl | hp
                · simp
                · exact List.mem_cons_of_mem _ (ih p hp)
          exact this _ p hp
        exact h.1 _ hm
  exact key _ (cutsOf_ok _).1
theorem filF_slb (L : List (List Pt)) : filF L = flat (slbF L) := by unfold filF slbF; rw [flat_ne]
theorem fldF_slb (L : List (List Pt)) : fldF L = flat (joinS (slbF L)) := by rw [fld_join]; unfold slbF; rw [joinS_ne]
end Go.Proofs.YtdfpbhlnlkjjlaaGreat

/- Outlines: joined. -/
namespace Go.Proofs.YtdfpbhlnlkjjlaaGreat
open Go.RowKit
set_option linter.unusedVariables false
set_option linter.unusedSimpArgs false
theorem run_append_two {P : Program} (w : World) (t q ty e : TypeId) (i : TypeInfo) (ht : P.underlying t = some (.slice e)) (hq : P.underlying q = some (.slice e)) (hi : P.info? e = some i) (A : Option Addr) (n c : Nat) (b : Value) : (Builtin.append_ #[t, q] ty #[.slice A n c, b]).run P w = (Builtin.append_ #[t, t] ty #[.slice A n c, b]).run P w := by
 simp [Builtin.append_, run_underlying ht, run_underlying hq, sizeOf, typeInfo, hi]
theorem wpList_append_lies2 {P : Program} {w : World} {ops : Array Oper} {rest : List Oper} {o : Oper} {a : Act} {Q : Exit → Act → World → Prop} (hgd : o.guard = none) (s x : Operand) (t q : TypeId)
  (ho : o.op = .call { callee := .builtin .append, args := #[s, x], argTypes := #[t, q] })
  (base : Nat) (e : TypeId) (i : TypeInfo) (z : Value) (size bytes : Nat) (ht : P.underlying t = some (.slice e)) (hq : P.underlying q = some (.slice e)) (hi : P.info? e = some i) (hz : i.zero = some z)
  (hsize : i.size = size) (hby : i.bytes = bytes) (hzs : z.cells.size = size) (hsz : 0 < size)
  (v : Value) (n : Nat) (xs : List Value) (hs : a.eval s = v) (hown : w.ownsRow base e size v n xs)
  (ad : Addr) (m c : Nat) (news : List Value) (hx : a.eval x = .slice (some ad) m c) (hl : news.length = m * size) (hnews : ∀ j u, news[j]? = some u → w.cell? (ad.add j) = some u) (h1 : ∀ u ∈ news, u.oneCell' = true)
  (hm : 0 < m) (h63 : n + m ≤ maxLen) (hbytes : (n + m) * bytes ≤ 140737488355328) (hbase : base ≤ w.heap.size)
  (h : ∀ g cap w', w'.ownsRow base e size (.slice (some ⟨g, 0, none⟩) (n + m) cap) (n + m) (xs ++ news) → w.grownBy w' v.ownBlock → wpList P ops Q rest (a.put o.dst (.slice (some ⟨g, 0, none⟩) (n + m) cap)) w') : wpList P ops Q (o :: rest) a w := by
 refine wpList_plain hgd fun K' hK' => ?_
 obtain ⟨A0, c0, rfl⟩ := own_form hown
 obtain ⟨g, cap, w', hr, h2, h3, _, _⟩ := run_append_lies (P := P) w t o.type base e i z size bytes ht hi hz hsize hby hzs hsz _ n xs hown ad m c news hl hnews h1 hm h63 hbytes hbase _ rfl
 unfold Oper.wp execOp
 simp only [ho, resolve, invoke, builtin, Sem.run_bind, Sem.run_pure, Result.andThen_ok, List.map_toArray, List.map_cons, List.map_nil, hs, hx, run_append_two w t q _ e i ht hq hi, hr]
 exact hK' _ _ (h g cap w' h2 h3)
structure JOut (w wr : World) (vo : Value) (O : List R4) : Prop where
 low : Below w.heap.size w wr
 o : wr.ownsRow w.heap.size 49 4 vo O.length (O.flatMap encR)
theorem JOut.below {w wr w2 : World} {vo : Value} {O : List R4} (h : JOut w wr vo O) (hb : Below wr.heap.size wr w2) : JOut w w2 vo O := ⟨h.low.trans (hb.mono h.low.size), own_below h.o hb⟩
theorem JOut.pushed {w wr w2 : World} {vo v2 : Value} {O O' : List R4} (h : JOut w wr vo O) {n : Nat} (hg : wr.grownBy w2 vo.ownBlock) (ho : w2.ownsRow w.heap.size 49 4 v2 n (O'.flatMap encR)) : JOut w w2 v2 O' := by
 have hn := own_len (k := 4) ho (fun _ => rfl) (by omega)
 subst hn
 exact ⟨h.low.grown hg h.low.size (fun q hq => (h.o.lt q hq).1), ho⟩
theorem addS_ne {S : List Slab} {f t : Int} {s : List Sp} (h : s ≠ []) : addS S f t s ≠ [] := by
 unfold addS
 rw [if_neg h]
 split
 ·split <;> simp
 ·simp
theorem take_step {σ s : List Sp} {n : Nat} {r p : Sp} (h : σ.take n = s.take n) (hr : σ[n]? = some r) (hp : s[n]? = some p) : decide (σ.take (n + 1) = s.take (n + 1)) = (decide (r.1 = p.1) && decide (r.2 = p.2)) := by
 rw [List.take_add_one, List.take_add_one, h, hr, hp]
 by_cases h1 : r.1 = p.1
 ·by_cases h2 : r.2 = p.2
  ·have : r = p := Prod.ext h1 h2
   simp [this]
  ·have : ¬ r = p := fun e => h2 (by rw [e])
   simp [this, h2]
 ·have : ¬ r = p := fun e => h1 (by rw [e])
  simp [this, h1]
theorem take_less {σ s : List Sp} {n : Nat} (h : ¬ σ.take n = s.take n) : ¬ σ.take (n + 1) = s.take (n + 1) := fun e => h (by
 have := congrArg (List.take n) e
 rwa [List.take_take, List.take_take, Nat.min_eq_left (by omega)] at this)
theorem flat_take_len {SL : List Slab} {j n : Nat} (h : (flat SL).length ≤ n) : (flat (joinS (SL.take j))).length ≤ n := by
 have h1 := joinS_len (SL.take j) []
 have h2 : (flat (SL.take j)).length ≤ (flat SL).length := by
  conv => rhs; rw [← List.take_append_drop j SL]
  rw [flat_append, List.length_append]
  omega
 have h3 : (flat ([] : List Slab)).length = 0 := rfl
 unfold joinS
 omega
set_option maxRecDepth 100000 in
set_option maxHeartbeats 16000000 in
theorem joined_any {w : World} {v : Value} {SL : List Slab} {B : Nat} (hr : w.ownsRow B 49 4 v (flat SL).length ((flat SL).flatMap encR)) (hB : B ≤ w.heap.size) (hq : SlbQ SL) (hn : (flat SL).length ≤ 100000000) :
  Calls Tryz.prog 48 #[v] w fun e w' => ∃ vo, e = .returned vo ∧ w'.ownsRow w.heap.size 49 4 vo (flat (joinS SL)).length ((flat (joinS SL)).flatMap encR) ∧ Below w.heap.size w w' := by
 obtain ⟨i1, gi, gz0, gz1, gz2⟩ := info_parts infoRc
 obtain ⟨A, c, rfl⟩ := own_form hr
 have HQ := hide hq
 have HRD := hide (own_rd hr (fun _ => rfl))
 have HOWN := hide hr
 have HBN := hide (fun j => flat_take_len (j := j) hn)
 obtain ⟨N, hN⟩ : ∃ n, (flat SL).length = n := ⟨_, rfl⟩
 have HNN := hide hN
 rw [hN] at HRD HOWN hn ⊢
 clear hr hq hN
 go_enter Tryz.func48, Tryz.ntmps48
 go_upto_region 4 with fail
 go_loopw [3, 4, 5, 6] (fun vo vf vb vi wr => ∃ (j first no i9 : Nat) (e : Int) (Ao : Option Addr) (co : Nat), j ≤ SL.length ∧ vo = .slice Ao no co ∧ vf = .int .i64 first ∧ vb = .int .i64 e ∧ vi = .int .i64 i9 ∧ Hid (i9 = cutJ SL j) ∧ Hid (no = (flat (joinS (SL.take j))).length) ∧ Hid (JSt (joinS (SL.take j)) first e) ∧ Hid (joinS (SL.take j) = [] → Ao = none ∧ co = 0) ∧ Hid (JOut w wr (.slice Ao no co) (flat (joinS (SL.take j))))) (fun _ _ _ vi _ => N - (intOf vi).toNat)
 case atStart => exact ⟨0, 0, 0, 0, 0, none, 0, Nat.zero_le _, rfl, rfl, rfl, rfl, hide rfl, hide rfl, hide (.inl ⟨rfl, rfl, rfl⟩), hide fun _ => ⟨rfl, rfl⟩, hide ⟨Below.refl _ _, World.ownsRow_nil _ _ _ _⟩⟩
 case round =>
  obtain ⟨j, first, no, i9, e, Ao, co, hj, rfl, rfl, rfl, rfl, HI9, HNO, HST, HNIL, HJ⟩ := hrel
  by_cases hlt : j < SL.length
  ·obtain ⟨⟨f9, t9, s9⟩, ha⟩ : ∃ a, SL[j]? = some a := ⟨_, List.getElem?_eq_getElem hlt⟩
   have HA := hide ha
   have hs0 : s9 ≠ [] := HQ.out.ne _ (List.mem_of_getElem? ha)
   have HS0 := hide hs0
   have hm0 : 0 < s9.length := List.length_pos_iff.2 hs0
   have him : i9 + s9.length ≤ N := by rw [HI9.out, ← HNN.out]; exact cutJ_le ha
   have HJ1 : Hid (cutJ SL (j + 1) = i9 + s9.length) := hide (by rw [HI9.out]; exact cutJ_step ha)
   obtain ⟨b, c', hv, hBb, hbw⟩ := HOWN.out.form (by omega)
   injection hv with ev1 ev2 ev3
   subst ev1; subst ev3
   have hNc : N ≤ c := (own_capO HOWN.out).1
   have HCE : Hid (∀ V, Below w.heap.size w V → ∀ n r, (flat SL)[n]? = some r → V.cell? ⟨b, n * 4, none⟩ = some (.int .i64 r.x0) ∧ V.cell? ⟨b, n * 4 + 1, none⟩ = some (.int .i64 r.y0) ∧ V.cell? ⟨b, n * 4 + 2, none⟩ = some (.int .i64 r.x1) ∧ V.cell? ⟨b, n * 4 + 3, none⟩ = some (.int .i64 r.y1)) := hide (by
    intro V hV n r hr
    have hc := (HOWN.out.cells (g := b) rfl)
    have k0 := hc _ _ (flat_get (k := 4) (fun _ => rfl) _ n r 0 _ hr rfl)
    have k1 := hc _ _ (flat_get (k := 4) (fun _ => rfl) _ n r 1 _ hr rfl)
    have k2 := hc _ _ (flat_get (k := 4) (fun _ => rfl) _ n r 2 _ hr rfl)
    have k3 := hc _ _ (flat_get (k := 4) (fun _ => rfl) _ n r 3 _ hr rfl)
    rw [addr_add] at k0 k1 k2 k3
    exact ⟨(hV.cell (p := ⟨b, _, none⟩) hbw).trans k0, (hV.cell (p := ⟨b, _, none⟩) hbw).trans k1, (hV.cell (p := ⟨b, _, none⟩) hbw).trans k2, (hV.cell (p := ⟨b, _, none⟩) hbw).trans k3⟩)
   obtain ⟨m9, hm9⟩ : ∃ n, s9.length = n := ⟨_, rfl⟩
   rw [hm9] at hm0 him HJ1
   have HM9 := hide hm9
   have HFC : Hid (∀ n p, s9[n]? = some p → (flat SL)[i9 + n]? = some ⟨f9, p.1, t9, p.2⟩) := hide (fun n p hp => by rw [HI9.out]; exact flat_cell HA.out hp)
   have HC0 : Hid (∀ V, Below w.heap.size w V → V.cell? ⟨b, i9 * 4, none⟩ = some (.int .i64 f9) ∧ V.cell? ⟨b, i9 * 4 + 2, none⟩ = some (.int .i64 t9)) := hide (by
    intro V hV
    have h1 : 0 < s9.length := by omega
    have := HCE.out V hV i9 _ (HFC.out 0 _ (List.getElem?_eq_getElem h1))
    exact ⟨this.1, this.2.2.1⟩)
   have hno : no ≤ 100000000 := by rw [HNO.out]; exact HBN.out j
   have hiz : (i9 : Int) < (N : Int) := by omega
   have HNX : Hid (∀ r, (flat SL)[i9 + m9]? = some r → r.x0 ≠ f9) := hide (fun r hr => by rw [HI9.out, ← HM9.out] at hr; exact flat_next HQ.out HA.out hr)
   obtain ⟨S, hS⟩ : ∃ S, joinS (SL.take j) = S := ⟨_, rfl⟩
   have HSN : Hid (joinS (SL.take (j + 1)) = addS S f9 t9 s9) := hide (by rw [← hS]; exact joinS_step ha)
   rw [hS] at HNO HST HNIL HJ
   clear ha hs0 hm9 hBb ev2 hS
   go_wp2
   go_loopw [7] (fun q wr => ∃ k ik : Nat, k ≤ m9 ∧ i9 + k = ik ∧ q = .int .i64 ik ∧ Hid (JOut w wr (.slice Ao no co) (flat S))) (fun q _ => N - (intOf q).toNat)
   case atStart => exact ⟨0, i9, Nat.zero_le _, rfl, rfl, HJ⟩
   case round =>
    clear HJ
    obtain ⟨k, ik, hk, hik, rfl, HJ⟩ := hrel
    go_upto_region 6 with fail
    go_cut [34] from 18 to 34 (fun bv wx => bv = .bool (decide (k < m9)) ∧ JOut w wx (.slice Ao no co) (flat S))
    case first =>
     have HBD := hide (fun q => HJ.out.below (below_drewN (Below.refl wr.heap.size wr) q))
     have hi0 : (0 : Int) ≤ (i9 : Int) := by omega
     have hk0 : (0 : Int) ≤ (ik : Int) := by omega
     obtain ⟨d1, _⟩ := HC0.out wr HJ.out.low
     have hbr : b < wr.heap.size := by have := HJ.out.low.size; omega
     by_cases h1 : ik < N
     ·have h1z : (ik : Int) < (N : Int) := by omega
      obtain ⟨r, hr⟩ : ∃ r, (flat SL)[ik]? = some r := ⟨_, List.getElem?_eq_getElem (by rw [HNN.out]; exact h1)⟩
      have d0 := (HCE.out wr HJ.out.low _ _ hr).1
      have HR := hide hr
      clear hr
      by_cases h2 : k < m9
      ·have HE : Hid (decide (k < m9) = true) := hide (decide_eq_true h2)
       have hx : r.x0 = f9 := by
        have hkl : k < s9.length := by rw [HM9.out]; exact h2
        have h3 := HFC.out k _ (List.getElem?_eq_getElem hkl)
        rw [hik, HR.out] at h3
        injection h3 with h3
        rw [h3]
       have bx : (r.x0 == f9) = true := by simpa using hx
       clear hx
       go_quiet (fail)
       go_wp2
       go_meet
       case rel => exact ⟨by rw [HE.out], HBD.out _⟩
      ·have HE : Hid (decide (k < m9) = false) := hide (decide_eq_false h2)
       have hx : r.x0 ≠ f9 := HNX.out r (by rw [← HR.out]; congr 1; omega)
       have bx : (r.x0 == f9) = false := by simpa using hx
       clear hx
       go_quiet (fail)
       go_wp2
       go_meet
       case rel => exact ⟨by rw [HE.out], HBD.out _⟩
     ·have h1z : ¬ (ik : Int) < (N : Int) := by omega
      have HE : Hid (decide (k < m9) = false) := hide (decide_eq_false (by omega))
      clear d1
      go_quiet (fail)
      go_wp2
      go_meet
      case rel => exact ⟨by rw [HE.out], HBD.out _⟩
    case rest =>
     clear HJ
     obtain ⟨e1, hj2⟩ := hcut
     subst e1
     have HJ := hide hj2
     clear hj2
     by_cases h2 : k < m9
     ·rw [decide_eq_true h2]
      go_wp2
      go_roundw
      case rel => exact ⟨k + 1, ik + 1, h2, by omega, by go_num, HJ⟩
      case measure => simp [intOf]; omega
     ·rw [decide_eq_false h2]
      have hkm : k = m9 := by omega
      subst hkm
      have hikm : ik - i9 = k := by omega
      obtain ⟨n8, hn8⟩ : ∃ n, ((flat S).drop first).length = n := ⟨_, rfl⟩
      have HN8 := hide hn8
      clear hn8 h2 hk
      go_upto_region 8 with fail
      go_cut [8, 9] from 37 to 43 (fun vs vl wx => vs = .slice (some ⟨b, i9 * 4, none⟩) k (c - i9) ∧ (∃ Al cl, vl = .slice Al n8 cl ∧ RdK encR 4 wx wx.heap.size (.slice Al n8 cl) ((flat S).drop first)) ∧ JOut w wx (.slice Ao no co) (flat S))
      case first =>
       have HBD := hide (fun q => HJ.out.below (below_drewN (Below.refl wc.heap.size wc) q))
       have hi0 : (0 : Int) ≤ (i9 : Int) := by omega
       have hii : (i9 : Int) ≤ (ik : Int) := by omega
       have hic : (ik : Int) ≤ (c : Int) := by omega
       have hne : ¬ c = i9 := by omega
       have hcb := HST.out
       rcases hcb with ⟨hS, hf, he⟩ | ⟨Q, a, hS, hf, he, hne2⟩
       ·subst hS; subst hf; subst he
        obtain ⟨hA0, hc0⟩ := HNIL.out rfl
        have hn0 : no = 0 := HNO.out
        subst hA0; subst hc0; subst hn0
        have HN80 : Hid (n8 = 0) := hide HN8.out.symm
        go_quiet (fail)
        go_wp2
        go_meet
        case rel => exact ⟨by first | rfl | simp [hikm], ⟨none, 0, by rw [HN80.out], by rw [HN80.out]; exact RdK.nil _ _⟩, HBD.out _⟩
       ·have hfn : first < no := by
         rw [HNO.out, hS, flat_append, List.length_append, hf, flat_one, flat1_lenO]
         have := List.length_pos_iff.2 hne2
         omega
        obtain ⟨g, cap, hv, hgb, hgr⟩ := HJ.out.o.form (by rw [← HNO.out]; omega)
        injection hv with ev1 ev2 ev3
        subst ev1; subst ev3
        have hnc : no ≤ co := (own_capO (own_n HJ.out.o HNO.out.symm)).1
        have f0 : (0 : Int) ≤ (first : Int) := by omega
        have f1 : (first : Int) ≤ (no : Int) := by omega
        have f2 : (no : Int) ≤ (co : Int) := by omega
        have f3 : ¬ co = first := by omega
        have hn83 : n8 = no - first := by rw [← HN8.out, List.length_drop, HNO.out]
        have HRL : Hid (∀ W, JOut w W (.slice (some ⟨g, 0, none⟩) no co) (flat S) → RdK encR 4 W W.heap.size (.slice (some ⟨g, first * 4, none⟩) n8 (co - first)) ((flat S).drop first)) := hide (fun W hW => by
         have h := own_rd hW.o (fun _ => rfl)
         have hl : (flat S).length = no := HNO.out.symm
         have h2 := rd_dropO (c' := co - first) h (m := first) (by omega)
         rw [Nat.zero_add, hl, ← hn83] at h2
         exact h2)
        clear hS hf he hne2 hgb ev2
        go_quiet (fail)
        go_wp2
        go_meet
        case rel => exact ⟨by first | rfl | simp [hikm], ⟨some ⟨g, first * 4, none⟩, co - first, by first | rfl | simp [hn83], HRL.out _ (HBD.out _)⟩, HBD.out _⟩
      case rest =>
       clear HJ
       obtain ⟨e1, ⟨Al, cl, e2, hl⟩, hj2⟩ := hcut
       subst e1; subst e2
       have HL := hide hl
       have HJ := hide hj2
       clear hl hj2
       obtain ⟨s8, hs8⟩ : ∃ l, (flat S).drop first = l := ⟨_, rfl⟩
       have HS8 := hide hs8
       rw [hs8] at HL HN8
       clear hs8 hikm
       have hwb : b < wc.heap.size := by have := HJ.out.low.size; omega
       go_upto_region 9 with fail
       go_cut [10] from 44 to 56 (fun bv wx => bv = .bool (decide (n8 = k) && decide (e = f9)) ∧ RdK encR 4 wx wx.heap.size (.slice Al n8 cl) s8 ∧ JOut w wx (.slice Ao no co) (flat S))
       case first =>
        obtain ⟨d1, _⟩ := HC0.out wc HJ.out.low
        by_cases h1 : n8 = k
        ·have b1 : ((n8 : Int) == (k : Int)) = true := by simp [h1]
         have HE1 : Hid (decide (n8 = k) = true) := hide (decide_eq_true h1)
         clear h1
         by_cases h2 : e = f9
         ·have b2 : (e == f9) = true := by simpa using h2
          have HE2 : Hid (decide (e = f9) = true) := hide (decide_eq_true h2)
          clear h2
          go_wp2
          go_meet
          case rel => exact ⟨by rw [HE1.out, HE2.out]; rfl, HL.out, HJ.out⟩
         ·have b2 : (e == f9) = false := by simpa using h2
          have HE2 : Hid (decide (e = f9) = false) := hide (decide_eq_false h2)
          clear h2
          go_wp2
          go_meet
          case rel => exact ⟨by rw [HE1.out, HE2.out]; rfl, HL.out, HJ.out⟩
        ·have b1 : ((n8 : Int) == (k : Int)) = false := by simp; omega
         have HE1 : Hid (decide (n8 = k) = false) := hide (decide_eq_false h1)
         clear h1 d1
         go_wp2
         go_meet
         case rel => exact ⟨by rw [HE1.out]; rfl, HL.out, HJ.out⟩
       case rest =>
        clear HJ HL hwb
        obtain ⟨e1, hl, hj2⟩ := hcut
        subst e1
        have HL := hide hl
        have HJ := hide hj2
        clear hl hj2
        obtain ⟨b0, hb0⟩ : ∃ z, (decide (n8 = k) && decide (e = f9)) = z := ⟨_, rfl⟩
        rw [hb0]
        have HB0 := hide hb0
        clear hb0
        go_wp2
        go_loopw [10, 59] (fun bv q wr => ∃ (n : Nat) (bb : Bool), n ≤ k ∧ q = .int .i64 n ∧ bv = .bool bb ∧ Hid ((b0 && decide ((s8.map yyR).take n = s9.take n)) = bb) ∧ Hid (RdK encR 4 wr wr.heap.size (.slice Al n8 cl) s8) ∧ Hid (JOut w wr (.slice Ao no co) (flat S))) (fun _ q _ => k - (intOf q).toNat)
        case atStart => exact ⟨0, b0, Nat.zero_le _, rfl, rfl, hide (by simp), HL, HJ⟩
        case round =>
         clear HL HJ
         obtain ⟨n, bb, hn, rfl, rfl, HBB, HL, HJ⟩ := hrel
         by_cases hnk : n < k
         ·have hnz : (n : Int) < (k : Int) := by omega
          have hn0 : (0 : Int) ≤ (n : Int) := by omega
          obtain ⟨p, hp⟩ : ∃ p, s9[n]? = some p := ⟨_, List.getElem?_eq_getElem (by rw [HM9.out]; exact hnk)⟩
          have hp4 := HCE.out wr HJ.out.low _ _ (HFC.out n p hp)
          obtain ⟨_, d1, _, d3⟩ := hp4
          rw [Nat.add_mul] at d1 d3
          have hbr : b < wr.heap.size := by have := HJ.out.low.size; omega
          have HP := hide hp
          clear hp
          go_upto_region 13 with fail
          have HBK := hide (fun q => below_drewN (Below.refl wr.heap.size wr) q)
          cases bb
          ·have HE : Hid ((b0 && decide ((s8.map yyR).take (n + 1) = s9.take (n + 1))) = false) := hide (by
            have h := HBB.out
            cases b0
            ·rfl
            ·rw [Bool.true_and] at h ⊢
             exact decide_eq_false (take_less (of_decide_eq_false h)))
           clear d1 d3
           go_quiet (fail)
           go_wp2
           go_roundw
           case rel => exact ⟨n + 1, false, hnk, by go_num, rfl, hide (by rw [HE.out]), hide ((HL.out.below (HBK.out _)).mono (HBK.out _).size), hide (HJ.out.below (HBK.out _))⟩
           case measure => simp [intOf]; omega
          ·have h := HBB.out
           rw [Bool.and_eq_true] at h
           obtain ⟨h1, h2⟩ := h
           have h3 := HB0.out
           rw [h1, Bool.and_eq_true] at h3
           have h4 : n8 = k := of_decide_eq_true h3.1
           obtain ⟨r, hr⟩ : ∃ r, s8[n]? = some r := ⟨_, List.getElem?_eq_getElem (by rw [HN8.out]; omega)⟩
           have hsr : (s8.map yyR)[n]? = some (yyR r) := by rw [List.getElem?_map, hr]; rfl
           have HTS := hide (take_step (of_decide_eq_true h2) hsr HP.out)
           obtain ⟨_, _, hv, hcl⟩ := HL.out
           injection hv with ev1 ev2 ev3
           obtain ⟨b8, o8, ev4, hb8, hcx⟩ := hcl (fun e9 => by rw [e9] at hr; simp at hr)
           subst ev1; subst ev3
           subst ev4
           have x1 := hcx n r hr 1 _ rfl
           have x3 := hcx n r hr 3 _ rfl
           have hnz8 : (n : Int) < (n8 : Int) := by omega
           have HB1 := hide h1
           clear hcl hcx hr hsr h1 h2 h3 h4 ev2
           by_cases h5 : r.y0 = p.1
           ·have b5 : (r.y0 == p.1) = true := by simpa using h5
            have HE5 : Hid (decide ((yyR r).1 = p.1) = true) := hide (decide_eq_true h5)
            clear h5
            by_cases h6 : r.y1 = p.2
            ·have b6 : (r.y1 == p.2) = true := by simpa using h6
             have HE6 : Hid (decide ((yyR r).2 = p.2) = true) := hide (decide_eq_true h6)
             clear h6
             go_quiet (fail)
             go_wp2
             go_roundw
             case rel => exact ⟨n + 1, true, hnk, by go_num, rfl, hide (by rw [HTS.out, HB1.out, HE5.out, HE6.out]; rfl), hide ((HL.out.below (HBK.out _)).mono (HBK.out _).size), hide (HJ.out.below (HBK.out _))⟩
             case measure => simp [intOf]; omega
            ·have b6 : (r.y1 == p.2) = false := by simpa using h6
             have HE6 : Hid (decide ((yyR r).2 = p.2) = false) := hide (decide_eq_false h6)
             clear h6
             go_quiet (fail)
             go_wp2
             go_roundw
             case rel => exact ⟨n + 1, false, hnk, by go_num, rfl, hide (by rw [HTS.out, HB1.out, HE5.out, HE6.out]; rfl), hide ((HL.out.below (HBK.out _)).mono (HBK.out _).size), hide (HJ.out.below (HBK.out _))⟩
             case measure => simp [intOf]; omega
           ·have b5 : (r.y0 == p.1) = false := by simpa using h5
            have HE5 : Hid (decide ((yyR r).1 = p.1) = false) := hide (decide_eq_false h5)
            clear h5
            go_quiet (fail)
            go_wp2
            go_roundw
            case rel => exact ⟨n + 1, false, hnk, by go_num, rfl, hide (by rw [HTS.out, HB1.out, HE5.out]; rfl), hide ((HL.out.below (HBK.out _)).mono (HBK.out _).size), hide (HJ.out.below (HBK.out _))⟩
            case measure => simp [intOf]; omega
         ·have hnz : ¬ (n : Int) < (k : Int) := by omega
          have hnk2 : n = k := by omega
          have HSM : Hid (bb = true ↔ sameJ S f9 s9) := hide (by
           rw [HST.out.same HS0.out, HS8.out, HM9.out, ← HBB.out, ← HB0.out, hnk2]
           simp only [Bool.and_eq_true, decide_eq_true_eq]
           have e8 : (flat S).length - first = n8 := by rw [← HN8.out, ← HS8.out, List.length_drop]
           rw [e8]
           constructor
           ·rintro ⟨⟨g1, g2⟩, g3⟩
            rw [List.take_of_length_le (by rw [List.length_map, HN8.out]; omega), List.take_of_length_le (by rw [HM9.out]; omega)] at g3
            exact ⟨g1, g2, g3⟩
           ·rintro ⟨g1, g2, g3⟩
            rw [g3]
            exact ⟨⟨g1, g2⟩, rfl⟩)
          clear HBB hnk hnk2
          go_upto_if 91 with fail
          go_cut [3, 4] from 92 to 96 (fun ov fv wx => ∃ (first n' co' : Nat) (Ao' : Option Addr) (O : List R4), ov = .slice Ao' n' co' ∧ fv = .int .i64 first ∧ n' = O.length ∧ JMid S f9 t9 s9 O first ∧ JOut w wx (.slice Ao' n' co') O)
          case first =>
           cases bb
           ·have hns : ¬ sameJ S f9 s9 := fun h => by have := HSM.out.2 h; simp at this
            have HMID := hide (JMid.no (t := t9) HS0.out hns)
            clear hns
            have hsz := HJ.out.low.size
            have hnews : ∀ j u, ((flat1 ⟨f9, t9, s9⟩).flatMap encR)[j]? = some u → wr.cell? ((⟨b, i9 * 4, none⟩ : Addr).add j) = some u := by
             intro q u hu
             have hq : q < ((flat1 ⟨f9, t9, s9⟩).flatMap encR).length := (List.getElem?_eq_some_iff.1 hu).1
             have hl4 : ((flat1 ⟨f9, t9, s9⟩).flatMap encR).length = k * 4 := by rw [flat_len (enc := encR) (k := 4) (fun _ => rfl), flat1_lenO]; show s9.length * 4 = _; rw [HM9.out]
             have h1 : q / 4 < s9.length := by rw [HM9.out]; omega
             obtain ⟨p, hp⟩ : ∃ p, s9[q / 4]? = some p := ⟨_, List.getElem?_eq_getElem h1⟩
             have h2 := HFC.out _ p hp
             have h3 : (flat1 ⟨f9, t9, s9⟩)[q / 4]? = some ⟨f9, p.1, t9, p.2⟩ := by unfold flat1; rw [List.getElem?_map, hp]; rfl
             obtain ⟨c0, c1, c2, c3⟩ := HCE.out wr HJ.out.low _ _ h2
             have e3 : (⟨b, i9 * 4, none⟩ : Addr).add q = ⟨b, i9 * 4 + q, none⟩ := by unfold Addr.add; split <;> simp_all
             rw [e3]
             have h5 : q = q / 4 * 4 + q % 4 := by omega
             have hqm : q % 4 = 0 ∨ q % 4 = 1 ∨ q % 4 = 2 ∨ q % 4 = 3 := by omega
             rcases hqm with hq4 | hq4 | hq4 | hq4
             ·have h4 := flat_get (k := 4) (enc := encR) (fun _ => rfl) _ (q / 4) _ 0 _ h3 rfl
              rw [show q / 4 * 4 + 0 = q by omega, hu] at h4
              injection h4 with h4
              rw [h4, show i9 * 4 + q = (i9 + q / 4) * 4 by omega]
              exact c0
             ·have h4 := flat_get (k := 4) (enc := encR) (fun _ => rfl) _ (q / 4) _ 1 _ h3 rfl
              rw [show q / 4 * 4 + 1 = q by omega, hu] at h4
              injection h4 with h4
              rw [h4, show i9 * 4 + q = (i9 + q / 4) * 4 + 1 by omega]
              exact c1
             ·have h4 := flat_get (k := 4) (enc := encR) (fun _ => rfl) _ (q / 4) _ 2 _ h3 rfl
              rw [show q / 4 * 4 + 2 = q by omega, hu] at h4
              injection h4 with h4
              rw [h4, show i9 * 4 + q = (i9 + q / 4) * 4 + 2 by omega]
              exact c2
             ·have h4 := flat_get (k := 4) (enc := encR) (fun _ => rfl) _ (q / 4) _ 3 _ h3 rfl
              rw [show q / 4 * 4 + 3 = q by omega, hu] at h4
              injection h4 with h4
              rw [h4, show i9 * 4 + q = (i9 + q / 4) * 4 + 3 by omega]
              exact c3
            have HNW := hide hnews
            have HLN : Hid (((flat1 ⟨f9, t9, s9⟩).flatMap encR).length = k * 4) := hide (by rw [flat_len (enc := encR) (k := 4) (fun _ => rfl), flat1_lenO]; show s9.length * 4 = _; rw [HM9.out])
            have HON := hide (own_n HJ.out.o HNO.out.symm)
            have hk1 : k ≤ 100000000 := by omega
            clear hnews
            go_wp2_with (at_builtin; go_loud (refine wpList_append_lies2 rfl (.tmp 94) (.tmp 95) 34 22 rfl w.heap.size 49 i1 (.agg #[.int .i64 0, .int .i64 0, .int .i64 0, .int .i64 0]) 4 32 Tryz.underlying34 Tryz.underlying22 gi gz0 gz1 gz2 rfl (by decide) (.slice Ao no co) no _ rfl HON.out ⟨b, i9 * 4, none⟩ k (c - i9) _ rfl HLN.out HNW.out (one_encR _) hm0 (by unfold maxLen; omega) (by omega) hsz ?_))
            intro g4 cap4 wd hown9 hgrow9
            have hp9 : (flat S).flatMap encR ++ (flat1 ⟨f9, t9, s9⟩).flatMap encR = (flat S ++ flat1 ⟨f9, t9, s9⟩).flatMap encR := by rw [List.flatMap_append]
            rw [hp9] at hown9
            have HJ9 := hide (HJ.out.pushed hgrow9 hown9)
            have HNL : Hid (no + k = (flat S ++ flat1 ⟨f9, t9, s9⟩).length) := hide (own_len (k := 4) hown9 (fun _ => rfl) (by omega))
            have HNO9 : Hid ((flat S).length = no) := hide HNO.out.symm
            clear hown9 hgrow9 hp9 HNW HON HLN
            go_wp2
            go_meet
            case rel => exact ⟨no, no + k, cap4, _, _, rfl, rfl, HNL.out, by rw [← HNO9.out]; exact HMID.out, HJ9.out⟩
           ·have HMID := hide (JMid.yes (t := t9) HST.out HS0.out (HSM.out.1 rfl))
            go_wp2
            go_meet
            case rel => exact ⟨first, no, co, Ao, flat S, rfl, rfl, HNO.out, HMID.out, HJ.out⟩
          case rest =>
           clear HJ HL HNO HST HNIL hno
           obtain ⟨first2, n2, co2, Ao2, O2, e1, e2, hn2, hmid, hj2⟩ := hcut
           subst e1; subst e2
           obtain ⟨hf2, hup, hst2⟩ := hmid.done HS0.out
           have HJ := hide hj2
           have HN2 := hide hn2
           have HUP := hide hup
           have HST2 := hide hst2
           rw [← hn2] at hf2
           have hn2b : n2 ≤ 100000000 := by have h1 := HBN.out (j + 1); rw [HSN.out, ← hup, upTo_len, ← hn2] at h1; exact h1
           clear hmid hj2 hn2 hup hst2
           go_wp2
           go_loopw [12] (fun q wr => ∃ m : Nat, first2 ≤ m ∧ m ≤ n2 ∧ q = .int .i64 m ∧ Hid (JOut w wr (.slice Ao2 n2 co2) (upTo t9 first2 m O2))) (fun q _ => n2 - (intOf q).toNat)
           case atStart => exact ⟨first2, Nat.le_refl _, hf2, rfl, hide (by rw [upTo_start]; exact HJ.out)⟩
           case round =>
            clear HJ
            obtain ⟨m, hm1, hm2, rfl, HJ⟩ := hrel
            obtain ⟨_, d2⟩ := HC0.out wr HJ.out.low
            have hbr : b < wr.heap.size := by have := HJ.out.low.size; omega
            by_cases hmn : m < n2
            ·have hmz : (m : Int) < (n2 : Int) := by omega
             have hlen : (upTo t9 first2 m O2).length = n2 := by rw [upTo_len, HN2.out]
             obtain ⟨r, hr⟩ : ∃ r, (upTo t9 first2 m O2)[m]? = some r := ⟨_, List.getElem?_eq_getElem (by rw [hlen]; exact hmn)⟩
             obtain ⟨g, cap, hvo, hBg, hgw⟩ := HJ.out.o.form (by rw [hlen]; omega)
             injection hvo with ev1 ev2 ev3
             subst ev1; subst ev3
             have x1 : wr.cell? ⟨g, m * 4 + 2, none⟩ = some (.int .i64 r.x1) := by
              have := (HJ.out.o.cells (g := g) rfl) _ _ (flat_get (k := 4) (fun _ => rfl) _ m r 2 _ hr rfl)
              rwa [addr_add] at this
             have fz1 : wr.frozen? ⟨g, m * 4 + 2, none⟩ = false := (own_n HJ.out.o hlen).frozenAt _
             have hst := (own_n HJ.out.o hlen).stored (m * 4 + 2) (.int .i64 t9)
             rw [flat_set t9 _ m r hr, upTo_step t9 first2 m _ r hm1 hr] at hst
             have HJ2 := hide (HJ.out.pushed hst.2 hst.1)
             clear hr hst hlen ev2 hBg
             go_wp2
             go_roundw
             case rel => exact ⟨m + 1, by omega, by omega, by go_num, HJ2⟩
             case measure => simp [intOf]; omega
            ·have hmz : ¬ (m : Int) < (n2 : Int) := by omega
             have HJ3 : Hid (JOut w wr (.slice Ao2 n2 co2) (flat (addS S f9 t9 s9))) := hide (by
              have h := HJ.out
              rw [show m = O2.length by rw [← HN2.out]; omega, HUP.out] at h
              exact h)
             have HN3 : Hid (n2 = (flat (addS S f9 t9 s9)).length) := hide (by rw [← HUP.out, upTo_len]; exact HN2.out)
             clear hmn
             go_wp2
             go_roundw
             case rel => exact ⟨j + 1, first2, n2, ik, t9, Ao2, co2, by omega, rfl, rfl, rfl, rfl, hide (by rw [HJ1.out]; exact hik.symm), hide (by rw [HSN.out]; exact HN3.out), hide (by rw [HSN.out]; exact HST2.out), hide (fun h => by rw [HSN.out] at h; exact absurd h (addS_ne HS0.out)), hide (by rw [HSN.out]; exact HJ3.out)⟩
             case measure => simp [intOf]; omega
  ·have hiz : ¬ (i9 : Int) < (N : Int) := by rw [HI9.out, cutJ_all (by omega), HNN.out]; omega
   have HJF : Hid (joinS (SL.take j) = joinS SL) := hide (by rw [List.take_of_length_le (by omega)])
   go_wp2
   go_ret
   have h9 := HJ.out
   rw [HJF.out] at h9
   exact ⟨_, rfl, h9.o, h9.low⟩
end Go.Proofs.YtdfpbhlnlkjjlaaGreat

/- Outlines, plain: edges followed one by one: what comes next, and a whole trip. -/
namespace Go.Proofs.YtdfpbhlnlkjjlaaGreat
set_option linter.unusedVariables false
set_option linter.unusedSimpArgs false
def dE (e : Eg) : Wy := if e.1.1 < e.2.1 then .e else if e.2.1 < e.1.1 then .w else if e.1.2 < e.2.2 then .n else .s
def lnE (e : Eg) : Nat := (max (e.2.1 - e.1.1) (e.1.1 - e.2.1)).toNat + (max (e.2.2 - e.1.2) (e.1.2 - e.2.2)).toNat
def uE (e : Eg) (i : Nat) : Un := (addW e.1 i (dE e), dE e)
theorem dE_run {e : Eg} {d : Wy} {m : Nat} (hm : 0 < m) (h : e.2 = addW e.1 m d) : dE e = d ∧ lnE e = m := by
 obtain ⟨⟨a, b⟩, c, f⟩ := e
 unfold dE lnE
 cases d <;> simp only [addW, Wy.v, Prod.mk.injEq] at h ⊢ <;> refine ⟨?_, by omega⟩
 ·rw [if_pos (by omega)]
 ·rw [if_neg (by omega), if_neg (by omega), if_pos (by omega)]
 ·rw [if_neg (by omega), if_pos (by omega)]
 ·rw [if_neg (by omega), if_neg (by omega), if_neg (by omega)]
theorem v_inj {a b : Wy} (h : a.v = b.v) : a = b := by cases a <;> cases b <;> first | rfl | (exfalso; simp [Wy.v] at h)
theorem uE_inj {e : Eg} {i j : Nat} (h : uE e i = uE e j) : i = j := by
 unfold uE at h
 have := (Prod.mk.inj h).1
 cases hd : dE e <;> rw [hd] at this <;> simp only [addW, Wy.v, Prod.mk.injEq] at this <;> omega
theorem wayF_v {e : Eg} {d : Wy} {m : Nat} (hm : 0 < m) (h : e.2 = addW e.1 m d) : wayF e = d.v := by
 obtain ⟨⟨a, b⟩, c, f⟩ := e
 unfold wayF cmpI
 cases d <;> simp only [addW, Wy.v, Prod.mk.injEq] at h ⊢ <;> constructor <;> repeat' split
 all_goals omega
def fromE (E : List Eg) (p : Pt) : List Eg := E.filter fun f => decide (f.1 = p)
def leftP (w : Pt) : Pt := (-w.2, w.1)
theorem leftP_v (d : Wy) : leftP d.v = d.l.v := by cases d <;> rfl
namespace EdgesOf
variable {S : Cs} {E : List Eg} (h : EdgesOf S E)
include h
theorem at_ {e : Eg} (he : e ∈ E) : 0 < lnE e ∧ e.2 = addW e.1 (lnE e) (dE e) ∧ wayF e = (dE e).v ∧ ∀ i : Nat, i < lnE e → bgn S (uE e i) := by
 obtain ⟨d, m, h1, h2, h3⟩ := h.run e he
 obtain ⟨h4, h5⟩ := dE_run h1 h2
 unfold uE
 rw [h4, h5]
 exact ⟨h1, h2, wayF_v h1 h2, h3⟩
theorem on_iff {e : Eg} (he : e ∈ E) (z : Un) : onE e z ↔ ∃ i, i < lnE e ∧ z = uE e i := by
 obtain ⟨d, m, h1, h2, h3⟩ := h.run e he
 constructor
 ·rintro ⟨k, i, hi, e1, e2⟩
  obtain ⟨h4, h5⟩ := dE_run (by omega) e1
  exact ⟨i, by omega, Prod.ext (by rw [e2]; unfold uE; rw [h4]) (by unfold uE; rw [h4])⟩
 ·rintro ⟨i, hi, rfl⟩
  obtain ⟨h4, h5⟩ := dE_run h1 h2
  unfold uE
  rw [h4]
  exact ⟨m, i, by omega, h2, rfl⟩
theorem uniq {e f : Eg} (he : e ∈ E) (hf : f ∈ E) {z : Un} (h1 : onE e z) (h2 : onE f z) : e = f := by
 obtain ⟨i, hi, rfl⟩ := List.getElem_of_mem he
 obtain ⟨j, hj, rfl⟩ := List.getElem_of_mem hf
 rcases Nat.lt_trichotomy i j with h3 | h3 | h3
 ·exact absurd ⟨h1, h2⟩ (List.pairwise_iff_getElem.1 h.apart i j hi hj h3 z)
 ·subst h3; rfl
 ·exact absurd ⟨h2, h1⟩ (List.pairwise_iff_getElem.1 h.apart j i hj hi h3 z)
theorem uniqU {e f : Eg} (he : e ∈ E) (hf : f ∈ E) {i j : Nat} (hi : i < lnE e) (hj : j < lnE f) (hu : uE e i = uE f j) : e = f ∧ i = j := by
 have : e = f := h.uniq he hf ((h.on_iff he _).2 ⟨i, hi, rfl⟩) ((h.on_iff hf _).2 ⟨j, hj, hu⟩)
 subst this
 exact ⟨rfl, uE_inj hu⟩
theorem one {z : Un} (hz : bgn S z) : ∃ e ∈ E, ∃ i, i < lnE e ∧ z = uE e i := by
 obtain ⟨e, he, h1⟩ := h.all z hz
 exact ⟨e, he, (h.on_iff he z).1 h1⟩
theorem nodup : E.Nodup := by
 refine List.Pairwise.imp_of_mem (fun {a b} ha hb hab e => ?_) h.apart
 subst e
 have := (h.at_ ha).1
 exact hab (uE a 0) ⟨(h.on_iff ha _).2 ⟨0, this, rfl⟩, (h.on_iff ha _).2 ⟨0, this, rfl⟩⟩
theorem uE_hd {e : Eg} (he : e ∈ E) (i : Nat) : hdU (uE e i) = (uE e (i + 1)).1 := by
 have h1 := (h.at_ he).1
 exact addW_hd _ _ _
theorem uE_end {e : Eg} (he : e ∈ E) : hdU (uE e (lnE e - 1)) = e.2 := by
 have h1 := (h.at_ he)
 rw [h.uE_hd he, h1.2.1]
 unfold uE
 have := h1.1
 rw [show lnE e - 1 + 1 = lnE e by omega]
theorem inner {e : Eg} (he : e ∈ E) {i : Nat} (hi : i + 1 < lnE e) : nx S (uE e i) = uE e (i + 1) ∧ trn S (uE e i) = 0 := by
 have hb := (h.at_ he).2.2.2 (i + 1) hi
 have e1 : uE e (i + 1) = (hdU (uE e i), (uE e i).2) := Prod.ext (h.uE_hd he i).symm rfl
 have hb2 := hb
 rw [e1] at hb2
 rcases nx_cases S (uE e i) with ⟨h1, _, _⟩ | ⟨_, _, h2, h3⟩ | ⟨_, h1, _⟩
 ·rw [hb2.1] at h1; cases h1
 ·exact ⟨by rw [h3, e1], h2⟩
 ·rw [hb2.2] at h1; cases h1
theorem run_it {e : Eg} (he : e ∈ E) {v : Un} {m : Nat} (hv : itU S v m = uE e 0) : ∀ i, i < lnE e → itU S v (m + i) = uE e i
 | 0, _ => hv
 | i + 1, hi => by
  show nx S (itU S v (m + i)) = _
  rw [run_it he hv i (by omega), (h.inner he hi).1]
theorem follow {e : Eg} (he : e ∈ E) : ∃ f ∈ E, f.1 = e.2 ∧ uE f 0 = nx S (uE e (lnE e - 1)) ∧ ∀ g ∈ E, g.1 = e.2 → g = f ∨ (dE f = (dE e).l ∧ dE g ≠ (dE e).l) := by
 have h1 := h.at_ he
 have hu := h1.2.2.2 (lnE e - 1) (by have := h1.1; omega)
 have hend := h.uE_end he
 have hd2 : (uE e (lnE e - 1)).2 = dE e := rfl
 obtain ⟨f, hf, i, hi, e1⟩ := h.one (nx_bgn hu)
 have hfa := h.at_ hf
 have i0 : i = 0 := Classical.byContradiction fun hne => by
  obtain ⟨k, rfl⟩ : ∃ k, i = k + 1 := ⟨i - 1, by omega⟩
  have hk := hfa.2.2.2 k (by omega)
  have hkf := (h.inner hf hi).1
  have hinj := nx_inj hk hu (hkf.trans e1.symm)
  obtain ⟨e2, e3⟩ := h.uniqU hf he (by omega) (by have := h1.1; omega) hinj
  subst e2
  omega
 subst i0
 have ef : f.1 = e.2 := by
  have := congrArg Prod.fst e1
  have e4 : (nx S (uE e (lnE e - 1))).1 = hdU (uE e (lnE e - 1)) := rfl
  rw [e4, hend] at this
  rw [this]
  unfold uE
  refine pt_ext ?_ ?_ <;> simp [addW]
 refine ⟨f, hf, ef, e1.symm, fun g hg eg => ?_⟩
 refine Classical.byContradiction fun hcon => ?_
 have hne : g ≠ f := fun e5 => hcon (.inl e5)
 have hga := h.at_ hg
 have bf := hfa.2.2.2 0 hfa.1
 have bg := hga.2.2.2 0 hga.1
 have z0 : ∀ x : Eg, (uE x 0).1 = x.1 := fun x => by
  unfold uE
  refine pt_ext ?_ ?_ <;> simp [addW]
 have h2 := two_from bf bg (by rw [z0, z0, ef, eg]) (fun e5 => hne (h.uniqU hf hg hfa.1 hga.1 e5).1.symm)
 have df : (uE f 0).2 = dE f := rfl
 have dg : (uE g 0).2 = dE g := rfl
 rw [df, dg] at h2
 have gE : uE g 0 = (hdU (uE e (lnE e - 1)), dE g) := Prod.ext (by rw [z0, eg, hend]) rfl
 have edf : dE f = nxW S (uE e (lnE e - 1)) := (congrArg Prod.snd e1).symm
 rcases nx_cases S (uE e (lnE e - 1)) with ⟨a1, _, a3⟩ | ⟨a1, a2, _, a3⟩ | ⟨a1, a2, _, a3⟩
 ·have e6 : dE f = (dE e).l := by
   have := congrArg Prod.snd (e1.symm.trans a3)
   exact this
  refine hcon (.inr ⟨e6, ?_⟩)
  rw [h2, e6]
  cases dE e <;> simp [Wy.l]
 ·have e6 : dE f = dE e := by
   have := congrArg Prod.snd (e1.symm.trans a3)
   exact this
  rw [gE, h2, e6] at bg
  have : lc (hdU (uE e (lnE e - 1)), (dE e).l.l) = rc (uE e (lnE e - 1)) := by
   rw [← hd2]
   generalize uE e (lnE e - 1) = u
   obtain ⟨⟨x, y⟩, d⟩ := u
   cases d <;> refine pt_ext ?_ ?_ <;> simp only [lc, rc, hdU, Wy.v, Wy.l] <;> omega
  have b1 := bg.1
  rw [this, hu.2] at b1
  cases b1
 ·have e6 : dE f = (dE e).r := by
   have := congrArg Prod.snd (e1.symm.trans a3)
   exact this
  have e7 : dE g = (dE e).l := by
   rw [h2, e6]
   cases dE e <;> rfl
  rw [gE, e7] at bg
  have b2 := bg.2
  have := rc_left (uE e (lnE e - 1))
  rw [hd2] at this
  rw [this] at b2
  rw [hd2] at a1
  rw [b2] at a1
  cases a1
theorem turn {e f : Eg} (he : e ∈ E) (hf : f ∈ E) (hn : uE f 0 = nx S (uE e (lnE e - 1))) : (wayF f = wayF e ↔ trn S (uE e (lnE e - 1)) = 0) := by
 have h1 := h.at_ he
 have h2 := h.at_ hf
 rw [h1.2.2.1, h2.2.2.1]
 have hd2 : (uE e (lnE e - 1)).2 = dE e := rfl
 have df : (uE f 0).2 = dE f := rfl
 have e6 : dE f = (nx S (uE e (lnE e - 1))).2 := by rw [← hn]; rfl
 rcases nx_cases S (uE e (lnE e - 1)) with ⟨_, a2, a3⟩ | ⟨_, _, a2, a3⟩ | ⟨_, _, a2, a3⟩ <;> rw [a2, e6, a3] <;> simp only [hd2]
 ·refine ⟨fun h5 => ?_, fun h5 => by omega⟩
  have := v_inj h5
  cases hd : dE e <;> rw [hd] at this <;> simp [Wy.l] at this
 ·refine ⟨fun h5 => ?_, fun h5 => by omega⟩
  have := v_inj h5
  cases hd : dE e <;> rw [hd] at this <;> simp [Wy.r] at this
theorem cnr_run {e : Eg} (he : e ∈ E) {v : Un} {m : Nat} (hv : itU S v m = uE e 0) : ∀ i, i < lnE e → cnr S v (m + i) = cnr S v m
 | 0, _ => rfl
 | i + 1, hi => by
  show cnr S v (m + i) ++ (if trn S (itU S v (m + i)) = 0 then [] else [hdU (itU S v (m + i))]) = _
  rw [cnr_run he hv i (by omega), h.run_it he hv i (by omega), if_pos (h.inner he hi).2, List.append_nil]
theorem cnr_edge {e f : Eg} (he : e ∈ E) (hf : f ∈ E) (hn : uE f 0 = nx S (uE e (lnE e - 1))) {v : Un} {m : Nat} (hv : itU S v m = uE e 0) :
  itU S v (m + lnE e) = uE f 0 ∧ cnr S v (m + lnE e) = cnr S v m ++ (if wayF f = wayF e then [] else [e.2]) := by
 have h1 := (h.at_ he).1
 obtain ⟨k, hk⟩ : ∃ k, lnE e = k + 1 := ⟨lnE e - 1, by omega⟩
 have hr := h.run_it he hv k (by omega)
 have hk1 : lnE e - 1 = k := by omega
 have ht := h.turn he hf hn
 have hend := h.uE_end he
 rw [hk1] at hn ht hend
 rw [hk]
 constructor
 ·show nx S (itU S v (m + k)) = _
  rw [hr, hn]
 ·show cnr S v (m + k) ++ (if trn S (itU S v (m + k)) = 0 then [] else [hdU (itU S v (m + k))]) = _
  rw [h.cnr_run he hv k (by omega), hr, hend]
  by_cases hw : wayF f = wayF e
  ·rw [if_pos hw, if_pos (ht.1 hw)]
  ·rw [if_neg hw, if_neg fun h5 => hw (ht.2 h5)]
end EdgesOf
theorem cyc_fwd {S : Cs} {w x : Un} {n : Nat} (h : Cyc S w n) (hx : inCy S w n x) : ∀ k, inCy S w n (itU S x k)
 | 0 => hx
 | k + 1 => h.next (cyc_fwd h hx k)
theorem cyc_bwd {S : Cs} {w x : Un} {n : Nat} (h : Cyc S w n) (hb : bgn S x) : ∀ k, inCy S w n (itU S x k) → inCy S w n x
 | 0, hx => hx
 | k + 1, hx => by
  refine cyc_bwd h hb k ?_
  obtain ⟨j, hj, e⟩ := hx
  have e2 : nx S (itU S w (j + n - 1)) = nx S (itU S x k) := by
   have h1 : itU S w (j + n) = itU S w j := h.period j
   have h2 : itU S w (j + n) = nx S (itU S w (j + n - 1)) := by
    have := h.pos
    conv => lhs; rw [show j + n = (j + n - 1) + 1 by omega]
    rfl
   rw [← h2, h1, e]
   rfl
  have := nx_inj (itU_bgn h.beg _) (itU_bgn hb _) e2
  rw [← this]
  exact cyc_fwd h h.refl_in _
structure Fol (S : Cs) (E : List Eg) (vs : List (Un × Nat)) (op : Eg → Bool) : Prop where
 cyc : ∀ q ∈ vs, Cyc S q.1 q.2
 apart : vs.Pairwise fun a b => ∀ z, ¬ (inCy S a.1 a.2 z ∧ inCy S b.1 b.2 z)
 op_iff : ∀ f ∈ E, op f = true ↔ ∀ q ∈ vs, ¬ inCy S q.1 q.2 (uE f 0)
structure Trip (S : Cs) (E : List Eg) (vs : List (Un × Nat)) (op : Eg → Bool) (e0 e : Eg) (m : Nat) : Prop where
 cyc : ∀ q ∈ vs, Cyc S q.1 q.2
 pw : vs.Pairwise fun a b => ∀ z, ¬ (inCy S a.1 a.2 z ∧ inCy S b.1 b.2 z)
 in0 : e0 ∈ E
 in1 : e ∈ E
 out : ∀ q ∈ vs, ¬ inCy S q.1 q.2 (uE e0 0)
 it : itU S (uE e0 0) m = uE e 0
 apart : ∀ i j, i < j → j < m → itU S (uE e0 0) i ≠ itU S (uE e0 0) j
 op_iff : ∀ f ∈ E, op f = true ↔ (∀ q ∈ vs, ¬ inCy S q.1 q.2 (uE f 0)) ∧ ∀ i, i < m → itU S (uE e0 0) i ≠ uE f 0
section
variable {S : Cs} {E : List Eg} {vs : List (Un × Nat)} {op : Eg → Bool}
theorem Fol.nil (hop : ∀ f ∈ E, op f = true) : Fol S E [] op := ⟨by simp, by simp, fun f hf => by simp [hop f hf]⟩
theorem Fol.start (hF : Fol S E vs op) {e0 : Eg} (he : e0 ∈ E) (ho : op e0 = true) : Trip S E vs op e0 e0 0 :=
 ⟨hF.cyc, hF.apart, he, he, (hF.op_iff e0 he).1 ho, rfl, fun i j _ hj => by omega, fun f hf => (hF.op_iff f hf).trans ⟨fun h => ⟨h, fun i hi => by omega⟩, fun h => h.1⟩⟩
theorem Trip.step (h : EdgesOf S E) {e0 e f : Eg} {m : Nat} (hT : Trip S E vs op e0 e m) (ho : op e = true) (hf : f ∈ E) (hn : uE f 0 = nx S (uE e (lnE e - 1))) {op2 : Eg → Bool} (h2 : ∀ g ∈ E, op2 g = (op g && decide (g ≠ e))) : Trip S E vs op2 e0 f (m + lnE e) := by
 have hc := h.cnr_edge hT.in1 hf hn hT.it
 have hpos := (h.at_ hT.in1).1
 have hb0 := (h.at_ hT.in0).2.2.2 0 (h.at_ hT.in0).1
 have hop := (hT.op_iff e hT.in1).1 ho
 refine ⟨hT.cyc, hT.pw, hT.in0, hf, hT.out, hc.1, fun i j hij hj => ?_, fun g hg => ?_⟩
 ·by_cases hjm : j < m
  ·exact hT.apart i j hij hjm
  ·obtain ⟨a, rfl⟩ : ∃ a, j = m + a := ⟨j - m, by omega⟩
   have ra := h.run_it hT.in1 hT.it a (by omega)
   rw [ra]
   intro e5
   by_cases him : i < m
   ·rcases Nat.lt_or_ge i a with hia | hia
    ·have e6 := itU_back hb0 (i := i) (j := m + a) (by omega) (by rw [e5, ra])
     have e7 := h.run_it hT.in1 hT.it (a - i) (by omega)
     rw [show m + (a - i) = m + a - i by omega, e6] at e7
     obtain ⟨_, e8⟩ := h.uniqU hT.in0 hT.in1 (h.at_ hT.in0).1 (by omega) e7
     omega
    ·have e6 : itU S (uE e0 0) (i - a + a) = itU S (itU S (uE e0 0) m) a := by
      rw [show i - a + a = i by omega, ← itU_add, e5, ra]
     rw [itU_add] at e6
     have inj : ∀ (k : Nat) (x y : Un), bgn S x → bgn S y → itU S x k = itU S y k → x = y := by
      intro k
      induction k with
      | zero => intro x y _ _ e9; exact e9
      | succ k ih => intro x y hx hy e9; exact ih x y hx hy (nx_inj (itU_bgn hx k) (itU_bgn hy k) e9)
     have e7 := inj a _ _ (itU_bgn hb0 _) (itU_bgn hb0 _) e6
     exact hop.2 (i - a) (by omega) (e7.trans hT.it)
   ·obtain ⟨b, rfl⟩ : ∃ b, i = m + b := ⟨i - m, by omega⟩
    rw [h.run_it hT.in1 hT.it b (by omega)] at e5
    have := uE_inj e5
    omega
 ·rw [h2 g hg, Bool.and_eq_true, hT.op_iff g hg, decide_eq_true_eq, and_assoc]
  refine and_congr_right fun _ => ⟨fun ⟨h5, h6⟩ i hi => ?_, fun h5 => ⟨fun i hi => h5 i (by omega), fun e5 => ?_⟩⟩
  ·by_cases him : i < m
   ·exact h5 i him
   ·obtain ⟨b, rfl⟩ : ∃ b, i = m + b := ⟨i - m, by omega⟩
    rw [h.run_it hT.in1 hT.it b (by omega)]
    intro e7
    exact h6 (h.uniqU hT.in1 hg (by omega) (h.at_ hg).1 e7).1.symm
  ·subst e5
   exact h5 m (by omega) hT.it
theorem Trip.stop (h : EdgesOf S E) {e0 e : Eg} {m : Nat} (hT : Trip S E vs op e0 e m) (hm : 0 < m) (ho : op e = false) : Cyc S (uE e0 0) m ∧ Fol S E (vs ++ [(uE e0 0, m)]) op := by
 have hb0 := (h.at_ hT.in0).2.2.2 0 (h.at_ hT.in0).1
 have hno : ¬ ((∀ q ∈ vs, ¬ inCy S q.1 q.2 (uE e 0)) ∧ ∀ i, i < m → itU S (uE e0 0) i ≠ uE e 0) := fun h5 => by
  have := (hT.op_iff e hT.in1).2 h5
  rw [ho] at this
  cases this
 have h1 : ∀ q ∈ vs, ¬ inCy S q.1 q.2 (uE e 0) := fun q hq hi => hT.out q hq (cyc_bwd (hT.cyc q hq) hb0 m (by rw [hT.it]; exact hi))
 have hback : itU S (uE e0 0) m = uE e0 0 := Classical.byContradiction fun hne => hno ⟨h1, fun i hi e5 => by
  have e6 := itU_back hb0 (i := i) (j := m) (by omega) (by rw [e5, hT.it])
  rcases Nat.eq_zero_or_pos i with h0 | h0
  ·subst h0; exact hne (by simpa using e6)
  ·exact hT.apart 0 (m - i) (by omega) (by omega) e6.symm⟩
 have hcyc : Cyc S (uE e0 0) m := ⟨hb0, hm, hback, hT.apart⟩
 refine ⟨hcyc, fun q hq => ?_, List.pairwise_append.2 ⟨hT.pw, by simp, fun a ha b hb z hz => ?_⟩, fun f hf => ?_⟩
 ·rcases List.mem_append.1 hq with hq | hq
  ·exact hT.cyc q hq
  ·rw [List.mem_singleton.1 hq]; exact hcyc
 ·rw [List.mem_singleton.1 hb] at hz
  exact hT.out a ha (((hT.cyc a ha).share hcyc hz.1 hz.2).2 _ |>.2 hcyc.refl_in)
 ·rw [hT.op_iff f hf]
  constructor
  ·rintro ⟨h5, h6⟩ q hq
   rcases List.mem_append.1 hq with hq | hq
   ·exact h5 q hq
   ·rw [List.mem_singleton.1 hq]
    rintro ⟨k, hk, e5⟩
    exact h6 k hk e5
  ·intro h5
   exact ⟨fun q hq => h5 q (by simp [hq]), fun i hi e5 => h5 (uE e0 0, m) (by simp) ⟨i, hi, e5⟩⟩
theorem Fol.done (h : EdgesOf S E) (hF : Fol S E vs op) (hno : ∀ f ∈ E, op f = false) : Follow S vs := by
 refine ⟨hF.cyc, hF.apart, fun z hz => ?_⟩
 obtain ⟨f, hf, i, hi, rfl⟩ := h.one hz
 have h1 : ¬ ∀ q ∈ vs, ¬ inCy S q.1 q.2 (uE f 0) := fun h5 => by
  have := (hF.op_iff f hf).2 h5
  rw [hno f hf] at this
  cases this
 have h2 : ∃ q ∈ vs, inCy S q.1 q.2 (uE f 0) := Classical.byContradiction fun h5 => h1 fun q hq hi => h5 ⟨q, hq, hi⟩
 obtain ⟨q, hq, h3⟩ := h2
 refine ⟨q, hq, ?_⟩
 have := h.run_it hf (v := uE f 0) (m := 0) rfl i hi
 rw [Nat.zero_add] at this
 rw [← this]
 exact cyc_fwd (hF.cyc q hq) h3 i
end
end Go.Proofs.YtdfpbhlnlkjjlaaGreat

/- A map from edges to bools that the call itself has made: look-up, store, delete. -/
namespace Go.Proofs.YtdfpbhlnlkjjlaaGreat
open Go.RowKit Go.Maps Go.WideElems
set_option linter.unusedVariables false
set_option linter.unusedSimpArgs false
theorem laidOutE : laidOutB Tryz.prog = true := by kernel_rfl
theorem rowEg : 74 < Tryz.prog.types.size := of_decide_eq_true (by kernel_rfl)
theorem lawEgT : WideMaps.KeyLaw Tryz.prog 74 := deep_law_laid laidOutE (m := 4) (by omega) rowEg (by kernel_rfl) (by rw [Tryz.underlying74])
theorem lawEg : Keyed Tryz.prog 74 := Keyed.of_law lawEgT
def vEg (e : Eg) : Value := .agg #[.int .i64 e.1.1, .int .i64 e.1.2, .int .i64 e.2.1, .int .i64 e.2.2]
def kEg (e : Eg) : Lit := .string (keyBytes [.int .i64 e.1.1, .int .i64 e.1.2, .int .i64 e.2.1, .int .i64 e.2.2])
def okP (p : Pt) : Prop := (-1000000000 ≤ p.1 ∧ p.1 ≤ 1000000000) ∧ -1000000000 ≤ p.2 ∧ p.2 ≤ 1000000000
def okE (e : Eg) : Prop := okP e.1 ∧ okP e.2
theorem keyLits_pe {p : Pt} (h : okP p) (d : Nat) : Tryz.prog.keyLits (d + 2) 53 [.int .i64 p.1, .int .i64 p.2] = some [.int .i64 p.1, .int .i64 p.2] := by
 obtain ⟨⟨h1, h2⟩, h3, h4⟩ := h
 have w1 : (Lit.int .i64 p.1).wf = true := WalkArith.wf_i64 (by omega)
 have w2 : (Lit.int .i64 p.2).wf = true := WalkArith.wf_i64 (by omega)
 have c1 : Tryz.prog.cellsOf 53 = 2 := by kernel_rfl
 have c2 : Tryz.prog.cellsOf 3 = 1 := by kernel_rfl
 simp [Program.keyLits, Tryz.underlying53, Tryz.underlying3, c1, c2, w1, w2]
theorem keyLits_eg {e : Eg} (h : okE e) (d : Nat) : Tryz.prog.keyLits (d + 3) 74 [.int .i64 e.1.1, .int .i64 e.1.2, .int .i64 e.2.1, .int .i64 e.2.2] = some [.int .i64 e.1.1, .int .i64 e.1.2, .int .i64 e.2.1, .int .i64 e.2.2] := by
 have c0 : Tryz.prog.cellsOf 74 = 4 := by kernel_rfl
 have c1 : Tryz.prog.cellsOf 53 = 2 := by kernel_rfl
 have k1 := keyLits_pe h.1 d
 have k2 := keyLits_pe h.2 d
 unfold Program.keyLits
 simp [Tryz.underlying74, c0, c1, k1, k2]
theorem keyOf_eg {e : Eg} (h : okE e) : keyOf Tryz.prog 74 (vEg e) = some (kEg e) := by
 have h1 : Tryz.prog.keyType 74 = true := by kernel_rfl
 have c1 : Tryz.prog.cellsOf 74 = 4 := by kernel_rfl
 obtain ⟨d, hd⟩ : ∃ d, Tryz.prog.types.size + 1 = d + 3 := by
  have h2 : 2 ≤ Tryz.prog.types.size := of_decide_eq_true (by kernel_rfl)
  exact ⟨Tryz.prog.types.size - 2, by omega⟩
 have h2 := keyLits_eg h d
 unfold keyOf vEg
 rw [Tryz.underlying74, hd]
 have h3 : (Value.agg #[.int .i64 e.1.1, .int .i64 e.1.2, .int .i64 e.2.1, .int .i64 e.2.2]).formed Tryz.prog 74 = true := by simp [Value.formed, Tryz.underlying74, c1]
 have h4 : (Value.agg #[.int .i64 e.1.1, .int .i64 e.1.2, .int .i64 e.2.1, .int .i64 e.2.2]).cells.toList = [.int .i64 e.1.1, .int .i64 e.1.2, .int .i64 e.2.1, .int .i64 e.2.2] := rfl
 simp only [h1, h3, h4, h2, Bool.and_true, if_true, Option.map_some]
 rfl
theorem kEg_inj {a b : Eg} (ha : okE a) (hb : okE b) (h : kEg a = kEg b) : a = b := by
 have h1 := keyOf_eg ha
 have h2 := keyOf_eg hb
 rw [h] at h1
 have := lawEg.inj h1 h2
 unfold vEg at this
 simp only [Value.agg.injEq, Array.mk.injEq, List.cons.injEq, Value.int.injEq, true_and, and_true] at this
 exact Prod.ext (Prod.ext this.1 this.2.1) (Prod.ext this.2.2.1 this.2.2.2)
theorem zeroB (w : World) : (zeroValue 4).run Tryz.prog w = .ok (.bool false) w := by kernel_rfl
def Es (b n : Nat) (op : Eg → Bool) (w : World) : Prop := ∃ D : DataW Unit, w.ownsMap Tryz.prog 74 (plainElem Tryz.prog 4) b n D ∧ ∀ e, okE e → D.atKey (kEg e) (.lit (.bool false)) = .lit (.bool (op e))
theorem Es.made (w : World) (op : Eg → Bool) (h : ∀ e, op e = false) : Es w.heap.size 0 op (w.alloc (.map #[] 0)) :=
 ⟨.map [], World.ownsMap_made w _ _ _, fun e _ => by rw [h e]; exact atKey_of_not_has (H := Unit) (D := .map []) (k := kEg e) (by rw [has_eq]; simp) _⟩
theorem Es.grown {b n : Nat} {op : Eg → Bool} {w w' : World} (h : Es b n op w) {row : Option Nat} (hg : w.grownBy w' row) (h1 : some b ≠ row) : Es b n op w' := by
 obtain ⟨D, d1, d2⟩ := h
 exact ⟨D, d1.kept hg h1, d2⟩
theorem Es.below {b n : Nat} {op : Eg → Bool} {w w' : World} (h : Es b n op w) (hb : Below w.heap.size w w') : Es b n op w' := h.grown (row := none) ⟨hb.os, hb.tape, hb.output, hb.size, fun k hk _ => hb.block k hk⟩ (by simp)
theorem Es.lt {b n : Nat} {op : Eg → Bool} {w : World} (h : Es b n op w) : b < w.heap.size := by
 obtain ⟨D, d1, _⟩ := h
 exact d1.lt
theorem Es.look {b n : Nat} {op : Eg → Bool} {w : World} (h : Es b n op w) {e : Eg} (he : okE e) : (Instr.lookup 91 (.map (some b)) (vEg e) false).run Tryz.prog w = .ok (.bool (op e)) w := by
 obtain ⟨D, d1, d2⟩ := h
 obtain ⟨v, ps, hrun, hR⟩ := d1.lookup lawEg Tryz.underlying91 (zeroB w) (plainElem_bool Tryz.underlying4 false) (keyOf_eg he)
 rw [hrun]
 rw [d2 e he] at hR
 cases v <;> simp [plainElem, Tryz.underlying4] at hR
 rw [hR.1]
theorem wpList_look_es {w : World} {ops : Array Oper} {rest : List Oper} {o : Oper} {a : Act} {Q : Exit → Act → World → Prop} (hg : o.guard = none) (m x : Operand) (hop : o.op = Op.lookup 91 m x false) {b n : Nat} {op : Eg → Bool}
  (hm : a.eval m = .map (some b)) (h : Es b n op w) (e : Eg) (hx : a.eval x = vEg e) (he : okE e) (v : Bool) (hv : op e = v) (hK : wpList Tryz.prog ops Q rest (a.put o.dst (.bool v)) w) : wpList Tryz.prog ops Q (o :: rest) a w := by
 refine wpList_plain hg fun K' hK' => ?_
 unfold Oper.wp
 subst hv
 simp [execOp, hop, hm, hx, h.look he, Result.andThen]
 exact hK' _ _ hK
theorem wpList_set_es {w : World} {ops : Array Oper} {rest : List Oper} {o : Oper} {a : Act} {Q : Exit → Act → World → Prop} (hg : o.guard = none) (m x v : Operand) (hop : o.op = Op.mapUpdate 91 m x v) {b n : Nat} {op : Eg → Bool}
  (hm : a.eval m = .map (some b)) (h : Es b n op w) (hn : n < maxLen) (e : Eg) (hx : a.eval x = vEg e) (hv : a.eval v = .bool true) (he : okE e)
  (hK : ∀ w', w.grownBy w' (some b) → Es b (n + 1) (fun f => decide (f = e) || op f) w' → wpList Tryz.prog ops Q rest (a.put o.dst undef) w') : wpList Tryz.prog ops Q (o :: rest) a w := by
 obtain ⟨D, d1, d2⟩ := h
 refine wpList_mapUpdate_in w hg m x v 91 hop 74 4 lawEg Tryz.underlying91 (plainElem Tryz.prog 4) b n D hm d1 hn (vEg e) (.bool true) (kEg e) hx hv (keyOf_eg he) _ _ (plainElem_bool Tryz.underlying4 true) fun w' o3 g3 => ?_
 refine hK w' g3.grown ⟨_, o3, fun f hf => ?_⟩
 by_cases hef : f = e
 ·subst hef
  rw [atKey_put_same d1.isMap (lawEg.key (keyOf_eg he))]
  simp
 ·rw [atKey_put_other fun h5 => hef (kEg_inj hf he h5), d2 f hf]
  simp [hef]
theorem wpList_del_es {w : World} {ops : Array Oper} {rest : List Oper} {o : Oper} {a : Act} {Q : Exit → Act → World → Prop} (hg : o.guard = none) (m x : Operand) (hop : o.op = Op.call { callee := Callee.builtin Builtin.delete, args := #[m, x], argTypes := #[91, 74] }) {b n : Nat} {op : Eg → Bool}
  (hm : a.eval m = .map (some b)) (h : Es b n op w) (e : Eg) (hx : a.eval x = vEg e) (he : okE e)
  (hK : ∀ w', w.grownBy w' (some b) → w'.heap.size = w.heap.size → Es b n (fun f => op f && decide (f ≠ e)) w' → wpList Tryz.prog ops Q rest (a.put o.dst (.tuple #[])) w') : wpList Tryz.prog ops Q (o :: rest) a w := by
 obtain ⟨D, d1, d2⟩ := h
 refine wpList_delete_own w hg m x 91 74 hop 4 lawEg Tryz.underlying91 (plainElem Tryz.prog 4) b n D hm d1 (vEg e) (kEg e) hx (keyOf_eg he) fun w' o3 g3 => ?_
 have hsz : w'.heap.size = w.heap.size := by
  obtain ⟨es, clock, es', clock', hb, rfl⟩ := g3
  simp [Go.ChangeMaps.setBlock]
 refine hK w' g3.grown hsz ⟨_, o3, fun f hf => ?_⟩
 by_cases hef : f = e
 ·subst hef
  rw [atKey_del_same]
  simp
 ·rw [atKey_del_other fun h5 => hef (kEg_inj hf he h5), d2 f hf]
  simp [hef]
end Go.Proofs.YtdfpbhlnlkjjlaaGreat
