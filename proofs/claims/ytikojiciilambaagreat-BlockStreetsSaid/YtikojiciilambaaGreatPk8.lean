/- Texts laid together: GraA, App, HeldF. Lemmas for the statements of this seat; no condition. -/
import Derived.Test.YtikojiciilambaaGreatPk7
import Derived.Test.YtikojiciilambaaGreatPk4
import Derived.Maps.AppendAt
import Derived.Laws.AppendOwnNone
import Derived.Test.YtikojiciilambaaGreatPk3

/- The reference's networks: Around, isNode. -/
namespace Go.Proofs.YtikojiciilambaaGreat
open Go.RowKit
set_option linter.unusedVariables false
set_option linter.unusedSimpArgs false
def SmL (L : List Ln) : Prop := L.length ≤ 1000000 ∧ ∀ q ∈ L, q.2.length ≤ 1000000
def rowH (R : List Ln) (x y : Int) : Bool := hasB R y x
def colH (C : List Ln) (x y : Int) : Bool := hasB C x y
def arndL (R C : List Ln) (p : Pt) : Value := .agg #[.bool (rowH R p.1 p.2), .bool (colH C p.1 p.2), .bool (rowH R (p.1 - 1) p.2), .bool (colH C p.1 (p.2 - 1))]
set_option maxRecDepth 100000 in
set_option maxHeartbeats 8000000 in
theorem rAround34_any {w : World} {v1 v2 : Value} {R C : List Ln} (h1 : RdLn w w.heap.size v1 R) (h2 : RdLn w w.heap.size v2 C) (sR : SmL R) (sC : SmL C) {x y : Int} (hp : bigP (x, y)) :
  Calls Tryz.prog 169 #[v1, v2, .agg #[.int .i64 x, .int .i64 y]] w fun e w' => e = .returned (arndL R C (x, y)) ∧ Below w.heap.size w w' := by
 obtain ⟨⟨x1, x2⟩, y1, y2⟩ := hp
 simp only at x1 x2 y1 y2
 have hA := hide (fun (W : World) (hb : Below w.heap.size w W) (a z : Int) => rhas34_any (w := W) ((h1.below hb).mono hb.size) a z (by have := sR.1; omega) (fun q hq => by have := sR.2 q hq; omega))
 have hB := hide (fun (W : World) (hb : Below w.heap.size w W) (a z : Int) => rhas34_any (w := W) ((h2.below hb).mono hb.size) a z (by have := sC.1; omega) (fun q hq => by have := sC.2 q hq; omega))
 obtain ⟨A1, c1, rfl, _⟩ := h1
 obtain ⟨A2, c2, rfl, _⟩ := h2
 have H1 := hide (fun W hb => hA.out W hb y x)
 have H2 := hide (fun W hb => hB.out W hb x y)
 have H3 := hide (fun W hb => hA.out W hb y (x - 1))
 have H4 := hide (fun W hb => hB.out W hb x (y - 1))
 have HR : Hid (arndL R C (x, y) = .agg #[.bool (hasB R y x), .bool (hasB C x y), .bool (hasB R y (x - 1)), .bool (hasB C x (y - 1))]) := hide rfl
 generalize hasB R y x = q1 at *
 generalize hasB C x y = q2 at *
 generalize hasB R y (x - 1) = q3 at *
 generalize hasB C x (y - 1) = q4 at *
 clear hA hB sR sC
 generalize R.length = n1 at *
 generalize C.length = n2 at *
 go_enter Tryz.func169, Tryz.ntmps169
 go_upto_region 1 with fail
 refine wp_name fun w0 hw0 => ?_
 have hb0 : Below w.heap.size w w0 := by
  rw [hw0]
  repeat (first | with_reducible exact Below.refl _ _ | with_reducible refine Below.setCell ?_ (by first | (simp; done) | (simp; omega)) _ | with_reducible refine Below.alloc ?_ (by first | omega | (simp; omega) | simp) _)
 have p0 : w0.cell? ⟨w.heap.size, 0, none⟩ = some (.int .i64 x) := by rw [hw0]; simp [go_sem]
 have p1 : w0.cell? ⟨w.heap.size, 1, none⟩ = some (.int .i64 y) := by rw [hw0]; simp [go_sem]
 have f0 : ∀ i : Nat, i < 4 → w0.cell? ⟨w.heap.size + 1, i, none⟩ = some (.bool false) ∧ w0.frozen? ⟨w.heap.size + 1, i, none⟩ = false := by
  intro i hi
  rw [hw0]
  match i, hi with
  | 0, _ => simp [go_sem]
  | 1, _ => simp [go_sem]
  | 2, _ => simp [go_sem]
  | 3, _ => simp [go_sem]
 have hsz : w.heap.size + 2 ≤ w0.heap.size := by rw [hw0]; simp
 have HB0 := hide hb0
 have HF := hide f0
 clear hw0 hb0 f0
 have HD := hide (And.intro p0 p1)
 have hz1 : w.heap.size < w0.heap.size := by omega
 have hz2 : w.heap.size + 1 < w0.heap.size := by omega
 clear p0 p1 hsz
 have wx1 : IntKind.i64.wrap (x - 1) = x - 1 := IntWalk.i64_in _ (by omega)
 have wy1 : IntKind.i64.wrap (y - 1) = y - 1 := IntWalk.i64_in _ (by omega)
 refine wp_region_mix [0, 1, 2, 3, 4, 6, 7, 8, 9, 10, 12, 13, 14, 15, 16, 17, 19, 20, 21, 22, 23, 24] [5, 11, 18, 25, 26, 27] (fun w' => Below w0.heap.size w0 w') (by kernel_rfl) (by kernel_rfl) (Below.refl _ _).drew ?_
 simp only [List.map_cons, List.map_nil, opAt, List.getElem?_cons_succ, List.getElem?_cons_zero, Option.getD_some]
 have HBK : Hid (Below w0.heap.size w0 w0.drew) := hide (Below.refl _ _).drew
 generalize w0.drew = wk at *
 iterate 22
  refine ⟨?_, Or.inl ⟨by rfl, ?_⟩, ?_⟩
  rotate_left 1
  ·intro w' hSw
   obtain ⟨p0, p1⟩ := HD.out
   replace p0 := (hSw.cell (p := ⟨w.heap.size, 0, none⟩) hz1).trans p0
   replace p1 := (hSw.cell (p := ⟨w.heap.size, 1, none⟩) hz1).trans p1
   clear hSw
   go_simp
   first | done | with_reducible rfl
  simp only [Act.put, List.setIfInBounds_toArray, List.set_cons_zero, List.set_cons_succ]
 simp only [wpReads]
 intro K hK
 simp only [Act.put, List.setIfInBounds_toArray, List.set_cons_zero, List.set_cons_succ] at hK ⊢
 go_simp
 refine (H1.out _ (HB0.out.trans (HBK.out.mono HB0.out.size))).mono ?_
 rintro e wc ⟨rfl, rfl⟩
 refine hK _ _ (fun _ => HBK.out) ?_
 clear hK K
 intro K hK
 simp only [Act.put, List.setIfInBounds_toArray, List.set_cons_zero, List.set_cons_succ] at hK ⊢
 go_simp
 refine (H2.out _ (HB0.out.trans (HBK.out.mono HB0.out.size))).mono ?_
 rintro e wc ⟨rfl, rfl⟩
 refine hK _ _ (fun _ => HBK.out) ?_
 clear hK K
 intro K hK
 simp only [Act.put, List.setIfInBounds_toArray, List.set_cons_zero, List.set_cons_succ] at hK ⊢
 go_simp
 refine (H3.out _ (HB0.out.trans (HBK.out.mono HB0.out.size))).mono ?_
 rintro e wc ⟨rfl, rfl⟩
 refine hK _ _ (fun _ => HBK.out) ?_
 clear hK K
 intro K hK
 simp only [Act.put, List.setIfInBounds_toArray, List.set_cons_zero, List.set_cons_succ] at hK ⊢
 go_simp
 refine (H4.out _ (HB0.out.trans (HBK.out.mono HB0.out.size))).mono ?_
 rintro e wc ⟨rfl, rfl⟩
 refine hK _ _ (fun _ => HBK.out) ?_
 clear hK K
 intro K hK
 simp only [Act.put, List.setIfInBounds_toArray, List.set_cons_zero, List.set_cons_succ] at hK ⊢
 go_simp
 refine hK _ _ (fun _ => HBK.out) ?_
 clear hK K
 have f0 := HF.out 0 (by omega)
 have f1 := HF.out 1 (by omega)
 have f2 := HF.out 2 (by omega)
 have f3 := HF.out 3 (by omega)
 obtain ⟨hcw, hfw⟩ := bcell HBK.out
 have a0 := (hcw _ 0 hz2).trans f0.1
 have a1 := (hcw _ 1 hz2).trans f1.1
 have a2 := (hcw _ 2 hz2).trans f2.1
 have a3 := (hcw _ 3 hz2).trans f3.1
 have b0 := (hfw _ 0 hz2).trans f0.2
 have b1' := (hfw _ 1 hz2).trans f1.2
 have b2' := (hfw _ 2 hz2).trans f2.2
 have b3 := (hfw _ 3 hz2).trans f3.2
 have hzk : w.heap.size + 1 < wc.heap.size := Nat.lt_of_lt_of_le hz2 HBK.out.size
 clear f0 f1 f2 f3 hcw hfw
 intro K hK
 simp only [Act.put, List.setIfInBounds_toArray, List.set_cons_zero, List.set_cons_succ] at hK ⊢
 go_simp
 refine hK _ _ (fun h => absurd rfl h) ?_
 clear hK K
 refine NoPanic.normal ?_
 go_wp2_with (fail)
 refine bodyPost_ret (v := .agg #[.bool q1, .bool q2, .bool q3, .bool q4]) (by simp [results, Tryz.results169, go_sem, a0, a1, a2, a3, hzk]) rfl ⟨by rw [HR.out], ?_⟩
 have hlow := HB0.out.trans (HBK.out.mono HB0.out.size)
 exact Below.setCell (Below.setCell (Below.setCell (Below.setCell hlow (by simp) _) (by simp) _) (by simp) _) (by simp) _
def nodeL (R C : List Ln) (p : Pt) : Bool := nodeG (rowH R) (colH C) p
set_option maxRecDepth 100000 in
set_option maxHeartbeats 8000000 in
theorem rNode34_any {w : World} {v1 v2 : Value} {R C : List Ln} (h1 : RdLn w w.heap.size v1 R) (h2 : RdLn w w.heap.size v2 C) (sR : SmL R) (sC : SmL C) {x y : Int} (hp : bigP (x, y)) :
  Calls Tryz.prog 205 #[v1, v2, .agg #[.int .i64 x, .int .i64 y]] w fun e w' => e = .returned (.bool (nodeL R C (x, y))) ∧ Below w.heap.size w w' := by
 have HA := hide (fun (W : World) (hb : Below w.heap.size w W) => rAround34_any ((h1.below hb).mono hb.size) ((h2.below hb).mono hb.size) sR sC hp)
 obtain ⟨A1, c1, rfl, _⟩ := h1
 obtain ⟨A2, c2, rfl, _⟩ := h2
 have g30 : Tryz.prog.eqGuardType Tryz.prog.depth 223 = false := by kernel_rfl
 have he4 := eq4_any
 have hr : arndL R C (x, y) = .agg #[.bool (rowH R x y), .bool (colH C x y), .bool (rowH R (x - 1) y), .bool (colH C x (y - 1))] := rfl
 have hn : nodeL R C (x, y) = !((rowH R x y == rowH R (x - 1) y) && (colH C x y == colH C x (y - 1)) && !(rowH R x y && colH C x y)) := rfl
 rw [hr] at HA
 rw [hn]
 clear hr hn sR sC
 generalize rowH R x y = q1 at *
 generalize colH C x y = q2 at *
 generalize rowH R (x - 1) y = q3 at *
 generalize colH C x (y - 1) = q4 at *
 generalize R.length = n1 at *
 generalize C.length = n2 at *
 cases q1 <;> cases q2 <;> cases q3 <;> cases q4
 all_goals
  go_enter Tryz.func205, Tryz.ntmps205
  go_wp2_with (fail)
  refine (HA.out _ ((Below.refl _ _).alloc (Nat.le_refl _) _)).mono ?_
  rintro e w1 ⟨rfl, hb⟩
  have HB := hide (((Below.refl w.heap.size w).alloc (Nat.le_refl _) _).trans (hb.mono (by simp)))
  have hsz := HB.out.size
  clear hb
  go_wp2_with (fail)
  go_ret
  exact ⟨rfl, HB.out.alloc hsz _⟩
end Go.Proofs.YtikojiciilambaaGreat

/- append(x, y...) where y reads as a list, empty or nil let in; and the reference's Twin. -/
namespace Go.Proofs.YtikojiciilambaaGreat
open Go.RowKit
set_option linter.unusedVariables false
set_option linter.unusedSimpArgs false
section
variable {P : Program} {α : Type} {enc : α → List Value} {k : Nat}
theorem run_app_rd (w : World) (henc : ∀ x, (enc x).length = k) (hint : ∀ (l : List α), ∀ u ∈ l.flatMap enc, u.oneCell' = true) (base : Nat) (t ty e : TypeId) (i : TypeInfo) (z : Value) (bytes : Nat)
  (ht : P.underlying t = some (.slice e)) (hi : P.info? e = some i) (hz : i.zero = some z) (hsize : i.size = k) (hby : i.bytes = bytes) (hzs : z.cells.size = k) (hsz : 0 < k)
  (v : Value) (n : Nat) (xs : List Value) (hown : w.ownsRow base e k v n xs) (B : Nat) (x : Value) (l : List α) (hr : RdK enc k w B x l) (h63 : n + l.length ≤ maxLen) (hbytes : (n + l.length) * bytes ≤ 140737488355328) (hbase : base ≤ w.heap.size) :
  ∃ v' w', (Builtin.append_ #[t, t] ty #[v, x]).run P w = .ok v' w' ∧ w'.ownsRow base e k v' (n + l.length) (xs ++ l.flatMap enc) ∧ w.grownBy w' v.ownBlock := by
 obtain ⟨A, c, rfl, hc⟩ := hr
 have key : ∀ ad : Addr, (∀ j u, (l.flatMap enc)[j]? = some u → w.cell? (ad.add j) = some u) → ∃ v' w', (Builtin.append_ #[t, t] ty #[v, .slice (some ad) l.length c]).run P w = .ok v' w' ∧ w'.ownsRow base e k v' (n + l.length) (xs ++ l.flatMap enc) ∧ w.grownBy w' v.ownBlock := by
  intro ad had
  obtain ⟨v', w', h1, h2, h3, _, _⟩ := run_append_own_at (P := P) w base t ty e i z k bytes ht hi hz hsize hby hzs hsz v n xs hown ad l.length c (l.flatMap enc) (by rw [flat_len henc]) had (hint l) h63 hbytes hbase
  exact ⟨v', w', h1, h2, h3⟩
 by_cases hl : l = []
 ·subst hl
  cases A with
  | some ad => exact key ad (by simp)
  | none =>
   refine ⟨v, w, ?_, by simpa using hown, grown_refl _ _⟩
   rcases hown.2 with ⟨rfl, rfl⟩ | ⟨g, cap, cur, rfl, _, _, hnc, _⟩
   ·simp [Builtin.append_, run_underlying ht, sizeOf, typeInfo, hi, Builtin.lenOf, Builtin.firstCells]
   ·simp [Builtin.append_, run_underlying ht, sizeOf, typeInfo, hi, Builtin.lenOf, Builtin.firstCells, hnc, storeCells]
 ·obtain ⟨b, off, rfl, hb, hcell⟩ := hc hl
  refine key _ fun j u hu => ?_
  have hj : j < (l.flatMap enc).length := (List.getElem?_eq_some_iff.1 hu).1
  rw [flat_len henc] at hj
  have hq : j / k < l.length := (Nat.div_lt_iff_lt_mul hsz).2 hj
  have e1 : j / k * k + j % k = j := by rw [Nat.mul_comm]; exact Nat.div_add_mod j k
  have hu2 : (enc l[j / k])[j % k]? = some u := by
   have h1 := List.getElem?_eq_getElem (l := enc l[j / k]) (i := j % k) (by rw [henc]; exact Nat.mod_lt _ hsz)
   have h2 := flat_get henc l (j / k) _ (j % k) _ (List.getElem?_eq_getElem hq) h1
   rw [e1, hu] at h2
   rw [h1]; exact h2.symm
  have := hcell (j / k) _ (List.getElem?_eq_getElem hq) (j % k) u hu2
  rw [Nat.add_assoc, e1] at this
  have e2 : (⟨b, off, none⟩ : Addr).add j = ⟨b, off + j, none⟩ := by unfold Addr.add; split <;> simp_all
  rw [e2]; exact this
theorem wp_app_rd (w : World) {o : Oper} {a : Act} {K : Act → World → Prop} {Q : Exit → Act → World → Prop} (henc : ∀ x, (enc x).length = k) (hint : ∀ (l : List α), ∀ u ∈ l.flatMap enc, u.oneCell' = true) (s x : Operand) (t : TypeId)
  (ho : o.op = .call { callee := .builtin .append, args := #[s, x], argTypes := #[t, t] }) (base : Nat) (e : TypeId) (i : TypeInfo) (z : Value) (bytes : Nat)
  (ht : P.underlying t = some (.slice e)) (hi : P.info? e = some i) (hz : i.zero = some z) (hsize : i.size = k) (hby : i.bytes = bytes) (hzs : z.cells.size = k) (hsz : 0 < k)
  (v : Value) (n : Nat) (xs : List Value) (hs : a.eval s = v) (hown : w.ownsRow base e k v n xs) (B : Nat) (l : List α) (hr : RdK enc k w B (a.eval x) l) (h63 : n + l.length ≤ maxLen) (hbytes : (n + l.length) * bytes ≤ 140737488355328) (hbase : base ≤ w.heap.size)
  (h : ∀ v' w', w'.ownsRow base e k v' (n + l.length) (xs ++ l.flatMap enc) → w.grownBy w' v.ownBlock → K (a.put o.dst v') w') : o.wp P a w K Q := by
 obtain ⟨v', w', hrun, h2, h3⟩ := run_app_rd (P := P) w henc hint base t o.type e i z bytes ht hi hz hsize hby hzs hsz v n xs hown B _ l hr h63 hbytes hbase
 unfold Oper.wp execOp
 simp only [ho, resolve, invoke, builtin, Sem.run_bind, Sem.run_pure, Result.andThen_ok, List.map_toArray, List.map_cons, List.map_nil, hs, hrun]
 exact h v' w' h2 h3
end
end Go.Proofs.YtikojiciilambaaGreat

/- A region that draws its order: reads first, then the other operations in each of the orders that they may come up in (a tree of orders). -/
namespace Go.Proofs.YtikojiciilambaaGreat
open Go.RowKit
set_option linter.unusedVariables false
set_option linter.unusedSimpArgs false
inductive Ords where
 | done : Ords
 | one : Nat → Ords → Ords
 | two : Nat → Ords → Nat → Ords → Ords
def Ords.isDone : Ords → Bool
 | .done => true
 | _ => false
def ordsB (md : Region.Mode) (ops : Array Oper) : Nat → Ords → Array Bool → Bool
 | 0, .done, l => (Region.ready md ops l).isEmpty
 | n + 1, .one t r, l => (Region.ready md ops l == [t]) && (!r.isDone || t == ops.size - 1) && ordsB md ops n r (l.setIfInBounds t true)
 | n + 1, .two i r j s, l => (Region.ready md ops l == [i, j]) && !r.isDone && !s.isDone && ordsB md ops n r (l.setIfInBounds i true) && ordsB md ops n s (l.setIfInBounds j true)
 | _, _, _ => false
section
variable {P : Program} {Q : Exit → Act → World → Prop} {md : Region.Mode} {S : World → Prop}
def wpOne (P : Program) (ops : Array Oper) (Q : Exit → Act → World → Prop) (o : Oper) (next : Act → World → Prop) (a : Act) (w : World) : Prop :=
 ∀ K : Act → World → Prop, (∀ a' w', next a' w' → K a' w') → if Region.wanted o (yielded ops a.tmps) = true then o.wp P a w K Q else K (a.put o.dst undef) w
def wpOrds (P : Program) (l : List Oper) (S : World → Prop) (Q : Exit → Act → World → Prop) : Ords → Act → World → Prop
 | .done, a, w => Q .normal a w
 | .one t r, a, w => wpOne P l.toArray Q (opAt l t) (fun a' w' => (r.isDone = false → S w') ∧ wpOrds P l S Q r a' w') a w
 | .two i r j s, a, w => wpOne P l.toArray Q (opAt l i) (fun a' w' => S w' ∧ wpOrds P l S Q r a' w') a w ∧ wpOne P l.toArray Q (opAt l j) (fun a' w' => S w' ∧ wpOrds P l S Q s a' w') a w
theorem wpOrds_E {l : List Oper} : ∀ (n : Nat) (T : Ords) (listed : Array Bool) (a : Act) (w : World), ordsB md l.toArray n T listed = true → wpOrds P l S Q T a w → wpAnyE P md l.toArray Q S (l.length - 1) n listed a w
 | 0, .done, listed, a, w, hT, h => by
  simp only [ordsB, List.isEmpty_iff] at hT
  exact ⟨hT, h⟩
 | n + 1, .one t r, listed, a, w, hT, h => by
  simp only [ordsB, Bool.and_eq_true, beq_iff_eq, Bool.or_eq_true, Bool.not_eq_true', List.size_toArray] at hT
  obtain ⟨⟨h1, h2⟩, h3⟩ := hT
  refine ⟨fun h0 => (by rw [h1] at h0; cases h0), fun i hi => ?_⟩
  obtain ⟨_, o, ho, _⟩ := mem_ready.1 hi
  rw [h1] at hi
  obtain rfl : i = t := by simpa using hi
  have ho' : l[i]? = some o := by simpa using ho
  simp only [wpOrds, opAt_some ho'] at h
  refine wpOp_step ho fun K' hK => h K' fun a' w' hn => hK a' w' ⟨fun hne => hn.1 ?_, wpOrds_E n r _ a' w' h3 hn.2⟩
  rcases h2 with h2 | h2
  ·exact h2
  ·exact absurd h2 hne
 | n + 1, .two i r j s, listed, a, w, hT, h => by
  simp only [ordsB, Bool.and_eq_true, beq_iff_eq, Bool.not_eq_true'] at hT
  obtain ⟨⟨⟨⟨h1, h2⟩, h3⟩, h4⟩, h5⟩ := hT
  refine ⟨fun h0 => (by rw [h1] at h0; cases h0), fun k hk => ?_⟩
  obtain ⟨_, o, ho, _⟩ := mem_ready.1 hk
  have ho' : l[k]? = some o := by simpa using ho
  rw [h1] at hk
  simp only [wpOrds] at h
  rcases List.mem_cons.1 hk with rfl | hk
  ·have h := h.1
   rw [opAt_some ho'] at h
   exact wpOp_step ho fun K' hK => h K' fun a' w' hn => hK a' w' ⟨fun _ => hn.1, wpOrds_E n r _ a' w' h4 hn.2⟩
  ·obtain rfl : k = j := by simpa using hk
   have h := h.2
   rw [opAt_some ho'] at h
   exact wpOp_step ho fun K' hK => h K' fun a' w' hn => hK a' w' ⟨fun _ => hn.1, wpOrds_E n s _ a' w' h5 hn.2⟩
def ordRB (md : Region.Mode) (ops : Array Oper) (n : Nat) (T : Ords) : List Nat → Array Bool → Bool
 | [], l => ordsB md ops n T l
 | i :: r, l => Region.free md ops l i && (Region.ready md ops l).contains i && waitsFor md ops (ops.size - 1) i && ordRB md ops n T r (l.setIfInBounds i true)
def ordB (md : Region.Mode) (ops : Array Oper) (R : List Nat) (n : Nat) (T : Ords) : Bool := Region.noSelect ops && decide (R.length + n = ops.size) && ordRB md ops n T R (Array.replicate ops.size false)
theorem wpReads_ord {l : List Oper} {T : Ords} {n : Nat} (hsel : ∀ (j : Nat) (o : Oper) cs b, l.toArray[j]? = some o → o.op ≠ .select cs b) (hQ : ∀ c a a' w, Q (.panic c) a w → Q (.panic c) a' w)
  {w : World} (hS : S w) : ∀ (R : List Nat) (listed : Array Bool) (a : Act), ordRB md l.toArray n T R listed = true → wpReads P l.toArray S (fun a' => wpOrds P l S Q T a' w) (R.map (opAt l)) a →
   wpAnyE P md l.toArray Q S (l.length - 1) (R.length + n) listed a w
 | [], listed, a, hR, h => by
  rw [List.length_nil, Nat.zero_add]
  exact wpOrds_E n T listed a w hR h
 | i :: r, listed, a, hR, h => by
  simp only [ordRB, Bool.and_eq_true, List.contains_iff_mem] at hR
  obtain ⟨⟨⟨f1, f2⟩, f3⟩, f4⟩ := hR
  obtain ⟨_, o, ho, _⟩ := mem_ready.1 f2
  have ho' : l[i]? = some o := by simpa using ho
  simp only [List.map_cons, opAt_some ho'] at h
  obtain ⟨v, hy, h⟩ := h
  have ih := wpReads_ord hsel hQ hS r _ _ f4 h
  rw [List.length_cons, Nat.add_right_comm]
  refine wpAnyE_first ho hsel (fun c a w h => hQ c _ _ w h) ?_ _ _ _ _ (Region.free_spec ho f1) f2 hy hS ih
  intro oL hoL
  unfold waitsFor at f3
  simp only [List.size_toArray] at f3
  rw [hoL] at f3
  obtain ⟨e, he, h2⟩ := Array.any_eq_true'.1 f3
  simp only [Bool.and_eq_true, beq_iff_eq] at h2
  exact ⟨e, he, h2.1, h2.2⟩
theorem wp_region_ords {id : Nat} {a : Act} {w : World} {l : List Oper} (R : List Nat) (n : Nat) (T : Ords) (S : World → Prop) (hm : P.follows .mixedOrders = true) (hB : ordB .any l.toArray R n T = true) (hS : S w.drew)
  (h : wpReads P l.toArray S (fun a' => wpOrds P l S (NoPanic Q) T a' w.drew) (R.map (opAt l)) a) : (Code.region id l.toArray true).wp P Q a w := by
 refine wp_region_noPanic (wp_region_any hm (wpAny_of_E (S := S) (L := l.length - 1) _ _ _ _ ?_))
 simp only [ordB, Bool.and_eq_true, decide_eq_true_eq, List.size_toArray] at hB
 obtain ⟨⟨b1, b2⟩, b4⟩ := hB
 have := wpReads_ord (Q := NoPanic Q) (S := S) (l := l) (T := T) (n := n) (w := w.drew) (Region.noSelect_spec b1) (fun _ _ _ _ h => h) hS R _ a b4 h
 rw [b2] at this
 exact this
end
end Go.Proofs.YtikojiciilambaaGreat
