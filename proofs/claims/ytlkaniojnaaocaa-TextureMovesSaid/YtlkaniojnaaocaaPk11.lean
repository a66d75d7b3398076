/- Texts laid together: MBack, MTexM, Row, Open, OpenT. Lemmas for the statements of this seat; no condition. -/
import Derived.Test.YtlkaniojnaaocaaPk10
import Derived.Test.YtlkaniojnaaocaaPk7
import Derived.Test.YtlkaniojnaaocaaPk1
import Derived.ProofKit
import Derived.Lib.SmallJoins
import Derived.Deep.Slices
import Derived.Deep.Fields
import Derived.ChangeSame

/- Plain law: a region that is moved, or flipped twice; its areas and cross-sections. -/
namespace Go.Proofs.Ytlkaniojnaaocaa
set_option linter.unusedVariables false
set_option linter.unusedSimpArgs false

theorem pmem_flip (l : List R4) (x y : Int) : pmem (l.map flip4) x y ↔ pmem l y x := by
  unfold pmem
  constructor
  · rintro ⟨r, hr, h⟩
    obtain ⟨s, hs, rfl⟩ := List.mem_map.1 hr
    exact ⟨s, hs, by simp only [rin, flip4] at h ⊢; omega⟩
  · rintro ⟨r, hr, h⟩
    exact ⟨flip4 r, List.mem_map.2 ⟨r, hr, rfl⟩, by simp only [rin, flip4] at h ⊢; omega⟩
/-- The region that a flip gives. -/
theorem flip_two {l : List R4} (h : checkF l = 0) : flipF l = ([], 4) ∨ ∃ R, flipF l = (R, 0) ∧ checkF R = 0 ∧ ∀ x y, pmem R x y ↔ pmem l y x := by
  have hv : ∀ r ∈ l.map flip4, valid4 r := fun r hr => by
    obtain ⟨s, hs, rfl⟩ := List.mem_map.1 hr
    exact flip_valid ((checkF_ok h).2.1 s hs)
  have hw : ∀ r ∈ l.map flip4, wf4 r := fun r hr => ⟨(hv r hr).1, (hv r hr).2.1⟩
  obtain ⟨hc, hp⟩ := rjoin_ok (h := hFst) rfl hw (b := []) (by simp)
  have hp2 : ∀ x y, pmem (rjoin hFst (l.map flip4) []) x y ↔ pmem (l.map flip4) x y := fun x y => by rw [hp]; simp [hFst]
  have e : flipF l = madeF (l.map flip4) := if_pos h
  rw [e]
  unfold madeF
  by_cases hn : 400 < (rjoin hFst (l.map flip4) []).length
  · rw [if_pos hn]; exact .inl rfl
  · rw [if_neg hn]
    exact .inr ⟨_, rfl, can_check hc (sub_valid (can_wf hc) hv fun x y hx => (hp2 x y).1 hx) (by omega), fun x y => by rw [hp2, pmem_flip]⟩
theorem flip_back {l R : List R4} (h : checkF l = 0) (hR : checkF R = 0) (hp : ∀ x y, pmem R x y ↔ pmem l y x) : flipF R = (l, 0) := by
  rcases flip_two hR with h1 | ⟨T, h1, h2, h3⟩
  · exfalso
    have hv : ∀ r ∈ R.map flip4, wf4 r := fun r hr => by
      obtain ⟨s, hs, rfl⟩ := List.mem_map.1 hr
      have := check_wf hR s hs
      exact ⟨this.2, this.1⟩
    have e : rjoin hFst (R.map flip4) [] = l := (rjoin_eq (h := hFst) rfl hv (by simp) (check_rcan h) fun x y => by simp [hFst, pmem_flip, hp]).symm
    have e2 : flipF R = madeF (R.map flip4) := if_pos hR
    rw [e2] at h1
    unfold madeF at h1
    rw [e, if_neg (by have := (checkF_ok h).1; omega)] at h1
    cases h1
  · rw [h1, can_eq h2 h (fun x y => by rw [h3, hp])]
theorem flip_area {l R : List R4} (h : checkF l = 0) (hR : checkF R = 0) (hp : ∀ x y, pmem R x y ↔ pmem l y x) : areaS R = areaS l := by
  obtain ⟨m, hm⟩ : ∃ m : Nat, m = 1000000 := ⟨_, rfl⟩
  rw [area_vol h (m := m) (by omega), area_vol hR (m := m) (by omega)]
  unfold vol
  rw [sumZ_comm]
  exact sumZ_congr fun x _ _ => sumZ_congr fun y _ _ => ind_iff (hp y x)
/-! ### moved -/
theorem pmem_mv (l : List R4) (a b x y : Int) : pmem (l.map (mv a b)) x y ↔ pmem l (x - a) (y - b) := by
  unfold pmem
  constructor
  · rintro ⟨r, hr, h⟩
    obtain ⟨s, hs, rfl⟩ := List.mem_map.1 hr
    exact ⟨s, hs, by simp only [rin, mv] at h ⊢; omega⟩
  · rintro ⟨r, hr, h⟩
    exact ⟨mv a b r, List.mem_map.2 ⟨r, hr, rfl⟩, by simp only [rin, mv] at h ⊢; omega⟩
def mvS (a b : Int) (s : Slab) : Slab := ⟨s.f + a, s.t + a, s.s.map fun p => (p.1 + b, p.2 + b)⟩
theorem mvS_ok {a b : Int} {s : Slab} (h : okS s) : okS (mvS a b s) := by
  obtain ⟨h1, h2, h3, h4⟩ := h
  refine ⟨by show s.f + a < s.t + a; omega, by show s.s.map _ ≠ []; simpa using h2, fun p hp => ?_, ?_⟩
  · obtain ⟨q, hq, rfl⟩ := List.mem_map.1 hp
    have := h3 q hq
    show q.1 + b < q.2 + b
    omega
  · show (s.s.map _).Pairwise _
    rw [List.pairwise_map]
    exact h4.imp fun h => by show _ + b < _ + b; omega
theorem mv_inj {b : Int} {s t : List Sp} (h : s.map (fun p : Sp => (p.1 + b, p.2 + b)) = t.map fun p => (p.1 + b, p.2 + b)) : s = t := by
  induction s generalizing t with
  | nil => cases t with
    | nil => rfl
    | cons q t => cases h
  | cons p s ih => cases t with
    | nil => cases h
    | cons q t =>
      simp only [List.map_cons, List.cons.injEq, Prod.mk.injEq] at h
      rw [ih h.2]
      congr 1
      exact Prod.ext (by omega) (by omega)
theorem mv_SOK {a b : Int} : ∀ {S : List Slab}, SOK S → SOK (S.map (mvS a b))
  | [], _ => trivial
  | [s], h => mvS_ok h.head
  | s :: t :: S, h => by
    have hh : okS s ∧ Rl s t ∧ SOK (t :: S) := h
    refine ⟨mvS_ok hh.1, ⟨?_, fun e he => ?_⟩, mv_SOK hh.2.2⟩
    · show s.t + a ≤ t.f + a
      have := hh.2.1.1; omega
    · have e1 : s.t = t.f := by have : s.t + a = t.f + a := e; omega
      exact hh.2.1.2 e1 (mv_inj he)
theorem mv_flat (a b : Int) : ∀ S : List Slab, (flat S).map (mv a b) = flat (S.map (mvS a b))
  | [] => rfl
  | s :: S => by
    have ih := mv_flat a b S
    simp only [flat, List.flatMap_cons, List.map_append, List.map_cons] at ih ⊢
    rw [ih]
    congr 1
    simp [flat1, mvS, mv, List.map_map, Function.comp_def]
theorem mv_can {l : List R4} (h : RCan l) (a b : Int) : RCan (l.map (mv a b)) := by
  obtain ⟨S, hS, rfl⟩ := h
  exact ⟨_, mv_SOK hS, mv_flat a b S⟩
/-- What a move of a region gives. -/
theorem move_two {l : List R4} (h : checkF l = 0) (a b : Int) : moveF l a b = ([], 16) ∨ (moveF l a b = (l.map (mv a b), 0) ∧ checkF (l.map (mv a b)) = 0 ∧ (l ≠ [] → inMv a ∧ inMv b) ∧ (l ≠ [] → moveF (l.map (mv a b)) (-a) (-b) = (l, 0))) := by
  have e : moveF l a b = if l = [] ∨ (inMv a ∧ inMv b ∧ ∀ r ∈ l, valid4 (mv a b r)) then (l.map (mv a b), 0) else ([], 16) := if_pos h
  rw [e]
  by_cases hc : l = [] ∨ (inMv a ∧ inMv b ∧ ∀ r ∈ l, valid4 (mv a b r))
  · rw [if_pos hc]
    have hck : checkF (l.map (mv a b)) = 0 := by
      refine can_check (mv_can (check_rcan h) a b) (fun r hr => ?_) (by simpa using (checkF_ok h).1)
      obtain ⟨s, hs, rfl⟩ := List.mem_map.1 hr
      rcases hc with rfl | hc
      · simp at hs
      · exact hc.2.2 s hs
    refine .inr ⟨rfl, hck, fun hl => ⟨(hc.resolve_left hl).1, (hc.resolve_left hl).2.1⟩, fun hl => ?_⟩
    obtain ⟨c1, c2, _⟩ := hc.resolve_left hl
    have e2 : moveF (l.map (mv a b)) (-a) (-b) = if l.map (mv a b) = [] ∨ (inMv (-a) ∧ inMv (-b) ∧ ∀ r ∈ l.map (mv a b), valid4 (mv (-a) (-b) r)) then ((l.map (mv a b)).map (mv (-a) (-b)), 0) else ([], 16) := if_pos hck
    have hid : ∀ r, mv (-a) (-b) (mv a b r) = r := fun r => by
      obtain ⟨r0, r1, r2, r3⟩ := r
      simp only [mv, R4.mk.injEq]; omega
    rw [e2, if_pos (.inr ⟨by unfold inMv at *; omega, by unfold inMv at *; omega, fun r hr => by
      obtain ⟨s, hs, rfl⟩ := List.mem_map.1 hr
      rw [hid]
      exact (checkF_ok h).2.1 s hs⟩), List.map_map]
    have : (mv (-a) (-b) ∘ mv a b) = id := funext hid
    rw [this, List.map_id]
  · rw [if_neg hc]; exact .inl rfl
/-- The cross-section of a region is a list of spans as the reference wants it. -/
theorem cross_ok {l : List R4} (h : checkF l = 0) (x : Int) : crossF l x = (crossL l x, 0) ∧ SCan (crossL l x) ∧ (∀ p ∈ crossL l x, validS p) ∧ (crossL l x).length ≤ 400 := by
  refine ⟨if_pos h, crossL_can (check_rcan h) x, fun p hp => ?_, Nat.le_trans (crossL_len l x) (checkF_ok h).1⟩
  unfold crossL at hp
  obtain ⟨r, hr, rfl⟩ := List.mem_map.1 hp
  have := (checkF_ok h).2.1 r (List.mem_filter.1 hr).1
  simp only [valid4, fineP] at this
  simp only [validS]
  omega
end Go.Proofs.Ytlkaniojnaaocaa

/- Plain law: a region moved by whole bricks has the tiling that is moved. -/
namespace Go.Proofs.Ytlkaniojnaaocaa
set_option linter.unusedVariables false
set_option linter.unusedSimpArgs false

def shK (a b : Int) (k : Ky) : Ky := (k.1 + b, k.2 + a)
theorem shift_rows {W H S : Int} (hp : okPat W H S) (r n : Int) : shiftI W S (r + n * W) = shiftI W S r := by
  unfold shiftI
  rw [show (r + n * W) * S = r * S + (n * S) * W by rw [Int.add_mul, Int.mul_right_comm], Int.add_mul_emod_self_right]
theorem keyP_mv {W H S : Int} (hp : okPat W H S) (a b x y : Int) : keyP W H S (x + a * W) (y + b * W * H) = shK a (b * W) (keyP W H S x y) := by
  have hW : W ≠ 0 := by have := hp.1; omega
  have hH : H ≠ 0 := by have := hp.2.2.1; omega
  have e : rowI H (y + b * W * H) = rowI H y + b * W := by unfold rowI; exact Int.add_mul_ediv_right y _ hH
  unfold keyP shK colI
  simp only [e, shift_rows hp, Prod.mk.injEq, true_and]
  rw [show x + a * W - shiftI W S (rowI H y) = x - shiftI W S (rowI H y) + a * W by omega, Int.add_mul_ediv_right _ _ hW]
theorem shK_inj {a b : Int} {k q : Ky} (h : shK a b k = shK a b q) : k = q := by
  obtain ⟨k1, k2⟩ := k; obtain ⟨q1, q2⟩ := q
  simp only [shK, Prod.mk.injEq] at h ⊢
  omega
theorem mv_wf {l : List R4} (hl : ∀ r ∈ l, wf4 r) (a b : Int) : ∀ r ∈ l.map (mv a b), wf4 r := fun r hr => by
  obtain ⟨s, hs, rfl⟩ := List.mem_map.1 hr
  obtain ⟨h1, h2⟩ := hl s hs
  exact ⟨by simp only [mv]; omega, by simp only [mv]; omega⟩
theorem keys_mv {W H S : Int} (hp : okPat W H S) {l : List R4} (hl : ∀ r ∈ l, wf4 r) (a b : Int) : keysT W H S (l.map (mv (a * W) (b * W * H))) = (keysT W H S l).map (shK a (b * W)) := by
  refine ksort_ext (keysT_srt _ _ _ _) ?_ fun k => ?_
  · rw [List.pairwise_map]
    refine (keysT_srt _ _ _ _).imp fun {u v} h => ?_
    unfold klt shK at *
    simp only
    omega
  · rw [mem_keysT hp (mv_wf hl _ _), List.mem_map]
    constructor
    · rintro ⟨x, y, h1, rfl⟩
      rw [pmem_mv] at h1
      refine ⟨keyP W H S (x - a * W) (y - b * W * H), (mem_keysT hp hl _).2 ⟨_, _, h1, rfl⟩, ?_⟩
      rw [← keyP_mv hp, Int.sub_add_cancel, Int.sub_add_cancel]
    · rintro ⟨q, hq, rfl⟩
      obtain ⟨x, y, h1, rfl⟩ := (mem_keysT hp hl _).1 hq
      refine ⟨x + a * W, y + b * W * H, ?_, keyP_mv hp _ _ _ _⟩
      rw [pmem_mv, Int.add_sub_cancel, Int.add_sub_cancel]
      exact h1
theorem piece_mv {W H S : Int} (hp : okPat W H S) {l : List R4} (hl : ∀ r ∈ l, wf4 r) (a b : Int) (k : Ky) : pieceR W H S (l.map (mv (a * W) (b * W * H))) (shK a (b * W) k) = (pieceR W H S l k).map (mv (a * W) (b * W * H)) := by
  obtain ⟨c1, c2⟩ := piece_ok hp (mv_wf hl (a * W) (b * W * H)) (shK a (b * W) k)
  obtain ⟨d1, d2⟩ := piece_ok hp hl k
  refine c1.ext (mv_can d1 _ _) fun x y => ?_
  rw [c2, pmem_mv, pmem_mv, d2]
  have e := keyP_mv hp a b (x - a * W) (y - b * W * H)
  rw [Int.sub_add_cancel, Int.sub_add_cancel] at e
  rw [e]
  constructor
  · rintro ⟨h1, h2⟩; exact ⟨h1, shK_inj h2⟩
  · rintro ⟨h1, h2⟩; exact ⟨h1, by rw [h2]⟩
theorem tile_mv {W H S : Int} (hp : okPat W H S) {l : List R4} (a b : Int) (h1 : checkF l = 0) (h2 : checkF (l.map (mv (a * W) (b * W * H))) = 0) :
    tileF W H S (l.map (mv (a * W) (b * W * H))) = ((tileF W H S l).1.map (fun q => (shK a (b * W) q.1, q.2.map (mv (a * W) (b * W * H)))), (tileF W H S l).2) := by
  have hl := check_wfs h1
  have e : (keysT W H S (l.map (mv (a * W) (b * W * H)))).length = (keysT W H S l).length := by rw [keys_mv hp hl, List.length_map]
  unfold tileF
  rw [if_pos h1, if_pos h2, if_pos hp, e]
  split
  · rfl
  · rw [keys_mv hp hl, List.map_map, List.map_map]
    simp only [Prod.mk.injEq, and_true]
    exact List.map_congr_left fun k _ => by simp only [Function.comp_apply, piece_mv hp hl]
/-- A piece moves as the region does. -/
theorem move_piece {W H S : Int} (hp : okPat W H S) {l : List R4} {a b : Int} (h1 : checkF l = 0) (hm : moveF l (a * W) (b * W * H) = (l.map (mv (a * W) (b * W * H)), 0)) (h2 : checkF (l.map (mv (a * W) (b * W * H))) = 0) (h3 : l ≠ [] → inMv (a * W) ∧ inMv (b * W * H))
    {q : Ky × List R4} (hq : q ∈ (tileF W H S l).1) : moveF q.2 (a * W) (b * W * H) = (q.2.map (mv (a * W) (b * W * H)), 0) := by
  obtain ⟨_, _, hk, e⟩ := tileF_mem hq
  have hne : l ≠ [] := by
    rintro rfl
    rw [keysT_nil] at hk
    cases hk
  have c1 := piece_check hp h1 q.1
  have c2 := piece_check hp h2 (shK a (b * W) q.1)
  rw [piece_mv hp (check_wfs h1), ← e] at c2
  rw [← e] at c1
  unfold moveF
  rw [if_pos c1, if_pos (.inr ⟨(h3 hne).1, (h3 hne).2, fun r hr => (checkF_ok c2).2.1 _ (List.mem_map.2 ⟨r, hr, rfl⟩)⟩)]
end Go.Proofs.Ytlkaniojnaaocaa

/- The last step from a walk to a given statement, for every law of the seat: the call returns true, and what lay in memory lies as it lay. -/
namespace Go.Proofs.Ytlkaniojnaaocaa
open Go.ChangeShapes Go.WideShapes Go.ChangeAt Go.RowKit Go.Joins Go.Deep
set_option linter.unusedVariables false
set_option linter.unusedSimpArgs false

theorem own : ownKnob Try.prog.godebug = none := by kernel_rfl
theorem laidOut : laidOutB Try.prog = true := by kernel_rfl

section
variable {H : Type} {enc : TypeId × Value → H}
theorem trodAll_carry {P : Program} (hl : laidOutB P = true) {W W' : World} (hb : Below W.heap.size W W') :
    ∀ (ts : List TypeId) (vs : List Value) (ds : List (DataW H)) (ps : List MemPlace), (ts.all fun t => P.readableRec t && decide (t < P.types.size)) = true →
      DataW.TrodAll enc P W 0 (fun _ => true) true ts vs ds ps → (∀ x ∈ ps, x.block < W.heap.size) → DataW.TrodAll enc P W' 0 (fun b => decide (b < W.heap.size)) true ts vs ds ps
  | [], [], [], ps, _, h, _ => h
  | [], [], _ :: _, _, _, h, _ => h.elim
  | [], _ :: _, _, _, _, h, _ => h.elim
  | _ :: _, [], _, _, _, h, _ => h.elim
  | _ :: _, _ :: _, [], _, _, h, _ => h.elim
  | t :: ts, v :: vs, d :: ds, ps, hr, h, hlt => by
    obtain ⟨p, q, h1, h2, rfl⟩ := h
    simp only [List.all_cons, Bool.and_eq_true, decide_eq_true_eq] at hr
    refine ⟨p, q, Below.trod hl hr.1.1 hr.1.2 h1 hb (fun x hx => hlt x (by simp [hx])), trodAll_carry hl hb ts vs ds q ?_ h2 (fun x hx => hlt x (by simp [hx])), rfl⟩
    simpa using hr.2

theorem law_post {P : Program} {f : Func} {s : ChangeSpec} {W W' : World} {args : Array Value} {ds gs : List (DataW H)} {before : List MemPlace} {tb : TypeId}
    (hl : laidOutB P = true) (hr : (f.params.toList.all fun t => P.readableRec t && decide (t < P.types.size)) = true) (hres : f.resultTypes = #[tb]) (hbool : P.underlying tb = some .bool)
    (hvars : s.vars = []) (hW : DataW.Whole enc P f.params.toList s.vars false W args.toList ds gs before)
    (hsr : (s.fn H (ds ++ gs)).results = [.lit (.bool true)]) (hsa : (s.fn H (ds ++ gs)).args = ds) (hsv : (s.fn H (ds ++ gs)).vars = [])
    (hb : Below W.heap.size W W') : s.post enc P f false true false false W args (.bool true) W' := by
  have hlt : ∀ p ∈ before, p.block < W.heap.size := fun p hp => hW.lt p hp
  have hW0 := hW
  obtain ⟨p, q, hA, hV, rfl, hz, hn⟩ := hW
  refine ⟨ds, gs, p ++ q, [], p, [], hW0, ?_, ?_, ?_, hb.frame _, fun h => by cases h⟩
  · rw [hsr, hres]
    exact trodAll_mk1 (shut_bool hbool true)
  · rw [hsa]
    exact trodAll_carry hl hb _ _ _ _ hr hA (fun x hx => hlt x (by simp [hx]))
  · rw [hsv, hvars]
    rfl
end
end Go.Proofs.Ytlkaniojnaaocaa

/- An argument that is a list of structs of ints, read as a list. -/
namespace Go.Proofs.Ytlkaniojnaaocaa
open Go.ChangeShapes Go.WideShapes Go.ChangeAt Go.RowKit Go.Joins Go.Deep
set_option linter.unusedVariables false
set_option linter.unusedSimpArgs false

section
variable {H : Type} {enc : TypeId × Value → H} {P : Program} {w : World} {base : Nat} {spare : Nat → Bool} {held : Bool}
/-- The fields of a struct of ints: each one cell, an int. -/
theorem trod_int_fields {t : TypeId} {fs : Array Field} {n : Nat} {cs : List Value} {y : DataW H × List MemPlace} (he : P.underlying t = some (.struct fs)) (hone : oneCellFields P fs = true) (hint : ∀ (j : Nat) (f : Field), fs[j]? = some f → P.underlying f.type = some (.int .i64))
    (hl : cs.length = fs.size) (h : DataW.trod enc P w base spare held n t cs = some y) : ∀ j, j < fs.size → ∃ z : Int, cs[j]? = some (.int .i64 z) := by
  obtain ⟨ys, n', _, _, _, hyl, hf⟩ := DataW.trod_struct he h
  intro j hj
  have hjf : fs[j]? = some fs[j] := Array.getElem?_eq_getElem hj
  obtain ⟨ho, hk⟩ := hone_of hone j _ hjf
  have h1 := hf j _ hjf
  rw [ho, hk] at h1
  have hd : (cs.drop j).take 1 = [cs[j]'(by omega)] := by rw [List.drop_eq_getElem_cons (by omega)]; rfl
  rw [hd] at h1
  have hy : ys[j]? = some (ys[j]'(by omega)) := List.getElem?_eq_getElem (by omega)
  rw [hy] at h1
  obtain ⟨z, hz, _⟩ := DataW.trod_int (hint j _ hjf) h1
  have hz' : cs[j]'(by omega) = .int .i64 z := by simpa using hz
  exact ⟨z, by rw [List.getElem?_eq_getElem (by omega), hz']⟩
/-- A slice of structs of k ints: its cells. -/
theorem trod_rows {t e : TypeId} {fs : Array Field} {v : Value} {d : DataW H} {p : List MemPlace} {r : Reach} {b0 : Nat} (ht : P.underlying t = some (.slice e)) (he : P.underlying e = some (.struct fs)) (hone : oneCellFields P fs = true)
    (hint : ∀ (j : Nat) (f : Field), fs[j]? = some f → P.underlying f.type = some (.int .i64)) (hC : P.cellsOf e = fs.size) (hk : 0 < fs.size) (hv : Value.okWide P w r b0 t v) (h : DataW.Trod enc P w base spare held t v d p) :
    ∃ (A : Option Addr) (n c : Nat) (F : Nat → Nat → Int), v = .slice A n c ∧ n ≤ maxLen ∧ (0 < n → ∃ b off, A = some ⟨b, off, none⟩ ∧ b < w.heap.size ∧ ∀ i j, i < n → j < fs.size → w.cell? ⟨b, off + i * fs.size + j, none⟩ = some (.int .i64 (F i j))) := by
  obtain ⟨A, n, c, rfl⟩ := okWide_slice ht hv
  obtain ⟨fuel, hf⟩ := h
  rcases open_slice ht hf with ⟨hcs, _⟩ | ⟨a, len, cap, m, nn, D, Pl, hcs, hb, hl, hm, hmm, hx, hi⟩
  · simp [Value.cells] at hcs
    obtain ⟨rfl, rfl, rfl⟩ := hcs
    exact ⟨none, 0, 0, fun _ _ => 0, rfl, Nat.zero_le _, fun h => absurd h (Nat.lt_irrefl 0)⟩
  · simp [Value.cells] at hcs
    obtain ⟨rfl, rfl, rfl⟩ := hcs
    have hlm : n ≤ m := by rw [hmm]; split <;> omega
    have key : ∀ i, i < n → ∀ j, j < fs.size → ∃ z : Int, w.cell? (a.add (i * fs.size + j)) = some (.int .i64 z) := by
      intro i hin j hj
      obtain ⟨cs', hc, ht'⟩ := hi i (by omega)
      rw [hC] at hc
      obtain ⟨_, hcl, hat⟩ := World.cells?_some hc
      obtain ⟨z, hz⟩ := trod_int_fields he hone hint hcl ht' j hj
      have := hat j hj
      rw [← Go.Deep.add_add, this, hz]
      exact ⟨z, rfl⟩
    refine ⟨some a, n, c, fun i j => if h : i < n ∧ j < fs.size then Classical.choose (key i h.1 j h.2) else 0, rfl, by omega, fun hn => ?_⟩
    obtain ⟨z0, h0⟩ := key 0 hn 0 hk
    have hadd0 : a.add (0 * fs.size + 0) = a := by simp [Addr.add]
    rw [hadd0] at h0
    obtain ⟨b, off, sp⟩ := a
    have hsp : sp = none := by
      unfold World.cell? at h0
      cases sp with
      | none => rfl
      | some x => split at h0 <;> simp at h0
    subst hsp
    refine ⟨b, off, rfl, ?_, fun i j hin hj => ?_⟩
    · unfold World.cell? at h0
      split at h0
      · rename_i hh
        exact (Array.getElem?_eq_some_iff.1 hh).1
      · cases h0
    · have hz := Classical.choose_spec (key i hin j hj)
      have e1 : (⟨b, off, none⟩ : Addr).add (i * fs.size + j) = ⟨b, off + i * fs.size + j, none⟩ := by unfold Addr.add; split <;> simp_all [Nat.add_assoc]
      rw [← e1]
      simp only [dif_pos (And.intro hin hj)]
      exact hz
/-- .. rectangles. -/
theorem trod_rects {t e : TypeId} {fs : Array Field} {v : Value} {d : DataW H} {p : List MemPlace} {r : Reach} {b0 : Nat} (ht : P.underlying t = some (.slice e)) (he : P.underlying e = some (.struct fs)) (hone : oneCellFields P fs = true)
    (hint : ∀ (j : Nat) (f : Field), fs[j]? = some f → P.underlying f.type = some (.int .i64)) (hC : P.cellsOf e = 4) (hk : fs.size = 4) (hv : Value.okWide P w r b0 t v) (h : DataW.Trod enc P w base spare held t v d p) :
    ∃ l : List R4, RdK encR 4 w w.heap.size v l ∧ l.length ≤ maxLen := by
  obtain ⟨A, n, c, F, rfl, hn, hF⟩ := trod_rows ht he hone hint (hC.trans hk.symm) (by omega) hv h
  rw [hk] at hF
  refine ⟨(List.range n).map fun i => ⟨F i 0, F i 1, F i 2, F i 3⟩, ⟨A, c, by simp, fun hl => ?_⟩, by simpa using hn⟩
  have hn0 : 0 < n := by
    rcases Nat.eq_zero_or_pos n with h | h
    · subst h; exact absurd rfl hl
    · exact h
  obtain ⟨b, off, hA, hb, hc⟩ := hF hn0
  refine ⟨b, off, hA, hb, fun j x hj i u hu => ?_⟩
  have hjn : j < n := by have := (List.getElem?_eq_some_iff.1 hj).1; simpa using this
  rw [List.getElem?_map, List.getElem?_range hjn] at hj
  simp only [Option.map_some, Option.some.injEq] at hj
  subst hj
  have hi : i < 4 := (List.getElem?_eq_some_iff.1 hu).1
  rw [hc j i hjn hi]
  match i, hi with
  | 0, _ => exact hu
  | 1, _ => exact hu
  | 2, _ => exact hu
  | 3, _ => exact hu
end
theorem int_bd {n : Int} (h : (Lit.int .i64 n).wf = true) : -9223372036854775808 ≤ n ∧ n ≤ 9223372036854775807 := by
  simp [Lit.wf, IntKind.min, IntKind.max, IntKind.signed, IntKind.bits] at h
  omega
theorem rect_fields : ∀ (j : Nat) (f : Field), (match Try.prog.underlying 30 with | some (.struct fs) => fs | _ => #[])[j]? = some f → Try.prog.underlying f.type = some (.int .i64) := by
  rw [Try.underlying30]
  intro j f hf
  match j, hf with
  | 0, hf => simp at hf; subst hf; exact Try.underlying3
  | 1, hf => simp at hf; subst hf; exact Try.underlying3
  | 2, hf => simp at hf; subst hf; exact Try.underlying3
  | 3, hf => simp at hf; subst hf; exact Try.underlying3
  | j + 4, hf => simp at hf
end Go.Proofs.Ytlkaniojnaaocaa

/- An argument that is a pattern, read as such. -/
namespace Go.Proofs.Ytlkaniojnaaocaa
open Go.ChangeShapes Go.WideShapes Go.ChangeAt Go.RowKit Go.Joins Go.Deep
set_option linter.unusedVariables false
set_option linter.unusedSimpArgs false

section
variable {H : Type} {enc : TypeId × Value → H} {w : World} {base : Nat} {spare : Nat → Bool} {held : Bool}
set_option maxRecDepth 100000 in
theorem open_pat {v : Value} {d : DataW H} {p : List MemPlace} {r : Reach} {b0 : Nat} (hv : Value.okWide Try.prog w r b0 23 v) (h : DataW.Trod enc Try.prog w base spare held 23 v d p) : ∃ a b c : Int, v = .agg #[.int .i64 a, .int .i64 b, .int .i64 c] := by
  have h3 : Try.prog.cellsOf 23 = 3 := by kernel_rfl
  obtain ⟨c0, c1, c2, y0, y1, y2, m, rfl, _, _, hy0, hy1, hy2⟩ := open_agg3 Try.underlying23 (by kernel_rfl) h3 hv h
  obtain ⟨a, e0, _, _⟩ := DataW.trod_int Try.underlying3 hy0
  obtain ⟨b, e1, _, _⟩ := DataW.trod_int Try.underlying3 hy1
  obtain ⟨c, e2, _, _⟩ := DataW.trod_int Try.underlying3 hy2
  simp at e0 e1 e2
  subst e0 e1 e2
  exact ⟨a, b, c, rfl⟩
end
end Go.Proofs.Ytlkaniojnaaocaa
