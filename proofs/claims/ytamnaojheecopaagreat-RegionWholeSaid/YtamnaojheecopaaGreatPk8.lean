/- Texts laid together: MBack, RefV, Row, Open. Lemmas for the statements of this seat; no condition. -/
import Derived.Test.YtamnaojheecopaaGreatPk7
import Derived.Test.YtamnaojheecopaaGreatPk1
import Derived.ProofKit
import Derived.Lib.SmallJoins
import Derived.Deep.Slices
import Derived.Deep.Fields
import Derived.ChangeSame

/- Plain law: a region that is moved, or flipped twice; its areas and cross-sections. -/
namespace Go.Proofs.YtamnaojheecopaaGreat
set_option linter.unusedVariables false
set_option linter.unusedSimpArgs false

theorem pmem_flip (l : List R4) (x y : Int) : pmem (l.map flip4) x y ↔ pmem l y x := by
  unfold pmem
  constructor
  · rintro ⟨r, hr, h⟩
    obtain ⟨s, hs, rfl⟩ := List.mem_map.1 hr
    exact ⟨s, hs, by simp only [rin, flip4] at h ⊢; omega⟩
  · rintro ⟨r, hr, h⟩
    exact ⟨flip4 r, List.mem_map.2 ⟨r, hr, rfl⟩, by simp only [rin, flip4] at h ⊢; omega⟩
/-- The region that a flip gives. -/
theorem flip_two {l : List R4} (h : checkF l = 0) : flipF l = ([], 4) ∨ ∃ R, flipF l = (R, 0) ∧ checkF R = 0 ∧ ∀ x y, pmem R x y ↔ pmem l y x := by
  have hv : ∀ r ∈ l.map flip4, valid4 r := fun r hr => by
    obtain ⟨s, hs, rfl⟩ := List.mem_map.1 hr
    exact flip_valid ((checkF_ok h).2.1 s hs)
  have hw : ∀ r ∈ l.map flip4, wf4 r := fun r hr => ⟨(hv r hr).1, (hv r hr).2.1⟩
  obtain ⟨hc, hp⟩ := rjoin_ok (h := hFst) rfl hw (b := []) (by simp)
  have hp2 : ∀ x y, pmem (rjoin hFst (l.map flip4) []) x y ↔ pmem (l.map flip4) x y := fun x y => by rw [hp]; simp [hFst]
  have e : flipF l = madeF (l.map flip4) := if_pos h
  rw [e]
  unfold madeF
  by_cases hn : 400 < (rjoin hFst (l.map flip4) []).length
  · rw [if_pos hn]; exact .inl rfl
  · rw [if_neg hn]
    exact .inr ⟨_, rfl, can_check hc (sub_valid (can_wf hc) hv fun x y hx => (hp2 x y).1 hx) (by omega), fun x y => by rw [hp2, pmem_flip]⟩
theorem flip_back {l R : List R4} (h : checkF l = 0) (hR : checkF R = 0) (hp : ∀ x y, pmem R x y ↔ pmem l y x) : flipF R = (l, 0) := by
  rcases flip_two hR with h1 | ⟨T, h1, h2, h3⟩
  · exfalso
    have hv : ∀ r ∈ R.map flip4, wf4 r := fun r hr => by
      obtain ⟨s, hs, rfl⟩ := List.mem_map.1 hr
      have := check_wf hR s hs
      exact ⟨this.2, this.1⟩
    have e : rjoin hFst (R.map flip4) [] = l := (rjoin_eq (h := hFst) rfl hv (by simp) (check_rcan h) fun x y => by simp [hFst, pmem_flip, hp]).symm
    have e2 : flipF R = madeF (R.map flip4) := if_pos hR
    rw [e2] at h1
    unfold madeF at h1
    rw [e, if_neg (by have := (checkF_ok h).1; omega)] at h1
    cases h1
  · rw [h1, can_eq h2 h (fun x y => by rw [h3, hp])]
theorem flip_area {l R : List R4} (h : checkF l = 0) (hR : checkF R = 0) (hp : ∀ x y, pmem R x y ↔ pmem l y x) : areaS R = areaS l := by
  obtain ⟨m, hm⟩ : ∃ m : Nat, m = 1000000 := ⟨_, rfl⟩
  rw [area_vol h (m := m) (by omega), area_vol hR (m := m) (by omega)]
  unfold vol
  rw [sumZ_comm]
  exact sumZ_congr fun x _ _ => sumZ_congr fun y _ _ => ind_iff (hp y x)
/-! ### moved -/
theorem pmem_mv (l : List R4) (a b x y : Int) : pmem (l.map (mv a b)) x y ↔ pmem l (x - a) (y - b) := by
  unfold pmem
  constructor
  · rintro ⟨r, hr, h⟩
    obtain ⟨s, hs, rfl⟩ := List.mem_map.1 hr
    exact ⟨s, hs, by simp only [rin, mv] at h ⊢; omega⟩
  · rintro ⟨r, hr, h⟩
    exact ⟨mv a b r, List.mem_map.2 ⟨r, hr, rfl⟩, by simp only [rin, mv] at h ⊢; omega⟩
def mvS (a b : Int) (s : Slab) : Slab := ⟨s.f + a, s.t + a, s.s.map fun p => (p.1 + b, p.2 + b)⟩
theorem mvS_ok {a b : Int} {s : Slab} (h : okS s) : okS (mvS a b s) := by
  obtain ⟨h1, h2, h3, h4⟩ := h
  refine ⟨by show s.f + a < s.t + a; omega, by show s.s.map _ ≠ []; simpa using h2, fun p hp => ?_, ?_⟩
  · obtain ⟨q, hq, rfl⟩ := List.mem_map.1 hp
    have := h3 q hq
    show q.1 + b < q.2 + b
    omega
  · show (s.s.map _).Pairwise _
    rw [List.pairwise_map]
    exact h4.imp fun h => by show _ + b < _ + b; omega
theorem mv_inj {b : Int} {s t : List Sp} (h : s.map (fun p : Sp => (p.1 + b, p.2 + b)) = t.map fun p => (p.1 + b, p.2 + b)) : s = t := by
  induction s generalizing t with
  | nil => cases t with
    | nil => rfl
    | cons q t => cases h
  | cons p s ih => cases t with
    | nil => cases h
    | cons q t =>
      simp only [List.map_cons, List.cons.injEq, Prod.mk.injEq] at h
      rw [ih h.2]
      congr 1
      exact Prod.ext (by omega) (by omega)
theorem mv_SOK {a b : Int} : ∀ {S : List Slab}, SOK S → SOK (S.map (mvS a b))
  | [], _ => trivial
  | [s], h => mvS_ok h.head
  | s :: t :: S, h => by
    have hh : okS s ∧ Rl s t ∧ SOK (t :: S) := h
    refine ⟨mvS_ok hh.1, ⟨?_, fun e he => ?_⟩, mv_SOK hh.2.2⟩
    · show s.t + a ≤ t.f + a
      have := hh.2.1.1; omega
    · have e1 : s.t = t.f := by have : s.t + a = t.f + a := e; omega
      exact hh.2.1.2 e1 (mv_inj he)
theorem mv_flat (a b : Int) : ∀ S : List Slab, (flat S).map (mv a b) = flat (S.map (mvS a b))
  | [] => rfl
  | s :: S => by
    have ih := mv_flat a b S
    simp only [flat, List.flatMap_cons, List.map_append, List.map_cons] at ih ⊢
    rw [ih]
    congr 1
    simp [flat1, mvS, mv, List.map_map, Function.comp_def]
theorem mv_can {l : List R4} (h : RCan l) (a b : Int) : RCan (l.map (mv a b)) := by
  obtain ⟨S, hS, rfl⟩ := h
  exact ⟨_, mv_SOK hS, mv_flat a b S⟩
/-- What a move of a region gives. -/
theorem move_two {l : List R4} (h : checkF l = 0) (a b : Int) : moveF l a b = ([], 16) ∨ (moveF l a b = (l.map (mv a b), 0) ∧ checkF (l.map (mv a b)) = 0 ∧ (l ≠ [] → inMv a ∧ inMv b) ∧ (l ≠ [] → moveF (l.map (mv a b)) (-a) (-b) = (l, 0))) := by
  have e : moveF l a b = if l = [] ∨ (inMv a ∧ inMv b ∧ ∀ r ∈ l, valid4 (mv a b r)) then (l.map (mv a b), 0) else ([], 16) := if_pos h
  rw [e]
  by_cases hc : l = [] ∨ (inMv a ∧ inMv b ∧ ∀ r ∈ l, valid4 (mv a b r))
  · rw [if_pos hc]
    have hck : checkF (l.map (mv a b)) = 0 := by
      refine can_check (mv_can (check_rcan h) a b) (fun r hr => ?_) (by simpa using (checkF_ok h).1)
      obtain ⟨s, hs, rfl⟩ := List.mem_map.1 hr
      rcases hc with rfl | hc
      · simp at hs
      · exact hc.2.2 s hs
    refine .inr ⟨rfl, hck, fun hl => ⟨(hc.resolve_left hl).1, (hc.resolve_left hl).2.1⟩, fun hl => ?_⟩
    obtain ⟨c1, c2, _⟩ := hc.resolve_left hl
    have e2 : moveF (l.map (mv a b)) (-a) (-b) = if l.map (mv a b) = [] ∨ (inMv (-a) ∧ inMv (-b) ∧ ∀ r ∈ l.map (mv a b), valid4 (mv (-a) (-b) r)) then ((l.map (mv a b)).map (mv (-a) (-b)), 0) else ([], 16) := if_pos hck
    have hid : ∀ r, mv (-a) (-b) (mv a b r) = r := fun r => by
      obtain ⟨r0, r1, r2, r3⟩ := r
      simp only [mv, R4.mk.injEq]; omega
    rw [e2, if_pos (.inr ⟨by unfold inMv at *; omega, by unfold inMv at *; omega, fun r hr => by
      obtain ⟨s, hs, rfl⟩ := List.mem_map.1 hr
      rw [hid]
      exact (checkF_ok h).2.1 s hs⟩), List.map_map]
    have : (mv (-a) (-b) ∘ mv a b) = id := funext hid
    rw [this, List.map_id]
  · rw [if_neg hc]; exact .inl rfl
/-- The cross-section of a region is a list of spans as the reference wants it. -/
theorem cross_ok {l : List R4} (h : checkF l = 0) (x : Int) : crossF l x = (crossL l x, 0) ∧ SCan (crossL l x) ∧ (∀ p ∈ crossL l x, validS p) ∧ (crossL l x).length ≤ 400 := by
  refine ⟨if_pos h, crossL_can (check_rcan h) x, fun p hp => ?_, Nat.le_trans (crossL_len l x) (checkF_ok h).1⟩
  unfold crossL at hp
  obtain ⟨r, hr, rfl⟩ := List.mem_map.1 hp
  have := (checkF_ok h).2.1 r (List.mem_filter.1 hr).1
  simp only [valid4, fineP] at this
  simp only [validS]
  omega
end Go.Proofs.YtamnaojheecopaaGreat

/- The reference's Valid, Check and Has of spans. -/
namespace Go.Proofs.YtamnaojheecopaaGreat
open Go.RowKit
set_option linter.unusedVariables false
set_option linter.unusedSimpArgs false

set_option maxHeartbeats 1000000 in
theorem rValidS_any (p q : Int) (hv : validS (p, q)) (w : World) : Calls Tryz.prog 38 #[.agg #[.int .i64 p, .int .i64 q]] w fun e w' => e = .returned (.bool true) ∧ Below w.heap.size w w' := by
  obtain ⟨h1, h2, h3⟩ := hv
  simp only at h1 h2 h3
  go_enter Tryz.func38, Tryz.ntmps38
  go_wp2
  go_ret
  exact ⟨rfl, (Below.refl _ _).alloc (Nat.le_refl _) _⟩
set_option maxHeartbeats 1000000 in
theorem rHasS_any {w : World} {v : Value} {l : List Sp} {B : Nat} (hr : RdK encS 2 w B v l) (hl : l.length ≤ 100000000) (x : Int) :
    Calls Tryz.prog 21 #[v, .int .i64 x] w fun e w' => e = .returned (.bool (decide (smem l x))) ∧ w = w' := by
  obtain ⟨A, c, rfl, hc⟩ := hr
  have HR := hide hc
  clear hc
  go_enter Tryz.func21, Tryz.ntmps21
  go_wp2
  go_loop [5] (fun i => ∃ m : Nat, m ≤ l.length ∧ i = .int .i64 m ∧ Hid (∀ r ∈ l.take m, ¬ (r.1 ≤ x ∧ x < r.2))) (fun i => l.length - (intOf i).toNat)
  case atStart => exact ⟨0, Nat.zero_le _, rfl, hide (by simp)⟩
  case round =>
    obtain ⟨m, hm, rfl, HN⟩ := hrel
    by_cases hlt : m < l.length
    · obtain ⟨⟨p0, p1⟩, hp⟩ : ∃ p, l[m]? = some p := ⟨_, List.getElem?_eq_getElem hlt⟩
      obtain ⟨b, o, rfl, hbl, k⟩ := HR.out (by intro e; rw [e] at hlt; simp at hlt)
      have d0 : w.cell? ⟨b, o + m * 2, none⟩ = some (.int .i64 p0) := k m _ hp 0 _ rfl
      have d1 : w.cell? ⟨b, o + m * 2 + 1, none⟩ = some (.int .i64 p1) := k m _ hp 1 _ rfl
      have mz : (m : Int) < (l.length : Int) := by omega
      have HP := hide hp
      clear k hp
      go_wp2
      all_goals first
        | (go_ret
           refine ⟨ret_eq (bool_eq (decide_eq_true ?_).symm), rfl⟩
           exact ⟨_, List.mem_of_getElem? HP.out, by assumption, by assumption⟩)
        | (go_round
           case rel =>
             refine ⟨m + 1, by omega, by go_num, hide ?_⟩
             obtain ⟨i1, e1⟩ := List.getElem?_eq_some_iff.1 HP.out
             intro r hr
             rw [List.take_succ_eq_append_getElem i1, List.mem_append] at hr
             rcases hr with hr | hr
             · exact HN.out r hr
             · rw [List.mem_singleton] at hr
               subst hr
               rw [e1]
               simp only
               omega
           case measure => simp [intOf]; omega)
    · have mz : ¬ (m : Int) < (l.length : Int) := by omega
      go_wp2
      go_ret
      refine ⟨ret_eq (bool_eq (decide_eq_false ?_).symm), rfl⟩
      rintro ⟨r, hr, h⟩
      have := HN.out
      rw [List.take_of_length_le (by omega)] at this
      exact this r hr h
set_option maxRecDepth 100000 in
set_option maxHeartbeats 2000000 in
/-- Canonical lists of valid spans are checked. -/
theorem rCheckS_any {w : World} {v : Value} {l : List Sp} (hr : RdK encS 2 w w.heap.size v l) (hl : l.length ≤ 400) (hc : SCan l) (hv : ∀ p ∈ l, validS p) :
    Calls Tryz.prog 20 #[v] w fun e w' => e = .returned (.int .i64 0) ∧ Below w.heap.size w w' := by
  obtain ⟨A, c, rfl, hk⟩ := hr
  have HR := hide hk
  have HC := hide hc
  have HV := hide hv
  have hz : (l.length : Int) ≤ 400 := by omega
  clear hk hc hv
  go_enter Tryz.func20, Tryz.ntmps20
  go_wp2
  go_loopw [3] (fun i wr => ∃ m : Nat, m ≤ l.length ∧ i = .int .i64 m ∧ Hid (Below w.heap.size w wr)) (fun i _ => l.length - (intOf i).toNat)
  case atStart => exact ⟨0, Nat.zero_le _, rfl, hide (Below.refl _ _)⟩
  case round =>
    obtain ⟨m, hm, rfl, HB⟩ := hrel
    by_cases hlt : m < l.length
    · obtain ⟨⟨p0, p1⟩, hp⟩ : ∃ p, l[m]? = some p := ⟨_, List.getElem?_eq_getElem hlt⟩
      obtain ⟨b, o, rfl, hbl, k⟩ := HR.out (by intro e; rw [e] at hlt; simp at hlt)
      have d0 : wr.cell? ⟨b, o + m * 2, none⟩ = some (.int .i64 p0) := (HB.out.cell (p := ⟨b, _, none⟩) hbl).trans (k m _ hp 0 _ rfl)
      have d1 : wr.cell? ⟨b, o + m * 2 + 1, none⟩ = some (.int .i64 p1) := (HB.out.cell (p := ⟨b, _, none⟩) hbl).trans (k m _ hp 1 _ rfl)
      have mz : (m : Int) < (l.length : Int) := by omega
      have hva := fun W => rValidS_any p0 p1 (HV.out _ (List.mem_of_getElem? hp)) W
      have HVA := hide hva
      have hsz := HB.out.size
      have hbw : b < wr.heap.size := by omega
      have r1 : (0 : Int) ≤ (m : Int) := by omega
      clear hva
      rcases Nat.eq_zero_or_pos m with h0 | h0
      · subst h0
        clear k hp
        simp only [Nat.zero_mul, Nat.add_zero] at d0 d1
        have zz : ((0 : Nat) : Int) = 0 := rfl
        go_wp2
        refine wp_hab fun hab => ?_
        refine wp_region_above (by kernel_rfl) (by kernel_rfl) ?_
        repeat (go_big_quiet_step ((go_at_call 38; exact above_of (HVA.out _))))
        refine wpQuiet_nil ?_
        refine above_ends fun w3 hb3 => ?_
        clear hab
        have HB3 := hide (HB.out.trans (hb3.mono hsz))
        clear hb3
        go_wp2
        go_roundw
        case rel => exact ⟨1, by omega, by go_num, HB3⟩
        case measure => simp [intOf]; omega
      · obtain ⟨⟨q0, q1⟩, hq⟩ : ∃ p, l[m - 1]? = some p := ⟨_, List.getElem?_eq_getElem (by omega)⟩
        have d3 : wr.cell? ⟨b, o + (m - 1) * 2 + 1, none⟩ = some (.int .i64 q1) := (HB.out.cell (p := ⟨b, _, none⟩) hbl).trans (k (m - 1) _ hq 1 _ rfl)
        have hlt2 : q1 < p0 := by
          obtain ⟨i1, e1⟩ := List.getElem?_eq_some_iff.1 hp
          obtain ⟨i2, e2⟩ := List.getElem?_eq_some_iff.1 hq
          have := List.pairwise_iff_getElem.1 HC.out.2 (m - 1) m i2 i1 (by omega)
          rw [e1, e2] at this
          exact this
        have hd : decide (p0 ≤ q1) = false := decide_eq_false (by omega)
        have r2 : (0 : Int) < (m : Int) := by omega
        have r3 : IntKind.i64.wrap ((m : Int) - 1) = (m : Int) - 1 := by simp [IntKind.wrap, IntKind.bits, IntKind.signed]; omega
        have r4 : (0 : Int) ≤ (m : Int) - 1 := by omega
        have r5 : ((m : Int) - 1).toNat = m - 1 := by omega
        have r6 : (m : Int) - 1 < (l.length : Int) := by omega
        have r7 : (1 : Int) ≤ (m : Int) := by omega
        clear k hp hq hlt2
        go_wp2
        refine wp_hab fun hab => ?_
        refine wp_region_above (by kernel_rfl) (by kernel_rfl) ?_
        repeat (go_big_quiet_step ((go_at_call 38; exact above_of (HVA.out _))))
        refine wpQuiet_nil ?_
        refine above_ends fun w3 hb3 => ?_
        clear hab r3 r4 r5 r6
        have HB3 := hide (HB.out.trans (hb3.mono hsz))
        clear hb3
        go_wp2
        go_roundw
        case rel => exact ⟨m + 1, by omega, by go_num, HB3⟩
        case measure => simp [intOf]; omega
    · have mz : ¬ (m : Int) < (l.length : Int) := by omega
      go_wp2
      go_ret
      exact ⟨rfl, HB.out⟩
end Go.Proofs.YtamnaojheecopaaGreat

/- The last step from a walk to a given statement, for every law of the seat: the call returns true, and what lay in memory lies as it lay. -/
namespace Go.Proofs.YtamnaojheecopaaGreat
open Go.ChangeShapes Go.WideShapes Go.ChangeAt Go.RowKit Go.Joins Go.Deep
set_option linter.unusedVariables false
set_option linter.unusedSimpArgs false

theorem own : ownKnob Tryz.prog.godebug = none := by kernel_rfl
theorem laidOut : laidOutB Tryz.prog = true := by kernel_rfl

section
variable {H : Type} {enc : TypeId × Value → H}
theorem trodAll_carry {P : Program} (hl : laidOutB P = true) {W W' : World} (hb : Below W.heap.size W W') :
    ∀ (ts : List TypeId) (vs : List Value) (ds : List (DataW H)) (ps : List MemPlace), (ts.all fun t => P.readableRec t && decide (t < P.types.size)) = true →
      DataW.TrodAll enc P W 0 (fun _ => true) true ts vs ds ps → (∀ x ∈ ps, x.block < W.heap.size) → DataW.TrodAll enc P W' 0 (fun b => decide (b < W.heap.size)) true ts vs ds ps
  | [], [], [], ps, _, h, _ => h
  | [], [], _ :: _, _, _, h, _ => h.elim
  | [], _ :: _, _, _, _, h, _ => h.elim
  | _ :: _, [], _, _, _, h, _ => h.elim
  | _ :: _, _ :: _, [], _, _, h, _ => h.elim
  | t :: ts, v :: vs, d :: ds, ps, hr, h, hlt => by
    obtain ⟨p, q, h1, h2, rfl⟩ := h
    simp only [List.all_cons, Bool.and_eq_true, decide_eq_true_eq] at hr
    refine ⟨p, q, Below.trod hl hr.1.1 hr.1.2 h1 hb (fun x hx => hlt x (by simp [hx])), trodAll_carry hl hb ts vs ds q ?_ h2 (fun x hx => hlt x (by simp [hx])), rfl⟩
    simpa using hr.2

theorem law_post {P : Program} {f : Func} {s : ChangeSpec} {W W' : World} {args : Array Value} {ds gs : List (DataW H)} {before : List MemPlace} {tb : TypeId}
    (hl : laidOutB P = true) (hr : (f.params.toList.all fun t => P.readableRec t && decide (t < P.types.size)) = true) (hres : f.resultTypes = #[tb]) (hbool : P.underlying tb = some .bool)
    (hvars : s.vars = []) (hW : DataW.Whole enc P f.params.toList s.vars false W args.toList ds gs before)
    (hsr : (s.fn H (ds ++ gs)).results = [.lit (.bool true)]) (hsa : (s.fn H (ds ++ gs)).args = ds) (hsv : (s.fn H (ds ++ gs)).vars = [])
    (hb : Below W.heap.size W W') : s.post enc P f false true false false W args (.bool true) W' := by
  have hlt : ∀ p ∈ before, p.block < W.heap.size := fun p hp => hW.lt p hp
  have hW0 := hW
  obtain ⟨p, q, hA, hV, rfl, hz, hn⟩ := hW
  refine ⟨ds, gs, p ++ q, [], p, [], hW0, ?_, ?_, ?_, hb.frame _, fun h => by cases h⟩
  · rw [hsr, hres]
    exact trodAll_mk1 (shut_bool hbool true)
  · rw [hsa]
    exact trodAll_carry hl hb _ _ _ _ hr hA (fun x hx => hlt x (by simp [hx]))
  · rw [hsv, hvars]
    rfl
end
end Go.Proofs.YtamnaojheecopaaGreat

/- An argument that is a list of structs of ints, read as a list. -/
namespace Go.Proofs.YtamnaojheecopaaGreat
open Go.ChangeShapes Go.WideShapes Go.ChangeAt Go.RowKit Go.Joins Go.Deep
set_option linter.unusedVariables false
set_option linter.unusedSimpArgs false

section
variable {H : Type} {enc : TypeId × Value → H} {P : Program} {w : World} {base : Nat} {spare : Nat → Bool} {held : Bool}
/-- The fields of a struct of ints: each one cell, an int. -/
theorem trod_int_fields {t : TypeId} {fs : Array Field} {n : Nat} {cs : List Value} {y : DataW H × List MemPlace} (he : P.underlying t = some (.struct fs)) (hone : oneCellFields P fs = true) (hint : ∀ (j : Nat) (f : Field), fs[j]? = some f → P.underlying f.type = some (.int .i64))
    (hl : cs.length = fs.size) (h : DataW.trod enc P w base spare held n t cs = some y) : ∀ j, j < fs.size → ∃ z : Int, cs[j]? = some (.int .i64 z) := by
  obtain ⟨ys, n', _, _, _, hyl, hf⟩ := DataW.trod_struct he h
  intro j hj
  have hjf : fs[j]? = some fs[j] := Array.getElem?_eq_getElem hj
  obtain ⟨ho, hk⟩ := hone_of hone j _ hjf
  have h1 := hf j _ hjf
  rw [ho, hk] at h1
  have hd : (cs.drop j).take 1 = [cs[j]'(by omega)] := by rw [List.drop_eq_getElem_cons (by omega)]; rfl
  rw [hd] at h1
  have hy : ys[j]? = some (ys[j]'(by omega)) := List.getElem?_eq_getElem (by omega)
  rw [hy] at h1
  obtain ⟨z, hz, _⟩ := DataW.trod_int (hint j _ hjf) h1
  have hz' : cs[j]'(by omega) = .int .i64 z := by simpa using hz
  exact ⟨z, by rw [List.getElem?_eq_getElem (by omega), hz']⟩
/-- A slice of structs of k ints: its cells. -/
theorem trod_rows {t e : TypeId} {fs : Array Field} {v : Value} {d : DataW H} {p : List MemPlace} {r : Reach} {b0 : Nat} (ht : P.underlying t = some (.slice e)) (he : P.underlying e = some (.struct fs)) (hone : oneCellFields P fs = true)
    (hint : ∀ (j : Nat) (f : Field), fs[j]? = some f → P.underlying f.type = some (.int .i64)) (hC : P.cellsOf e = fs.size) (hk : 0 < fs.size) (hv : Value.okWide P w r b0 t v) (h : DataW.Trod enc P w base spare held t v d p) :
    ∃ (A : Option Addr) (n c : Nat) (F : Nat → Nat → Int), v = .slice A n c ∧ n ≤ maxLen ∧ (0 < n → ∃ b off, A = some ⟨b, off, none⟩ ∧ b < w.heap.size ∧ ∀ i j, i < n → j < fs.size → w.cell? ⟨b, off + i * fs.size + j, none⟩ = some (.int .i64 (F i j))) := by
  obtain ⟨A, n, c, rfl⟩ := okWide_slice ht hv
  obtain ⟨fuel, hf⟩ := h
  rcases open_slice ht hf with ⟨hcs, _⟩ | ⟨a, len, cap, m, nn, D, Pl, hcs, hb, hl, hm, hmm, hx, hi⟩
  · simp [Value.cells] at hcs
    obtain ⟨rfl, rfl, rfl⟩ := hcs
    exact ⟨none, 0, 0, fun _ _ => 0, rfl, Nat.zero_le _, fun h => absurd h (Nat.lt_irrefl 0)⟩
  · simp [Value.cells] at hcs
    obtain ⟨rfl, rfl, rfl⟩ := hcs
    have hlm : n ≤ m := by rw [hmm]; split <;> omega
    have key : ∀ i, i < n → ∀ j, j < fs.size → ∃ z : Int, w.cell? (a.add (i * fs.size + j)) = some (.int .i64 z) := by
      intro i hin j hj
      obtain ⟨cs', hc, ht'⟩ := hi i (by omega)
      rw [hC] at hc
      obtain ⟨_, hcl, hat⟩ := World.cells?_some hc
      obtain ⟨z, hz⟩ := trod_int_fields he hone hint hcl ht' j hj
      have := hat j hj
      rw [← Go.Deep.add_add, this, hz]
      exact ⟨z, rfl⟩
    refine ⟨some a, n, c, fun i j => if h : i < n ∧ j < fs.size then Classical.choose (key i h.1 j h.2) else 0, rfl, by omega, fun hn => ?_⟩
    obtain ⟨z0, h0⟩ := key 0 hn 0 hk
    have hadd0 : a.add (0 * fs.size + 0) = a := by simp [Addr.add]
    rw [hadd0] at h0
    obtain ⟨b, off, sp⟩ := a
    have hsp : sp = none := by
      unfold World.cell? at h0
      cases sp with
      | none => rfl
      | some x => split at h0 <;> simp at h0
    subst hsp
    refine ⟨b, off, rfl, ?_, fun i j hin hj => ?_⟩
    · unfold World.cell? at h0
      split at h0
      · rename_i hh
        exact (Array.getElem?_eq_some_iff.1 hh).1
      · cases h0
    · have hz := Classical.choose_spec (key i hin j hj)
      have e1 : (⟨b, off, none⟩ : Addr).add (i * fs.size + j) = ⟨b, off + i * fs.size + j, none⟩ := by unfold Addr.add; split <;> simp_all [Nat.add_assoc]
      rw [← e1]
      simp only [dif_pos (And.intro hin hj)]
      exact hz
/-- .. rectangles. -/
theorem trod_rects {t e : TypeId} {fs : Array Field} {v : Value} {d : DataW H} {p : List MemPlace} {r : Reach} {b0 : Nat} (ht : P.underlying t = some (.slice e)) (he : P.underlying e = some (.struct fs)) (hone : oneCellFields P fs = true)
    (hint : ∀ (j : Nat) (f : Field), fs[j]? = some f → P.underlying f.type = some (.int .i64)) (hC : P.cellsOf e = 4) (hk : fs.size = 4) (hv : Value.okWide P w r b0 t v) (h : DataW.Trod enc P w base spare held t v d p) :
    ∃ l : List R4, RdK encR 4 w w.heap.size v l ∧ l.length ≤ maxLen := by
  obtain ⟨A, n, c, F, rfl, hn, hF⟩ := trod_rows ht he hone hint (hC.trans hk.symm) (by omega) hv h
  rw [hk] at hF
  refine ⟨(List.range n).map fun i => ⟨F i 0, F i 1, F i 2, F i 3⟩, ⟨A, c, by simp, fun hl => ?_⟩, by simpa using hn⟩
  have hn0 : 0 < n := by
    rcases Nat.eq_zero_or_pos n with h | h
    · subst h; exact absurd rfl hl
    · exact h
  obtain ⟨b, off, hA, hb, hc⟩ := hF hn0
  refine ⟨b, off, hA, hb, fun j x hj i u hu => ?_⟩
  have hjn : j < n := by have := (List.getElem?_eq_some_iff.1 hj).1; simpa using this
  rw [List.getElem?_map, List.getElem?_range hjn] at hj
  simp only [Option.map_some, Option.some.injEq] at hj
  subst hj
  have hi : i < 4 := (List.getElem?_eq_some_iff.1 hu).1
  rw [hc j i hjn hi]
  match i, hi with
  | 0, _ => exact hu
  | 1, _ => exact hu
  | 2, _ => exact hu
  | 3, _ => exact hu
end
theorem int_bd {n : Int} (h : (Lit.int .i64 n).wf = true) : -9223372036854775808 ≤ n ∧ n ≤ 9223372036854775807 := by
  simp [Lit.wf, IntKind.min, IntKind.max, IntKind.signed, IntKind.bits] at h
  omega
theorem rect_fields : ∀ (j : Nat) (f : Field), (match Tryz.prog.underlying 50 with | some (.struct fs) => fs | _ => #[])[j]? = some f → Tryz.prog.underlying f.type = some (.int .i64) := by
  rw [Tryz.underlying50]
  intro j f hf
  match j, hf with
  | 0, hf => simp at hf; subst hf; exact Tryz.underlying3
  | 1, hf => simp at hf; subst hf; exact Tryz.underlying3
  | 2, hf => simp at hf; subst hf; exact Tryz.underlying3
  | 3, hf => simp at hf; subst hf; exact Tryz.underlying3
  | j + 4, hf => simp at hf
end Go.Proofs.YtamnaojheecopaaGreat
