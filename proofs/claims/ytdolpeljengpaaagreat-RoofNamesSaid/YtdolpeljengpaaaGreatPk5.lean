/- Texts laid together: OffS, OffT, HeldY. Lemmas for the statements of this seat; no condition. -/
import Derived.Test.YtdolpeljengpaaaGreatPk4
import Derived.Test.YtdolpeljengpaaaGreatPk2
import Derived.Test.YtdolpeljengpaaaGreatPk3
import Derived.Test.YtdolpeljengpaaaGreatPk1

/- The walk of offset.spans: the spans that are kept, and in no hole. -/
namespace Go.Proofs.YtdolpeljengpaaaGreat
open Go.RowKit
set_option linter.unusedVariables false
set_option linter.unusedSimpArgs false

/-- Between the rounds: the ends, the spans so far, the two counts in a box. n: the heap's size at the call. -/
structure SP (w : World) (v : Value) (E : List En) (gb : Nat) (st : JS) (ov : Value) (no : Nat) (wr : World) : Prop where
  ev : wr.ownsRow 0 301 3 v E.length (E.flatMap encE)
  out : wr.ownsRow w.heap.size 188 2 ov no (st.out.flatMap encS)
  b0 : wr.cell? ⟨gb, 0, none⟩ = some (.int .i64 st.o0)
  b1 : wr.cell? ⟨gb, 1, none⟩ = some (.int .i64 st.o1)
  z0 : wr.frozen? ⟨gb, 0, none⟩ = false
  z1 : wr.frozen? ⟨gb, 1, none⟩ = false
  lt : gb < wr.heap.size
  ge : w.heap.size ≤ gb
  ne : ∀ q, ov.ownBlock = some q → q ≠ gb
  old : ∀ q, v.ownBlock = some q → q < w.heap.size
  grow : w.grownBy wr v.ownBlock
theorem SP.keep {w : World} {v : Value} {E : List En} {gb : Nat} {st : JS} {ov : Value} {no : Nat} {wr w' : World} (h : SP w v E gb st ov no wr) (hb : Below wr.heap.size wr w') : SP w v E gb st ov no w' :=
  ⟨own_below h.ev hb, own_below h.out hb, (hb.cell (p := ⟨gb, 0, none⟩) h.lt).trans h.b0, (hb.cell (p := ⟨gb, 1, none⟩) h.lt).trans h.b1, (hb.frozen (p := ⟨gb, 0, none⟩) h.lt).trans h.z0, (hb.frozen (p := ⟨gb, 1, none⟩) h.lt).trans h.z1, Nat.lt_of_lt_of_le h.lt hb.size, h.ge, h.ne, h.old,
   ⟨hb.os.trans h.grow.os, hb.tape.trans h.grow.tape, hb.output.trans h.grow.output, Nat.le_trans h.grow.size hb.size, fun i hi hne => (hb.block i (Nat.lt_of_lt_of_le hi h.grow.size)).trans (h.grow.block i hi hne)⟩⟩
/-- The spans' row has grown. -/
theorem SP.push {w : World} {v : Value} {E : List En} {gb : Nat} {st : JS} {ov ov' : Value} {no no' : Nat} {wr w' : World} {out' : List Sp} (h : SP w v E gb st ov no wr) (hg : wr.grownBy w' ov.ownBlock) (ho : w'.ownsRow w.heap.size 188 2 ov' no' (out'.flatMap encS)) (hn : ∀ q, ov'.ownBlock = some q → ov.ownBlock = some q ∨ wr.heap.size ≤ q) :
    SP w v E gb ⟨st.o0, st.o1, out', st.last, st.inn⟩ ov' no' w' := by
  have hne : some gb ≠ ov.ownBlock := fun e => h.ne gb e.symm rfl
  have hb : w'.heap[gb]? = wr.heap[gb]? := hg.block gb h.lt hne
  refine ⟨h.ev.kept hg (own_apart h.ev h.out (by decide)), ho, (World.cell?_of_block (a := ⟨gb, 0, none⟩) hb).trans h.b0, (World.cell?_of_block (a := ⟨gb, 1, none⟩) hb).trans h.b1, (World.frozen?_of_block (a := ⟨gb, 0, none⟩) hb).trans h.z0, (World.frozen?_of_block (a := ⟨gb, 1, none⟩) hb).trans h.z1, Nat.lt_of_lt_of_le h.lt hg.size, h.ge, fun q hq => ?_, h.old, ?_⟩
  · rcases hn q hq with h1 | h1
    · exact h.ne q h1
    · have := h.lt; omega
  · refine ⟨hg.os.trans h.grow.os, hg.tape.trans h.grow.tape, hg.output.trans h.grow.output, Nat.le_trans h.grow.size hg.size, fun i hi hne2 => (hg.block i (Nat.lt_of_lt_of_le hi h.grow.size) (fun e => ?_)).trans (h.grow.block i hi hne2)⟩
    have := (h.out.lt i e.symm).1
    omega
theorem SP.set {w : World} {v : Value} {E : List En} {gb : Nat} {st : JS} {g cap : Nat} {wr : World} {q : List Sp} {x y e : Int} (h : SP w v E gb st (.slice (some ⟨g, 0, none⟩) (q.length + 1) cap) (q.length + 1) wr) (hq : st.out = q ++ [(x, y)]) :
    SP w v E gb ⟨st.o0, st.o1, q ++ [(x, e)], st.last, st.inn⟩ (.slice (some ⟨g, 0, none⟩) (q.length + 1) cap) (q.length + 1) (wr.setCell ⟨g, q.length * 2 + 1, none⟩ (.int .i64 e)) := by
  have ho := h.out
  rw [hq] at ho
  obtain ⟨s1, s2⟩ := ho.stored (q.length * 2 + 1) (.int .i64 e)
  rw [set_last] at s1
  exact h.push s2 s1 (fun k hk => .inl hk)
theorem SP.counts {w : World} {v : Value} {E : List En} {gb : Nat} {st : JS} {ov : Value} {no : Nat} {wr w' : World} {p0 p1 la : Int} {inn : Bool} (h : SP w v E gb st ov no wr) (hg : wr.grownBy w' (some gb)) (c0 : w'.cell? ⟨gb, 0, none⟩ = some (.int .i64 p0)) (c1 : w'.cell? ⟨gb, 1, none⟩ = some (.int .i64 p1)) (f0 : w'.frozen? ⟨gb, 0, none⟩ = false) (f1 : w'.frozen? ⟨gb, 1, none⟩ = false) :
    SP w v E gb ⟨p0, p1, st.out, la, inn⟩ ov no w' := by
  refine ⟨h.ev.kept hg ?_, h.out.kept hg ?_, c0, c1, f0, f1, Nat.lt_of_lt_of_le h.lt hg.size, h.ge, h.ne, h.old, ?_⟩
  · right
    intro e
    have := h.old gb e
    have := h.ge
    omega
  · right
    intro e
    exact h.ne gb e rfl
  · refine ⟨hg.os.trans h.grow.os, hg.tape.trans h.grow.tape, hg.output.trans h.grow.output, Nat.le_trans h.grow.size hg.size, fun i hi hne2 => (hg.block i (Nat.lt_of_lt_of_le hi h.grow.size) (fun e => ?_)).trans (h.grow.block i hi hne2)⟩
    injection e with e
    have := h.ge
    omega
theorem SP.cell0 {w : World} {v : Value} {E : List En} {gb : Nat} {p0 p1 last : Int} {out : List Sp} {inn : Bool} {ov : Value} {no : Nat} {wr w1 : World} (h : SP w v E gb ⟨p0, p1, out, last, inn⟩ ov no wr) (hb : Below wr.heap.size wr w1) (x la : Int) (i2 : Bool) : SP w v E gb ⟨x, p1, out, la, i2⟩ ov no (w1.setCell ⟨gb, 0, none⟩ (.int .i64 x)) := by
  have h := h.keep hb
  have c := h.b0
  have c2 := h.b1
  have f := h.z0
  have f2 := h.z1
  exact SP.counts h ⟨rfl, rfl, rfl, by simp [World.setCell], fun i hi hne => Below.heap_setCell _ _ _ _ (fun e => hne (by rw [e]))⟩ (by simp [go_sem, c]) (by simp [go_sem, c2]) (by simp [go_sem, f]) (by simp [go_sem, f2])
theorem SP.cell1 {w : World} {v : Value} {E : List En} {gb : Nat} {p0 p1 last : Int} {out : List Sp} {inn : Bool} {ov : Value} {no : Nat} {wr w1 : World} (h : SP w v E gb ⟨p0, p1, out, last, inn⟩ ov no wr) (hb : Below wr.heap.size wr w1) (x la : Int) (i2 : Bool) : SP w v E gb ⟨p0, x, out, la, i2⟩ ov no (w1.setCell ⟨gb, 1, none⟩ (.int .i64 x)) := by
  have h := h.keep hb
  have c := h.b0
  have c2 := h.b1
  have f := h.z0
  have f2 := h.z1
  exact SP.counts h ⟨rfl, rfl, rfl, by simp [World.setCell], fun i hi hne => Below.heap_setCell _ _ _ _ (fun e => hne (by rw [e]))⟩ (by simp [go_sem, c]) (by simp [go_sem, c2]) (by simp [go_sem, f]) (by simp [go_sem, f2])
/-- Spans come back; the ends' row may have changed, all else is as it was. -/
def SpansRet (w : World) (v : Value) (S : List Sp) (e : Ending) (w' : World) : Prop :=
  (∃ A c, e = .returned (.slice A S.length c) ∧ w'.ownsRow w.heap.size 188 2 (.slice A S.length c) S.length (S.flatMap encS)) ∧ w.grownBy w' v.ownBlock
theorem ev_sjoin {a b : List Sp} (ha : ∀ p ∈ a, p.1 < p.2) (hb : ∀ p ∈ b, p.1 < p.2) {E : List En} (hp : E.Perm (evs 0 a ++ evs 1 b)) (hs : E.Pairwise (fun a b => a.1 ≤ b.1)) : (jfold hSub E).out = sjoin hSub a b := by
  obtain ⟨h1, h2⟩ := jfold_ok (h := hSub) rfl ha hb hp hs
  exact sjoin_eq rfl ha hb h1 h2
theorem ev_next {E : List En} (h : EvOk E) {k : Nat} {at0 kd by0 : Int} {st : JS} (he : E[k]? = some (at0, kd, by0)) (hst : jfold hSub (E.take k) = st) : jfold hSub (E.take (k + 1)) = ⟨if kd = 0 then st.o0 + by0 else st.o0, if kd = 1 then st.o1 + by0 else st.o1, if st.inn = true ∧ st.last < at0 then sext st.out st.last at0 else st.out, at0, decide (0 < (if kd = 0 then st.o0 + by0 else st.o0)) && ((if kd = 1 then st.o1 + by0 else st.o1) == 0)⟩ := by
  obtain ⟨s1, s2, s3, s4, s5⟩ := ev_step h he
  rw [hst] at s1 s3 s4
  simp only at s1 s2 s3 s4
  rw [s3, s4] at s5
  generalize jfold hSub (E.take (k + 1)) = st2 at *
  obtain ⟨q0, q1, o2, l2, i2⟩ := st2
  simp only at s1 s2 s3 s4 s5
  rw [s1, s2, s3, s4, s5]
theorem jf_len {E : List En} : ∀ k, (jfold hSub (E.take k)).out.length ≤ k
  | 0 => by simp [jfold, js0]
  | k + 1 => by
    have ih := jf_len (E := E) k
    by_cases hk : k < E.length
    · obtain ⟨e, he⟩ : ∃ e, E[k]? = some e := ⟨_, List.getElem?_eq_getElem hk⟩
      rw [jf_at hSub he]
      show (jclose _ _).length ≤ _
      unfold jclose
      split
      · have := sext_len (jfold hSub (E.take k)).out (jfold hSub (E.take k)).last e.1
        omega
      · omega
    · rw [List.take_of_length_le (by omega)]
      rw [List.take_of_length_le (by omega)] at ih
      omega
set_option maxRecDepth 100000 in
set_option maxHeartbeats 16000000 in
theorem spans_any {a b : List Sp} (ha : ∀ p ∈ a, p.1 < p.2) (hb : ∀ p ∈ b, p.1 < p.2) (hr : ∀ e ∈ evs 0 a ++ evs 1 b, -3000000 ≤ e.1 ∧ e.1 ≤ 3000000) {w : World} {v : Value} {base : Nat} (hown : w.ownsRow base 301 3 v (evs 0 a ++ evs 1 b).length ((evs 0 a ++ evs 1 b).flatMap encE)) (hn : (evs 0 a ++ evs 1 b).length ≤ 100000000) :
    Calls Tryz.prog 228 #[v] w (SpansRet w v (sjoin hSub a b)) := by
  obtain ⟨i0, hi, hz0, hz1, hz2⟩ := info_parts infoS
  have hS := sortO_any base v _ hr w hown (by omega)
  have HS := hide hS
  have HL : Hid (∀ q, v.ownBlock = some q → q < w.heap.size) := hide (fun q hq => (hown.lt q hq).2)
  have HX := hide (fun (E' : List En) (hp : E'.Perm (evs 0 a ++ evs 1 b)) (hs : E'.Pairwise (fun a b => a.1 ≤ b.1)) => And.intro (ev_ok hb hp hs) (ev_sjoin ha hb hp hs))
  have HW := hide (fun (E' : List En) (hp : E'.Perm (evs 0 a ++ evs 1 b)) => hp.length_eq)
  generalize evs 0 a ++ evs 1 b = E0 at *
  obtain ⟨A, c, hv, _⟩ := own_rd hown (fun _ => rfl)
  subst hv
  clear hS hr hown ha hb
  go_enter Tryz.func228, Tryz.ntmps228
  go_wp2_with (fail)
  refine HS.out.mono ?_
  rintro e w1 ⟨rfl, E, hp, hs, ho, hg⟩
  have hlen := HW.out E hp
  have HEV := hide (HX.out E hp hs).1
  have HRES := hide (HX.out E hp hs).2
  have hlz : E.length ≤ 100000000 := by omega
  rw [← hlen] at ho hg HL ⊢
  clear hp hs hlen HS HW HX hn
  have HJ0 : Hid (jfold hSub (E.take 0) = js0) := hide rfl
  go_upto_region 3 with fail
  refine wp_name fun Z hZ => ?_
  have hbz : Below w1.heap.size w1 Z := by rw [hZ]; exact (Below.refl _ _).alloc (Nat.le_refl _) _
  have HP : Hid (SP w (.slice A E.length c) E w1.heap.size js0 (.slice none 0 0) 0 Z) := hide (by
    refine ⟨own_base (own_below ho hbz) (Nat.zero_le _), World.ownsRow_nil _ _ _ _, ?_, ?_, ?_, ?_, ?_, hg.size, fun q hq => by simp [Value.ownBlock] at hq, HL.out, ?_⟩
    · rw [hZ]; simp [go_sem, js0]
    · rw [hZ]; simp [go_sem, js0]
    · rw [hZ]; simp [go_sem]
    · rw [hZ]; simp [go_sem]
    · rw [hZ]; simp
    · exact ⟨hbz.os.trans hg.os, hbz.tape.trans hg.tape, hbz.output.trans hg.output, Nat.le_trans hg.size hbz.size, fun i hi hne => (hbz.block i (Nat.lt_of_lt_of_le hi hg.size)).trans (hg.block i hi hne)⟩)
  generalize w1.heap.size = gb at *
  clear hZ hbz ho hg
  go_wp2_with (fail)
  go_loopw [4, 5, 6, 14] (fun ov lv iv kv wr => ∃ (k no : Nat) (A9 : Option Addr) (c9 : Nat), k ≤ E.length ∧ kv = .int .i64 k ∧ ov = .slice A9 no c9 ∧ lv = .int .i64 (jfold hSub (E.take k)).last ∧ iv = .bool (jfold hSub (E.take k)).inn ∧ Hid (SP w (.slice A E.length c) E gb (jfold hSub (E.take k)) (.slice A9 no c9) no wr)) (fun _ _ _ kv _ => E.length - (intOf kv).toNat)
  case atStart => exact ⟨0, 0, none, 0, Nat.zero_le _, rfl, rfl, rfl, rfl, by rw [HJ0.out]; exact HP⟩
  case round =>
    clear HP
    obtain ⟨k, no, A9, c9, hk, rfl, rfl, rfl, rfl, HP⟩ := hrel
    by_cases hlt : k < E.length
    · obtain ⟨⟨at0, kd, by0⟩, he⟩ : ∃ p, E[k]? = some p := ⟨_, List.getElem?_eq_getElem hlt⟩
      obtain ⟨st, hst⟩ : ∃ st, jfold hSub (E.take k) = st := ⟨_, rfl⟩
      have hjk := ev_next HEV.out he hst
      have hbd := ev_bd HEV.out k
      have hnn := HEV.out.nn k
      have hlen := jf_len (E := E) k
      have hkind := HEV.out.kind _ (List.mem_of_getElem? he)
      have hby := HEV.out.by1 _ (List.mem_of_getElem? he)
      simp only at hkind hby
      rw [hst] at HP hbd hnn hlen ⊢
      have HJK := hide hjk
      obtain ⟨p0, p1, out, last, inn⟩ := st
      obtain ⟨bd1, bd2, bd3⟩ := hbd
      simp only at bd1 bd2 bd3 hnn hlen HJK ⊢
      have hno : no = out.length := own_len (enc := encS) (k := 2) HP.out.out (fun _ => rfl) (by omega)
      subst hno
      obtain ⟨A0, c0, e0, hrd⟩ := own_rd HP.out.ev (fun _ => rfl)
      injection e0 with eA eN eC
      subst eC
      obtain ⟨b, o, rfl, hbl, kk⟩ := hrd (by intro e; rw [e] at hlt; simp at hlt)
      subst eA
      have d0 : wr.cell? ⟨b, o + k * 3, none⟩ = some (.int .i64 at0) := kk k _ he 0 _ rfl
      have d1 : wr.cell? ⟨b, o + k * 3 + 1, none⟩ = some (.int .i64 kd) := kk k _ he 1 _ rfl
      have d2 : wr.cell? ⟨b, o + k * 3 + 2, none⟩ = some (.int .i64 by0) := kk k _ he 2 _ rfl
      have kz : (k : Int) < (E.length : Int) := by omega
      clear kk hrd he hst hjk
      go_upto_region 8 with fail
      refine wp_name fun Z hZ => ?_
      have hbz : Below wr.heap.size wr Z := by rw [hZ]; exact (Below.refl _ _).alloc (Nat.le_refl _) _
      have e0 : Z.cell? ⟨wr.heap.size, 0, none⟩ = some (.int .i64 at0) := by rw [hZ]; simp [go_sem]
      have e1 : Z.cell? ⟨wr.heap.size, 1, none⟩ = some (.int .i64 kd) := by rw [hZ]; simp [go_sem]
      have e2 : Z.cell? ⟨wr.heap.size, 2, none⟩ = some (.int .i64 by0) := by rw [hZ]; simp [go_sem]
      have hqs : wr.heap.size < Z.heap.size := by rw [hZ]; simp
      have HP2 := hide (HP.out.keep hbz)
      have hqb : gb ≠ wr.heap.size := by have := HP.out.lt; omega
      have hqo : ∀ q, (Value.slice A9 out.length c9).ownBlock = some q → q ≠ wr.heap.size := fun q hq => by have := (HP.out.out.lt q hq).2; omega
      have HQO := hide hqo
      generalize wr.heap.size = q0 at *
      clear hZ hbz HP d0 d1 d2 hqo hbl
      have HP := HP2
      clear HP2
      cases inn with
      | false =>
        go_wp2
        rcases hkind with rfl | rfl
        · have b0 := HP.out.b0
          have b1 := HP.out.b1
          have z0 := HP.out.z0
          have z1 := HP.out.z1
          simp only at b0 b1
          refine wp_region_mix [0, 1, 2, 3, 4, 5, 6, 7] [8] (fun w' => (w'.cell? ⟨q0, 1, none⟩ = some (.int .i64 0) ∧ w'.cell? ⟨q0, 2, none⟩ = some (.int .i64 by0)) ∧ w'.cell? ⟨gb, 0, none⟩ = some (.int .i64 p0) ∧ w'.frozen? ⟨gb, 0, none⟩ = false) (by kernel_rfl) (by kernel_rfl) ⟨⟨e1, e2⟩, b0, z0⟩ ?_
          simp only [List.map_cons, List.map_nil, opAt, List.getElem?_cons_succ, List.getElem?_cons_zero, Option.getD_some]
          iterate 8
            refine ⟨?_, Or.inl ⟨by rfl, ?_⟩, ?_⟩
            rotate_left 1
            · intro w' hSw
              obtain ⟨⟨y1, y2⟩, y3, y4⟩ := hSw
              go_simp
              first | done | with_reducible rfl
            simp only [Act.put, List.setIfInBounds_toArray, List.set_cons_zero, List.set_cons_succ]
          simp only [wpReads]
          intro K hK
          simp only [Act.put, List.setIfInBounds_toArray, List.set_cons_zero, List.set_cons_succ] at hK ⊢
          go_simp
          refine hK _ _ (fun h => absurd rfl h) ?_
          clear hK K
          refine NoPanic.normal ?_
          refine name_exit fun Y hY => ?_
          have HY := hide (show Y = (Z.setCell ⟨gb, 0, none⟩ (.int .i64 (IntKind.i64.wrap (p0 + by0)))).drew from hY)
          have wz : IntKind.i64.wrap (p0 + by0) = p0 + by0 := IntWalk.i64_in _ (by omega)
          rw [wz] at HY
          clear wz
          have HJ2 := hide HJK.out
          clear HJK
          obtain ⟨P, hPP⟩ : ∃ P, P = p0 + by0 := ⟨_, rfl⟩
          rw [← hPP] at HY
          simp only [if_true, if_false, eq_self_iff_true, reduceIte, ← hPP, Int.reduceEq, Bool.false_eq_true, false_and, true_and] at HJ2
          have y0 : Y.cell? ⟨q0, 0, none⟩ = some (.int .i64 at0) := by rw [HY.out]; simp [go_sem, e0, hqb.symm]
          have y1 : Y.cell? ⟨gb, 0, none⟩ = some (.int .i64 (P)) := by rw [HY.out]; simp [go_sem, b0, b1]
          have y2 : Y.cell? ⟨gb, 1, none⟩ = some (.int .i64 (p1)) := by rw [HY.out]; simp [go_sem, b0, b1]
          have hys : q0 < Y.heap.size := by rw [HY.out]; simpa [World.setCell] using hqs
          have HP3 : ∀ la i2, SP w (.slice (some ⟨b, o, none⟩) E.length c) E gb ⟨P, p1, out, la, i2⟩ (.slice A9 (out.length) c9) (out.length) Y := fun la i2 => by
            rw [HY.out]; exact (HP.out.cell0 (Below.refl _ _) _ la i2).keep (Below.refl _ _).drew
          have HP3 := hide HP3
          clear hY HY HP b0 b1 z0 z1 e0 e1 e2 hPP hqs
          go_wp2
          rcases Int.lt_or_le 0 (P) with hp | hp
          · have hg : decide ((0 : Int) < P) = true := decide_eq_true hp
            rw [hg, Bool.true_and] at HJ2
            cases hq : (p1 == (0 : Int)) with
            | false =>
              rw [hq] at HJ2
              clear hp
              go_quiet (fail)
              refine name_exit fun X hX => ?_
              have hbx : Below Y.heap.size Y X := by rw [hX]; exact below_drewN (Below.refl _ _) _
              have HP4 := hide ((HP3.out at0 (jfold hSub (E.take (k + 1))).inn).keep hbx)
              clear hX hbx HP3 y0 y1 y2
              go_wp2
              go_roundw
              case rel =>
                refine ⟨k + 1, (out.length), A9, c9, by omega, by go_num, rfl, by rw [HJ2.out], by rw [HJ2.out], ?_⟩
                have := HP4.out
                rw [HJ2.out] at this ⊢
                exact hide this
              case measure => simp [intOf]; omega
            | true =>
              rw [hq] at HJ2
              clear hp
              go_quiet (fail)
              refine name_exit fun X hX => ?_
              have hbx : Below Y.heap.size Y X := by rw [hX]; exact below_drewN (Below.refl _ _) _
              have HP4 := hide ((HP3.out at0 (jfold hSub (E.take (k + 1))).inn).keep hbx)
              clear hX hbx HP3 y0 y1 y2
              go_wp2
              go_roundw
              case rel =>
                refine ⟨k + 1, (out.length), A9, c9, by omega, by go_num, rfl, by rw [HJ2.out], by rw [HJ2.out], ?_⟩
                have := HP4.out
                rw [HJ2.out] at this ⊢
                exact hide this
              case measure => simp [intOf]; omega
          · have hg : decide ((0 : Int) < P) = false := decide_eq_false (by omega)
            rw [hg, Bool.false_and] at HJ2
            clear hp
            go_quiet (fail)
            refine name_exit fun X hX => ?_
            have hbx : Below Y.heap.size Y X := by rw [hX]; exact below_drewN (Below.refl _ _) _
            have HP4 := hide ((HP3.out at0 (jfold hSub (E.take (k + 1))).inn).keep hbx)
            clear hX hbx HP3 y0 y1 y2
            go_wp2
            go_roundw
            case rel =>
              refine ⟨k + 1, (out.length), A9, c9, by omega, by go_num, rfl, by rw [HJ2.out], by rw [HJ2.out], ?_⟩
              have := HP4.out
              rw [HJ2.out] at this ⊢
              exact hide this
            case measure => simp [intOf]; omega
        · have b0 := HP.out.b0
          have b1 := HP.out.b1
          have z0 := HP.out.z0
          have z1 := HP.out.z1
          simp only at b0 b1
          refine wp_region_mix [0, 1, 2, 3, 4, 5, 6, 7] [8] (fun w' => (w'.cell? ⟨q0, 1, none⟩ = some (.int .i64 1) ∧ w'.cell? ⟨q0, 2, none⟩ = some (.int .i64 by0)) ∧ w'.cell? ⟨gb, 1, none⟩ = some (.int .i64 p1) ∧ w'.frozen? ⟨gb, 1, none⟩ = false) (by kernel_rfl) (by kernel_rfl) ⟨⟨e1, e2⟩, b1, z1⟩ ?_
          simp only [List.map_cons, List.map_nil, opAt, List.getElem?_cons_succ, List.getElem?_cons_zero, Option.getD_some]
          iterate 8
            refine ⟨?_, Or.inl ⟨by rfl, ?_⟩, ?_⟩
            rotate_left 1
            · intro w' hSw
              obtain ⟨⟨y1, y2⟩, y3, y4⟩ := hSw
              go_simp
              first | done | with_reducible rfl
            simp only [Act.put, List.setIfInBounds_toArray, List.set_cons_zero, List.set_cons_succ]
          simp only [wpReads]
          intro K hK
          simp only [Act.put, List.setIfInBounds_toArray, List.set_cons_zero, List.set_cons_succ] at hK ⊢
          go_simp
          refine hK _ _ (fun h => absurd rfl h) ?_
          clear hK K
          refine NoPanic.normal ?_
          refine name_exit fun Y hY => ?_
          have HY := hide (show Y = (Z.setCell ⟨gb, 1, none⟩ (.int .i64 (IntKind.i64.wrap (p1 + by0)))).drew from hY)
          have wz : IntKind.i64.wrap (p1 + by0) = p1 + by0 := IntWalk.i64_in _ (by omega)
          rw [wz] at HY
          clear wz
          have HJ2 := hide HJK.out
          clear HJK
          obtain ⟨P, hPP⟩ : ∃ P, P = p1 + by0 := ⟨_, rfl⟩
          rw [← hPP] at HY
          simp only [if_true, if_false, eq_self_iff_true, reduceIte, ← hPP, Int.reduceEq, Bool.false_eq_true, false_and, true_and] at HJ2
          have y0 : Y.cell? ⟨q0, 0, none⟩ = some (.int .i64 at0) := by rw [HY.out]; simp [go_sem, e0, hqb.symm]
          have y1 : Y.cell? ⟨gb, 0, none⟩ = some (.int .i64 (p0)) := by rw [HY.out]; simp [go_sem, b0, b1]
          have y2 : Y.cell? ⟨gb, 1, none⟩ = some (.int .i64 (P)) := by rw [HY.out]; simp [go_sem, b0, b1]
          have hys : q0 < Y.heap.size := by rw [HY.out]; simpa [World.setCell] using hqs
          have HP3 : ∀ la i2, SP w (.slice (some ⟨b, o, none⟩) E.length c) E gb ⟨p0, P, out, la, i2⟩ (.slice A9 (out.length) c9) (out.length) Y := fun la i2 => by
            rw [HY.out]; exact (HP.out.cell1 (Below.refl _ _) _ la i2).keep (Below.refl _ _).drew
          have HP3 := hide HP3
          clear hY HY HP b0 b1 z0 z1 e0 e1 e2 hPP hqs
          go_wp2
          rcases Int.lt_or_le 0 (p0) with hp | hp
          · have hg : decide ((0 : Int) < p0) = true := decide_eq_true hp
            rw [hg, Bool.true_and] at HJ2
            cases hq : (P == (0 : Int)) with
            | false =>
              rw [hq] at HJ2
              clear hp
              go_quiet (fail)
              refine name_exit fun X hX => ?_
              have hbx : Below Y.heap.size Y X := by rw [hX]; exact below_drewN (Below.refl _ _) _
              have HP4 := hide ((HP3.out at0 (jfold hSub (E.take (k + 1))).inn).keep hbx)
              clear hX hbx HP3 y0 y1 y2
              go_wp2
              go_roundw
              case rel =>
                refine ⟨k + 1, (out.length), A9, c9, by omega, by go_num, rfl, by rw [HJ2.out], by rw [HJ2.out], ?_⟩
                have := HP4.out
                rw [HJ2.out] at this ⊢
                exact hide this
              case measure => simp [intOf]; omega
            | true =>
              rw [hq] at HJ2
              clear hp
              go_quiet (fail)
              refine name_exit fun X hX => ?_
              have hbx : Below Y.heap.size Y X := by rw [hX]; exact below_drewN (Below.refl _ _) _
              have HP4 := hide ((HP3.out at0 (jfold hSub (E.take (k + 1))).inn).keep hbx)
              clear hX hbx HP3 y0 y1 y2
              go_wp2
              go_roundw
              case rel =>
                refine ⟨k + 1, (out.length), A9, c9, by omega, by go_num, rfl, by rw [HJ2.out], by rw [HJ2.out], ?_⟩
                have := HP4.out
                rw [HJ2.out] at this ⊢
                exact hide this
              case measure => simp [intOf]; omega
          · have hg : decide ((0 : Int) < p0) = false := decide_eq_false (by omega)
            rw [hg, Bool.false_and] at HJ2
            clear hp
            go_quiet (fail)
            refine name_exit fun X hX => ?_
            have hbx : Below Y.heap.size Y X := by rw [hX]; exact below_drewN (Below.refl _ _) _
            have HP4 := hide ((HP3.out at0 (jfold hSub (E.take (k + 1))).inn).keep hbx)
            clear hX hbx HP3 y0 y1 y2
            go_wp2
            go_roundw
            case rel =>
              refine ⟨k + 1, (out.length), A9, c9, by omega, by go_num, rfl, by rw [HJ2.out], by rw [HJ2.out], ?_⟩
              have := HP4.out
              rw [HJ2.out] at this ⊢
              exact hide this
            case measure => simp [intOf]; omega
      | true =>
        rcases Int.lt_or_le last at0 with hla | hla
        · have hg : decide (last < at0) = true := decide_eq_true hla
          have HJ0 := hide HJK.out
          rw [if_pos (show true = true ∧ last < at0 from ⟨rfl, hla⟩)] at HJ0
          clear HJK hla
          have HJK := HJ0
          clear HJ0
          rcases List.eq_nil_or_concat out with rfl | ⟨q, p, rfl⟩
          · rw [show sext [] last at0 = [(last, at0)] from rfl] at HJK
            have hbs : w.heap.size ≤ Z.heap.size := Nat.le_of_lt (Nat.lt_of_le_of_lt HP.out.ge HP.out.lt)
            simp only [List.length_nil, List.flatMap_nil] at *
            have hg2 : decide ((0 : Int) < 0) = false := rfl
            go_wp2_with (at_builtin; refine wpList_append_lies _ rfl (.tmp 46) (.tmp 51) 182 rfl w.heap.size 188 i0 (.agg #[.int .i64 0, .int .i64 0]) 2 16 Tryz.underlying182 hi hz0 hz1 hz2 rfl (by decide) _ _ _ rfl (HP.out.out.alloc _) ⟨Z.heap.size, 0, none⟩ 1 1 [.int .i64 last, .int .i64 at0] rfl rfl (news_new Z _ _ _ (by simp)) (ints_one rfl) (by omega) (by unfold maxLen; omega) (by omega) (by simp; omega) _ rfl ?_)
            intro g2 cap2 Y hown2 hgrow hg4 _
            have hy2 : Y.heap[q0]? = Z.heap[q0]? := (hgrow.block q0 (by simp; omega) (fun e => HQO.out q0 e.symm rfl)).trans (((Below.refl Z.heap.size Z).alloc (Nat.le_refl _) _).block q0 hqs)
            have e0 : Y.cell? ⟨q0, 0, none⟩ = some (.int .i64 at0) := (World.cell?_of_block (a := ⟨q0, 0, none⟩) hy2).trans e0
            have e1 : Y.cell? ⟨q0, 1, none⟩ = some (.int .i64 kd) := (World.cell?_of_block (a := ⟨q0, 1, none⟩) hy2).trans e1
            have e2 : Y.cell? ⟨q0, 2, none⟩ = some (.int .i64 by0) := (World.cell?_of_block (a := ⟨q0, 2, none⟩) hy2).trans e2
            have hqs2 : q0 < Y.heap.size := Nat.lt_of_lt_of_le (Nat.lt_of_lt_of_le hqs (by simp)) hgrow.size
            have hol : Y.ownsRow w.heap.size 188 2 (.slice (some ⟨g2, 0, none⟩) (0 + 1) cap2) (0 + 1) ([((last, at0) : Sp)].flatMap encS) := hown2
            have HP2 : SP w _ E gb ⟨p0, p1, [(last, at0)], last, true⟩ _ _ Y := (HP.out.keep ((Below.refl _ _).alloc (Nat.le_refl _) _)).push hgrow hol (fun q hq => by
              have hq2 : g2 = q := by injection hq
              rcases hg4 with h | h
              · exact .inl (by rw [← hq2]; exact h)
              · exact .inr (by simp at h ⊢; omega))
            have HPN := hide HP2
            clear HP HP2 hgrow hown2 hg4 hy2
            have HP := HPN
            clear HPN
            go_upto_region 13 with fail
            refine wp_name fun V hV => ?_
            subst hV
            have hqs := hqs2
            clear hqs2
            rcases hkind with rfl | rfl
            · have b0 := HP.out.b0
              have b1 := HP.out.b1
              have z0 := HP.out.z0
              have z1 := HP.out.z1
              simp only at b0 b1
              refine wp_region_mix [0, 1, 2, 3, 4, 5, 6, 7] [8] (fun w' => (w'.cell? ⟨q0, 1, none⟩ = some (.int .i64 0) ∧ w'.cell? ⟨q0, 2, none⟩ = some (.int .i64 by0)) ∧ w'.cell? ⟨gb, 0, none⟩ = some (.int .i64 p0) ∧ w'.frozen? ⟨gb, 0, none⟩ = false) (by kernel_rfl) (by kernel_rfl) ⟨⟨e1, e2⟩, b0, z0⟩ ?_
              simp only [List.map_cons, List.map_nil, opAt, List.getElem?_cons_succ, List.getElem?_cons_zero, Option.getD_some]
              iterate 8
                refine ⟨?_, Or.inl ⟨by rfl, ?_⟩, ?_⟩
                rotate_left 1
                · intro w' hSw
                  obtain ⟨⟨y1, y2⟩, y3, y4⟩ := hSw
                  go_simp
                  first | done | with_reducible rfl
                simp only [Act.put, List.setIfInBounds_toArray, List.set_cons_zero, List.set_cons_succ]
              simp only [wpReads]
              intro K hK
              simp only [Act.put, List.setIfInBounds_toArray, List.set_cons_zero, List.set_cons_succ] at hK ⊢
              go_simp
              refine hK _ _ (fun h => absurd rfl h) ?_
              clear hK K
              refine NoPanic.normal ?_
              refine name_exit fun Y hY => ?_
              have HY := hide (show Y = (V.setCell ⟨gb, 0, none⟩ (.int .i64 (IntKind.i64.wrap (p0 + by0)))).drew from hY)
              have wz : IntKind.i64.wrap (p0 + by0) = p0 + by0 := IntWalk.i64_in _ (by omega)
              rw [wz] at HY
              clear wz
              have HJ2 := hide HJK.out
              clear HJK
              obtain ⟨P, hPP⟩ : ∃ P, P = p0 + by0 := ⟨_, rfl⟩
              rw [← hPP] at HY
              simp only [if_true, if_false, eq_self_iff_true, reduceIte, ← hPP, Int.reduceEq, Bool.false_eq_true, false_and, true_and] at HJ2
              have y0 : Y.cell? ⟨q0, 0, none⟩ = some (.int .i64 at0) := by rw [HY.out]; simp [go_sem, e0, hqb.symm]
              have y1 : Y.cell? ⟨gb, 0, none⟩ = some (.int .i64 (P)) := by rw [HY.out]; simp [go_sem, b0, b1]
              have y2 : Y.cell? ⟨gb, 1, none⟩ = some (.int .i64 (p1)) := by rw [HY.out]; simp [go_sem, b0, b1]
              have hys : q0 < Y.heap.size := by rw [HY.out]; simpa [World.setCell] using hqs
              have HP3 : ∀ la i2, SP w (.slice (some ⟨b, o, none⟩) E.length c) E gb ⟨P, p1, [(last, at0)], la, i2⟩ (.slice (some ⟨g2, 0, none⟩) (0 + 1) cap2) (0 + 1) Y := fun la i2 => by
                rw [HY.out]; exact (HP.out.cell0 (Below.refl _ _) _ la i2).keep (Below.refl _ _).drew
              have HP3 := hide HP3
              clear hY HY HP b0 b1 z0 z1 e0 e1 e2 hPP hqs
              go_wp2
              rcases Int.lt_or_le 0 (P) with hp | hp
              · have hg : decide ((0 : Int) < P) = true := decide_eq_true hp
                rw [hg, Bool.true_and] at HJ2
                cases hq : (p1 == (0 : Int)) with
                | false =>
                  rw [hq] at HJ2
                  clear hp
                  go_quiet (fail)
                  refine name_exit fun X hX => ?_
                  have hbx : Below Y.heap.size Y X := by rw [hX]; exact below_drewN (Below.refl _ _) _
                  have HP4 := hide ((HP3.out at0 (jfold hSub (E.take (k + 1))).inn).keep hbx)
                  clear hX hbx HP3 y0 y1 y2
                  go_wp2
                  go_roundw
                  case rel =>
                    refine ⟨k + 1, (0 + 1), (some ⟨g2, 0, none⟩), cap2, by omega, by go_num, rfl, by rw [HJ2.out], by rw [HJ2.out], ?_⟩
                    have := HP4.out
                    rw [HJ2.out] at this ⊢
                    exact hide this
                  case measure => simp [intOf]; omega
                | true =>
                  rw [hq] at HJ2
                  clear hp
                  go_quiet (fail)
                  refine name_exit fun X hX => ?_
                  have hbx : Below Y.heap.size Y X := by rw [hX]; exact below_drewN (Below.refl _ _) _
                  have HP4 := hide ((HP3.out at0 (jfold hSub (E.take (k + 1))).inn).keep hbx)
                  clear hX hbx HP3 y0 y1 y2
                  go_wp2
                  go_roundw
                  case rel =>
                    refine ⟨k + 1, (0 + 1), (some ⟨g2, 0, none⟩), cap2, by omega, by go_num, rfl, by rw [HJ2.out], by rw [HJ2.out], ?_⟩
                    have := HP4.out
                    rw [HJ2.out] at this ⊢
                    exact hide this
                  case measure => simp [intOf]; omega
              · have hg : decide ((0 : Int) < P) = false := decide_eq_false (by omega)
                rw [hg, Bool.false_and] at HJ2
                clear hp
                go_quiet (fail)
                refine name_exit fun X hX => ?_
                have hbx : Below Y.heap.size Y X := by rw [hX]; exact below_drewN (Below.refl _ _) _
                have HP4 := hide ((HP3.out at0 (jfold hSub (E.take (k + 1))).inn).keep hbx)
                clear hX hbx HP3 y0 y1 y2
                go_wp2
                go_roundw
                case rel =>
                  refine ⟨k + 1, (0 + 1), (some ⟨g2, 0, none⟩), cap2, by omega, by go_num, rfl, by rw [HJ2.out], by rw [HJ2.out], ?_⟩
                  have := HP4.out
                  rw [HJ2.out] at this ⊢
                  exact hide this
                case measure => simp [intOf]; omega
            · have b0 := HP.out.b0
              have b1 := HP.out.b1
              have z0 := HP.out.z0
              have z1 := HP.out.z1
              simp only at b0 b1
              refine wp_region_mix [0, 1, 2, 3, 4, 5, 6, 7] [8] (fun w' => (w'.cell? ⟨q0, 1, none⟩ = some (.int .i64 1) ∧ w'.cell? ⟨q0, 2, none⟩ = some (.int .i64 by0)) ∧ w'.cell? ⟨gb, 1, none⟩ = some (.int .i64 p1) ∧ w'.frozen? ⟨gb, 1, none⟩ = false) (by kernel_rfl) (by kernel_rfl) ⟨⟨e1, e2⟩, b1, z1⟩ ?_
              simp only [List.map_cons, List.map_nil, opAt, List.getElem?_cons_succ, List.getElem?_cons_zero, Option.getD_some]
              iterate 8
                refine ⟨?_, Or.inl ⟨by rfl, ?_⟩, ?_⟩
                rotate_left 1
                · intro w' hSw
                  obtain ⟨⟨y1, y2⟩, y3, y4⟩ := hSw
                  go_simp
                  first | done | with_reducible rfl
                simp only [Act.put, List.setIfInBounds_toArray, List.set_cons_zero, List.set_cons_succ]
              simp only [wpReads]
              intro K hK
              simp only [Act.put, List.setIfInBounds_toArray, List.set_cons_zero, List.set_cons_succ] at hK ⊢
              go_simp
              refine hK _ _ (fun h => absurd rfl h) ?_
              clear hK K
              refine NoPanic.normal ?_
              refine name_exit fun Y hY => ?_
              have HY := hide (show Y = (V.setCell ⟨gb, 1, none⟩ (.int .i64 (IntKind.i64.wrap (p1 + by0)))).drew from hY)
              have wz : IntKind.i64.wrap (p1 + by0) = p1 + by0 := IntWalk.i64_in _ (by omega)
              rw [wz] at HY
              clear wz
              have HJ2 := hide HJK.out
              clear HJK
              obtain ⟨P, hPP⟩ : ∃ P, P = p1 + by0 := ⟨_, rfl⟩
              rw [← hPP] at HY
              simp only [if_true, if_false, eq_self_iff_true, reduceIte, ← hPP, Int.reduceEq, Bool.false_eq_true, false_and, true_and] at HJ2
              have y0 : Y.cell? ⟨q0, 0, none⟩ = some (.int .i64 at0) := by rw [HY.out]; simp [go_sem, e0, hqb.symm]
              have y1 : Y.cell? ⟨gb, 0, none⟩ = some (.int .i64 (p0)) := by rw [HY.out]; simp [go_sem, b0, b1]
              have y2 : Y.cell? ⟨gb, 1, none⟩ = some (.int .i64 (P)) := by rw [HY.out]; simp [go_sem, b0, b1]
              have hys : q0 < Y.heap.size := by rw [HY.out]; simpa [World.setCell] using hqs
              have HP3 : ∀ la i2, SP w (.slice (some ⟨b, o, none⟩) E.length c) E gb ⟨p0, P, [(last, at0)], la, i2⟩ (.slice (some ⟨g2, 0, none⟩) (0 + 1) cap2) (0 + 1) Y := fun la i2 => by
                rw [HY.out]; exact (HP.out.cell1 (Below.refl _ _) _ la i2).keep (Below.refl _ _).drew
              have HP3 := hide HP3
              clear hY HY HP b0 b1 z0 z1 e0 e1 e2 hPP hqs
              go_wp2
              rcases Int.lt_or_le 0 (p0) with hp | hp
              · have hg : decide ((0 : Int) < p0) = true := decide_eq_true hp
                rw [hg, Bool.true_and] at HJ2
                cases hq : (P == (0 : Int)) with
                | false =>
                  rw [hq] at HJ2
                  clear hp
                  go_quiet (fail)
                  refine name_exit fun X hX => ?_
                  have hbx : Below Y.heap.size Y X := by rw [hX]; exact below_drewN (Below.refl _ _) _
                  have HP4 := hide ((HP3.out at0 (jfold hSub (E.take (k + 1))).inn).keep hbx)
                  clear hX hbx HP3 y0 y1 y2
                  go_wp2
                  go_roundw
                  case rel =>
                    refine ⟨k + 1, (0 + 1), (some ⟨g2, 0, none⟩), cap2, by omega, by go_num, rfl, by rw [HJ2.out], by rw [HJ2.out], ?_⟩
                    have := HP4.out
                    rw [HJ2.out] at this ⊢
                    exact hide this
                  case measure => simp [intOf]; omega
                | true =>
                  rw [hq] at HJ2
                  clear hp
                  go_quiet (fail)
                  refine name_exit fun X hX => ?_
                  have hbx : Below Y.heap.size Y X := by rw [hX]; exact below_drewN (Below.refl _ _) _
                  have HP4 := hide ((HP3.out at0 (jfold hSub (E.take (k + 1))).inn).keep hbx)
                  clear hX hbx HP3 y0 y1 y2
                  go_wp2
                  go_roundw
                  case rel =>
                    refine ⟨k + 1, (0 + 1), (some ⟨g2, 0, none⟩), cap2, by omega, by go_num, rfl, by rw [HJ2.out], by rw [HJ2.out], ?_⟩
                    have := HP4.out
                    rw [HJ2.out] at this ⊢
                    exact hide this
                  case measure => simp [intOf]; omega
              · have hg : decide ((0 : Int) < p0) = false := decide_eq_false (by omega)
                rw [hg, Bool.false_and] at HJ2
                clear hp
                go_quiet (fail)
                refine name_exit fun X hX => ?_
                have hbx : Below Y.heap.size Y X := by rw [hX]; exact below_drewN (Below.refl _ _) _
                have HP4 := hide ((HP3.out at0 (jfold hSub (E.take (k + 1))).inn).keep hbx)
                clear hX hbx HP3 y0 y1 y2
                go_wp2
                go_roundw
                case rel =>
                  refine ⟨k + 1, (0 + 1), (some ⟨g2, 0, none⟩), cap2, by omega, by go_num, rfl, by rw [HJ2.out], by rw [HJ2.out], ?_⟩
                  have := HP4.out
                  rw [HJ2.out] at this ⊢
                  exact hide this
                case measure => simp [intOf]; omega
          · obtain ⟨x, y⟩ := p
            rw [List.concat_eq_append] at *
            have hy : sext (q ++ [(x, y)]) last at0 = if y = last then q ++ [(x, at0)] else q ++ [(x, y)] ++ [(last, at0)] := by
              unfold sext
              simp [List.getLast?_append, List.dropLast_concat]
            rw [hy] at HJK
            clear hy
            obtain ⟨g, cap, hv, hBg, hgw⟩ := HP.out.out.form (by simp)
            injection hv with v1 _ v3
            subst v1; subst v3
            have cy : Z.cell? ⟨g, q.length * 2 + 1, none⟩ = some (.int .i64 y) := by
              have := (HP.out.out.cells (g := g) rfl) _ _ (flat_get (k := 2) (fun _ => rfl) _ q.length (x, y) 1 _ (by simp) rfl)
              rwa [addr_add] at this
            have fy : Z.frozen? ⟨g, q.length * 2 + 1, none⟩ = false := HP.out.out.frozenAt _
            have hqg : g ≠ q0 := HQO.out g rfl
            simp only [List.length_append, List.length_cons, List.length_nil, Nat.zero_add] at HP hlen ⊢
            have hg2 : decide ((0 : Int) < (q.length : Int) + 1) = true := decide_eq_true (by omega)
            have q1 : (q.length : Int) < (q.length : Int) + 1 := by omega
            have q2 : (0 : Int) ≤ (q.length : Int) := by omega
            by_cases hyl : y = last
            · rw [if_pos hyl] at HJK
              have hb2 : (y == last) = true := by simpa using hyl
              clear hyl
              go_upto_region 13 with fail
              refine wp_name fun V hV => ?_
              have e0 : V.cell? ⟨q0, 0, none⟩ = some (.int .i64 at0) := by rw [hV]; simp [go_sem, e0, hqg, hqg.symm]
              have e1 : V.cell? ⟨q0, 1, none⟩ = some (.int .i64 kd) := by rw [hV]; simp [go_sem, e1, hqg, hqg.symm]
              have e2 : V.cell? ⟨q0, 2, none⟩ = some (.int .i64 by0) := by rw [hV]; simp [go_sem, e2, hqg, hqg.symm]
              have hqs2 : q0 < V.heap.size := by rw [hV]; simpa [World.setCell] using hqs
              have HPN : Hid (SP w (.slice (some ⟨b, o, none⟩) E.length c) E gb ⟨p0, p1, q ++ [(x, at0)], last, true⟩ (.slice (some ⟨g, 0, none⟩) (q.length + 1) c9) (q.length + 1) V) := hide (by rw [hV]; exact HP.out.set rfl)
              clear hV HP cy fy hgw
              have HP := HPN
              clear HPN
              have hqs := hqs2
              clear hqs2
              rcases hkind with rfl | rfl
              · have b0 := HP.out.b0
                have b1 := HP.out.b1
                have z0 := HP.out.z0
                have z1 := HP.out.z1
                simp only at b0 b1
                refine wp_region_mix [0, 1, 2, 3, 4, 5, 6, 7] [8] (fun w' => (w'.cell? ⟨q0, 1, none⟩ = some (.int .i64 0) ∧ w'.cell? ⟨q0, 2, none⟩ = some (.int .i64 by0)) ∧ w'.cell? ⟨gb, 0, none⟩ = some (.int .i64 p0) ∧ w'.frozen? ⟨gb, 0, none⟩ = false) (by kernel_rfl) (by kernel_rfl) ⟨⟨e1, e2⟩, b0, z0⟩ ?_
                simp only [List.map_cons, List.map_nil, opAt, List.getElem?_cons_succ, List.getElem?_cons_zero, Option.getD_some]
                iterate 8
                  refine ⟨?_, Or.inl ⟨by rfl, ?_⟩, ?_⟩
                  rotate_left 1
                  · intro w' hSw
                    obtain ⟨⟨y1, y2⟩, y3, y4⟩ := hSw
                    go_simp
                    first | done | with_reducible rfl
                  simp only [Act.put, List.setIfInBounds_toArray, List.set_cons_zero, List.set_cons_succ]
                simp only [wpReads]
                intro K hK
                simp only [Act.put, List.setIfInBounds_toArray, List.set_cons_zero, List.set_cons_succ] at hK ⊢
                go_simp
                refine hK _ _ (fun h => absurd rfl h) ?_
                clear hK K
                refine NoPanic.normal ?_
                refine name_exit fun Y hY => ?_
                have HY := hide (show Y = (V.setCell ⟨gb, 0, none⟩ (.int .i64 (IntKind.i64.wrap (p0 + by0)))).drew from hY)
                have wz : IntKind.i64.wrap (p0 + by0) = p0 + by0 := IntWalk.i64_in _ (by omega)
                rw [wz] at HY
                clear wz
                have HJ2 := hide HJK.out
                clear HJK
                obtain ⟨P, hPP⟩ : ∃ P, P = p0 + by0 := ⟨_, rfl⟩
                rw [← hPP] at HY
                simp only [if_true, if_false, eq_self_iff_true, reduceIte, ← hPP, Int.reduceEq, Bool.false_eq_true, false_and, true_and] at HJ2
                have y0 : Y.cell? ⟨q0, 0, none⟩ = some (.int .i64 at0) := by rw [HY.out]; simp [go_sem, e0, hqb.symm]
                have y1 : Y.cell? ⟨gb, 0, none⟩ = some (.int .i64 (P)) := by rw [HY.out]; simp [go_sem, b0, b1]
                have y2 : Y.cell? ⟨gb, 1, none⟩ = some (.int .i64 (p1)) := by rw [HY.out]; simp [go_sem, b0, b1]
                have hys : q0 < Y.heap.size := by rw [HY.out]; simpa [World.setCell] using hqs
                have HP3 : ∀ la i2, SP w (.slice (some ⟨b, o, none⟩) E.length c) E gb ⟨P, p1, q ++ [(x, at0)], la, i2⟩ (.slice (some ⟨g, 0, none⟩) (q.length + 1) c9) (q.length + 1) Y := fun la i2 => by
                  rw [HY.out]; exact (HP.out.cell0 (Below.refl _ _) _ la i2).keep (Below.refl _ _).drew
                have HP3 := hide HP3
                clear hY HY HP b0 b1 z0 z1 e0 e1 e2 hPP hqs
                go_wp2
                rcases Int.lt_or_le 0 (P) with hp | hp
                · have hg : decide ((0 : Int) < P) = true := decide_eq_true hp
                  rw [hg, Bool.true_and] at HJ2
                  cases hq : (p1 == (0 : Int)) with
                  | false =>
                    rw [hq] at HJ2
                    clear hp
                    go_quiet (fail)
                    refine name_exit fun X hX => ?_
                    have hbx : Below Y.heap.size Y X := by rw [hX]; exact below_drewN (Below.refl _ _) _
                    have HP4 := hide ((HP3.out at0 (jfold hSub (E.take (k + 1))).inn).keep hbx)
                    clear hX hbx HP3 y0 y1 y2
                    go_wp2
                    go_roundw
                    case rel =>
                      refine ⟨k + 1, (q.length + 1), (some ⟨g, 0, none⟩), c9, by omega, by go_num, rfl, by rw [HJ2.out], by rw [HJ2.out], ?_⟩
                      have := HP4.out
                      rw [HJ2.out] at this ⊢
                      exact hide this
                    case measure => simp [intOf]; omega
                  | true =>
                    rw [hq] at HJ2
                    clear hp
                    go_quiet (fail)
                    refine name_exit fun X hX => ?_
                    have hbx : Below Y.heap.size Y X := by rw [hX]; exact below_drewN (Below.refl _ _) _
                    have HP4 := hide ((HP3.out at0 (jfold hSub (E.take (k + 1))).inn).keep hbx)
                    clear hX hbx HP3 y0 y1 y2
                    go_wp2
                    go_roundw
                    case rel =>
                      refine ⟨k + 1, (q.length + 1), (some ⟨g, 0, none⟩), c9, by omega, by go_num, rfl, by rw [HJ2.out], by rw [HJ2.out], ?_⟩
                      have := HP4.out
                      rw [HJ2.out] at this ⊢
                      exact hide this
                    case measure => simp [intOf]; omega
                · have hg : decide ((0 : Int) < P) = false := decide_eq_false (by omega)
                  rw [hg, Bool.false_and] at HJ2
                  clear hp
                  go_quiet (fail)
                  refine name_exit fun X hX => ?_
                  have hbx : Below Y.heap.size Y X := by rw [hX]; exact below_drewN (Below.refl _ _) _
                  have HP4 := hide ((HP3.out at0 (jfold hSub (E.take (k + 1))).inn).keep hbx)
                  clear hX hbx HP3 y0 y1 y2
                  go_wp2
                  go_roundw
                  case rel =>
                    refine ⟨k + 1, (q.length + 1), (some ⟨g, 0, none⟩), c9, by omega, by go_num, rfl, by rw [HJ2.out], by rw [HJ2.out], ?_⟩
                    have := HP4.out
                    rw [HJ2.out] at this ⊢
                    exact hide this
                  case measure => simp [intOf]; omega
              · have b0 := HP.out.b0
                have b1 := HP.out.b1
                have z0 := HP.out.z0
                have z1 := HP.out.z1
                simp only at b0 b1
                refine wp_region_mix [0, 1, 2, 3, 4, 5, 6, 7] [8] (fun w' => (w'.cell? ⟨q0, 1, none⟩ = some (.int .i64 1) ∧ w'.cell? ⟨q0, 2, none⟩ = some (.int .i64 by0)) ∧ w'.cell? ⟨gb, 1, none⟩ = some (.int .i64 p1) ∧ w'.frozen? ⟨gb, 1, none⟩ = false) (by kernel_rfl) (by kernel_rfl) ⟨⟨e1, e2⟩, b1, z1⟩ ?_
                simp only [List.map_cons, List.map_nil, opAt, List.getElem?_cons_succ, List.getElem?_cons_zero, Option.getD_some]
                iterate 8
                  refine ⟨?_, Or.inl ⟨by rfl, ?_⟩, ?_⟩
                  rotate_left 1
                  · intro w' hSw
                    obtain ⟨⟨y1, y2⟩, y3, y4⟩ := hSw
                    go_simp
                    first | done | with_reducible rfl
                  simp only [Act.put, List.setIfInBounds_toArray, List.set_cons_zero, List.set_cons_succ]
                simp only [wpReads]
                intro K hK
                simp only [Act.put, List.setIfInBounds_toArray, List.set_cons_zero, List.set_cons_succ] at hK ⊢
                go_simp
                refine hK _ _ (fun h => absurd rfl h) ?_
                clear hK K
                refine NoPanic.normal ?_
                refine name_exit fun Y hY => ?_
                have HY := hide (show Y = (V.setCell ⟨gb, 1, none⟩ (.int .i64 (IntKind.i64.wrap (p1 + by0)))).drew from hY)
                have wz : IntKind.i64.wrap (p1 + by0) = p1 + by0 := IntWalk.i64_in _ (by omega)
                rw [wz] at HY
                clear wz
                have HJ2 := hide HJK.out
                clear HJK
                obtain ⟨P, hPP⟩ : ∃ P, P = p1 + by0 := ⟨_, rfl⟩
                rw [← hPP] at HY
                simp only [if_true, if_false, eq_self_iff_true, reduceIte, ← hPP, Int.reduceEq, Bool.false_eq_true, false_and, true_and] at HJ2
                have y0 : Y.cell? ⟨q0, 0, none⟩ = some (.int .i64 at0) := by rw [HY.out]; simp [go_sem, e0, hqb.symm]
                have y1 : Y.cell? ⟨gb, 0, none⟩ = some (.int .i64 (p0)) := by rw [HY.out]; simp [go_sem, b0, b1]
                have y2 : Y.cell? ⟨gb, 1, none⟩ = some (.int .i64 (P)) := by rw [HY.out]; simp [go_sem, b0, b1]
                have hys : q0 < Y.heap.size := by rw [HY.out]; simpa [World.setCell] using hqs
                have HP3 : ∀ la i2, SP w (.slice (some ⟨b, o, none⟩) E.length c) E gb ⟨p0, P, q ++ [(x, at0)], la, i2⟩ (.slice (some ⟨g, 0, none⟩) (q.length + 1) c9) (q.length + 1) Y := fun la i2 => by
                  rw [HY.out]; exact (HP.out.cell1 (Below.refl _ _) _ la i2).keep (Below.refl _ _).drew
                have HP3 := hide HP3
                clear hY HY HP b0 b1 z0 z1 e0 e1 e2 hPP hqs
                go_wp2
                rcases Int.lt_or_le 0 (p0) with hp | hp
                · have hg : decide ((0 : Int) < p0) = true := decide_eq_true hp
                  rw [hg, Bool.true_and] at HJ2
                  cases hq : (P == (0 : Int)) with
                  | false =>
                    rw [hq] at HJ2
                    clear hp
                    go_quiet (fail)
                    refine name_exit fun X hX => ?_
                    have hbx : Below Y.heap.size Y X := by rw [hX]; exact below_drewN (Below.refl _ _) _
                    have HP4 := hide ((HP3.out at0 (jfold hSub (E.take (k + 1))).inn).keep hbx)
                    clear hX hbx HP3 y0 y1 y2
                    go_wp2
                    go_roundw
                    case rel =>
                      refine ⟨k + 1, (q.length + 1), (some ⟨g, 0, none⟩), c9, by omega, by go_num, rfl, by rw [HJ2.out], by rw [HJ2.out], ?_⟩
                      have := HP4.out
                      rw [HJ2.out] at this ⊢
                      exact hide this
                    case measure => simp [intOf]; omega
                  | true =>
                    rw [hq] at HJ2
                    clear hp
                    go_quiet (fail)
                    refine name_exit fun X hX => ?_
                    have hbx : Below Y.heap.size Y X := by rw [hX]; exact below_drewN (Below.refl _ _) _
                    have HP4 := hide ((HP3.out at0 (jfold hSub (E.take (k + 1))).inn).keep hbx)
                    clear hX hbx HP3 y0 y1 y2
                    go_wp2
                    go_roundw
                    case rel =>
                      refine ⟨k + 1, (q.length + 1), (some ⟨g, 0, none⟩), c9, by omega, by go_num, rfl, by rw [HJ2.out], by rw [HJ2.out], ?_⟩
                      have := HP4.out
                      rw [HJ2.out] at this ⊢
                      exact hide this
                    case measure => simp [intOf]; omega
                · have hg : decide ((0 : Int) < p0) = false := decide_eq_false (by omega)
                  rw [hg, Bool.false_and] at HJ2
                  clear hp
                  go_quiet (fail)
                  refine name_exit fun X hX => ?_
                  have hbx : Below Y.heap.size Y X := by rw [hX]; exact below_drewN (Below.refl _ _) _
                  have HP4 := hide ((HP3.out at0 (jfold hSub (E.take (k + 1))).inn).keep hbx)
                  clear hX hbx HP3 y0 y1 y2
                  go_wp2
                  go_roundw
                  case rel =>
                    refine ⟨k + 1, (q.length + 1), (some ⟨g, 0, none⟩), c9, by omega, by go_num, rfl, by rw [HJ2.out], by rw [HJ2.out], ?_⟩
                    have := HP4.out
                    rw [HJ2.out] at this ⊢
                    exact hide this
                  case measure => simp [intOf]; omega
            · rw [if_neg hyl] at HJK
              have hb2 : (y == last) = false := by simpa using hyl
              clear hyl
              have hbs : w.heap.size ≤ Z.heap.size := Nat.le_of_lt (Nat.lt_of_le_of_lt HP.out.ge HP.out.lt)
              clear fy hgw
              go_wp2_with (at_builtin; refine wpList_append_lies _ rfl (.tmp 46) (.tmp 51) 182 rfl w.heap.size 188 i0 (.agg #[.int .i64 0, .int .i64 0]) 2 16 Tryz.underlying182 hi hz0 hz1 hz2 rfl (by decide) _ _ _ rfl (HP.out.out.alloc _) ⟨Z.heap.size, 0, none⟩ 1 1 [.int .i64 last, .int .i64 at0] rfl rfl (news_new Z _ _ _ (by simp)) (ints_one rfl) (by omega) (by unfold maxLen; omega) (by omega) (by simp; omega) _ rfl ?_)
              intro g2 cap2 Y hown2 hgrow hg4 _
              have hy2 : Y.heap[q0]? = Z.heap[q0]? := (hgrow.block q0 (by simp; omega) (fun e => HQO.out q0 e.symm rfl)).trans (((Below.refl Z.heap.size Z).alloc (Nat.le_refl _) _).block q0 hqs)
              have e0 : Y.cell? ⟨q0, 0, none⟩ = some (.int .i64 at0) := (World.cell?_of_block (a := ⟨q0, 0, none⟩) hy2).trans e0
              have e1 : Y.cell? ⟨q0, 1, none⟩ = some (.int .i64 kd) := (World.cell?_of_block (a := ⟨q0, 1, none⟩) hy2).trans e1
              have e2 : Y.cell? ⟨q0, 2, none⟩ = some (.int .i64 by0) := (World.cell?_of_block (a := ⟨q0, 2, none⟩) hy2).trans e2
              have hqs2 : q0 < Y.heap.size := Nat.lt_of_lt_of_le (Nat.lt_of_lt_of_le hqs (by simp)) hgrow.size
              have hol : Y.ownsRow w.heap.size 188 2 (.slice (some ⟨g2, 0, none⟩) (q.length + 1 + 1) cap2) (q.length + 1 + 1) ((q ++ [(x, y)] ++ [(last, at0)]).flatMap encS) := by
                have := hown2
                rwa [show q.flatMap encS ++ (encS (x, y) ++ [.int .i64 last, .int .i64 at0]) = (q ++ [(x, y)] ++ [(last, at0)]).flatMap encS by simp [encS]] at this
              have HP2 : SP w _ E gb ⟨p0, p1, q ++ [(x, y)] ++ [(last, at0)], last, true⟩ _ _ Y := (HP.out.keep ((Below.refl _ _).alloc (Nat.le_refl _) _)).push hgrow hol (fun q hq => by
                have hq2 : g2 = q := by injection hq
                rcases hg4 with h | h
                · exact .inl (by rw [← hq2]; exact h)
                · exact .inr (by simp at h ⊢; omega))
              have HPN := hide HP2
              clear HP HP2 hgrow hown2 hg4 hy2
              have HP := HPN
              clear HPN
              go_upto_region 13 with fail
              refine wp_name fun V hV => ?_
              subst hV
              have hqs := hqs2
              clear hqs2
              rcases hkind with rfl | rfl
              · have b0 := HP.out.b0
                have b1 := HP.out.b1
                have z0 := HP.out.z0
                have z1 := HP.out.z1
                simp only at b0 b1
                refine wp_region_mix [0, 1, 2, 3, 4, 5, 6, 7] [8] (fun w' => (w'.cell? ⟨q0, 1, none⟩ = some (.int .i64 0) ∧ w'.cell? ⟨q0, 2, none⟩ = some (.int .i64 by0)) ∧ w'.cell? ⟨gb, 0, none⟩ = some (.int .i64 p0) ∧ w'.frozen? ⟨gb, 0, none⟩ = false) (by kernel_rfl) (by kernel_rfl) ⟨⟨e1, e2⟩, b0, z0⟩ ?_
                simp only [List.map_cons, List.map_nil, opAt, List.getElem?_cons_succ, List.getElem?_cons_zero, Option.getD_some]
                iterate 8
                  refine ⟨?_, Or.inl ⟨by rfl, ?_⟩, ?_⟩
                  rotate_left 1
                  · intro w' hSw
                    obtain ⟨⟨y1, y2⟩, y3, y4⟩ := hSw
                    go_simp
                    first | done | with_reducible rfl
                  simp only [Act.put, List.setIfInBounds_toArray, List.set_cons_zero, List.set_cons_succ]
                simp only [wpReads]
                intro K hK
                simp only [Act.put, List.setIfInBounds_toArray, List.set_cons_zero, List.set_cons_succ] at hK ⊢
                go_simp
                refine hK _ _ (fun h => absurd rfl h) ?_
                clear hK K
                refine NoPanic.normal ?_
                refine name_exit fun Y hY => ?_
                have HY := hide (show Y = (V.setCell ⟨gb, 0, none⟩ (.int .i64 (IntKind.i64.wrap (p0 + by0)))).drew from hY)
                have wz : IntKind.i64.wrap (p0 + by0) = p0 + by0 := IntWalk.i64_in _ (by omega)
                rw [wz] at HY
                clear wz
                have HJ2 := hide HJK.out
                clear HJK
                obtain ⟨P, hPP⟩ : ∃ P, P = p0 + by0 := ⟨_, rfl⟩
                rw [← hPP] at HY
                simp only [if_true, if_false, eq_self_iff_true, reduceIte, ← hPP, Int.reduceEq, Bool.false_eq_true, false_and, true_and] at HJ2
                have y0 : Y.cell? ⟨q0, 0, none⟩ = some (.int .i64 at0) := by rw [HY.out]; simp [go_sem, e0, hqb.symm]
                have y1 : Y.cell? ⟨gb, 0, none⟩ = some (.int .i64 (P)) := by rw [HY.out]; simp [go_sem, b0, b1]
                have y2 : Y.cell? ⟨gb, 1, none⟩ = some (.int .i64 (p1)) := by rw [HY.out]; simp [go_sem, b0, b1]
                have hys : q0 < Y.heap.size := by rw [HY.out]; simpa [World.setCell] using hqs
                have HP3 : ∀ la i2, SP w (.slice (some ⟨b, o, none⟩) E.length c) E gb ⟨P, p1, q ++ [(x, y)] ++ [(last, at0)], la, i2⟩ (.slice (some ⟨g2, 0, none⟩) (q.length + 1 + 1) cap2) (q.length + 1 + 1) Y := fun la i2 => by
                  rw [HY.out]; exact (HP.out.cell0 (Below.refl _ _) _ la i2).keep (Below.refl _ _).drew
                have HP3 := hide HP3
                clear hY HY HP b0 b1 z0 z1 e0 e1 e2 hPP hqs
                go_wp2
                rcases Int.lt_or_le 0 (P) with hp | hp
                · have hg : decide ((0 : Int) < P) = true := decide_eq_true hp
                  rw [hg, Bool.true_and] at HJ2
                  cases hq : (p1 == (0 : Int)) with
                  | false =>
                    rw [hq] at HJ2
                    clear hp
                    go_quiet (fail)
                    refine name_exit fun X hX => ?_
                    have hbx : Below Y.heap.size Y X := by rw [hX]; exact below_drewN (Below.refl _ _) _
                    have HP4 := hide ((HP3.out at0 (jfold hSub (E.take (k + 1))).inn).keep hbx)
                    clear hX hbx HP3 y0 y1 y2
                    go_wp2
                    go_roundw
                    case rel =>
                      refine ⟨k + 1, (q.length + 1 + 1), (some ⟨g2, 0, none⟩), cap2, by omega, by go_num, rfl, by rw [HJ2.out], by rw [HJ2.out], ?_⟩
                      have := HP4.out
                      rw [HJ2.out] at this ⊢
                      exact hide this
                    case measure => simp [intOf]; omega
                  | true =>
                    rw [hq] at HJ2
                    clear hp
                    go_quiet (fail)
                    refine name_exit fun X hX => ?_
                    have hbx : Below Y.heap.size Y X := by rw [hX]; exact below_drewN (Below.refl _ _) _
                    have HP4 := hide ((HP3.out at0 (jfold hSub (E.take (k + 1))).inn).keep hbx)
                    clear hX hbx HP3 y0 y1 y2
                    go_wp2
                    go_roundw
                    case rel =>
                      refine ⟨k + 1, (q.length + 1 + 1), (some ⟨g2, 0, none⟩), cap2, by omega, by go_num, rfl, by rw [HJ2.out], by rw [HJ2.out], ?_⟩
                      have := HP4.out
                      rw [HJ2.out] at this ⊢
                      exact hide this
                    case measure => simp [intOf]; omega
                · have hg : decide ((0 : Int) < P) = false := decide_eq_false (by omega)
                  rw [hg, Bool.false_and] at HJ2
                  clear hp
                  go_quiet (fail)
                  refine name_exit fun X hX => ?_
                  have hbx : Below Y.heap.size Y X := by rw [hX]; exact below_drewN (Below.refl _ _) _
                  have HP4 := hide ((HP3.out at0 (jfold hSub (E.take (k + 1))).inn).keep hbx)
                  clear hX hbx HP3 y0 y1 y2
                  go_wp2
                  go_roundw
                  case rel =>
                    refine ⟨k + 1, (q.length + 1 + 1), (some ⟨g2, 0, none⟩), cap2, by omega, by go_num, rfl, by rw [HJ2.out], by rw [HJ2.out], ?_⟩
                    have := HP4.out
                    rw [HJ2.out] at this ⊢
                    exact hide this
                  case measure => simp [intOf]; omega
              · have b0 := HP.out.b0
                have b1 := HP.out.b1
                have z0 := HP.out.z0
                have z1 := HP.out.z1
                simp only at b0 b1
                refine wp_region_mix [0, 1, 2, 3, 4, 5, 6, 7] [8] (fun w' => (w'.cell? ⟨q0, 1, none⟩ = some (.int .i64 1) ∧ w'.cell? ⟨q0, 2, none⟩ = some (.int .i64 by0)) ∧ w'.cell? ⟨gb, 1, none⟩ = some (.int .i64 p1) ∧ w'.frozen? ⟨gb, 1, none⟩ = false) (by kernel_rfl) (by kernel_rfl) ⟨⟨e1, e2⟩, b1, z1⟩ ?_
                simp only [List.map_cons, List.map_nil, opAt, List.getElem?_cons_succ, List.getElem?_cons_zero, Option.getD_some]
                iterate 8
                  refine ⟨?_, Or.inl ⟨by rfl, ?_⟩, ?_⟩
                  rotate_left 1
                  · intro w' hSw
                    obtain ⟨⟨y1, y2⟩, y3, y4⟩ := hSw
                    go_simp
                    first | done | with_reducible rfl
                  simp only [Act.put, List.setIfInBounds_toArray, List.set_cons_zero, List.set_cons_succ]
                simp only [wpReads]
                intro K hK
                simp only [Act.put, List.setIfInBounds_toArray, List.set_cons_zero, List.set_cons_succ] at hK ⊢
                go_simp
                refine hK _ _ (fun h => absurd rfl h) ?_
                clear hK K
                refine NoPanic.normal ?_
                refine name_exit fun Y hY => ?_
                have HY := hide (show Y = (V.setCell ⟨gb, 1, none⟩ (.int .i64 (IntKind.i64.wrap (p1 + by0)))).drew from hY)
                have wz : IntKind.i64.wrap (p1 + by0) = p1 + by0 := IntWalk.i64_in _ (by omega)
                rw [wz] at HY
                clear wz
                have HJ2 := hide HJK.out
                clear HJK
                obtain ⟨P, hPP⟩ : ∃ P, P = p1 + by0 := ⟨_, rfl⟩
                rw [← hPP] at HY
                simp only [if_true, if_false, eq_self_iff_true, reduceIte, ← hPP, Int.reduceEq, Bool.false_eq_true, false_and, true_and] at HJ2
                have y0 : Y.cell? ⟨q0, 0, none⟩ = some (.int .i64 at0) := by rw [HY.out]; simp [go_sem, e0, hqb.symm]
                have y1 : Y.cell? ⟨gb, 0, none⟩ = some (.int .i64 (p0)) := by rw [HY.out]; simp [go_sem, b0, b1]
                have y2 : Y.cell? ⟨gb, 1, none⟩ = some (.int .i64 (P)) := by rw [HY.out]; simp [go_sem, b0, b1]
                have hys : q0 < Y.heap.size := by rw [HY.out]; simpa [World.setCell] using hqs
                have HP3 : ∀ la i2, SP w (.slice (some ⟨b, o, none⟩) E.length c) E gb ⟨p0, P, q ++ [(x, y)] ++ [(last, at0)], la, i2⟩ (.slice (some ⟨g2, 0, none⟩) (q.length + 1 + 1) cap2) (q.length + 1 + 1) Y := fun la i2 => by
                  rw [HY.out]; exact (HP.out.cell1 (Below.refl _ _) _ la i2).keep (Below.refl _ _).drew
                have HP3 := hide HP3
                clear hY HY HP b0 b1 z0 z1 e0 e1 e2 hPP hqs
                go_wp2
                rcases Int.lt_or_le 0 (p0) with hp | hp
                · have hg : decide ((0 : Int) < p0) = true := decide_eq_true hp
                  rw [hg, Bool.true_and] at HJ2
                  cases hq : (P == (0 : Int)) with
                  | false =>
                    rw [hq] at HJ2
                    clear hp
                    go_quiet (fail)
                    refine name_exit fun X hX => ?_
                    have hbx : Below Y.heap.size Y X := by rw [hX]; exact below_drewN (Below.refl _ _) _
                    have HP4 := hide ((HP3.out at0 (jfold hSub (E.take (k + 1))).inn).keep hbx)
                    clear hX hbx HP3 y0 y1 y2
                    go_wp2
                    go_roundw
                    case rel =>
                      refine ⟨k + 1, (q.length + 1 + 1), (some ⟨g2, 0, none⟩), cap2, by omega, by go_num, rfl, by rw [HJ2.out], by rw [HJ2.out], ?_⟩
                      have := HP4.out
                      rw [HJ2.out] at this ⊢
                      exact hide this
                    case measure => simp [intOf]; omega
                  | true =>
                    rw [hq] at HJ2
                    clear hp
                    go_quiet (fail)
                    refine name_exit fun X hX => ?_
                    have hbx : Below Y.heap.size Y X := by rw [hX]; exact below_drewN (Below.refl _ _) _
                    have HP4 := hide ((HP3.out at0 (jfold hSub (E.take (k + 1))).inn).keep hbx)
                    clear hX hbx HP3 y0 y1 y2
                    go_wp2
                    go_roundw
                    case rel =>
                      refine ⟨k + 1, (q.length + 1 + 1), (some ⟨g2, 0, none⟩), cap2, by omega, by go_num, rfl, by rw [HJ2.out], by rw [HJ2.out], ?_⟩
                      have := HP4.out
                      rw [HJ2.out] at this ⊢
                      exact hide this
                    case measure => simp [intOf]; omega
                · have hg : decide ((0 : Int) < p0) = false := decide_eq_false (by omega)
                  rw [hg, Bool.false_and] at HJ2
                  clear hp
                  go_quiet (fail)
                  refine name_exit fun X hX => ?_
                  have hbx : Below Y.heap.size Y X := by rw [hX]; exact below_drewN (Below.refl _ _) _
                  have HP4 := hide ((HP3.out at0 (jfold hSub (E.take (k + 1))).inn).keep hbx)
                  clear hX hbx HP3 y0 y1 y2
                  go_wp2
                  go_roundw
                  case rel =>
                    refine ⟨k + 1, (q.length + 1 + 1), (some ⟨g2, 0, none⟩), cap2, by omega, by go_num, rfl, by rw [HJ2.out], by rw [HJ2.out], ?_⟩
                    have := HP4.out
                    rw [HJ2.out] at this ⊢
                    exact hide this
                  case measure => simp [intOf]; omega
        · have hg : decide (last < at0) = false := decide_eq_false (by omega)
          have HJ0 := hide HJK.out
          rw [if_neg (show ¬ (true = true ∧ last < at0) from fun h => absurd h.2 (by omega))] at HJ0
          clear HJK hla
          have HJK := HJ0
          clear HJ0
          go_wp2
          rcases hkind with rfl | rfl
          · have b0 := HP.out.b0
            have b1 := HP.out.b1
            have z0 := HP.out.z0
            have z1 := HP.out.z1
            simp only at b0 b1
            refine wp_region_mix [0, 1, 2, 3, 4, 5, 6, 7] [8] (fun w' => (w'.cell? ⟨q0, 1, none⟩ = some (.int .i64 0) ∧ w'.cell? ⟨q0, 2, none⟩ = some (.int .i64 by0)) ∧ w'.cell? ⟨gb, 0, none⟩ = some (.int .i64 p0) ∧ w'.frozen? ⟨gb, 0, none⟩ = false) (by kernel_rfl) (by kernel_rfl) ⟨⟨e1, e2⟩, b0, z0⟩ ?_
            simp only [List.map_cons, List.map_nil, opAt, List.getElem?_cons_succ, List.getElem?_cons_zero, Option.getD_some]
            iterate 8
              refine ⟨?_, Or.inl ⟨by rfl, ?_⟩, ?_⟩
              rotate_left 1
              · intro w' hSw
                obtain ⟨⟨y1, y2⟩, y3, y4⟩ := hSw
                go_simp
                first | done | with_reducible rfl
              simp only [Act.put, List.setIfInBounds_toArray, List.set_cons_zero, List.set_cons_succ]
            simp only [wpReads]
            intro K hK
            simp only [Act.put, List.setIfInBounds_toArray, List.set_cons_zero, List.set_cons_succ] at hK ⊢
            go_simp
            refine hK _ _ (fun h => absurd rfl h) ?_
            clear hK K
            refine NoPanic.normal ?_
            refine name_exit fun Y hY => ?_
            have HY := hide (show Y = (Z.setCell ⟨gb, 0, none⟩ (.int .i64 (IntKind.i64.wrap (p0 + by0)))).drew from hY)
            have wz : IntKind.i64.wrap (p0 + by0) = p0 + by0 := IntWalk.i64_in _ (by omega)
            rw [wz] at HY
            clear wz
            have HJ2 := hide HJK.out
            clear HJK
            obtain ⟨P, hPP⟩ : ∃ P, P = p0 + by0 := ⟨_, rfl⟩
            rw [← hPP] at HY
            simp only [if_true, if_false, eq_self_iff_true, reduceIte, ← hPP, Int.reduceEq, Bool.false_eq_true, false_and, true_and] at HJ2
            have y0 : Y.cell? ⟨q0, 0, none⟩ = some (.int .i64 at0) := by rw [HY.out]; simp [go_sem, e0, hqb.symm]
            have y1 : Y.cell? ⟨gb, 0, none⟩ = some (.int .i64 (P)) := by rw [HY.out]; simp [go_sem, b0, b1]
            have y2 : Y.cell? ⟨gb, 1, none⟩ = some (.int .i64 (p1)) := by rw [HY.out]; simp [go_sem, b0, b1]
            have hys : q0 < Y.heap.size := by rw [HY.out]; simpa [World.setCell] using hqs
            have HP3 : ∀ la i2, SP w (.slice (some ⟨b, o, none⟩) E.length c) E gb ⟨P, p1, out, la, i2⟩ (.slice A9 (out.length) c9) (out.length) Y := fun la i2 => by
              rw [HY.out]; exact (HP.out.cell0 (Below.refl _ _) _ la i2).keep (Below.refl _ _).drew
            have HP3 := hide HP3
            clear hY HY HP b0 b1 z0 z1 e0 e1 e2 hPP hqs
            go_wp2
            rcases Int.lt_or_le 0 (P) with hp | hp
            · have hg : decide ((0 : Int) < P) = true := decide_eq_true hp
              rw [hg, Bool.true_and] at HJ2
              cases hq : (p1 == (0 : Int)) with
              | false =>
                rw [hq] at HJ2
                clear hp
                go_quiet (fail)
                refine name_exit fun X hX => ?_
                have hbx : Below Y.heap.size Y X := by rw [hX]; exact below_drewN (Below.refl _ _) _
                have HP4 := hide ((HP3.out at0 (jfold hSub (E.take (k + 1))).inn).keep hbx)
                clear hX hbx HP3 y0 y1 y2
                go_wp2
                go_roundw
                case rel =>
                  refine ⟨k + 1, (out.length), A9, c9, by omega, by go_num, rfl, by rw [HJ2.out], by rw [HJ2.out], ?_⟩
                  have := HP4.out
                  rw [HJ2.out] at this ⊢
                  exact hide this
                case measure => simp [intOf]; omega
              | true =>
                rw [hq] at HJ2
                clear hp
                go_quiet (fail)
                refine name_exit fun X hX => ?_
                have hbx : Below Y.heap.size Y X := by rw [hX]; exact below_drewN (Below.refl _ _) _
                have HP4 := hide ((HP3.out at0 (jfold hSub (E.take (k + 1))).inn).keep hbx)
                clear hX hbx HP3 y0 y1 y2
                go_wp2
                go_roundw
                case rel =>
                  refine ⟨k + 1, (out.length), A9, c9, by omega, by go_num, rfl, by rw [HJ2.out], by rw [HJ2.out], ?_⟩
                  have := HP4.out
                  rw [HJ2.out] at this ⊢
                  exact hide this
                case measure => simp [intOf]; omega
            · have hg : decide ((0 : Int) < P) = false := decide_eq_false (by omega)
              rw [hg, Bool.false_and] at HJ2
              clear hp
              go_quiet (fail)
              refine name_exit fun X hX => ?_
              have hbx : Below Y.heap.size Y X := by rw [hX]; exact below_drewN (Below.refl _ _) _
              have HP4 := hide ((HP3.out at0 (jfold hSub (E.take (k + 1))).inn).keep hbx)
              clear hX hbx HP3 y0 y1 y2
              go_wp2
              go_roundw
              case rel =>
                refine ⟨k + 1, (out.length), A9, c9, by omega, by go_num, rfl, by rw [HJ2.out], by rw [HJ2.out], ?_⟩
                have := HP4.out
                rw [HJ2.out] at this ⊢
                exact hide this
              case measure => simp [intOf]; omega
          · have b0 := HP.out.b0
            have b1 := HP.out.b1
            have z0 := HP.out.z0
            have z1 := HP.out.z1
            simp only at b0 b1
            refine wp_region_mix [0, 1, 2, 3, 4, 5, 6, 7] [8] (fun w' => (w'.cell? ⟨q0, 1, none⟩ = some (.int .i64 1) ∧ w'.cell? ⟨q0, 2, none⟩ = some (.int .i64 by0)) ∧ w'.cell? ⟨gb, 1, none⟩ = some (.int .i64 p1) ∧ w'.frozen? ⟨gb, 1, none⟩ = false) (by kernel_rfl) (by kernel_rfl) ⟨⟨e1, e2⟩, b1, z1⟩ ?_
            simp only [List.map_cons, List.map_nil, opAt, List.getElem?_cons_succ, List.getElem?_cons_zero, Option.getD_some]
            iterate 8
              refine ⟨?_, Or.inl ⟨by rfl, ?_⟩, ?_⟩
              rotate_left 1
              · intro w' hSw
                obtain ⟨⟨y1, y2⟩, y3, y4⟩ := hSw
                go_simp
                first | done | with_reducible rfl
              simp only [Act.put, List.setIfInBounds_toArray, List.set_cons_zero, List.set_cons_succ]
            simp only [wpReads]
            intro K hK
            simp only [Act.put, List.setIfInBounds_toArray, List.set_cons_zero, List.set_cons_succ] at hK ⊢
            go_simp
            refine hK _ _ (fun h => absurd rfl h) ?_
            clear hK K
            refine NoPanic.normal ?_
            refine name_exit fun Y hY => ?_
            have HY := hide (show Y = (Z.setCell ⟨gb, 1, none⟩ (.int .i64 (IntKind.i64.wrap (p1 + by0)))).drew from hY)
            have wz : IntKind.i64.wrap (p1 + by0) = p1 + by0 := IntWalk.i64_in _ (by omega)
            rw [wz] at HY
            clear wz
            have HJ2 := hide HJK.out
            clear HJK
            obtain ⟨P, hPP⟩ : ∃ P, P = p1 + by0 := ⟨_, rfl⟩
            rw [← hPP] at HY
            simp only [if_true, if_false, eq_self_iff_true, reduceIte, ← hPP, Int.reduceEq, Bool.false_eq_true, false_and, true_and] at HJ2
            have y0 : Y.cell? ⟨q0, 0, none⟩ = some (.int .i64 at0) := by rw [HY.out]; simp [go_sem, e0, hqb.symm]
            have y1 : Y.cell? ⟨gb, 0, none⟩ = some (.int .i64 (p0)) := by rw [HY.out]; simp [go_sem, b0, b1]
            have y2 : Y.cell? ⟨gb, 1, none⟩ = some (.int .i64 (P)) := by rw [HY.out]; simp [go_sem, b0, b1]
            have hys : q0 < Y.heap.size := by rw [HY.out]; simpa [World.setCell] using hqs
            have HP3 : ∀ la i2, SP w (.slice (some ⟨b, o, none⟩) E.length c) E gb ⟨p0, P, out, la, i2⟩ (.slice A9 (out.length) c9) (out.length) Y := fun la i2 => by
              rw [HY.out]; exact (HP.out.cell1 (Below.refl _ _) _ la i2).keep (Below.refl _ _).drew
            have HP3 := hide HP3
            clear hY HY HP b0 b1 z0 z1 e0 e1 e2 hPP hqs
            go_wp2
            rcases Int.lt_or_le 0 (p0) with hp | hp
            · have hg : decide ((0 : Int) < p0) = true := decide_eq_true hp
              rw [hg, Bool.true_and] at HJ2
              cases hq : (P == (0 : Int)) with
              | false =>
                rw [hq] at HJ2
                clear hp
                go_quiet (fail)
                refine name_exit fun X hX => ?_
                have hbx : Below Y.heap.size Y X := by rw [hX]; exact below_drewN (Below.refl _ _) _
                have HP4 := hide ((HP3.out at0 (jfold hSub (E.take (k + 1))).inn).keep hbx)
                clear hX hbx HP3 y0 y1 y2
                go_wp2
                go_roundw
                case rel =>
                  refine ⟨k + 1, (out.length), A9, c9, by omega, by go_num, rfl, by rw [HJ2.out], by rw [HJ2.out], ?_⟩
                  have := HP4.out
                  rw [HJ2.out] at this ⊢
                  exact hide this
                case measure => simp [intOf]; omega
              | true =>
                rw [hq] at HJ2
                clear hp
                go_quiet (fail)
                refine name_exit fun X hX => ?_
                have hbx : Below Y.heap.size Y X := by rw [hX]; exact below_drewN (Below.refl _ _) _
                have HP4 := hide ((HP3.out at0 (jfold hSub (E.take (k + 1))).inn).keep hbx)
                clear hX hbx HP3 y0 y1 y2
                go_wp2
                go_roundw
                case rel =>
                  refine ⟨k + 1, (out.length), A9, c9, by omega, by go_num, rfl, by rw [HJ2.out], by rw [HJ2.out], ?_⟩
                  have := HP4.out
                  rw [HJ2.out] at this ⊢
                  exact hide this
                case measure => simp [intOf]; omega
            · have hg : decide ((0 : Int) < p0) = false := decide_eq_false (by omega)
              rw [hg, Bool.false_and] at HJ2
              clear hp
              go_quiet (fail)
              refine name_exit fun X hX => ?_
              have hbx : Below Y.heap.size Y X := by rw [hX]; exact below_drewN (Below.refl _ _) _
              have HP4 := hide ((HP3.out at0 (jfold hSub (E.take (k + 1))).inn).keep hbx)
              clear hX hbx HP3 y0 y1 y2
              go_wp2
              go_roundw
              case rel =>
                refine ⟨k + 1, (out.length), A9, c9, by omega, by go_num, rfl, by rw [HJ2.out], by rw [HJ2.out], ?_⟩
                have := HP4.out
                rw [HJ2.out] at this ⊢
                exact hide this
              case measure => simp [intOf]; omega
    · obtain rfl : k = E.length := by omega
      have HFIN : Hid ((jfold hSub (E.take E.length)).out = sjoin hSub a b) := hide (by rw [List.take_length]; exact HRES.out)
      have hnl : no = (jfold hSub (E.take E.length)).out.length := own_len (enc := encS) (k := 2) HP.out.out (fun _ => rfl) (by omega)
      have HNL := hide hnl
      clear hnl HRES
      generalize jfold hSub (E.take E.length) = st at *
      go_wp2_with (fail)
      go_ret
      refine ⟨⟨A9, c9, ?_, ?_⟩, by cases A <;> exact HP.out.grow⟩
      · rw [← HFIN.out, ← HNL.out]; rfl
      · rw [← HFIN.out, ← HNL.out]; exact HP.out.out
end Go.Proofs.YtdolpeljengpaaaGreat

/- offset.slabs: the cuts of two lists, and the iterator bound to them. -/
namespace Go.Proofs.YtdolpeljengpaaaGreat
open Go.RowKit
set_option linter.unusedVariables false
set_option linter.unusedSimpArgs false
set_option maxRecDepth 100000 in
set_option maxHeartbeats 4000000 in
theorem oslabs_any (la lb : List R4) (A0 A1 : Option Addr) (c0 c1 : Nat) (w : World) (h0 : RdK encR 4 w w.heap.size (.slice A0 la.length c0) la) (h1 : RdK encR 4 w w.heap.size (.slice A1 lb.length c1) lb) (hn : ([la, lb].flatMap cutsL).length ≤ 100000000) :
    Calls Tryz.prog 207 #[.agg #[.slice A0 la.length c0, .slice A1 lb.length c1]] w fun e w' => ∃ v, e = .returned (.func (.func 227) #[] #[.pointer (some ⟨w.heap.size + 1, 0, none⟩), .pointer (some ⟨w.heap.size, 0, none⟩)]) ∧
      w'.cell? ⟨w.heap.size, 0, none⟩ = some (.slice A0 la.length c0) ∧ w'.cell? ⟨w.heap.size, 1, none⟩ = some (.slice A1 lb.length c1) ∧ w'.cell? ⟨w.heap.size + 1, 0, none⟩ = some v ∧ w'.ownsRow (w.heap.size + 2) 3 1 v (cutsOf ([la, lb].flatMap cutsL)).length ((cutsOf ([la, lb].flatMap cutsL)).map iv) ∧ Below w.heap.size w w' := by
  obtain ⟨i0, hi, hz0, hz1, hz2⟩ := info_parts infoIA
  have H0 := hide h0
  have H1 := hide h1
  clear h0 h1
  obtain ⟨ls, hls⟩ : ∃ ls, ls = [la, lb] := ⟨_, rfl⟩
  rw [← hls] at hn ⊢
  have hl2 : ls.length = 2 := by rw [hls]; rfl
  have HV : Hid (∀ (k : Nat) l, ls[k]? = some l → ∃ A c, (∀ w : World, (Instr.index 275 (.agg #[.slice A0 la.length c0, .slice A1 lb.length c1]) (.int .i64 k)).run Tryz.prog w = .ok (Value.slice A l.length c) w) ∧ RdK encR 4 w w.heap.size (Value.slice A l.length c) l) := hide (by
    intro k l h
    rw [hls] at h
    have hk : k = 0 ∨ k = 1 := by
      obtain ⟨h1, _⟩ := List.getElem?_eq_some_iff.1 h
      simp at h1
      omega
    rcases hk with rfl | rfl
    · have h : la = l := by injection h
      subst h
      exact ⟨A0, c0, fun _ => rfl, H0.out⟩
    · have h : lb = l := by injection h
      subst h
      exact ⟨A1, c1, fun _ => rfl, H1.out⟩)
  clear hls H0 H1
  generalize la.length = na at *
  generalize lb.length = nb at *
  go_enter Tryz.func207, Tryz.ntmps207
  go_upto_region 3 with fail
  refine wp_name fun Z hZ => ?_
  have z0 : Z.cell? ⟨w.heap.size, 0, none⟩ = some (.slice A0 na c0) := by rw [hZ]; simp [go_sem]
  have z1 : Z.cell? ⟨w.heap.size, 1, none⟩ = some (.slice A1 nb c1) := by rw [hZ]; simp [go_sem]
  have y0 : Z.cell? ⟨w.heap.size + 1, 0, none⟩ = some (.slice none 0 0) := by rw [hZ]; simp [go_sem]
  have y1 : Z.frozen? ⟨w.heap.size + 1, 0, none⟩ = false := by rw [hZ]; simp [go_sem]
  have hbz : Below w.heap.size w Z := by rw [hZ]; exact ((Below.refl _ _).alloc (Nat.le_refl _) _).alloc (by simp) _
  have hsz : w.heap.size + 2 ≤ Z.heap.size := by rw [hZ]; simp
  clear hZ
  go_loopw [9] (fun i wr => ∃ k : Nat, k ≤ ls.length ∧ i = .int .i64 k ∧ ∃ v, wr.cell? ⟨w.heap.size + 1, 0, none⟩ = some v ∧ wr.frozen? ⟨w.heap.size + 1, 0, none⟩ = false ∧ wr.cell? ⟨w.heap.size, 0, none⟩ = some (.slice A0 na c0) ∧ wr.cell? ⟨w.heap.size, 1, none⟩ = some (.slice A1 nb c1) ∧
      wr.ownsRow (w.heap.size + 2) 3 1 v ((ls.take k).flatMap cutsL).length (((ls.take k).flatMap cutsL).map iv) ∧ Below w.heap.size w wr ∧ w.heap.size + 2 ≤ wr.heap.size)
    (fun i _ => ls.length - (intOf i).toNat)
  case atStart => exact ⟨0, Nat.zero_le _, rfl, .slice none 0 0, y0, y1, z0, z1, World.ownsRow_nil _ _ _ _, hbz, hsz⟩
  case round =>
    clear z0 z1 y0 y1 hbz hsz
    obtain ⟨k, hk, rfl, v, hc1, hf1, hc0, hc2, hown, hb, hsz⟩ := hrel
    by_cases hlt : k < ls.length
    · obtain ⟨l, hlk⟩ : ∃ l, ls[k]? = some l := ⟨_, List.getElem?_eq_getElem hlt⟩
      obtain ⟨A, c, hcl, hrd⟩ := HV.out k l hlk
      obtain ⟨Ax, cx, ex, hrdr⟩ := hrd
      injection ex with eA _ eC
      subst eA; subst eC
      have hle := len_take ls k l hlk
      have HK := hide (flat_take ls k l hlk)
      have HR := hide hrdr
      have hkz : (k : Int) < 2 := by omega
      rw [cutsL_len] at hle
      generalize (ls.take k).flatMap cutsL = P at *
      generalize wr = w1 at *
      clear hrdr
      go_upto_region 6 with fail
      go_loopw [14] (fun j wi => ∃ m : Nat, m ≤ l.length ∧ j = .int .i64 m ∧ ∃ v, wi.cell? ⟨w.heap.size + 1, 0, none⟩ = some v ∧ wi.frozen? ⟨w.heap.size + 1, 0, none⟩ = false ∧ wi.cell? ⟨w.heap.size, 0, none⟩ = some (.slice A0 na c0) ∧ wi.cell? ⟨w.heap.size, 1, none⟩ = some (.slice A1 nb c1) ∧
          wi.ownsRow (w.heap.size + 2) 3 1 v (P ++ cutsL (l.take m)).length ((P ++ cutsL (l.take m)).map iv) ∧ Below w.heap.size w wi ∧ w.heap.size + 2 ≤ wi.heap.size)
        (fun j _ => l.length - (intOf j).toNat)
      case atStart => exact ⟨0, by omega, rfl, v, hc1, hf1, hc0, hc2, by simpa [cutsL] using hown, hb, hsz⟩
      case round =>
        clear hc1 hf1 hc0 hc2 hown
        obtain ⟨m, hm, rfl, v, hc1, hf1, hc0, hc2, hownm, hbm, hszm⟩ := hrel
        by_cases hml : m < l.length
        · obtain ⟨⟨x0, y0, x1, y1⟩, hp⟩ : ∃ p, l[m]? = some p := ⟨_, List.getElem?_eq_getElem hml⟩
          have hne : l ≠ [] := by intro e; rw [e] at hml; simp at hml
          obtain ⟨bk, off, rfl, hbk, hcell⟩ := HR.out hne
          have d0 : wr.cell? ⟨bk, off + m * 4, none⟩ = some (.int .i64 x0) := (hbm.cell hbk).trans (hcell m _ hp 0 _ rfl)
          have d1 : wr.cell? ⟨bk, off + m * 4 + 1, none⟩ = some (.int .i64 y0) := (hbm.cell hbk).trans (hcell m _ hp 1 _ rfl)
          have d2 : wr.cell? ⟨bk, off + m * 4 + 2, none⟩ = some (.int .i64 x1) := (hbm.cell hbk).trans (hcell m _ hp 2 _ rfl)
          have d3 : wr.cell? ⟨bk, off + m * 4 + 3, none⟩ = some (.int .i64 y1) := (hbm.cell hbk).trans (hcell m _ hp 3 _ rfl)
          have hmz : (m : Int) < (l.length : Int) := by omega
          have hlenE : (P ++ cutsL (l.take m)).length ≤ 100000000 := by rw [List.length_append, cutsL_len, List.length_take]; omega
          have HE : Hid (P ++ cutsL (l.take (m + 1)) = P ++ cutsL (l.take m) ++ [x0, x1]) := hide (by rw [cutsL_take l m _ hp, List.append_assoc])
          obtain ⟨Av, cv, rfl⟩ := own_form hownm
          have hlt1 : w.heap.size + 1 < wr.heap.size := by omega
          have hlt0 : w.heap.size < wr.heap.size := by omega
          clear hcell
          generalize P ++ cutsL (l.take m) = E0 at *
          go_wp2_with (at_builtin; go_loud (refine wpList_append_lies _ rfl (.tmp 18) (.tmp 23) 156 rfl (w.heap.size + 2) 3 i0 (.int .i64 0) 1 8 Tryz.underlying156 hi hz0 hz1 hz2 rfl (by decide) _ _ _ rfl ((hownm.alloc _).alloc _) ⟨wr.heap.size + 1, 0, none⟩ 2 2 [.int .i64 x0, .int .i64 x1] rfl rfl (news_new (wr.alloc _) _ _ _ (by simp)) (ints_one rfl) (by omega) (by unfold maxLen; omega) (by omega) (by simp; omega) _ rfl ?_))
          intro g cap w2 hown2 hgrow _ _
          have hx2 : E0.map iv ++ [.int .i64 x0, .int .i64 x1] = (E0 ++ [x0, x1]).map iv := by simp
          have HL : Hid (E0.length + 2 = (P ++ cutsL (l.take (m + 1))).length) := hide (by rw [HE.out]; simp)
          rw [hx2, ← HE.out] at hown2
          obtain ⟨k3, k4, HF⟩ := box_fin hszm (Nat.lt_succ_self _) hc1 hf1 (((Below.refl _ wr).alloc (Nat.le_refl _) _).alloc (by simp) _) hgrow (fun k h => (hownm.lt k h).1) hown2
          have HC := hide (And.intro hc0 hc2)
          clear hown2 hgrow hownm hx2 hc1 hf1 hc0 hc2 d0 d1 d2 d3
          go_wp2
          go_roundw
          case rel =>
            obtain ⟨z1, z2, z3, z4, z5, z6⟩ := HF.out
            exact ⟨m + 1, by omega, by go_num, _, z1, z2, (z5 _ _ (by omega) (by omega)).trans HC.out.1, (z5 _ _ (by omega) (by omega)).trans HC.out.2, own_n z3 HL.out, hbm.trans (z4.mono (by omega)), by omega⟩
          case measure => simp [intOf]; omega
        · have hme : ¬ (m : Int) < (l.length : Int) := by omega
          have hmt : l.take m = l := List.take_of_length_le (by omega)
          rw [hmt, ← HK.out] at hownm
          have HO := hide hownm
          clear hmt hownm
          go_wp2
          go_roundw
          case rel => exact ⟨k + 1, by omega, by go_num, v, hc1, hf1, hc0, hc2, HO.out, hbm, hszm⟩
          case measure => simp [intOf]; omega
    · have hkz : ¬ (k : Int) < 2 := by omega
      have hkt : ls.take k = ls := List.take_of_length_le (by omega)
      rw [hkt] at hown
      have HO := hide hown
      clear hkt hown
      have hl : (ls.flatMap cutsL).length < 4611686018427387904 := by omega
      have hlm : ((ls.flatMap cutsL).mergeSort fun x y => decide (x ≤ y)).length = (ls.flatMap cutsL).length := List.length_mergeSort _
      have HM := hide hlm
      have HC0 := hide (And.intro hc0 hc2)
      clear hc0 hc2 hlm
      go_wp2_with (first
        | (go_at_call 178; refine (sortI_any _ v _ wr HO.out hl).mono ?_; rintro e w1 ⟨rfl, ho1, hg1⟩; have hb1 : Below (w.heap.size + 2) wr w1 := (Below.refl _ _).grown hg1 hsz (fun k h => (HO.out.lt k h).1); have e1 := (hb1.cell (p := ⟨w.heap.size + 1, 0, none⟩) (Nat.lt_succ_self _)).trans hc1; have HO1 := hide ho1; have HB1 := hide hb1; clear ho1 hg1 hb1)
        | (go_at_call 179; refine (compI_any _ v _ w1 (own_n HO1.out HM.out.symm) (by rw [HM.out]; exact hl)).mono ?_; rintro e w2 ⟨v2, rfl, hv2, ho2, hg2⟩; have hb2 : Below (w.heap.size + 2) w1 w2 := (Below.refl _ _).grown hg2 (Nat.le_trans hsz HB1.out.size) (fun k h => (HO1.out.lt k h).1); have e2 := (hb2.cell (p := ⟨w.heap.size + 1, 0, none⟩) (Nat.lt_succ_self _)).trans e1; have f2 := ((HB1.out.trans hb2).frozen (p := ⟨w.heap.size + 1, 0, none⟩) (Nat.lt_succ_self _)).trans hf1; have HO2 := hide ho2; have HB2 := hide hb2; clear ho2 hg2 hb2; obtain ⟨Av, cv, hv2⟩ := own_form HO2.out; subst hv2))
      go_ret
      have hB : Below (w.heap.size + 2) wr w2 := HB1.out.trans HB2.out
      have hk : ∀ off, (w2.setCell ⟨w.heap.size + 1, 0, none⟩ (.slice Av (cutsOf (ls.flatMap cutsL)).length cv)).cell? ⟨w.heap.size, off, none⟩ = wr.cell? ⟨w.heap.size, off, none⟩ := fun off => (World.cell?_of_block (w := w2) (a := ⟨w.heap.size, off, none⟩) (Below.heap_setCell _ _ _ _ (Nat.ne_of_lt (Nat.lt_succ_self _)))).trans (hB.cell (p := ⟨w.heap.size, off, none⟩) (by show w.heap.size < _; omega))
      refine ⟨_, rfl, (hk 0).trans HC0.out.1, (hk 1).trans HC0.out.2, by simp [go_sem, e2], ownsRow_setCell_below HO2.out (Nat.lt_succ_self _) _, (hb.trans (hB.mono (by omega))).setCell (p := ⟨w.heap.size + 1, 0, none⟩) (Nat.le_succ _) _⟩
end Go.Proofs.YtdolpeljengpaaaGreat

/- A region that draws its order and holds the call of a round's body ('yield'): reads under a condition S, calls, then the yield and what waits for it. Outside of a round. -/
namespace Go.Proofs.YtdolpeljengpaaaGreat
open Go.RowKit
set_option linter.unusedVariables false
set_option linter.unusedSimpArgs false

def never : Exit → Act → World → Prop := fun _ _ _ => False
section
variable {P : Program} {ops : Array Oper} {md : Region.Mode} {S : World → Prop} {L : Nat}

/-- Whatever order is picked, S holds behind each operation, until L alone is ready: H holds then. -/
def wpAnyY (P : Program) (md : Region.Mode) (ops : Array Oper) (S : World → Prop) (L : Nat) (fin : Array Bool) (H : Act → World → Prop) : Nat → Array Bool → Act → World → Prop
  | 0, listed, a, w => listed = fin ∧ Region.ready md ops fin = [L] ∧ H a w
  | fuel + 1, listed, a, w =>
    Region.ready md ops listed ≠ [] ∧
    ∀ i ∈ Region.ready md ops listed, wpOp P ops never i (fun a' w' => S w' ∧ wpAnyY P md ops S L fin H fuel (listed.setIfInBounds i true) a' w') a w

theorem oper_wide {o : Oper} {a : Act} {w : World} {K K' : Act → World → Prop} {Q : Exit → Act → World → Prop} {n : Nat} (hK : ∀ a w, K a w → K' a w) (h : o.wp P a w K never) :
    o.wpIn Fence.wide n P a w K' Q := by
  refine ⟨fun _ _ => trivial, ?_⟩
  have hs : o.semAt Fence.wide.round a.eval = execOp a.eval o := Oper.semAt_none _ _
  rw [hs]
  unfold Oper.wp at h
  generalize (execOp a.eval o).run P w = r at *
  cases r with
  | ok x w' =>
    cases x <;> simp only [Oper.upon] at h <;> simp only [Oper.uponIn]
    case value v => exact hK _ _ h
    case skip => exact hK _ _ h
    case defer d => exact hK _ _ h
    case enter f args =>
      refine ⟨(fun h => by cases h), ?_⟩
      refine callsIn_wide.2 (Calls.mono h fun e w'' he => ?_)
      cases e with
      | returned v => exact hK _ _ he
      | panicked c => exact (he : False).elim
      | outgrown => exact absurd he (fun ⟨_, _, h⟩ => h)
    case row row args =>
      refine ⟨(fun h => by cases h), fun c cs _ => ?_⟩
      obtain ⟨v, w'', hv, hst⟩ := h c cs
      exact ⟨v, w'', hK _ _ hv, stepsIn_wide.2 hst⟩
  | halt x w' => cases x <;> simp only [Oper.upon] at h <;> simp only [Oper.uponIn] <;> exact (h : False).elim

theorem wpAnyY_in {Q : Exit → Act → World → Prop} {n g : Nat} {fin : Array Bool} {H : Act → World → Prop} (hH : ∀ a w, Region.ready md ops fin = [L] → H a w → wpAnyIn Fence.wide n P md ops Q g fin a w) :
    ∀ (fuel : Nat) (listed : Array Bool) (a : Act) (w : World), wpAnyY P md ops S L fin H fuel listed a w → wpAnyIn Fence.wide n P md ops Q (fuel + g) listed a w
  | 0, _, _, _, h => by rw [Nat.zero_add]; rw [h.1]; exact hH _ _ h.2.1 h.2.2
  | fuel + 1, listed, a, w, h => by
    rw [Nat.add_right_comm]
    refine ⟨fun h0 => absurd h0 h.1, fun i hi => ?_⟩
    have h2 := h.2 i hi
    unfold wpOp at h2
    unfold wpOpIn
    cases ho : ops[i]? with
    | none =>
      simp only [ho] at h2 ⊢
      exact wpAnyY_in hH fuel _ a w h2.2
    | some o =>
      simp only [ho] at h2 ⊢
      by_cases hw : Region.wanted o (yielded ops a.tmps) = true
      · simp only [hw, if_true] at h2 ⊢
        rcases h2 with h2 | ⟨_, a0, w0, hq⟩
        · exact oper_wide (fun a' w' h' => wpAnyY_in hH fuel _ a' w' h'.2) h2
        · exact (hq : False).elim
      · simp only [hw] at h2 ⊢
        exact ⟨fun _ _ => trivial, wpAnyY_in hH fuel _ _ w h2.2⟩

/-- What is listed has all listed that it waits for. -/
def Closed (md : Region.Mode) (ops : Array Oper) (l : Array Bool) : Prop := ∀ (j : Nat) (o : Oper), ops[j]? = some o → l.getD j false = true → ∀ e ∈ o.after, Region.binds md e = true → l.getD e.on false = true
def closedB (md : Region.Mode) (ops : Array Oper) (l : Array Bool) : Bool := (List.range ops.size).all fun j => !(l.getD j false) || (match ops[j]? with | some o => o.after.all (fun e => !(Region.binds md e) || l.getD e.on false) | none => true)
theorem closedB_of {l : Array Bool} (h : Closed md ops l) : closedB md ops l = true := by
  unfold closedB
  rw [List.all_eq_true]
  intro j hj
  cases hl : l.getD j false with
  | false => rfl
  | true =>
    simp only [Bool.not_true, Bool.false_or]
    cases ho : ops[j]? with
    | none => rfl
    | some o =>
      simp only
      rw [Array.all_eq_true']
      intro e he
      cases hb : Region.binds md e with
      | false => rfl
      | true => simpa using h j o ho hl e he hb
theorem getD_mono {l : Array Bool} {j k : Nat} (h : l.getD k false = true) : (l.setIfInBounds j true).getD k false = true := by
  by_cases hjk : j = k
  · subst hjk
    rcases Nat.lt_or_ge j l.size with h' | h'
    · simp [h']
    · simp [Array.getElem?_eq_none h'] at h
  · rwa [getD_set_ne false hjk]
theorem Closed.step {l : Array Bool} {j : Nat} (h : Closed md ops l) (hj : j ∈ Region.ready md ops l) : Closed md ops (l.setIfInBounds j true) := by
  intro k o ho hk e he hb
  refine getD_mono ?_
  by_cases hjk : j = k
  · subst hjk
    obtain ⟨_, oj, hoj, hall⟩ := mem_ready.1 hj
    rw [hoj] at ho
    injection ho with ho
    subst ho
    exact hall e he hb
  · rw [getD_set_ne false hjk] at hk
    exact h k o ho hk e he hb
theorem Closed.start {n : Nat} : Closed md ops (Array.replicate n false) := by
  intro k o ho hk
  rcases Nat.lt_or_ge k n with h | h
  · simp [h] at hk
  · simp [h] at hk
theorem set_same {l : Array Bool} {i : Nat} (h0 : l.getD i true = false) : l.setIfInBounds i false = l := by
  have h : l[i]? = some false := by
    rcases Nat.lt_or_ge i l.size with h' | h'
    · simp [h'] at h0; simp [h', h0]
    · simp [Array.getElem?_eq_none h'] at h0
  apply Array.ext_getElem?
  intro k
  rw [Array.getElem?_setIfInBounds]
  split
  · rename_i e; subst e; split
    · exact h.symm
    · rename_i h2; rw [Array.getElem?_eq_none (by omega)]
  · rfl
theorem wpAnyY_first {fin : Array Bool} {H : Act → World → Prop} {i : Nat} {oi : Oper} {v : Value} (hi : ops[i]? = some oi) (hsel : ∀ (j : Nat) (o : Oper) cs b, ops[j]? = some o → o.op ≠ .select cs b)
    (hL : closedB md ops (fin.setIfInBounds i false) = true → L ∉ Region.ready md ops (fin.setIfInBounds i false)) :
    ∀ (fuel : Nat) (listed : Array Bool) (a : Act) (w : World), Closed md ops listed →
      (∀ j oj, ops[j]? = some oj → j ≠ i → listed.getD j true = false → (∀ e ∈ oj.after, Region.binds md e = true → e.on ≠ i) → oi.apart ops oj = true) →
      i ∈ Region.ready md ops listed → YieldsIf P ops S oi v a → S w →
      wpAnyY P md ops S L fin H fuel (listed.setIfInBounds i true) (a.put oi.dst v) w → wpAnyY P md ops S L fin H (fuel + 1) listed a w := by
  intro fuel
  induction fuel with
  | zero =>
    intro listed a w hC _ hr hy hS HH
    refine ⟨fun h => (by rw [h] at hr; cases hr), fun j hj => ?_⟩
    by_cases hji : j = i
    · subst hji; exact hy.wpOp hi hS ⟨hS, HH⟩
    · have h1 := ready_mono hj hji
      rw [HH.1, HH.2.1] at h1
      obtain rfl : j = L := by simpa using h1
      have hf : fin.setIfInBounds i false = listed := by
        rw [← HH.1, Array.setIfInBounds_setIfInBounds]
        exact set_same (mem_ready.1 hr).1
      rw [hf] at hL
      exact absurd hj (hL (closedB_of hC))
  | succ fuel ih =>
    intro listed a w hC hfree hr hy hS HH
    refine ⟨fun h => (by rw [h] at hr; cases hr), fun j hj => ?_⟩
    by_cases hji : j = i
    · subst hji; exact hy.wpOp hi hS ⟨hS, HH⟩
    · have h1 := HH.2 j (ready_mono hj hji)
      obtain ⟨hjun, oj, hoj, hall⟩ := mem_ready.1 hj
      have hnot : ∀ e ∈ oj.after, Region.binds md e = true → e.on ≠ i := fun e he hb heq => by
        have g1 := hall e he hb
        have g0 := (mem_ready.1 hr).1
        rw [heq] at g1
        rcases Nat.lt_or_ge i listed.size with h' | h'
        · simp [h'] at g0 g1; rw [g0] at g1; cases g1
        · simp [Array.getElem?_eq_none h'] at g1
      have h2 := wpOp_putIf hoj (hfree j oj hoj hji hjun hnot) (fun cs b => hsel i oi cs b hi) (fun cs b => hsel j oj cs b hoj) (fun _ _ _ h => h) hy h1
      have hfree' : ∀ k ok, ops[k]? = some ok → k ≠ i → (listed.setIfInBounds j true).getD k true = false →
          (∀ e ∈ ok.after, Region.binds md e = true → e.on ≠ i) → oi.apart ops ok = true := fun k ok hk hki hun hno => by
        refine hfree k ok hk hki ?_ hno
        by_cases hjk : j = k
        · subst hjk; exact hjun
        · rw [getD_set_ne true hjk] at hun; exact hun
      refine wpOp_mono (fun a' w' h3 => ⟨h3.2.1, ih (listed.setIfInBounds j true) a' w' (hC.step hj) hfree' (ready_mono hr (Ne.symm hji)) h3.1 h3.2.1 ?_⟩) h2
      rw [Array.setIfInBounds_comm _ _ hji]
      exact h3.2.2

def holeTB (md : Region.Mode) (ops : Array Oper) (L : Nat) : List Nat → Array Bool → Bool
  | [], l => Region.ready md ops l == [L]
  | t :: r, l => (Region.ready md ops l == [t]) && holeTB md ops L r (l.setIfInBounds t true)
def finB (R T : List Nat) (l : Array Bool) : Array Bool := (R ++ T).foldl (fun l i => l.setIfInBounds i true) l
def holeRB (md : Region.Mode) (ops : Array Oper) (L : Nat) (T : List Nat) (fin : Array Bool) : List Nat → Array Bool → Bool
  | [], l => holeTB md ops L T l
  | i :: r, l => Region.free md ops l i && (Region.ready md ops l).contains i && !(closedB md ops (fin.setIfInBounds i false) && (Region.ready md ops (fin.setIfInBounds i false)).contains L) && holeRB md ops L T fin r (l.setIfInBounds i true)
/-- L waits for all else but E, what stands behind it. -/
def holeB (md : Region.Mode) (ops : Array Oper) (R T : List Nat) (L E : Nat) : Bool := Region.noSelect ops && decide (R.length + T.length + 2 = ops.size) && holeRB md ops L T (finB R T (Array.replicate ops.size false)) R (Array.replicate ops.size false) &&
  (Region.ready md ops ((finB R T (Array.replicate ops.size false)).setIfInBounds L true) == [E]) &&
  (Region.ready md ops (((finB R T (Array.replicate ops.size false)).setIfInBounds L true).setIfInBounds E true)).isEmpty
/-- The calls ahead of the yield; behind each S is shown. -/
def wpTailY (P : Program) (ops : Array Oper) (S : World → Prop) (H : Act → World → Prop) : List Oper → Act → World → Prop
  | [], a, w => H a w
  | o :: r, a, w => ∀ K : Act → World → Prop, (∀ a' w', S w' → wpTailY P ops S H r a' w' → K a' w') → if Region.wanted o (yielded ops a.tmps) = true then o.wp P a w K never else K (a.put o.dst undef) w
theorem wpTailY_mix {l : List Oper} {H : Act → World → Prop} : ∀ (T : List Nat) (listed : Array Bool) (a : Act) (w : World), holeTB md l.toArray L T listed = true → wpTailY P l.toArray S H (T.map (opAt l)) a w → wpAnyY P md l.toArray S L (T.foldl (fun l i => l.setIfInBounds i true) listed) H T.length listed a w
  | [], listed, a, w, hT, h => by
    simp only [holeTB, beq_iff_eq] at hT
    exact ⟨rfl, hT, h⟩
  | t :: r, listed, a, w, hT, h => by
    simp only [holeTB, Bool.and_eq_true, beq_iff_eq] at hT
    refine ⟨fun h0 => (by rw [hT.1] at h0; cases h0), fun i hi => ?_⟩
    obtain ⟨_, o, ho, _⟩ := mem_ready.1 hi
    rw [hT.1] at hi
    obtain rfl : i = t := by simpa using hi
    have ho' : l[i]? = some o := by simpa using ho
    simp only [List.map_cons, opAt_some ho'] at h
    exact wpOp_step ho fun K' hK => h K' fun a' w' hS hT' => hK a' w' ⟨hS, wpTailY_mix r _ a' w' hT.2 hT'⟩
theorem wpReadsY_mix {l : List Oper} {T : List Nat} {H : Act → World → Prop} (hsel : ∀ (j : Nat) (o : Oper) cs b, l.toArray[j]? = some o → o.op ≠ .select cs b)
    {fin : Array Bool} {w : World} (hS : S w) : ∀ (R : List Nat) (listed : Array Bool) (a : Act), Closed md l.toArray listed → finB R T listed = fin → holeRB md l.toArray L T fin R listed = true → wpReads P l.toArray S (fun a' => wpTailY P l.toArray S H (T.map (opAt l)) a' w) (R.map (opAt l)) a →
      wpAnyY P md l.toArray S L fin H (R.length + T.length) listed a w
  | [], listed, a, hC, hf, hR, h => by
    rw [List.length_nil, Nat.zero_add, ← hf]
    exact wpTailY_mix T listed a w hR h
  | i :: r, listed, a, hC, hf, hR, h => by
    simp only [holeRB, Bool.and_eq_true, List.contains_iff_mem, Bool.not_eq_true'] at hR
    obtain ⟨⟨⟨f1, f2⟩, f3⟩, f4⟩ := hR
    obtain ⟨_, o, ho, _⟩ := mem_ready.1 f2
    have ho' : l[i]? = some o := by simpa using ho
    simp only [List.map_cons, opAt_some ho'] at h
    obtain ⟨v, hy, h⟩ := h
    have ih := wpReadsY_mix hsel hS r _ _ (hC.step f2) hf f4 h
    rw [List.length_cons, Nat.add_right_comm]
    exact wpAnyY_first ho hsel (fun hc hm => by rw [hc, List.contains_iff_mem.2 hm] at f3; cases f3) _ _ _ _ hC (Region.free_spec ho f1) f2 hy hS ih
/-- **The law.** The yield L, and E, the one operation that stands behind it, are walked one behind the other. -/
theorem wpIn_region_yield {Q : Exit → Act → World → Prop} {id n : Nat} {a : Act} {w : World} {l : List Oper} (R T : List Nat) (L E : Nat) (S : World → Prop) (hm : P.follows .mixedOrders = true) (hB : holeB .any l.toArray R T L E = true) (hS : S w.drew)
    (h : wpReads P l.toArray S (fun a' => wpTailY P l.toArray S (fun a2 w2 => ∀ K : Act → World → Prop, (∀ a3 w3, (∀ K2 : Act → World → Prop, (∀ a4 w4, Q .normal a4 w4 → K2 a4 w4) → if Region.wanted (opAt l E) (yielded l.toArray a3.tmps) = true then (opAt l E).wpIn Fence.wide n P a3 w3 K2 Q else K2 (a3.put (opAt l E).dst undef) w3) → K a3 w3) →
      if Region.wanted (opAt l L) (yielded l.toArray a2.tmps) = true then (opAt l L).wpIn Fence.wide n P a2 w2 K Q else K (a2.put (opAt l L).dst undef) w2) (T.map (opAt l)) a' w.drew) (R.map (opAt l)) a) : (Code.region id l.toArray true).wpIn Fence.wide n P Q a w := by
  simp only [holeB, Bool.and_eq_true, decide_eq_true_eq, beq_iff_eq, List.isEmpty_iff] at hB
  obtain ⟨⟨⟨⟨b1, b2⟩, b3⟩, b4⟩, b5⟩ := hB
  refine wpIn_region_any hm ?_
  have h2 := wpReadsY_mix (S := S) (l := l) (T := T) (w := w.drew) (Region.noSelect_spec b1) hS R _ a Closed.start rfl b3 h
  have h3 := wpAnyY_in (Q := Q) (n := n) (g := 2) (fun a1 w1 hr hh => ?_) _ _ _ _ h2
  · rw [b2] at h3
    exact h3
  · have go : ∀ {o : Oper} {a : Act} {w : World} {K : Act → World → Prop}, (if Region.wanted o (yielded l.toArray a.tmps) = true then o.wpIn Fence.wide n P a w K Q else K (a.put o.dst undef) w) → if Region.wanted o (yielded l.toArray a.tmps) = true then o.wpIn Fence.wide n P a w K Q else (∀ f, o.about P w a.eval = some f → Fence.wide.fn f) ∧ K (a.put o.dst undef) w := fun {o a w K} h => by
      split
      · rename_i hw; rw [if_pos hw] at h; exact h
      · rename_i hw; rw [if_neg hw] at h; exact ⟨fun _ _ => trivial, h⟩
    refine ⟨fun h0 => (by rw [hr] at h0; cases h0), fun i hi => ?_⟩
    obtain ⟨_, o, ho, _⟩ := mem_ready.1 hi
    rw [hr] at hi
    obtain rfl : i = L := by simpa using hi
    have ho' : l[i]? = some o := by simpa using ho
    rw [opAt_some ho'] at hh
    refine wpOpIn_step ho fun K' hK => go (hh K' fun a3 w3 h3 => hK a3 w3 ⟨fun h0 => (by rw [b4] at h0; cases h0), fun j hj => ?_⟩)
    obtain ⟨_, oE, hoE, _⟩ := mem_ready.1 hj
    rw [b4] at hj
    obtain rfl : j = E := by simpa using hj
    have hoE' : l[j]? = some oE := by simpa using hoE
    rw [opAt_some hoE'] at h3
    exact wpOpIn_step hoE fun K2 hK2 => go (h3 K2 fun a4 w4 hq => hK2 a4 w4 ⟨b5, hq⟩)
end
end Go.Proofs.YtdolpeljengpaaaGreat
