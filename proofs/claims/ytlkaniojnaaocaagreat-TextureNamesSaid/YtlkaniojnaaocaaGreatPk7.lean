/- Texts laid together: TexK, TexC, TexJ, TexS, TexT, TexN, MTexC, TexU, LawMakes. Lemmas for the statements of this seat; no condition. -/
import Derived.Test.YtlkaniojnaaocaaGreatPk6
import Derived.Test.YtlkaniojnaaocaaGreatPk3
import Derived.Test.YtlkaniojnaaocaaGreatPk1
import Derived.StillTactics
import Derived.Test.YtlkaniojnaaocaaGreatPk4
import Derived.Deep.Cut
import Derived.Test.YtlkaniojnaaocaaGreatPk5

/- texture.sorted: keys in order. -/
namespace Go.Proofs.YtlkaniojnaaocaaGreat
open Go.RowKit
set_option linter.unusedVariables false
set_option linter.unusedSimpArgs false

def encK (k : Ky) : List Value := [.int .i64 k.1, .int .i64 k.2]
theorem infoKy : (Tryz.prog.info? 77).map (fun i => (i.zero, i.size, i.bytes)) = some (some (.agg #[.int .i64 0, .int .i64 0]), 2, 16) := by kernel_rfl
theorem own_copied_n {w w' : World} {base : Nat} {e t : TypeId} {g n cap off size : Nat} {xs cs cur : List Value} (h : w.ownsRow base e size (.slice (some ⟨g, 0, none⟩) n cap) n xs) (hg : w.heap[g]? = some (.cells cur.toArray t (0, 0))) (hg' : w'.heap[g]? = some (.cells (splice cur off cs).toArray t (0, 0))) (hfit : off + cs.length ≤ n * size) :
    w'.ownsRow base e size (.slice (some ⟨g, 0, none⟩) n cap) n (splice xs off cs) := by
  rcases h.2 with ⟨e0, _⟩ | ⟨g', cap', cur', e0, hb, hh, hn, hm, hs, ht⟩
  · cases e0
  · injection e0 with e1 _ e3
    injection e1 with e1
    injection e1 with e1
    subst e1; subst e3
    rw [hg] at hh
    injection hh with hh
    injection hh with h1 h2
    subst h1; subst h2
    have hl : cur.length = cap * size := by simpa using hs
    have hx := h.1
    have hcap : n * size ≤ cap * size := Nat.mul_le_mul_right _ hn
    refine ⟨by rw [length_splice _ _ _ (by omega)]; exact hx, .inr ⟨g, cap, _, rfl, hb, hg', hn, hm, by rw [List.size_toArray, length_splice _ _ _ (by omega)]; omega, ?_⟩⟩
    rw [splice_take _ _ _ _ hfit]
    rw [← ht]
theorem set_two {α : Type} (L : List α) (o : Nat) (a b : α) (h : o + 2 ≤ L.length) : (L.set o a).set (o + 1) b = splice L o [a, b] := by
  unfold splice
  apply List.ext_getElem?
  intro i
  simp only [List.getElem?_set, List.length_set, List.getElem?_append, List.length_take, List.getElem?_take, List.length_cons, List.length_nil, List.getElem?_drop]
  have e1 : min o L.length = o := by omega
  rw [e1]
  by_cases h1 : i < o
  · rw [if_neg (by omega), if_neg (by omega), if_pos h1, if_pos h1]
  · by_cases h2 : i = o
    · subst h2
      rw [if_neg (by omega), if_pos rfl, if_pos (by omega), if_neg (by omega)]
      simp
    · by_cases h3 : i = o + 1
      · subst h3
        rw [if_pos rfl, if_pos (by omega), if_neg (by omega)]
        rw [show o + 1 - o = 1 by omega]
        simp
      · rw [if_neg (by omega), if_neg (by omega), if_neg h1, if_neg (by simp; omega)]
        congr 1
        simp; omega
theorem flatN_len {α : Type} {enc : α → List Value} {k : Nat} (hk : ∀ a, (enc a).length = k) : ∀ l : List α, (l.flatMap enc).length = l.length * k
  | [] => by simp
  | a :: l => by rw [List.flatMap_cons, List.length_append, hk, flatN_len hk l, List.length_cons, Nat.add_mul]; omega
theorem ins_splice_n {α : Type} {enc : α → List Value} {k : Nat} (hk : ∀ a, (enc a).length = k) (S : List α) (z x : α) (i : Nat) (hi : i ≤ S.length) :
    splice (splice ((S ++ [z]).flatMap enc) ((i + 1) * k) ((S.drop i).flatMap enc)) (i * k) (enc x) = (S.take i ++ x :: S.drop i).flatMap enc := by
  have hA : (S.take i).length = i := by rw [List.length_take]; omega
  have hB : (S.drop i).length = S.length - i := List.length_drop
  have f1 := flatN_len hk (S.take i)
  have f2 := flatN_len hk (S.drop i)
  have f3 := flatN_len hk (S ++ [z])
  rw [hA] at f1
  rw [hB] at f2
  rw [List.length_append, List.length_singleton] at f3
  have m1 : (i + 1) * k = i * k + k := Nat.succ_mul i k
  have m2 : (S.length + 1) * k = i * k + (S.length - i) * k + k := by rw [← Nat.add_mul, ← Nat.succ_mul]; congr 1; omega
  have e0 : (S ++ [z]).flatMap enc = (S.take i).flatMap enc ++ ((S.drop i) ++ [z]).flatMap enc := by
    rw [← List.flatMap_append, ← List.append_assoc, List.take_append_drop]
  have hx := hk x
  generalize hP : (S.take i).flatMap enc = P at *
  generalize hQ : (S.drop i).flatMap enc = Q at *
  generalize hR : ((S.drop i) ++ [z]).flatMap enc = R at *
  have hRl : R.length = (S.length - i) * k + k := by
    have := f3
    rw [e0, List.length_append, f1] at this
    omega
  have hlhs : splice (P ++ R) ((i + 1) * k) Q = P ++ (R.take k ++ Q) := by
    unfold splice
    rw [List.drop_of_length_le (by rw [List.length_append, f1, hRl, f2]; omega), List.append_nil, List.take_append, List.take_of_length_le (by omega), f1, show (i + 1) * k - i * k = k by omega, List.append_assoc]
  rw [e0, hlhs]
  unfold splice
  rw [List.take_append, List.take_of_length_le (by omega), f1, Nat.sub_self, List.take_zero, List.append_nil, hx, List.drop_append, List.drop_of_length_le (by omega), f1, show i * k + k - i * k = k by omega, List.nil_append,
    List.drop_append, List.drop_of_length_le (by rw [List.length_take]; omega), List.nil_append, List.length_take, show k - min k R.length = 0 by omega, List.drop_zero]
  rw [List.flatMap_append, List.flatMap_cons, hP, hQ]
theorem encK_one (l : List Ky) : ∀ v ∈ l.flatMap encK, v.oneCell' = true := by
  intro v hv
  obtain ⟨a, _, ha⟩ := List.mem_flatMap.1 hv
  simp only [encK, List.mem_cons, List.not_mem_nil, or_false] at ha
  rcases ha with rfl | rfl <;> rfl
theorem klt_of {a b : Ky} (h1 : ¬ klt a b) (h2 : a ≠ b) : klt b a := by
  rcases klt_total a b with h | h | h
  · exact absurd h h1
  · exact absurd h h2
  · exact h
theorem srtK_snoc (l : List Ky) (k : Ky) : srtK (l ++ [k]) = insK k (srtK l) := by simp [srtK]
theorem srtK_len {l : List Ky} (h : l.Nodup) : (srtK l).length = l.length := by
  refine (List.Perm.length_eq ((List.perm_ext_iff_of_nodup h (klt_nodup (srtK_ok l).1)).2 fun x => ?_)).symm
  rw [(srtK_ok l).2]

set_option maxRecDepth 100000 in
set_option maxHeartbeats 4000000 in
theorem ksorted_any {w : World} {v : Value} {l : List Ky} {B : Nat} (hr : RdK encK 2 w B v l) (hB : B ≤ w.heap.size) (hl : l.length ≤ 1000) (hn : l.Nodup) :
    Calls Tryz.prog 38 #[v] w fun e w' => ∃ vo, e = .returned vo ∧ w'.ownsRow w.heap.size 77 2 vo (srtK l).length ((srtK l).flatMap encK) ∧ Below w.heap.size w w' := by
  obtain ⟨i1, gi, gz0, gz1, gz2⟩ := info_parts infoKy
  obtain ⟨A, c, rfl, hc⟩ := hr
  have HR := hide hc
  have HN := hide hn
  clear hc hn
  go_enter Tryz.func38, Tryz.ntmps38
  go_wp2
  go_loopw [3, 9] (fun v i wr => ∃ m : Nat, m ≤ l.length ∧ i = .int .i64 m ∧ ∃ Av cv, v = .slice Av m cv ∧ Hid (wr.ownsRow w.heap.size 77 2 (.slice Av m cv) m ((srtK (l.take m)).flatMap encK)) ∧ Hid (Below w.heap.size w wr)) (fun _ i _ => l.length - (intOf i).toNat)
  case atStart => exact ⟨0, Nat.zero_le _, rfl, none, 0, rfl, hide (World.ownsRow_nil _ _ _ _), hide (Below.refl _ _)⟩
  case round =>
    obtain ⟨m, hm, rfl, Av, cv, rfl, HO, HB⟩ := hrel
    by_cases hlt : m < l.length
    · obtain ⟨⟨x1, x2⟩, hp⟩ : ∃ p, l[m]? = some p := ⟨_, List.getElem?_eq_getElem hlt⟩
      obtain ⟨b, o, rfl, hbl, k⟩ := HR.out (by intro e; rw [e] at hlt; simp at hlt)
      have hsz := HB.out.size
      have d0 : wr.cell? ⟨b, o + m * 2, none⟩ = some (.int .i64 x1) := (HB.out.cell (p := ⟨b, _, none⟩) (by show b < _; omega)).trans (k m _ hp 0 _ rfl)
      have d1 : wr.cell? ⟨b, o + m * 2 + 1, none⟩ = some (.int .i64 x2) := (HB.out.cell (p := ⟨b, _, none⟩) (by show b < _; omega)).trans (k m _ hp 1 _ rfl)
      have mz : (m : Int) < (l.length : Int) := by omega
      have hS := (srtK_ok (l.take m)).1
      have hSl := srtK_len (l := l.take m) (HN.out.sublist (List.take_sublist m l))
      rw [List.length_take, Nat.min_eq_left hm] at hSl
      have HT : Hid (srtK (l.take (m + 1)) = insK (x1, x2) (srtK (l.take m))) := hide (by
        obtain ⟨i1, e1⟩ := List.getElem?_eq_some_iff.1 hp
        rw [List.take_succ_eq_append_getElem i1, e1, srtK_snoc])
      have HX : Hid ((x1, x2) ∉ srtK (l.take m)) := hide (by
        rw [(srtK_ok _).2]
        intro h
        obtain ⟨i1, e1⟩ := List.getElem?_eq_some_iff.1 hp
        obtain ⟨q, hq1, hq2⟩ := List.getElem_of_mem h
        rw [List.length_take] at hq1
        rw [List.getElem_take, ← e1] at hq2
        exact List.pairwise_iff_getElem.1 HN.out q m (by omega) i1 (by omega) (hq2.trans rfl))
      generalize srtK (l.take m) = S at *
      subst hSl
      have HS := hide hS
      have hm400 : S.length ≤ 1000 := by omega
      clear k hp hS
      generalize wr = w0 at *
      go_wp2
      refine wp_name fun w1 hw1 => ?_
      have hb1 : Below w0.heap.size w0 w1 := by rw [hw1]; exact (Below.refl _ _).alloc (Nat.le_refl _) _
      have hs1 : w1.heap.size = w0.heap.size + 1 := by rw [hw1]; simp
      have c10 : w1.cell? ⟨w0.heap.size, 0, none⟩ = some (.int .i64 x1) := by rw [hw1]; simp [go_sem]
      have c11 : w1.cell? ⟨w0.heap.size, 1, none⟩ = some (.int .i64 x2) := by rw [hw1]; simp [go_sem]
      have HO1 := hide (own_below HO.out hb1)
      have HBW := hide (HB.out.trans (hb1.mono hsz))
      have HLT : Hid (∀ q, (Value.slice Av S.length cv).ownBlock = some q → q < w0.heap.size) := hide (fun q hq => (HO.out.lt q hq).2)
      clear hw1 d0 d1 HO HB hb1
      go_wp2
      go_loopw [6] (fun kk wr => ∃ k : Nat, k ≤ S.length ∧ kk = .int .i64 k ∧ Hid (∀ j y, k ≤ j → S[j]? = some y → klt (x1, x2) y) ∧ Hid (Below w1.heap.size w1 wr)) (fun kk _ => (intOf kk).toNat)
      case atStart => exact ⟨S.length, Nat.le_refl _, rfl, hide (fun j y h1 h2 => by rw [List.getElem?_eq_none h1] at h2; cases h2), hide (Below.refl _ _)⟩
      case round =>
        obtain ⟨k, hk, rfl, HG, HB2⟩ := hrel
        have hB2 := HB2.out.size
        have e10 : wr.cell? ⟨w0.heap.size, 0, none⟩ = some (.int .i64 x1) := (HB2.out.cell (p := ⟨w0.heap.size, 0, none⟩) (by show w0.heap.size < _; omega)).trans c10
        have e11 : wr.cell? ⟨w0.heap.size, 1, none⟩ = some (.int .i64 x2) := (HB2.out.cell (p := ⟨w0.heap.size, 1, none⟩) (by show w0.heap.size < _; omega)).trans c11
        rcases Nat.eq_zero_or_pos k with rfl | hkp
        · have HLE : Hid (∀ y, 0 ≠ 0 → S[0 - 1]? = some y → klt y (x1, x2)) := hide (fun y h => absurd rfl h)
          rw [show ((0 : Nat) : Int) = 0 from rfl]
          go_wp2
          go_quiet (fail)
          refine name_exit fun wd hwd => ?_
          have hbd : Below w1.heap.size w1 wd := by rw [hwd]; exact below_drewN HB2.out _
          have d10 : wd.cell? ⟨w0.heap.size, 0, none⟩ = some (.int .i64 x1) := (hbd.cell (p := ⟨w0.heap.size, 0, none⟩) (by show w0.heap.size < _; omega)).trans c10
          have d11 : wd.cell? ⟨w0.heap.size, 1, none⟩ = some (.int .i64 x2) := (hbd.cell (p := ⟨w0.heap.size, 1, none⟩) (by show w0.heap.size < _; omega)).trans c11
          have HOD := hide (own_below HO1.out hbd)
          have HBD := hide (HBW.out.trans (hbd.mono (by omega)))
          have hwdz : w.heap.size ≤ wd.heap.size := HBD.out.size
          have hwz : w0.heap.size < wd.heap.size := by have := hbd.size; omega
          clear hwd hbd e10 e11
          go_wp2_with (at_builtin; go_loud (refine wpList_append_lies _ rfl (.tmp 52) (.tmp 54) 74 rfl w.heap.size 77 i1 (.agg #[.int .i64 0, .int .i64 0]) 2 16 Tryz.underlying74 gi gz0 gz1 gz2 rfl (by decide) _ S.length _ rfl (HOD.out.alloc _) ⟨wd.heap.size, 0, none⟩ 1 1 [.int .i64 x1, .int .i64 x2] rfl rfl (news_new wd _ _ _ rfl) (ints_one rfl) (by omega) (by unfold maxLen; omega) (by omega) (by simp; omega) _ rfl ?_))
          intro g9 cap9 w2 hown2 hgrow hg9 _
          have hx2 : S.flatMap encK ++ [.int .i64 x1, .int .i64 x2] = (S ++ [(x1, x2)]).flatMap encK := by simp [encK]
          rw [hx2] at hown2
          have hne9 : g9 ≠ w0.heap.size := by
            intro e
            rcases hg9 with h | h
            · have := HLT.out g9 h; omega
            · have : g9 = wd.heap.size + 1 := by simpa using h
              omega
          have hbox : ∀ o u, wd.cell? ⟨w0.heap.size, o, none⟩ = some u → w2.cell? ⟨w0.heap.size, o, none⟩ = some u := fun o u h =>
            World.grownBy.cell hgrow (a := ⟨w0.heap.size, o, none⟩) ((World.cell?_alloc_lt wd _ ⟨w0.heap.size, o, none⟩ hwz).trans h) (fun e => by have h9 : w0.heap.size < w0.heap.size := HLT.out _ e.symm; omega)
          have g10 := hbox _ _ d10
          have g11 := hbox _ _ d11
          have hb2 : Below w.heap.size w w2 := ((HBD.out.alloc hwdz _).grown hgrow (by simp; omega) (fun q hq => (HOD.out.lt q hq).1))
          obtain ⟨_, cap9', cur9, e9, hbg9, hh9, hn9, hm9, hs9, ht9⟩ : ∃ (g' cap' : Nat) (cur : Array Value), Value.slice (some ⟨g9, 0, none⟩) (S.length + 1) cap9 = .slice (some ⟨g', 0, none⟩) (S.length + 1) cap' ∧ w.heap.size ≤ g' ∧ w2.heap[g']? = some (.cells cur 77 (0, 0)) ∧ S.length + 1 ≤ cap' ∧ cap' ≤ maxLen ∧ cur.size = cap' * 2 ∧ cur.toList.take ((S.length + 1) * 2) = (S ++ [(x1, x2)]).flatMap encK := by
            rcases hown2.2 with ⟨e0, _⟩ | q
            · cases e0
            · exact q
          injection e9 with e1 _ e3
          injection e1 with e1
          injection e1 with e1
          subst e1; subst e3
          have HX2 := hide hown2
          have HB2' := hide hb2
          have HH9 := hide hh9
          have HS9 := hide hs9
          unfold maxLen at hm9
          clear hown2 hgrow hb2 hx2 hg9 hh9 hs9 ht9 d10 d11 hbox
          go_wp2
          have r1 : IntKind.i64.wrap (1) = 1 := by simp [IntKind.wrap, IntKind.bits, IntKind.signed]
          have r2 : (0 : Int) ≤ 1 := by omega
          have r3 : (1 : Int) ≤ (S.length : Int) + 1 := by omega
          have r4 : (1 : Int).toNat = 0 + 1 := by omega
          have r5 : (0 : Int) ≤ 0 := by omega
          have r6 : (0 : Int) ≤ (S.length : Int) + 1 := by omega
          have r7 : (0 : Int).toNat = 0 := by omega
          refine wp_region_reads0 7 (by kernel_rfl) (by kernel_rfl) ?_
          simp only [List.take_succ_cons, List.take_zero, List.drop_succ_cons, List.drop_zero]
          iterate 7
            refine ⟨?_, Or.inl ⟨by rfl, ?_⟩, ?_⟩
            rotate_left 1
            · intro w' _
              go_simp
              first | done | with_reducible rfl
            simp only [Act.put, List.setIfInBounds_toArray, List.set_cons_zero, List.set_cons_succ]
          clear r1 r2 r3 r4 r5 r6 r7
          simp only [wpReads]
          intro K hK
          have hcur : w2.drew.heap[g9]? = some (.cells cur9.toList.toArray 77 (0, 0)) := by show w2.heap[g9]? = _; simpa using HH9.out
          have hcl : cur9.toList.length = cap9 * 2 := by simpa using HS9.out
          have hfl : ((S.drop (0)).flatMap encK).length = (S.length - 0) * 2 := by rw [flatN_len (k := 2) (fun _ => rfl), List.length_drop]
          refine step_copy_n rfl (.tmp 59) (.tmp 62) 74 74 rfl 77 Tryz.underlying74 2 (by kernel_rfl) _ _ _ _ _ _ rfl rfl g9 ((0 + 1) * 2) cur9.toList 77 hcur ((S.drop (0)).flatMap encK) (S.length - 0) (by show _ = min _ _; omega) hfl ?_ (by omega) (encK_one _) w.heap.size w (HB2'.out.drew) hbg9 ?_
          · intro hpos
            refine ⟨by first | rfl | rw [if_neg (by omega)], ⟨g9, 0 * 2, none⟩, by first | rfl | rw [if_neg (by omega)], fun i u hi => ?_⟩
            have hi2 : ((S ++ [(x1, x2)]).flatMap encK)[0 * 2 + i]? = some u := by
              have e0 : (S ++ [(x1, x2)]).flatMap encK = (S.take (0)).flatMap encK ++ ((S.drop (0)).flatMap encK ++ encK (x1, x2)) := by
                rw [← List.append_assoc, ← List.flatMap_append, List.take_append_drop, List.flatMap_append]
                rw [List.flatMap_cons, List.flatMap_nil, List.append_nil]
              have e1 : ((S.take (0)).flatMap encK).length = 0 * 2 := by rw [flatN_len (k := 2) (fun _ => rfl), List.length_take]; omega
              rw [e0, List.getElem?_append_right (by omega), e1, Nat.add_sub_cancel_left, List.getElem?_append_left (List.getElem?_eq_some_iff.1 hi).1]
              exact hi
            have := (HX2.out.cells (g := g9) rfl) _ _ hi2
            rw [addr_add] at this
            rw [addr_add']
            exact this
          · intro w3 hsp hb3 hgr3
            have hx3 := own_copied_n HX2.out (by simpa using HH9.out) hsp.out (by omega)
            have k10 := World.grownBy.cell hgr3 (a := ⟨w0.heap.size, 0, none⟩) (show w2.drew.cell? _ = _ from g10) (by simpa using Ne.symm hne9)
            have k11 := World.grownBy.cell hgr3 (a := ⟨w0.heap.size, 1, none⟩) (show w2.drew.cell? _ = _ from g11) (by simpa using Ne.symm hne9)
            refine hK _ _ (fun _ => trivial) ?_
            clear hK K
            refine NoPanic.normal ?_
            have hlen3 := hx3.1
            obtain ⟨u3, c30⟩ : ∃ u, w3.cell? ⟨g9, 0 * 2, none⟩ = some u := by
              have := (hx3.cells (g := g9) rfl) (0 * 2) _ (List.getElem?_eq_getElem (by omega))
              rw [addr_add] at this
              exact ⟨_, this⟩
            obtain ⟨u4, c31⟩ : ∃ u, w3.cell? ⟨g9, 0 * 2 + 1, none⟩ = some u := by
              have := (hx3.cells (g := g9) rfl) (0 * 2 + 1) _ (List.getElem?_eq_getElem (by omega))
              rw [addr_add] at this
              exact ⟨_, this⟩
            have f30 : w3.frozen? ⟨g9, 0 * 2, none⟩ = false := hx3.frozenAt _
            have f31 : w3.frozen? ⟨g9, 0 * 2 + 1, none⟩ = false := hx3.frozenAt _
            have hst := ((hx3.stored (0 * 2) (.int .i64 x1)).1.stored (0 * 2 + 1) (.int .i64 x2)).1
            rw [set_two _ _ _ _ (by omega)] at hst
            have hsp2 := ins_splice_n (enc := encK) (k := 2) (fun _ => rfl) S (x1, x2) (x1, x2) (0) (by omega)
            rw [show ([.int .i64 x1, .int .i64 x2] : List Value) = encK (x1, x2) from rfl, hsp2] at hst
            have hins : insK (x1, x2) S = S.take (0) ++ (x1, x2) :: S.drop (0) := insK_at (x1, x2) S (0) HS.out (by omega) HG.out HLE.out
            rw [← hins] at hst
            have HST := hide hst
            have HB3 := hide hb3
            clear hins hst hx3 hsp hb3 hcur hcl hgr3 hsp2 hfl hlen3
            go_wp2
            go_roundw
            case rel => exact ⟨S.length + 1, by omega, by go_num, some ⟨g9, 0, none⟩, cap9, rfl, hide (by rw [HT.out]; exact HST.out), hide ((HB3.out.setCell (p := ⟨g9, _, none⟩) hbg9 _).setCell (p := ⟨g9, _, none⟩) hbg9 _)⟩
            case measure => simp [intOf]; omega
        · obtain ⟨j, rfl⟩ : ∃ j, k = j + 1 := ⟨k - 1, by omega⟩
          obtain ⟨⟨y1, y2⟩, hy⟩ : ∃ y, S[j]? = some y := ⟨_, List.getElem?_eq_getElem (by omega)⟩
          obtain ⟨g, cap, hv, hBg, hgw⟩ := HO1.out.form (by omega)
          injection hv with e1 _ e3
          subst e1; subst e3
          have f0 : wr.cell? ⟨g, j * 2, none⟩ = some (.int .i64 y1) := by
            have := (HO1.out.cells (g := g) rfl) _ _ (flat_get (k := 2) (fun _ => rfl) _ j _ 0 _ hy rfl)
            rw [addr_add] at this
            exact (HB2.out.cell (p := ⟨g, j * 2, none⟩) hgw).trans this
          have f1 : wr.cell? ⟨g, j * 2 + 1, none⟩ = some (.int .i64 y2) := by
            have := (HO1.out.cells (g := g) rfl) _ _ (flat_get (k := 2) (fun _ => rfl) _ j _ 1 _ hy rfl)
            rw [addr_add] at this
            exact (HB2.out.cell (p := ⟨g, j * 2 + 1, none⟩) hgw).trans this
          have q1 : (0 : Int) < (j : Int) + 1 := by omega
          have q2 : (j : Int) < (S.length : Int) := by omega
          have q3 : IntKind.i64.wrap ((j : Int) + 1 - 1) = j := by simp [IntKind.wrap, IntKind.bits, IntKind.signed]; omega
          have q4 : (0 : Int) ≤ (j : Int) := by omega
          have HY := hide hy
          clear hy hkp
          rw [show ((j + 1 : Nat) : Int) = (j : Int) + 1 from rfl]
          by_cases hgt : klt (x1, x2) (y1, y2)
          · have hgs : x1 < y1 ∨ (decide (x1 < y1) = false ∧ (y1 == x1) = true ∧ x2 < y2) := by
              unfold klt at hgt
              simp only at hgt
              rcases hgt with h | ⟨h1, h2⟩
              · exact .inl h
              · exact .inr ⟨decide_eq_false (by omega), by simp [h1], h2⟩
            have HG2 := hide hgt
            clear hgt
            rcases hgs with h1 | ⟨h1, h2, h3⟩
            all_goals
              go_wp2
              go_quiet (fail)
              go_wp2
              go_roundw
              case rel =>
                refine ⟨j, by omega, by go_num, hide ?_, hide (below_drewN HB2.out _)⟩
                intro i z h1 h2
                by_cases hij : i = j
                · subst hij
                  rw [HY.out] at h2
                  injection h2 with h2
                  subst h2
                  exact HG2.out
                · exact HG.out i z (by omega) h2
              case measure => simp [intOf]
          · have HLE : Hid (∀ y, j + 1 ≠ 0 → S[j + 1 - 1]? = some y → klt y (x1, x2)) := hide (fun y _ h => by
              rw [Nat.add_sub_cancel, HY.out] at h
              injection h with h
              subst h
              exact klt_of hgt (fun e => HX.out (by rw [e]; exact List.mem_of_getElem? HY.out)))
            have hgs : (decide (x1 < y1) = false ∧ (y1 == x1) = false) ∨ (decide (x1 < y1) = false ∧ (y1 == x1) = true ∧ decide (x2 < y2) = false) := by
              unfold klt at hgt
              simp only at hgt
              by_cases h : y1 = x1
              · exact .inr ⟨decide_eq_false (by omega), by simp [h], decide_eq_false (by omega)⟩
              · exact .inl ⟨decide_eq_false (by omega), by simpa using h⟩
            clear hgt
            rcases hgs with ⟨h1, h2⟩ | ⟨h1, h2, h3⟩
            all_goals
              go_wp2
              go_quiet (fail)
              refine name_exit fun wd hwd => ?_
              have hbd : Below w1.heap.size w1 wd := by rw [hwd]; exact below_drewN HB2.out _
              have d10 : wd.cell? ⟨w0.heap.size, 0, none⟩ = some (.int .i64 x1) := (hbd.cell (p := ⟨w0.heap.size, 0, none⟩) (by show w0.heap.size < _; omega)).trans c10
              have d11 : wd.cell? ⟨w0.heap.size, 1, none⟩ = some (.int .i64 x2) := (hbd.cell (p := ⟨w0.heap.size, 1, none⟩) (by show w0.heap.size < _; omega)).trans c11
              have HOD := hide (own_below HO1.out hbd)
              have HBD := hide (HBW.out.trans (hbd.mono (by omega)))
              have hwdz : w.heap.size ≤ wd.heap.size := HBD.out.size
              have hwz : w0.heap.size < wd.heap.size := by have := hbd.size; omega
              clear hwd hbd e10 e11
              go_wp2_with (at_builtin; go_loud (refine wpList_append_lies _ rfl (.tmp 52) (.tmp 54) 74 rfl w.heap.size 77 i1 (.agg #[.int .i64 0, .int .i64 0]) 2 16 Tryz.underlying74 gi gz0 gz1 gz2 rfl (by decide) _ S.length _ rfl (HOD.out.alloc _) ⟨wd.heap.size, 0, none⟩ 1 1 [.int .i64 x1, .int .i64 x2] rfl rfl (news_new wd _ _ _ rfl) (ints_one rfl) (by omega) (by unfold maxLen; omega) (by omega) (by simp; omega) _ rfl ?_))
              intro g9 cap9 w2 hown2 hgrow hg9 _
              have hx2 : S.flatMap encK ++ [.int .i64 x1, .int .i64 x2] = (S ++ [(x1, x2)]).flatMap encK := by simp [encK]
              rw [hx2] at hown2
              have hne9 : g9 ≠ w0.heap.size := by
                intro e
                rcases hg9 with h | h
                · have := HLT.out g9 h; omega
                · have : g9 = wd.heap.size + 1 := by simpa using h
                  omega
              have hbox : ∀ o u, wd.cell? ⟨w0.heap.size, o, none⟩ = some u → w2.cell? ⟨w0.heap.size, o, none⟩ = some u := fun o u h =>
                World.grownBy.cell hgrow (a := ⟨w0.heap.size, o, none⟩) ((World.cell?_alloc_lt wd _ ⟨w0.heap.size, o, none⟩ hwz).trans h) (fun e => by have h9 : w0.heap.size < w0.heap.size := HLT.out _ e.symm; omega)
              have g10 := hbox _ _ d10
              have g11 := hbox _ _ d11
              have hb2 : Below w.heap.size w w2 := ((HBD.out.alloc hwdz _).grown hgrow (by simp; omega) (fun q hq => (HOD.out.lt q hq).1))
              obtain ⟨_, cap9', cur9, e9, hbg9, hh9, hn9, hm9, hs9, ht9⟩ : ∃ (g' cap' : Nat) (cur : Array Value), Value.slice (some ⟨g9, 0, none⟩) (S.length + 1) cap9 = .slice (some ⟨g', 0, none⟩) (S.length + 1) cap' ∧ w.heap.size ≤ g' ∧ w2.heap[g']? = some (.cells cur 77 (0, 0)) ∧ S.length + 1 ≤ cap' ∧ cap' ≤ maxLen ∧ cur.size = cap' * 2 ∧ cur.toList.take ((S.length + 1) * 2) = (S ++ [(x1, x2)]).flatMap encK := by
                rcases hown2.2 with ⟨e0, _⟩ | q
                · cases e0
                · exact q
              injection e9 with e1 _ e3
              injection e1 with e1
              injection e1 with e1
              subst e1; subst e3
              have HX2 := hide hown2
              have HB2' := hide hb2
              have HH9 := hide hh9
              have HS9 := hide hs9
              unfold maxLen at hm9
              clear hown2 hgrow hb2 hx2 hg9 hh9 hs9 ht9 d10 d11 hbox
              go_wp2
              have r1 : IntKind.i64.wrap (((j : Int) + 1 + 1)) = ((j : Int) + 1 + 1) := by simp [IntKind.wrap, IntKind.bits, IntKind.signed]; omega
              have r2 : (0 : Int) ≤ ((j : Int) + 1 + 1) := by omega
              have r3 : (((j : Int) + 1 + 1) : Int) ≤ (S.length : Int) + 1 := by omega
              have r4 : (((j : Int) + 1 + 1) : Int).toNat = (j + 1) + 1 := by omega
              have r5 : (0 : Int) ≤ ((j : Int) + 1) := by omega
              have r6 : (((j : Int) + 1) : Int) ≤ (S.length : Int) + 1 := by omega
              have r7 : (((j : Int) + 1) : Int).toNat = (j + 1) := by omega
              refine wp_region_reads0 7 (by kernel_rfl) (by kernel_rfl) ?_
              simp only [List.take_succ_cons, List.take_zero, List.drop_succ_cons, List.drop_zero]
              iterate 7
                refine ⟨?_, Or.inl ⟨by rfl, ?_⟩, ?_⟩
                rotate_left 1
                · intro w' _
                  go_simp
                  first | done | with_reducible rfl
                simp only [Act.put, List.setIfInBounds_toArray, List.set_cons_zero, List.set_cons_succ]
              clear r1 r2 r3 r4 r5 r6 r7
              simp only [wpReads]
              intro K hK
              have hcur : w2.drew.heap[g9]? = some (.cells cur9.toList.toArray 77 (0, 0)) := by show w2.heap[g9]? = _; simpa using HH9.out
              have hcl : cur9.toList.length = cap9 * 2 := by simpa using HS9.out
              have hfl : ((S.drop ((j + 1))).flatMap encK).length = (S.length - (j + 1)) * 2 := by rw [flatN_len (k := 2) (fun _ => rfl), List.length_drop]
              refine step_copy_n rfl (.tmp 59) (.tmp 62) 74 74 rfl 77 Tryz.underlying74 2 (by kernel_rfl) _ _ _ _ _ _ rfl rfl g9 (((j + 1) + 1) * 2) cur9.toList 77 hcur ((S.drop ((j + 1))).flatMap encK) (S.length - (j + 1)) (by show _ = min _ _; omega) hfl ?_ (by omega) (encK_one _) w.heap.size w (HB2'.out.drew) hbg9 ?_
              · intro hpos
                refine ⟨by first | rfl | rw [if_neg (by omega)], ⟨g9, (j + 1) * 2, none⟩, by first | rfl | rw [if_neg (by omega)], fun i u hi => ?_⟩
                have hi2 : ((S ++ [(x1, x2)]).flatMap encK)[(j + 1) * 2 + i]? = some u := by
                  have e0 : (S ++ [(x1, x2)]).flatMap encK = (S.take ((j + 1))).flatMap encK ++ ((S.drop ((j + 1))).flatMap encK ++ encK (x1, x2)) := by
                    rw [← List.append_assoc, ← List.flatMap_append, List.take_append_drop, List.flatMap_append]
                    rw [List.flatMap_cons, List.flatMap_nil, List.append_nil]
                  have e1 : ((S.take ((j + 1))).flatMap encK).length = (j + 1) * 2 := by rw [flatN_len (k := 2) (fun _ => rfl), List.length_take]; omega
                  rw [e0, List.getElem?_append_right (by omega), e1, Nat.add_sub_cancel_left, List.getElem?_append_left (List.getElem?_eq_some_iff.1 hi).1]
                  exact hi
                have := (HX2.out.cells (g := g9) rfl) _ _ hi2
                rw [addr_add] at this
                rw [addr_add']
                exact this
              · intro w3 hsp hb3 hgr3
                have hx3 := own_copied_n HX2.out (by simpa using HH9.out) hsp.out (by omega)
                have k10 := World.grownBy.cell hgr3 (a := ⟨w0.heap.size, 0, none⟩) (show w2.drew.cell? _ = _ from g10) (by simpa using Ne.symm hne9)
                have k11 := World.grownBy.cell hgr3 (a := ⟨w0.heap.size, 1, none⟩) (show w2.drew.cell? _ = _ from g11) (by simpa using Ne.symm hne9)
                refine hK _ _ (fun _ => trivial) ?_
                clear hK K
                refine NoPanic.normal ?_
                have hlen3 := hx3.1
                obtain ⟨u3, c30⟩ : ∃ u, w3.cell? ⟨g9, (j + 1) * 2, none⟩ = some u := by
                  have := (hx3.cells (g := g9) rfl) ((j + 1) * 2) _ (List.getElem?_eq_getElem (by omega))
                  rw [addr_add] at this
                  exact ⟨_, this⟩
                obtain ⟨u4, c31⟩ : ∃ u, w3.cell? ⟨g9, (j + 1) * 2 + 1, none⟩ = some u := by
                  have := (hx3.cells (g := g9) rfl) ((j + 1) * 2 + 1) _ (List.getElem?_eq_getElem (by omega))
                  rw [addr_add] at this
                  exact ⟨_, this⟩
                have f30 : w3.frozen? ⟨g9, (j + 1) * 2, none⟩ = false := hx3.frozenAt _
                have f31 : w3.frozen? ⟨g9, (j + 1) * 2 + 1, none⟩ = false := hx3.frozenAt _
                have hst := ((hx3.stored ((j + 1) * 2) (.int .i64 x1)).1.stored ((j + 1) * 2 + 1) (.int .i64 x2)).1
                rw [set_two _ _ _ _ (by omega)] at hst
                have hsp2 := ins_splice_n (enc := encK) (k := 2) (fun _ => rfl) S (x1, x2) (x1, x2) ((j + 1)) (by omega)
                rw [show ([.int .i64 x1, .int .i64 x2] : List Value) = encK (x1, x2) from rfl, hsp2] at hst
                have hins : insK (x1, x2) S = S.take ((j + 1)) ++ (x1, x2) :: S.drop ((j + 1)) := insK_at (x1, x2) S ((j + 1)) HS.out (by omega) HG.out HLE.out
                rw [← hins] at hst
                have HST := hide hst
                have HB3 := hide hb3
                clear hins hst hx3 hsp hb3 hcur hcl hgr3 hsp2 hfl hlen3
                go_wp2
                go_roundw
                case rel => exact ⟨S.length + 1, by omega, by go_num, some ⟨g9, 0, none⟩, cap9, rfl, hide (by rw [HT.out]; exact HST.out), hide ((HB3.out.setCell (p := ⟨g9, _, none⟩) hbg9 _).setCell (p := ⟨g9, _, none⟩) hbg9 _)⟩
                case measure => simp [intOf]; omega
    · obtain rfl : m = l.length := by omega
      have mz : ¬ (l.length : Int) < (l.length : Int) := by omega
      rw [List.take_length] at HO
      have HL := hide (srtK_len HN.out)
      go_wp2
      go_ret
      exact ⟨_, rfl, own_n HO.out HL.out.symm, HB.out⟩
end Go.Proofs.YtlkaniojnaaocaaGreat

/- The walks of the reference of texture: Rect, Where, At. -/
namespace Go.Proofs.YtlkaniojnaaocaaGreat
open Go.RowKit
set_option linter.unusedVariables false
set_option linter.unusedSimpArgs false

theorem tdiv_sub (x n : Int) (hn : 1 ≤ n) : (x - x % n).tdiv n = x / n := by
  have e := Int.mul_ediv_add_emod x n
  have h : x - x % n = n * (x / n) := by omega
  rw [h, Int.mul_tdiv_cancel_left _ (by omega)]

set_option maxHeartbeats 1000000 in
theorem brect_any (W H S col row : Int) (w : World) (hp : okPat W H S) (h1 : -2000000 ≤ col) (h2 : col ≤ 2000000) (h3 : -1000000 ≤ row) (h4 : row ≤ 1000000) :
    Calls Tryz.prog 28 #[.agg #[.int .i64 W, .int .i64 H, .int .i64 S], .int .i64 col, .int .i64 row] w fun e w' => e = .returned (.agg #[.int .i64 (brX W H S col row), .int .i64 (row * H), .int .i64 (brX W H S col row + W), .int .i64 ((row + 1) * H)]) ∧ Below w.heap.size w w' := by
  have hsb := shiftI_bd hp row
  unfold okPat at hp
  have m0 := mul_bd row S 1000000 1000 h3 h4 (by omega) (by omega) (by omega)
  have m1 := mul_bd col W 2000000 1000 h1 h2 (by omega) (by omega) (by omega)
  have m2 := mul_bd row H 1000000 1000 h3 h4 (by omega) (by omega) (by omega)
  have m3 := mul_bd (row + 1) H 1000001 1000 (by omega) (by omega) (by omega) (by omega) (by omega)
  have m4 := mul_bd (col + 1) W 2000001 1000 (by omega) (by omega) (by omega) (by omega) (by omega)
  have hmod := fun w => (mod_any (row * S) W w (by omega) (by omega) (by omega) (by omega)).mono (R' := fun e w' => e = .returned (.int .i64 (shiftI W S row)) ∧ w = w') fun e w' h => h
  unfold brX
  go_enter Tryz.func28, Tryz.ntmps28
  go_wp2_with (go_at_call 50; refine (hmod _).mono ?_; rintro e w' ⟨rfl, rfl⟩)
  have e5 : (col + 1) * W = col * W + W := by rw [Int.add_mul, Int.one_mul]
  refine bodyPost_ret (v := .agg #[.int .i64 (col * W + shiftI W S row), .int .i64 (row * H), .int .i64 ((col + 1) * W + shiftI W S row), .int .i64 ((row + 1) * H)]) (by simp [results, Tryz.results28, go_sem]) rfl ⟨?_, ?_⟩
  · rw [e5, show col * W + W + shiftI W S row = col * W + shiftI W S row + W by omega]
  · exact ((Below.refl _ _).alloc (Nat.le_refl _) _).alloc (by simp) _

set_option maxHeartbeats 1000000 in
theorem where_any (W H S x y : Int) (w : World) (hp : okPat W H S) (h1 : -1000000 ≤ x) (h2 : x ≤ 1000000) (h3 : -1000000 ≤ y) (h4 : y ≤ 1000000) :
    Calls Tryz.prog 56 #[.agg #[.int .i64 W, .int .i64 H, .int .i64 S], .int .i64 x, .int .i64 y] w fun e w' => e = .returned (.tuple #[.int .i64 (colI W H S x y), .int .i64 (rowI H y)]) ∧ Below w.heap.size w w' := by
  have hsb := shiftI_bd hp (y / H)
  unfold okPat at hp
  have q1 := ediv_bd y H 1000000 (by omega) h3 h4 (by omega)
  have m0 := mul_bd (y / H) S 1000000 1000 q1.1 q1.2 (by omega) (by omega) (by omega)
  have r1 := emod_bd y H (by omega)
  have r2 := emod_bd (x - shiftI W S (y / H)) W (by omega)
  have q2 := ediv_bd (x - shiftI W S (y / H)) W 2000000 (by omega) (by omega) (by omega) (by omega)
  have e1 := tdiv_sub y H (by omega)
  have e2 := tdiv_sub (x - shiftI W S (y / H)) W (by omega)
  have hmod1 := fun w => (mod_any y H w (by omega) (by omega) (by omega) (by omega))
  have hmod2 := fun w => (mod_any (y / H * S) W w (by omega) (by omega) (by omega) (by omega)).mono (R' := fun e w' => e = .returned (.int .i64 (shiftI W S (y / H))) ∧ w = w') fun e w' h => h
  have hmod3 := fun w => (mod_any (x - shiftI W S (y / H)) W w (by omega) (by omega) (by omega) (by omega))
  unfold colI rowI
  go_enter Tryz.func56, Tryz.ntmps56
  go_wp2
  refine wp_hab fun hab => ?_
  refine wp_region_above (by kernel_rfl) (by kernel_rfl) ?_
  repeat (go_big_quiet_step ((go_at_call 50; exact above_same (hmod1 _))))
  refine wpQuiet_nil ?_
  refine above_ends fun w3 hb3 => ?_
  clear hab
  obtain ⟨hc3, hf3⟩ := bcell hb3
  have hz3 : w.heap.size < w3.heap.size := by have := hb3.size; simp at this; omega
  go_wp2_with (go_at_call 50; refine (hmod2 _).mono ?_; rintro e w' ⟨rfl, rfl⟩)
  refine wp_hab fun hab => ?_
  refine wp_region_above (by kernel_rfl) (by kernel_rfl) ?_
  repeat (go_big_quiet_step ((go_at_call 50; exact above_same (hmod3 _))))
  refine wpQuiet_nil ?_
  refine above_ends fun w4 hb4 => ?_
  go_wp2
  go_ret2
  exact ⟨rfl, (((Below.refl _ _).alloc (Nat.le_refl _) _).trans (hb3.mono (by simp))).trans (hb4.mono (by omega))⟩
end Go.Proofs.YtlkaniojnaaocaaGreat

/- texture.bricks: its iterator hands over the bricks of a rectangle, row by row. -/
namespace Go.Proofs.YtlkaniojnaaocaaGreat
open Go.RowKit
set_option linter.unusedVariables false
set_option linter.unusedSimpArgs false
attribute [local go_sem] Oper.semAt_some

theorem irange_nil {a b : Int} (h : b < a) : irange a b = [] := by
  unfold irange
  rw [show (b + 1 - a).toNat = 0 by omega]
  rfl
theorem irange_snoc {a x : Int} (h : a ≤ x) : irange a x = irange a (x - 1) ++ [x] := by
  unfold irange
  rw [show (x + 1 - a).toNat = (x - 1 + 1 - a).toNat + 1 by omega, List.range_succ, List.map_append]
  congr 1
  simp only [List.map_cons, List.map_nil, List.cons.injEq, and_true]
  omega
theorem irange_at {a x b : Int} (h1 : a ≤ x) (h2 : x ≤ b) : ∃ post, irange a b = irange a (x - 1) ++ x :: post := by
  obtain ⟨n, hn⟩ : ∃ n : Nat, b = x + n := ⟨(b - x).toNat, by omega⟩
  subst hn
  clear h2
  induction n with
  | zero => exact ⟨[], by rw [show x + ((0 : Nat) : Int) = x by omega]; exact irange_snoc h1⟩
  | succ n ih =>
    obtain ⟨post, e⟩ := ih
    refine ⟨post ++ [x + ((n + 1 : Nat) : Int)], ?_⟩
    rw [irange_snoc (by omega), show x + ((n + 1 : Nat) : Int) - 1 = x + n by omega, e]
    simp
/-- What a round keeps for the iterator: the boxes from n0 up to n1. -/
def KpT (n0 n1 : Nat) (A B : World) : Prop := A.heap.size ≤ B.heap.size ∧ ∀ b, n0 ≤ b → b < n1 → B.heap[b]? = A.heap[b]?
theorem KpT.trans {n0 n1 : Nat} {A B C : World} (h : KpT n0 n1 A B) (k : KpT n0 n1 B C) : KpT n0 n1 A C := ⟨Nat.le_trans h.1 k.1, fun b h1 h2 => (k.2 b h1 h2).trans (h.2 b h1 h2)⟩
theorem KpT.below {n0 n1 : Nat} {A B : World} (hn : n1 ≤ A.heap.size) (hb : Below A.heap.size A B) : KpT n0 n1 A B := ⟨hb.size, fun b h1 h2 => hb.block b (by omega)⟩
def OkKey (k : Ky) (args : Array Value) (_ : World) : Prop := args = #[.int .i64 k.2, .int .i64 k.1]

/-- Rows done, columns done. -/
def preR (W H S : Int) (t : R4) (r : Int) : List Ky := (irange (t.y0 / H) (r - 1)).flatMap (colsR W H S t)
def preC (W S : Int) (t : R4) (r c : Int) : List Ky := (irange ((t.x0 - shiftI W S r) / W) (c - 1)).map fun col => (r, col)
theorem preR_next {W H S : Int} {t : R4} {r : Int} (h : t.y0 / H ≤ r) : preR W H S t (r + 1) = preR W H S t r ++ colsR W H S t r := by
  unfold preR
  rw [show r + 1 - 1 = r by omega, irange_snoc h]
  simp
theorem preC_next {W S : Int} {t : R4} {r c : Int} (h : (t.x0 - shiftI W S r) / W ≤ c) : preC W S t r (c + 1) = preC W S t r c ++ [(r, c)] := by
  unfold preC
  rw [show c + 1 - 1 = c by omega, irange_snoc h]
  simp
theorem pre_at {W H S : Int} {t : R4} {r c : Int} (h1 : t.y0 / H ≤ r) (h2 : r ≤ (t.y1 - 1) / H) (h3 : (t.x0 - shiftI W S r) / W ≤ c) (h4 : c ≤ (t.x1 - 1 - shiftI W S r) / W) :
    ∃ post, keysR W H S t = (preR W H S t r ++ preC W S t r c) ++ (r, c) :: post := by
  obtain ⟨p1, e1⟩ := irange_at h1 h2
  obtain ⟨p2, e2⟩ := irange_at h3 h4
  refine ⟨(p2.map fun col => (r, col)) ++ p1.flatMap (colsR W H S t), ?_⟩
  unfold keysR
  rw [e1]
  simp only [List.flatMap_append, List.flatMap_cons]
  rw [show colsR W H S t r = preC W S t r c ++ (r, c) :: p2.map fun col => (r, col) by unfold colsR preC; rw [e2]; simp]
  simp [preR]
theorem preC_all {W H S : Int} {t : R4} {r c : Int} (h : c = (t.x1 - 1 - shiftI W S r) / W + 1) : preC W S t r c = colsR W H S t r := by
  subst h
  unfold preC colsR
  rw [show (t.x1 - 1 - shiftI W S r) / W + 1 - 1 = (t.x1 - 1 - shiftI W S r) / W by omega]
theorem preR_all {W H S : Int} {t : R4} {r : Int} (h : r = (t.y1 - 1) / H + 1) : preR W H S t r = keysR W H S t := by
  subst h
  unfold preR keysR
  rw [show (t.y1 - 1) / H + 1 - 1 = (t.y1 - 1) / H by omega]

set_option maxRecDepth 100000 in
set_option maxHeartbeats 4000000 in
theorem bricksIt (W H S x0 y0 x1 y1 : Int) (bR bP n0 n1 : Nat) (w0 : World) (hp : okPat W H S) (hv : valid4 ⟨x0, y0, x1, y1⟩) (hR1 : n0 ≤ bR) (hR2 : bR < n1) (hP1 : n0 ≤ bP) (hP2 : bP < n1) (hn : n1 ≤ w0.heap.size)
    (r0 : w0.cell? ⟨bR, 0, none⟩ = some (.int .i64 x0)) (r1 : w0.cell? ⟨bR, 1, none⟩ = some (.int .i64 y0)) (r2 : w0.cell? ⟨bR, 2, none⟩ = some (.int .i64 x1)) (r3 : w0.cell? ⟨bR, 3, none⟩ = some (.int .i64 y1))
    (p0 : w0.cell? ⟨bP, 0, none⟩ = some (.int .i64 W)) (p1 : w0.cell? ⟨bP, 1, none⟩ = some (.int .i64 H)) (p2 : w0.cell? ⟨bP, 2, none⟩ = some (.int .i64 S)) :
    Iter Tryz.prog 62 #[.pointer (some ⟨bR, 0, none⟩), .pointer (some ⟨bP, 0, none⟩)] (keysR W H S ⟨x0, y0, x1, y1⟩) OkKey (KpT n0 n1) w0 := by
  intro l J Jx W1 hW hJ hY h0
  refine callsIn_of_wp Tryz.func62 rfl trivial ?_
  simp only [Tryz.ntmps62, List.size_toArray, List.length_cons, List.length_nil, Nat.reduceAdd, Nat.reduceSub, Array.replicate_succ, Array.replicate_zero, List.push_toArray, List.append_toArray, List.nil_append, List.cons_append]
  obtain ⟨v1, v2, v3, v4, v5, v6⟩ := hv
  unfold fineP at v3 v4 v5 v6
  simp only at v1 v2 v3 v4 v5 v6
  obtain ⟨q1, q2, q3, q4, q5, q6⟩ := id hp
  have HY := hide hY
  have HJ := hide hJ
  have hp' := hp
  have hw := hW.size
  have a0 := (hW.cell (p := ⟨bR, 0, none⟩) (by show bR < _; omega)).trans r0
  have a1 := (hW.cell (p := ⟨bR, 1, none⟩) (by show bR < _; omega)).trans r1
  have a3 := (hW.cell (p := ⟨bR, 3, none⟩) (by show bR < _; omega)).trans r3
  have b1 := (hW.cell (p := ⟨bP, 1, none⟩) (by show bP < _; omega)).trans p1
  have hlo := ediv_bd y0 H 1000000 q3 (by omega) (by omega) (by omega)
  have hhi := ediv_bd (y1 - 1) H 1000001 q3 (by omega) (by omega) (by omega)
  have hhi2 := ediv_bd y1 H 1000000 q3 (by omega) (by omega) (by omega)
  have hhi3 : (y1 - 1) / H ≤ y1 / H := Int.ediv_le_ediv (by omega) (by omega)
  have hlh : y0 / H ≤ (y1 - 1) / H := Int.ediv_le_ediv (by omega) (by omega)
  have hJ0 := hide h0
  have HW := hide hW
  clear hY hJ h0 hW
  gi_wp2_with (first
    | (refine ⟨trivial, rfl, ?_⟩)
    | (gi_at_call 33; refine (callsIn_wide.2 (split_any _ _ _ q3 q4 (by omega) (by omega))).mono ?_; rintro e w2 ⟨rfl, hb2⟩; first
        | (have hs2 := hb2.size; have a3' := (hb2.cell (p := ⟨bR, 3, none⟩) (by show bR < _; omega)).trans a3; have b1' := (hb2.cell (p := ⟨bP, 1, none⟩) (by show bP < _; omega)).trans b1; have HB2 := hide hb2; clear hb2 a0 a1 a3 b1)
        | (have hs3 := hb2.size; have HB3 := hide hb2; clear hb2)))
  rename_i wA
  have hbB : Below W1.heap.size W1 w2 := HB2.out.trans (HB3.out.mono hs2)
  have hC0 : Hid (∀ b, n0 ≤ b → b < n1 → w2.heap[b]? = w0.heap[b]?) := hide fun b _ h2 => ((hbB.block b (by omega)).trans (HW.out.block b (by omega)))
  have hJB := hide (HJ.out _ _ _ hJ0.out hbB)
  have hsB : n1 ≤ w2.heap.size := by omega
  have hcol : ∀ r : Int, y0 / H ≤ r → r ≤ (y1 - 1) / H → -1000000 ≤ r ∧ r ≤ 1000000 := fun r h1 h2 => by omega
  clear HB2 HB3 hbB hs2 hs3 hw HW hJ0
  gi_loopw [8] (fun p wr => ∃ r : Int, y0 / H ≤ r ∧ r ≤ (y1 - 1) / H + 1 ∧ p = .int .i64 r ∧ Hid (J (preR W H S ⟨x0, y0, x1, y1⟩ r) wr) ∧ Hid (∀ b, n0 ≤ b → b < n1 → wr.heap[b]? = w0.heap[b]?) ∧ n1 ≤ wr.heap.size)
    (fun p _ => ((y1 - 1) / H + 1 - intOf p).toNat)
  case atStart => exact ⟨y0 / H, Int.le_refl _, by omega, rfl, hide (by unfold preR; rw [irange_nil (show y0 / H - 1 < y0 / H by omega)]; exact hJB.out), hC0, hsB⟩
  case round =>
    clear hC0 hJB hsB
    obtain ⟨r, hr1, hr2, rfl, HJr, HC, hsz⟩ := hrel
    by_cases hlt : r ≤ (y1 - 1) / H
    · obtain ⟨rb1, rb2⟩ := hcol r hr1 hlt
      have cl : ∀ {b o u}, n0 ≤ b → b < n1 → w0.cell? ⟨b, o, none⟩ = some u → wr.cell? ⟨b, o, none⟩ = some u := fun {b o u} h1 h2 e => (World.cell?_of_block (w := w0) (HC.out b h1 h2)).trans e
      have a0 := cl hR1 hR2 r0
      have a2 := cl hR1 hR2 r2
      have b0 := cl hP1 hP2 p0
      have b1 := cl hP1 hP2 p1
      have b2 := cl hP1 hP2 p2
      have hsf := shiftI_bd hp' r
      have hfl : (x0 - shiftI W S r) / W ≤ (x1 - 1 - shiftI W S r) / W := Int.ediv_le_ediv (by omega) (by omega)
      have hf1 := ediv_bd (x0 - shiftI W S r) W 1001000 q1 (by omega) (by omega) (by omega)
      have hf2 := ediv_bd (x1 - 1 - shiftI W S r) W 1001000 q1 (by omega) (by omega) (by omega)
      clear cl
      gi_wp2
      refine wpIn_wide.2 ?_
      have h5 : bR < wr.heap.size := by omega
      have h6 : bP < wr.heap.size := by omega
      have sh := fun w => shift_any W H S r w hp' rb1 rb2
      have s1 := fun w => split_any (x0 - shiftI W S r) W w q1 q2 (by omega) (by omega)
      have s2 := fun w => split_any (x1 - 1 - shiftI W S r) W w q1 q2 (by omega) (by omega)
      obtain ⟨s, hsE⟩ : ∃ s, s = shiftI W S r := ⟨_, rfl⟩
      rw [← hsE] at hsf hfl hf1 hf2 sh s1 s2
      obtain ⟨f, hfE⟩ : ∃ f, f = (x0 - s) / W := ⟨_, rfl⟩
      obtain ⟨g, hgE⟩ : ∃ g, g = (x1 - 1 - s) / W := ⟨_, rfl⟩
      rw [← hfE] at hfl hf1 s1
      rw [← hgE] at hfl hf2 s2
      have HSE := hide hsE
      have HFE := hide hfE
      have HGE := hide hgE
      clear hsE hfE hgE
      refine wp_hab fun hab => ?_
      refine wp_region_above (by kernel_rfl) (by kernel_rfl) ?_
      repeat (go_big_quiet_step ((first | (go_at_call 34; exact above_of (sh _)) | (go_at_call 33; exact above_of (s1 _)))))
      refine wpQuiet_nil ?_
      refine above_ends fun w6 hb6 => ?_
      clear hab a0 b0 b1 b2 s1
      have hs6 := hb6.size
      have cl : ∀ {b o u}, n0 ≤ b → b < n1 → w0.cell? ⟨b, o, none⟩ = some u → w6.cell? ⟨b, o, none⟩ = some u := fun {b o u} h1 h2 e => (hb6.cell (p := ⟨b, o, none⟩) (by show b < _; omega)).trans ((World.cell?_of_block (w := w0) (HC.out b h1 h2)).trans e)
      have a2 := cl hR1 hR2 r2
      have b0 := cl hP1 hP2 p0
      have b1 := cl hP1 hP2 p1
      have b2 := cl hP1 hP2 p2
      have h7 : bR < w6.heap.size := by omega
      have h8 : bP < w6.heap.size := by omega
      have HB6 := hide hb6
      clear cl hb6
      gi_wp2
      refine wpIn_wide.2 ?_
      refine wp_hab fun hab => ?_
      refine wp_region_above (by kernel_rfl) (by kernel_rfl) ?_
      repeat (go_big_quiet_step ((first | (go_at_call 34; exact above_of (sh _)) | (go_at_call 33; exact above_of (s2 _)))))
      refine wpQuiet_nil ?_
      refine above_ends fun w7 hb7 => ?_
      have hs7 := hb7.size
      have hJ7 := hide (HJ.out _ _ _ HJr.out (HB6.out.trans (hb7.mono hs6)))
      have hC7 : Hid (∀ b, n0 ≤ b → b < n1 → w7.heap[b]? = w0.heap[b]?) := hide fun b h1 h2 => (hb7.block b (by omega)).trans ((HB6.out.block b (by omega)).trans (HC.out b h1 h2))
      clear hab a2 b0 b1 b2 sh s2 hb7 HB6 HJr HC h5 h6 h7 h8
      gi_wp2
      gi_loopw [13] (fun p wr => ∃ c : Int, f ≤ c ∧ c ≤ g + 1 ∧ p = .int .i64 c ∧ Hid (J (preR W H S ⟨x0, y0, x1, y1⟩ r ++ preC W S ⟨x0, y0, x1, y1⟩ r c) wr) ∧ Hid (∀ b, n0 ≤ b → b < n1 → wr.heap[b]? = w0.heap[b]?) ∧ n1 ≤ wr.heap.size)
        (fun p _ => (g + 1 - intOf p).toNat)
      case atStart => exact ⟨f, Int.le_refl _, by omega, rfl, hide (by unfold preC; rw [← HSE.out, ← HFE.out, irange_nil (show f - 1 < f by omega)]; simpa using hJ7.out), hC7, by omega⟩
      case round =>
        clear hC7 hJ7 hsz hs6 hs7
        obtain ⟨c, hc1, hc2, rfl, HJc, HC, hsz⟩ := hrel
        by_cases hcl : c ≤ g
        · have hpost := pre_at (W := W) (H := H) (S := S) (t := ⟨x0, y0, x1, y1⟩) (r := r) (c := c) hr1 hlt (by rw [← HSE.out, ← HFE.out]; exact hc1) (by rw [← HSE.out, ← HGE.out]; exact hcl)
          obtain ⟨fn, tmps, assign, body, hy, hR⟩ := HY.out _ (r, c) #[.int .i64 c, .int .i64 r] wr HJc.out hpost rfl
          have HNX := hide (preC_next (W := W) (S := S) (t := ⟨x0, y0, x1, y1⟩) (r := r) (c := c) (by rw [← HSE.out, ← HFE.out]; exact hc1))
          clear hpost HJc HY HJ hcol
          gi_wp2
          refine ⟨rfl, hR.mono ?_⟩
          rintro e W3 (⟨rfl, hJ3, hk3⟩ | ⟨rfl, hJx3⟩)
          · have HJ3 := hide hJ3
            have HK3 := hide hk3
            clear hJ3 hk3 hR
            gi_wp2
            go_roundw
            case rel =>
              refine ⟨c + 1, by omega, by omega, by go_num, hide (by rw [HNX.out, ← List.append_assoc]; exact HJ3.out), hide fun b h1 h2 => (HK3.out.2 b h1 h2).trans (HC.out b h1 h2), ?_⟩
              have := HK3.out.1
              omega
            case measure => simp [intOf]; omega
          · have HJx := hide hJx3
            clear hJx3 hR
            gi_wp2
            refine bodyPost_ret (results_none rfl _ _ _) rfl ?_
            exact ⟨⟨_, rfl⟩, .inr ⟨_, HJx.out⟩⟩
        · have hcl' : ¬ c ≤ g := hcl
          have hce : c = g + 1 := by omega
          have HAL := hide (preC_all (W := W) (H := H) (S := S) (t := ⟨x0, y0, x1, y1⟩) (r := r) (c := c) (by rw [← HSE.out, ← HGE.out]; exact hce))
          have HNR := hide (preR_next (W := W) (H := H) (S := S) (t := ⟨x0, y0, x1, y1⟩) (r := r) hr1)
          clear HY HJ hcol hce
          gi_wp2
          go_roundw
          case rel => exact ⟨r + 1, by omega, by omega, by go_num, hide (by rw [HNR.out, ← HAL.out]; exact HJc.out), HC, hsz⟩
          case measure => simp [intOf]; omega
    · have hre : r = (y1 - 1) / H + 1 := by omega
      have HAL := hide (preR_all (W := W) (H := H) (S := S) (t := ⟨x0, y0, x1, y1⟩) (r := r) hre)
      clear HY HJ hcol hre
      gi_wp2
      go_end0
      exact ⟨⟨_, rfl⟩, .inl (by have := HJr.out; rw [HAL.out] at this; exact this)⟩
/-- What bricks hands back: its iterator over two boxes of its own. -/
def BrickRet (W H S x0 y0 x1 y1 : Int) (w : World) (e : Ending) (w' : World) : Prop :=
  e = .returned (.func (.func 62) #[] #[.pointer (some ⟨w.heap.size + 1, 0, none⟩), .pointer (some ⟨w.heap.size, 0, none⟩)]) ∧ Below w.heap.size w w' ∧ w'.heap.size = w.heap.size + 2 ∧
    (w'.cell? ⟨w.heap.size + 1, 0, none⟩ = some (.int .i64 x0) ∧ w'.cell? ⟨w.heap.size + 1, 1, none⟩ = some (.int .i64 y0) ∧ w'.cell? ⟨w.heap.size + 1, 2, none⟩ = some (.int .i64 x1) ∧ w'.cell? ⟨w.heap.size + 1, 3, none⟩ = some (.int .i64 y1)) ∧
    w'.cell? ⟨w.heap.size, 0, none⟩ = some (.int .i64 W) ∧ w'.cell? ⟨w.heap.size, 1, none⟩ = some (.int .i64 H) ∧ w'.cell? ⟨w.heap.size, 2, none⟩ = some (.int .i64 S)
set_option maxHeartbeats 400000 in
theorem bricks_any (W H S x0 y0 x1 y1 : Int) (w : World) :
    Calls Tryz.prog 37 #[.agg #[.int .i64 W, .int .i64 H, .int .i64 S], .agg #[.int .i64 x0, .int .i64 y0, .int .i64 x1, .int .i64 y1]] w (BrickRet W H S x0 y0 x1 y1 w) := by
  go_enter Tryz.func37, Tryz.ntmps37
  go_wp2
  go_ret
  refine ⟨rfl, ((Below.refl _ _).alloc (Nat.le_refl _) _).alloc (by simp) _, by simp, ⟨?_, ?_, ?_, ?_⟩, ?_, ?_, ?_⟩ <;> simp [go_sem]
end Go.Proofs.YtlkaniojnaaocaaGreat

/- What texture.Tile keeps from round to round: its boxes, keys, groups, marks; and the pieces that come back. -/
namespace Go.Proofs.YtlkaniojnaaocaaGreat
open Go.RowKit
set_option linter.unusedVariables false
set_option linter.unusedSimpArgs false

theorem infoPc : (Tryz.prog.info? 54).map (fun i => (i.zero, i.size, i.bytes)) = some (some (.agg #[.int .i64 0, .int .i64 0, .slice none 0 0]), 3, 40) := by kernel_rfl
/-- The boxes. -/
structure TB (w : World) (W H S : Int) (bM : Nat) (wi : World) : Prop where
  low : Below w.heap.size w wi
  hb : w.heap.size + 3 ≤ bM
  p0 : wi.cell? ⟨w.heap.size, 0, none⟩ = some (.int .i64 W)
  p1 : wi.cell? ⟨w.heap.size, 1, none⟩ = some (.int .i64 H)
  p2 : wi.cell? ⟨w.heap.size, 2, none⟩ = some (.int .i64 S)
  c4 : ∃ u, wi.cell? ⟨w.heap.size + 1, 0, none⟩ = some u
  c5 : ∃ u, wi.cell? ⟨w.heap.size + 2, 0, none⟩ = some u
  f4 : wi.frozen? ⟨w.heap.size + 1, 0, none⟩ = false
  f5 : wi.frozen? ⟨w.heap.size + 2, 0, none⟩ = false
  c8 : wi.cell? ⟨bM + 1, 0, none⟩ = some (.map (some bM))
  f9 : wi.frozen? ⟨bM + 2, 0, none⟩ = false
  top : bM + 2 < wi.heap.size
theorem TB.step {w : World} {W H S : Int} {bM : Nat} {wi wj : World} (h : TB w W H S bM wi) {row : Option Nat} (hg : wi.grownBy wj row) (hr : ∀ q, row = some q → q = bM ∨ bM + 3 ≤ q) : TB w W H S bM wj := by
  have ht := h.top
  have hb := h.hb
  have bl : ∀ b, b < bM ∨ b = bM + 1 ∨ b = bM + 2 → wj.heap[b]? = wi.heap[b]? := fun b hlt => hg.block b (by omega) (fun e => by have := hr b e.symm; omega)
  have cl : ∀ b o, b < bM ∨ b = bM + 1 ∨ b = bM + 2 → wj.cell? ⟨b, o, none⟩ = wi.cell? ⟨b, o, none⟩ := fun b o hlt => World.cell?_of_block (bl b hlt)
  have fl : ∀ b o, b < bM ∨ b = bM + 1 ∨ b = bM + 2 → wj.frozen? ⟨b, o, none⟩ = wi.frozen? ⟨b, o, none⟩ := fun b o hlt => World.frozen?_of_block (bl b hlt)
  obtain ⟨u4, e4⟩ := h.c4
  obtain ⟨u5, e5⟩ := h.c5
  exact ⟨h.low.grown hg (by omega) (fun q hq => by have := hr q hq; omega), hb, (cl _ _ (by omega)).trans h.p0, (cl _ _ (by omega)).trans h.p1, (cl _ _ (by omega)).trans h.p2, ⟨u4, (cl _ _ (by omega)).trans e4⟩, ⟨u5, (cl _ _ (by omega)).trans e5⟩,
    (fl _ _ (by omega)).trans h.f4, (fl _ _ (by omega)).trans h.f5, (cl _ _ (by omega)).trans h.c8, (fl _ _ (by omega)).trans h.f9, Nat.lt_of_lt_of_le ht hg.size⟩
theorem grown_of_below {w w' : World} (hb : Below w.heap.size w w') : w.grownBy w' none := ⟨hb.os, hb.tape, hb.output, hb.size, fun k hk _ => hb.block k hk⟩
theorem TB.below {w : World} {W H S : Int} {bM : Nat} {wi wj : World} (h : TB w W H S bM wi) (hb : Below wi.heap.size wi wj) : TB w W H S bM wj := h.step (grown_of_below hb) (by simp)
theorem grown_setCell (w : World) (q o : Nat) (u : Value) : w.grownBy (w.setCell ⟨q, o, none⟩ u) (some q) := ⟨rfl, rfl, rfl, by simp, fun k _ hk => Below.heap_setCell _ _ _ _ (fun e => hk (by rw [e]))⟩
theorem TB.setKeys {w : World} {W H S : Int} {bM : Nat} {wi : World} (h : TB w W H S bM wi) (u : Value) : TB w W H S bM (wi.setCell ⟨bM + 2, 0, none⟩ u) := by
  have ht := h.top
  have hb := h.hb
  have hg := grown_setCell wi (bM + 2) 0 u
  have bl : ∀ b, b ≠ bM + 2 → b < wi.heap.size → (wi.setCell ⟨bM + 2, 0, none⟩ u).heap[b]? = wi.heap[b]? := fun b hlt hs => hg.block b hs (by simpa using hlt)
  have cl : ∀ b o, b ≠ bM + 2 → b < wi.heap.size → (wi.setCell ⟨bM + 2, 0, none⟩ u).cell? ⟨b, o, none⟩ = wi.cell? ⟨b, o, none⟩ := fun b o hlt hs => World.cell?_of_block (bl b hlt hs)
  have fl : ∀ b o, (wi.setCell ⟨bM + 2, 0, none⟩ u).frozen? ⟨b, o, none⟩ = wi.frozen? ⟨b, o, none⟩ := fun b o => World.frozen?_setCell _ _ _ _
  obtain ⟨u4, e4⟩ := h.c4
  obtain ⟨u5, e5⟩ := h.c5
  exact ⟨h.low.grown hg (by omega) (fun q hq => by injection hq; omega), hb, (cl _ _ (by omega) (by omega)).trans h.p0, (cl _ _ (by omega) (by omega)).trans h.p1, (cl _ _ (by omega) (by omega)).trans h.p2, ⟨u4, (cl _ _ (by omega) (by omega)).trans e4⟩, ⟨u5, (cl _ _ (by omega) (by omega)).trans e5⟩,
    (fl _ _).trans h.f4, (fl _ _).trans h.f5, (cl _ _ (by omega) (by omega)).trans h.c8, (fl _ _).trans h.f9, by simpa using ht⟩
/-- Keys and groups. -/
structure TK (bM n0 n1 : Nat) (KL K : List Ky) (p : Ky → List R4) (vals : Ky → Value) (Ak : Option Addr) (ck : Nat) (wi : World) : Prop where
  gs : Gs (bM + 3) bM n0 n1 K p vals wi
  cell : wi.cell? ⟨bM + 2, 0, none⟩ = some (.slice Ak KL.length ck)
  own : wi.ownsRow (bM + 3) 77 2 (.slice Ak KL.length ck) KL.length (KL.flatMap encK)
  gap : ∀ g, (Value.slice Ak KL.length ck).ownBlock = some g → (g < n0 ∨ n1 ≤ g)
  ap : ∀ g, (Value.slice Ak KL.length ck).ownBlock = some g → ∀ k ∈ K, (vals k).ownBlock ≠ some g
theorem TK.step {bM n0 n1 : Nat} {KL K : List Ky} {p : Ky → List R4} {vals : Ky → Value} {Ak : Option Addr} {ck : Nat} {wi wj : World} (h : TK bM n0 n1 KL K p vals Ak ck wi) {row : Option Nat} (hg : wi.grownBy wj row) (hr : ∀ q, row = some q → q ≠ bM ∧ q ≠ bM + 2 ∧ (∀ k ∈ K, (vals k).ownBlock ≠ some q) ∧ (Value.slice Ak KL.length ck).ownBlock ≠ some q) : TK bM n0 n1 KL K p vals Ak ck wj := by
  refine ⟨h.gs.grown hg (fun e => (hr bM e.symm).1 rfl) (fun k hk e => ?_), ?_, h.own.kept hg ?_, h.gap, h.ap⟩
  · cases row with
    | none => exact h.gs.someB hk e
    | some q => exact (hr q rfl).2.2.1 k hk e
  · exact hg.cell h.cell (fun e => (hr (bM + 2) e.symm).2.1 rfl)
  · cases row with
    | none =>
      cases hv : (Value.slice Ak KL.length ck).ownBlock with
      | none => exact .inl rfl
      | some g => exact .inr (by simp)
    | some q => exact .inr ((hr q rfl).2.2.2)
theorem TK.below {bM n0 n1 : Nat} {KL K : List Ky} {p : Ky → List R4} {vals : Ky → Value} {Ak : Option Addr} {ck : Nat} {wi wj : World} (h : TK bM n0 n1 KL K p vals Ak ck wi) (hb : Below wi.heap.size wi wj) : TK bM n0 n1 KL K p vals Ak ck wj := h.step (grown_of_below hb) (by simp)
theorem TK.regap {bM n0 n1 : Nat} {KL K : List Ky} {p : Ky → List R4} {vals : Ky → Value} {Ak : Option Addr} {ck : Nat} {wi : World} (h : TK bM n0 n1 KL K p vals Ak ck wi) {m0 m1 : Nat} (hm : wi.heap.size ≤ m0) : TK bM m0 m1 KL K p vals Ak ck wi :=
  ⟨h.gs.gap hm, h.cell, h.own, fun g hg => .inl (Nat.lt_of_lt_of_le (h.own.lt g hg).2 hm), h.ap⟩
theorem TK.same {bM n0 n1 : Nat} {KL K : List Ky} {p q : Ky → List R4} {vals : Ky → Value} {Ak : Option Addr} {ck : Nat} {wi : World} (h : TK bM n0 n1 KL K p vals Ak ck wi) (e : ∀ k, p k = q k) : TK bM n0 n1 KL K q vals Ak ck wi := by
  obtain rfl : p = q := funext e
  exact h
/-- A block that holds no cells, and is not the map, is none of theirs. -/
theorem TK.other {bM n0 n1 : Nat} {KL K : List Ky} {p : Ky → List R4} {vals : Ky → Value} {Ak : Option Addr} {ck : Nat} {wi wj : World} (h : TK bM n0 n1 KL K p vals Ak ck wi) {l : Nat} {o : Obj} (hg : wi.grownBy wj (some l)) (hl : wi.heap[l]? = some o) (ho : o.isCells = false) (hn : bM < l) : TK bM n0 n1 KL K p vals Ak ck wj := by
  refine h.step hg fun q hq => ?_
  injection hq with hq
  subst hq
  refine ⟨by omega, fun e => ?_, fun k hk e => ?_, fun e => ?_⟩
  · subst e
    obtain ⟨ob, h1, h2⟩ := cells_of_cell h.cell
    rw [hl] at h1
    injection h1 with h1
    subst h1
    rw [ho] at h2; cases h2
  · obtain ⟨_, _, _, _, hrow⟩ := h.gs.vs k hk
    have := own_cells hrow l o e hl
    rw [ho] at this; cases this
  · have := own_cells h.own l o e hl
    rw [ho] at this; cases this
/-- The marks of the loops over iterators that are done. -/
def mark (D : Nat) : Deferred := { target := .collected D, args := #[] }
def Mks (n : Nat) (ms : List Nat) (w : World) : Prop := ms.Nodup ∧ ∀ D ∈ ms, n ≤ D ∧ w.heap[D]? = some (.deferred (some []))
theorem Mks.step {n : Nat} {ms : List Nat} {w w' : World} (h : Mks n ms w) {row : Option Nat} (hg : w.grownBy w' row) (hr : ∀ q, row = some q → q < n ∨ ∃ o, w.heap[q]? = some o ∧ ∀ x, o ≠ .deferred x) : Mks n ms w' :=
  ⟨h.1, fun D hD => by
    obtain ⟨h1, h2⟩ := h.2 D hD
    refine ⟨h1, (hg.block D (Array.getElem?_eq_some_iff.1 h2).1 (fun e => ?_)).trans h2⟩
    rcases hr D e.symm with h3 | ⟨o, h3, h4⟩
    · omega
    · rw [h2] at h3
      injection h3 with h3
      exact h4 _ h3.symm⟩
theorem Mks.below {n : Nat} {ms : List Nat} {w w' : World} (h : Mks n ms w) (hb : Below w.heap.size w w') : Mks n ms w' := h.step (grown_of_below hb) (by simp)
theorem Mks.lt {n : Nat} {ms : List Nat} {w : World} (h : Mks n ms w) : ∀ D ∈ ms, D < w.heap.size := fun D hD => (Array.getElem?_eq_some_iff.1 (h.2 D hD).2).1
theorem Mks.putObj {n : Nat} {ms : List Nat} {w : World} (h : Mks n ms w) {l : Nat} (hl : ∀ D ∈ ms, D < l) (o : Obj) : Mks n ms (w.putObj l o) :=
  ⟨h.1, fun D hD => ⟨(h.2 D hD).1, (World.putObj_heap_other (by have := hl D hD; omega)).trans (h.2 D hD).2⟩⟩
theorem Mks.row {n : Nat} {ms : List Nat} {w w' : World} (h : Mks n ms w) {B : Nat} {t : TypeId} {s m : Nat} {v : Value} {xs : List Value} (ho : w.ownsRow B t s v m xs) (hg : w.grownBy w' v.ownBlock) : Mks n ms w' := by
  refine h.step hg fun q hq => .inr ?_
  rcases ho.2 with ⟨rfl, _⟩ | ⟨g, cap, cur, rfl, _, hh, _⟩
  · cases hq
  · have : g = q := by simpa [Value.ownBlock] using hq
    subst this
    exact ⟨_, hh, by simp⟩
/-- The marks taken off at the function's end. -/
structure Cleared (ms : List Nat) (w w' : World) : Prop where
  size : w'.heap.size = w.heap.size
  os : w'.os = w.os
  tape : w'.tape = w.tape
  output : w'.output = w.output
  block : ∀ b, b ∉ ms → w'.heap[b]? = w.heap[b]?
theorem leaves_marks {F : Fence} {n : Nat} {P : Program} {fn : Func} {tmps : Array Value} {R : Ending → World → Prop} : ∀ (ms : List Nat) (w : World), ms.Nodup → (∀ D ∈ ms, w.heap[D]? = some (.deferred (some []))) → (∀ w', Cleared ms w w' → LeavesIn F n P fn tmps R [] .returning w') → LeavesInM F n P fn tmps R (ms.map mark) .returning w
  | [], w, _, _, h => h w ⟨rfl, rfl, rfl, rfl, fun _ _ => rfl⟩
  | D :: ms, w, hn, hd, h => by
    obtain ⟨n1, n2⟩ := List.nodup_cons.1 hn
    refine ⟨by simp, .inl ⟨D, _, rfl, run_takeDeferred (hd D (by simp)), ?_⟩⟩
    refine leaves_marks ms _ n2 (fun D' hD' => (World.putObj_heap_other (fun e => n1 (by rw [← e]; exact hD'))).trans (hd D' (by simp [hD']))) fun w' hc => h w' ⟨by rw [hc.size]; simp, hc.os, hc.tape, hc.output, fun b hb => ?_⟩
    rw [hc.block b (fun h => hb (by simp [h]))]
    exact World.putObj_heap_other (fun e => hb (by simp [e]))
theorem Cleared.below {B n : Nat} {ms : List Nat} {w0 w w' : World} (h : Cleared ms w w') (hm : Mks n ms w) (hB : B ≤ n) (hb : Below B w0 w) : Below B w0 w' :=
  ⟨h.os.trans hb.os, h.tape.trans hb.tape, h.output.trans hb.output, by rw [h.size]; exact hb.size, fun k hk => (h.block k (fun hk2 => by have := (hm.2 k hk2).1; omega)).trans (hb.block k hk)⟩
theorem Cleared.cell {n : Nat} {ms : List Nat} {w w' : World} (h : Cleared ms w w') (hm : Mks n ms w) {b o : Nat} {u : Value} (hc : w.cell? ⟨b, o, none⟩ = some u) : w'.cell? ⟨b, o, none⟩ = some u := by
  refine (World.cell?_of_block (h.block b fun hk => ?_)).trans hc
  obtain ⟨ob, h1, h2⟩ := cells_of_cell hc
  rw [(hm.2 _ hk).2] at h1
  injection h1 with h1
  subst h1
  cases h2
theorem Cleared.own {n : Nat} {ms : List Nat} {w w' : World} (h : Cleared ms w w') (hm : Mks n ms w) {B : Nat} {t : TypeId} {s m : Nat} {v : Value} {xs : List Value} (ho : w.ownsRow B t s v m xs) : w'.ownsRow B t s v m xs := by
  refine ⟨ho.1, ?_⟩
  rcases ho.2 with hn | ⟨g, cap, cur, hv, hg, hh, r⟩
  · exact .inl hn
  · refine .inr ⟨g, cap, cur, hv, hg, (h.block g fun hk => ?_).trans hh, r⟩
    rw [(hm.2 _ hk).2] at hh
    cases hh
/-- The pieces. -/
def encP (q : Ky × Value) : List Value := [.int .i64 q.1.2, .int .i64 q.1.1, q.2]
structure Pcs (w : World) (vo : Value) (R : List (Ky × List R4)) (a : World) : Prop where
  low : Below w.heap.size w a
  o : ∃ L : List (Ky × Value), L.length = R.length ∧ a.ownsRow w.heap.size 54 3 vo R.length (L.flatMap encP) ∧ ∀ (i : Nat) (k : Ky) (r : List R4), R[i]? = some (k, r) → ∃ u, L[i]? = some (k, u) ∧ a.ownsRow w.heap.size 42 4 u r.length (r.flatMap encR)
def PcsRet (B : Nat) (x : List (Ky × List R4) × Int) (e : Ending) (w' : World) : Prop :=
  ∃ (A : Option Addr) (c : Nat) (L : List (Ky × Value)), e = .returned (.tuple #[.slice A x.1.length c, .int .i64 x.2]) ∧ L.length = x.1.length ∧ w'.ownsRow B 54 3 (.slice A x.1.length c) x.1.length (L.flatMap encP) ∧ ∀ (i : Nat) (k : Ky) (r : List R4), x.1[i]? = some (k, r) → ∃ u, L[i]? = some (k, u) ∧ w'.ownsRow B 42 4 u r.length (r.flatMap encR)
end Go.Proofs.YtlkaniojnaaocaaGreat

/- texture.Tile: how its state goes through the operations of a round. -/
namespace Go.Proofs.YtlkaniojnaaocaaGreat
open Go.RowKit
set_option linter.unusedVariables false
set_option linter.unusedSimpArgs false

theorem wpIn_name {c : Code} {F : Fence} {n : Nat} {P : Program} {Q : Exit → Act → World → Prop} {a : Act} {W : World} (h : ∀ w, w = W → c.wpIn F n P Q a w) : c.wpIn F n P Q a W := h W rfl
theorem results_cells2 {fn : Func} {p q : Tmp} (h : fn.results = #[.cell p 29, .cell q 30]) (tmps : Array Value) (w : World) (b4 b5 : Nat) (u v : Value) (hp : tmps.getD p undef = .pointer (some ⟨b4, 0, none⟩)) (hq : tmps.getD q undef = .pointer (some ⟨b5, 0, none⟩))
    (c4 : w.cell? ⟨b4, 0, none⟩ = some u) (c5 : w.cell? ⟨b5, 0, none⟩ = some v) : (results fn tmps).run Tryz.prog w = .ok (.tuple #[u, v]) w := by
  have hp' : tmps[p]?.getD undef = .pointer (some ⟨b4, 0, none⟩) := by simpa using hp
  have hq' : tmps[q]?.getD undef = .pointer (some ⟨b5, 0, none⟩) := by simpa using hq
  simp [results, h, hp', hq', asAddr, loadVar, Tryz.underlying29, Tryz.underlying30, go_sem, c4, c5]
theorem rects4_at {W wr : World} {l : List R4} {b o m : Nat} (hk : ∀ (j : Nat) (x : R4), l[j]? = some x → ∀ (i : Nat) (u : Value), (encR x)[i]? = some u → W.cell? ⟨b, o + j * 4 + i, none⟩ = some u) (hb : ∀ q, wr.cell? ⟨b, q, none⟩ = W.cell? ⟨b, q, none⟩) {p0 p1 p2 p3 : Int} (hp : l[m]? = some ⟨p0, p1, p2, p3⟩) :
    wr.cell? ⟨b, o + m * 4, none⟩ = some (.int .i64 p0) ∧ wr.cell? ⟨b, o + m * 4 + 1, none⟩ = some (.int .i64 p1) ∧ wr.cell? ⟨b, o + m * 4 + 2, none⟩ = some (.int .i64 p2) ∧ wr.cell? ⟨b, o + m * 4 + 3, none⟩ = some (.int .i64 p3) :=
  ⟨(hb _).trans (hk m _ hp 0 _ rfl), (hb _).trans (hk m _ hp 1 _ rfl), (hb _).trans (hk m _ hp 2 _ rfl), (hb _).trans (hk m _ hp 3 _ rfl)⟩
theorem nil_no (ad : Addr) (n c : Nat) (W : World) : Sem.run Tryz.prog (binOp BinOp.eql 46 (.slice (some ad) n c) (.slice none 0 0)) W = .ok (.bool false) W := by kernel_rfl
theorem nil_yes (W : World) : Sem.run Tryz.prog (binOp BinOp.eql 46 (.slice none 0 0) (.slice none 0 0)) W = .ok (.bool true) W := by kernel_rfl
/-- The boxes ahead of the map. -/
structure T0 (w : World) (W H S : Int) (wi : World) : Prop where
  low : Below w.heap.size w wi
  hb : w.heap.size + 3 ≤ wi.heap.size
  p0 : wi.cell? ⟨w.heap.size, 0, none⟩ = some (.int .i64 W)
  p1 : wi.cell? ⟨w.heap.size, 1, none⟩ = some (.int .i64 H)
  p2 : wi.cell? ⟨w.heap.size, 2, none⟩ = some (.int .i64 S)
  c4 : ∃ u, wi.cell? ⟨w.heap.size + 1, 0, none⟩ = some u
  c5 : ∃ u, wi.cell? ⟨w.heap.size + 2, 0, none⟩ = some u
  f4 : wi.frozen? ⟨w.heap.size + 1, 0, none⟩ = false
  f5 : wi.frozen? ⟨w.heap.size + 2, 0, none⟩ = false
theorem T0.start (w : World) (W H S : Int) : T0 w W H S (((w.alloc (.cells #[.int .i64 W, .int .i64 H, .int .i64 S] 27)).alloc (.cells #[.slice none 0 0] 29)).alloc (.cells #[.int .i64 0] 30)) := by
  refine ⟨(((Below.refl _ _).alloc (Nat.le_refl _) _).alloc (by simp) _).alloc (by simp; omega) _, by simp, ?_, ?_, ?_, ⟨.slice none 0 0, ?_⟩, ⟨.int .i64 0, ?_⟩, ?_, ?_⟩ <;> simp [go_sem]
theorem T0.below {w : World} {W H S : Int} {wi wj : World} (h : T0 w W H S wi) (hb : Below wi.heap.size wi wj) : T0 w W H S wj := by
  have h3 := h.hb
  obtain ⟨u4, e4⟩ := h.c4
  obtain ⟨u5, e5⟩ := h.c5
  have cl : ∀ b o u, b < wi.heap.size → wi.cell? ⟨b, o, none⟩ = some u → wj.cell? ⟨b, o, none⟩ = some u := fun b o u hlt e => (hb.cell (p := ⟨b, o, none⟩) hlt).trans e
  exact ⟨h.low.trans (hb.mono (by omega)), Nat.le_trans h3 hb.size, cl _ _ _ (by omega) h.p0, cl _ _ _ (by omega) h.p1, cl _ _ _ (by omega) h.p2, ⟨u4, cl _ _ _ (by omega) e4⟩, ⟨u5, cl _ _ _ (by omega) e5⟩,
    (hb.frozen (p := ⟨_, 0, none⟩) (by show w.heap.size + 1 < _; omega)).trans h.f4, (hb.frozen (p := ⟨_, 0, none⟩) (by show w.heap.size + 2 < _; omega)).trans h.f5⟩
/-- What is stored at the end. -/
theorem T0.ret {w : World} {W H S : Int} {wi : World} (h : T0 w W H S wi) (u v : Value) :
    ((wi.setCell ⟨w.heap.size + 1, 0, none⟩ u).setCell ⟨w.heap.size + 2, 0, none⟩ v).cell? ⟨w.heap.size + 1, 0, none⟩ = some u ∧ ((wi.setCell ⟨w.heap.size + 1, 0, none⟩ u).setCell ⟨w.heap.size + 2, 0, none⟩ v).cell? ⟨w.heap.size + 2, 0, none⟩ = some v ∧
    Below w.heap.size w ((wi.setCell ⟨w.heap.size + 1, 0, none⟩ u).setCell ⟨w.heap.size + 2, 0, none⟩ v) := by
  obtain ⟨u4, e4⟩ := h.c4
  obtain ⟨u5, e5⟩ := h.c5
  exact ⟨by simp [go_sem, e4], by simp [go_sem, e5], (h.low.setCell (p := ⟨_, 0, none⟩) (Nat.le_succ _) _).setCell (p := ⟨_, 0, none⟩) (by show w.heap.size ≤ w.heap.size + 2; omega) _⟩
theorem T0.map {w : World} {W H S : Int} {wi : World} (h : T0 w W H S wi) : TB w W H S wi.heap.size (((wi.alloc (.map #[] 0)).alloc (.cells #[.map (some wi.heap.size)] 73)).alloc (.cells #[.slice none 0 0] 74)) := by
  have hb : Below wi.heap.size wi (((wi.alloc (.map #[] 0)).alloc (.cells #[.map (some wi.heap.size)] 73)).alloc (.cells #[.slice none 0 0] 74)) := (((Below.refl _ _).alloc (Nat.le_refl _) _).alloc (by simp) _).alloc (by simp; omega) _
  have g := h.below hb
  exact ⟨g.low, h.hb, g.p0, g.p1, g.p2, g.c4, g.c5, g.f4, g.f5, by simp [go_sem], by simp [go_sem], by simp⟩
theorem TB.t0 {w : World} {W H S : Int} {bM : Nat} {wi : World} (h : TB w W H S bM wi) : T0 w W H S wi := ⟨h.low, by have := h.hb; have := h.top; omega, h.p0, h.p1, h.p2, h.c4, h.c5, h.f4, h.f5⟩
theorem TK.start (w : World) (n0 n1 : Nat) (p : Ky → List R4) (vals : Ky → Value) (t1 t2 : TypeId) : TK w.heap.size n0 n1 [] [] p vals none 0 (((w.alloc (.map #[] 0)).alloc (.cells #[.map (some w.heap.size)] t1)).alloc (.cells #[.slice none 0 0] t2)) :=
  ⟨((Gs.made w _ n0 n1 p vals).below ((Below.refl _ _).alloc (Nat.le_refl _) _)).below ((Below.refl _ _).alloc (Nat.le_refl _) _), by simp [go_sem], World.ownsRow_nil _ _ _ _, fun g hg => (by cases hg), fun g hg => (by cases hg)⟩
theorem TK.pushKey {bM n0 n1 : Nat} {KL K : List Ky} {p : Ky → List R4} {vals : Ky → Value} {Ak : Option Addr} {ck : Nat} {wi w9 : World} (h : TK bM n0 n1 KL K p vals Ak ck wi) {k : Ky} {g c : Nat} (hg : wi.grownBy w9 (Value.slice Ak KL.length ck).ownBlock) (hloc : (Value.slice Ak KL.length ck).ownBlock = some g ∨ wi.heap.size ≤ g)
    (hown : w9.ownsRow (bM + 3) 77 2 (.slice (some ⟨g, 0, none⟩) (KL.length + 1) c) (KL.length + 1) ((KL ++ [k]).flatMap encK)) (hn1 : n1 ≤ wi.heap.size) (hb : bM + 2 < wi.heap.size) :
    w9.cell? ⟨bM + 2, 0, none⟩ = some (.slice Ak KL.length ck) ∧ TK bM n0 n1 (KL ++ [k]) K p vals (some ⟨g, 0, none⟩) c (w9.setCell ⟨bM + 2, 0, none⟩ (.slice (some ⟨g, 0, none⟩) (KL.length + 1) c)) := by
  have hk9 : some (bM + 2) ≠ (Value.slice Ak KL.length ck).ownBlock := fun e => by have := (h.own.lt _ e.symm).1; omega
  have hkM : some bM ≠ (Value.slice Ak KL.length ck).ownBlock := fun e => by have := (h.own.lt _ e.symm).1; omega
  have c9 := hg.cell h.cell hk9
  have hv : ∀ q ∈ K, (vals q).ownBlock ≠ (Value.slice Ak KL.length ck).ownBlock := fun q hq e => by
    cases hv : (Value.slice Ak KL.length ck).ownBlock with
    | none => rw [hv] at e; exact h.gs.someB hq e
    | some x => rw [hv] at e; exact h.ap x hv q hq e
  have hle : (KL ++ [k]).length = KL.length + 1 := by simp
  have hg9 : (Value.slice (some ⟨g, 0, none⟩) (KL.length + 1) c).ownBlock ≠ some (bM + 2) := fun e => by
    have e2 : g = bM + 2 := by simpa [Value.ownBlock] using e
    have := (hown.lt g rfl).1
    omega
  refine ⟨c9, ⟨(h.gs.grown hg hkM hv).setCell 0 _ (by omega) (fun q hq e => by have := (h.gs.lt hq e).1; omega), by rw [hle]; simp [go_sem, c9], by rw [hle]; exact hown.kept (grown_setCell _ _ _ _) (.inr hg9), ?_, ?_⟩⟩
  · intro q hq
    have e2 : g = q := by simpa [Value.ownBlock] using hq
    subst e2
    rcases hloc with hl | hl
    · exact h.gap g hl
    · exact .inr (by omega)
  · intro q hq k' hk' e
    have e2 : g = q := by simpa [Value.ownBlock] using hq
    subst e2
    rcases hloc with hl | hl
    · exact h.ap g hl k' hk' e
    · have := (h.gs.lt hk' e).2; omega
theorem TK.gvne {bM n0 n1 : Nat} {KL K : List Ky} {p : Ky → List R4} {vals : Ky → Value} {Ak : Option Addr} {ck : Nat} {wi : World} (h : TK bM n0 n1 KL K p vals Ak ck wi) (k : Ky) {g : Nat} (hg : (gv K vals k).ownBlock = some g) : bM + 3 ≤ g ∧ g < wi.heap.size ∧ (g < n0 ∨ n1 ≤ g) ∧ (Value.slice Ak KL.length ck).ownBlock ≠ some g ∧ ∃ o, wi.heap[g]? = some o ∧ o.isCells = true := by
  unfold gv at hg
  split at hg
  · rename_i hk
    obtain ⟨g', c, e, hgap, hr⟩ := h.gs.vs k hk
    have e2 : g' = g := by rw [e] at hg; simpa [Value.ownBlock] using hg
    subst e2
    have hlt := hr.lt g' hg
    refine ⟨hlt.1, hlt.2, hgap, fun e => h.ap g' e k hk hg, ?_⟩
    rcases hr.2 with ⟨e0, _⟩ | ⟨q, cap, cur, e0, _, hh, _⟩
    · rw [e] at e0; cases e0
    · rw [e] at e0
      injection e0 with e1
      injection e1 with e1
      injection e1 with e1
      subst e1
      exact ⟨_, hh, rfl⟩
  · cases hg
theorem TK.stored {bM n0 n1 : Nat} {KL K : List Ky} {p p' : Ky → List R4} {vals vals' : Ky → Value} {Ak : Option Addr} {ck : Nat} {w w1 w2 w3 : World} {k : Ky} {g c n : Nat} (h : TK bM n0 n1 KL K p vals Ak ck w) (g1 : w.grownBy w1 (some bM)) (g2 : w1.grownBy w2 (gv K vals k).ownBlock) (g3 : w2.grownBy w3 (some bM)) (hs : w1.heap.size = w.heap.size)
    (hloc : (gv K vals k).ownBlock = some g ∨ w1.heap.size ≤ g) (hv : ∀ k', vals' k' = if k' = k then .slice (some ⟨g, 0, none⟩) n c else vals k') (hgs : Gs (bM + 3) bM n0 n1 (addK K k) p' vals' w3) : TK bM n0 n1 KL (addK K k) p' vals' Ak ck w3 := by
  have hkb : ∀ x, (Value.slice Ak KL.length ck).ownBlock = some x → bM + 3 ≤ x := fun x hx => (h.own.lt x hx).1
  have own1 : ∀ {wa wb : World} {q : Nat}, wa.ownsRow (bM + 3) 77 2 (.slice Ak KL.length ck) KL.length (KL.flatMap encK) → wa.grownBy wb (some q) → q < bM + 3 → wb.ownsRow (bM + 3) 77 2 (.slice Ak KL.length ck) KL.length (KL.flatMap encK) := fun {wa wb q} ho hg hq => ho.kept hg (.inr fun e => by have := hkb q e; omega)
  have o1 := own1 h.own g1 (by omega)
  have o2 : w2.ownsRow (bM + 3) 77 2 (.slice Ak KL.length ck) KL.length (KL.flatMap encK) := o1.kept g2 (by
    cases hv : (Value.slice Ak KL.length ck).ownBlock with
    | none => exact .inl rfl
    | some x =>
      right
      intro e
      exact (h.gvne k e.symm).2.2.2.1 hv)
  have o3 := own1 o2 g3 (by omega)
  have c1 := g1.cell h.cell (show some (bM + 2) ≠ some bM by simp)
  have c2 := g2.cell c1 (show some (bM + 2) ≠ _ from fun e => by have := (h.gvne k e.symm).1; omega)
  have c3 := g3.cell c2 (show some (bM + 2) ≠ some bM by simp)
  refine ⟨hgs, c3, o3, h.gap, fun x hx k' hk' => ?_⟩
  rw [hv]
  by_cases e : k' = k
  · subst e
    rw [if_pos rfl]
    intro e
    have e2 : g = x := by simpa [Value.ownBlock] using e
    subst e2
    rcases hloc with hl | hl
    · exact (h.gvne k' hl).2.2.2.1 hx
    · have := (h.own.lt g hx).2; omega
  · rw [if_neg e]
    unfold addK at hk'
    split at hk'
    · exact h.ap x hx k' hk'
    · rcases List.mem_append.1 hk' with h1 | h1
      · exact h.ap x hx k' h1
      · rw [List.mem_singleton] at h1; exact absurd h1 e
/-- What a round may change, for the iterator and for the records. -/
theorem KpT.step {n0 n1 : Nat} {A B : World} {row : Option Nat} (hn : n1 ≤ A.heap.size) (hg : A.grownBy B row) (hr : ∀ q, row = some q → q < n0 ∨ n1 ≤ q) : KpT n0 n1 A B :=
  ⟨hg.size, fun b h1 h2 => hg.block b (by omega) (fun e => by have := hr b e.symm; omega)⟩
theorem KeepsFrom.step {n : Nat} {A B : World} {row : Option Nat} (hg : A.grownBy B row) (hr : ∀ q, row = some q → q < n ∨ ∃ o, A.heap[q]? = some o ∧ o.isCells = true) : KeepsFrom n A B :=
  ⟨hg.size, fun k o hk ho hc => (hg.block k (Array.getElem?_eq_some_iff.1 ho).1 (fun e => by
    rcases hr k e.symm with h1 | ⟨o', h1, h2⟩
    · omega
    · rw [ho] at h1
      injection h1 with h1
      subst h1
      rw [hc] at h2; cases h2)).trans ho⟩
theorem row_cells {w : World} {B : Nat} {t : TypeId} {s m : Nat} {v : Value} {xs : List Value} (ho : w.ownsRow B t s v m xs) {q : Nat} (hq : v.ownBlock = some q) : ∃ o, w.heap[q]? = some o ∧ o.isCells = true := by
  rcases ho.2 with ⟨rfl, _⟩ | ⟨g, cap, cur, rfl, _, hh, _⟩
  · cases hq
  · have : g = q := by simpa [Value.ownBlock] using hq
    subst this
    exact ⟨_, hh, rfl⟩
theorem grownBy_put (w : World) (l : Nat) (o : Obj) : w.grownBy (w.putObj l o) (some l) := ⟨rfl, rfl, rfl, by simp, fun k _ hk => World.putObj_heap_other (fun e => hk (by rw [e]))⟩
/-- Between the bricks of rectangle m: pre are done. -/
structure TI (w : World) (W H S : Int) (bM n0 n1 : Nat) (l : List R4) (m : Nat) (t : R4) (ms : List Nat) (pre : List Ky) (wi : World) : Prop where
  tb : TB w W H S bM wi
  tk : ∃ vals Ak ck, TK bM n0 n1 (onceK (doneK W H S l m pre)) (onceK (doneK W H S l m pre)) (partK W H S l m t pre) vals Ak ck wi
  mks : Mks (bM + 3) ms wi
  ln : (onceK (doneK W H S l m pre)).length ≤ 400
  top : n1 ≤ wi.heap.size
  lt : ∀ D ∈ ms, D < n0
  bl : bM + 3 ≤ n0
  nn : n0 ≤ n1
theorem TI.below {w : World} {W H S : Int} {bM n0 n1 : Nat} {l : List R4} {m : Nat} {t : R4} {ms : List Nat} {pre : List Ky} {wi wj : World} (h : TI w W H S bM n0 n1 l m t ms pre wi) (hb : Below wi.heap.size wi wj) : TI w W H S bM n0 n1 l m t ms pre wj := by
  obtain ⟨vals, Ak, ck, hk⟩ := h.tk
  exact ⟨h.tb.below hb, ⟨vals, Ak, ck, hk.below hb⟩, h.mks.below hb, h.ln, Nat.le_trans h.top hb.size, h.lt, h.bl, h.nn⟩
theorem TI.grown {w : World} {W H S : Int} {bM n0 n1 : Nat} {l : List R4} {m : Nat} {t : R4} {ms : List Nat} {pre : List Ky} {wi wj : World} (h : TI w W H S bM n0 n1 l m t ms pre wi) {q : Nat} {o : Obj} (hg : wi.grownBy wj (some q)) (hq : n1 ≤ q) (hl : wi.heap[q]? = some o) (ho : o.isCells = false) : TI w W H S bM n0 n1 l m t ms pre wj := by
  obtain ⟨vals, Ak, ck, hk⟩ := h.tk
  have h1 := h.bl
  have h2 := h.nn
  refine ⟨h.tb.step hg (fun x hx => by injection hx; omega), ⟨vals, Ak, ck, hk.other hg hl ho (by omega)⟩, ?_, h.ln, Nat.le_trans h.top hg.size, h.lt, h.bl, h.nn⟩
  refine ⟨h.mks.1, fun D hD => ⟨(h.mks.2 D hD).1, (hg.block D (h.mks.lt D hD) (fun e => ?_)).trans (h.mks.2 D hD).2⟩⟩
  injection e with e
  have := h.lt D hD
  omega
theorem TI.putObj {w : World} {W H S : Int} {bM n0 n1 : Nat} {l : List R4} {m : Nat} {t : R4} {ms : List Nat} {pre : List Ky} {wi : World} (h : TI w W H S bM n0 n1 l m t ms pre wi) {q : Nat} {o o' : Obj} (hq : n1 ≤ q) (hl : wi.heap[q]? = some o) (ho : o.isCells = false) : TI w W H S bM n0 n1 l m t ms pre (wi.putObj q o') :=
  h.grown (grownBy_put wi q o') hq hl ho
/-- Behind the error 'too many'. -/
structure TX (w : World) (W H S : Int) (bM n0 n1 : Nat) (l : List R4) (m : Nat) (ms : List Nat) (pre : List Ky) (wi : World) : Prop where
  low : Below w.heap.size w wi
  hb : w.heap.size + 3 ≤ bM
  c4 : wi.cell? ⟨w.heap.size + 1, 0, none⟩ = some (.slice none 0 0)
  c5 : wi.cell? ⟨w.heap.size + 2, 0, none⟩ = some (.int .i64 4)
  mks : Mks (bM + 3) ms wi
  lt : ∀ D ∈ ms, D < n0
  bl : bM + 3 ≤ n0
  nn : n0 ≤ n1
  many : 400 < (keysT W H S l).length
theorem TX.putObj {w : World} {W H S : Int} {bM n0 n1 : Nat} {l : List R4} {m : Nat} {ms : List Nat} {pre : List Ky} {wi : World} (h : TX w W H S bM n0 n1 l m ms pre wi) {q : Nat} {o o' : Obj} (hq : n1 ≤ q) (hl : wi.heap[q]? = some o) (ho : o.isCells = false) : TX w W H S bM n0 n1 l m ms pre (wi.putObj q o') := by
  have h1 := h.bl
  have h2 := h.nn
  have h3 := h.hb
  have hg := grownBy_put wi q o'
  refine ⟨h.low.grown hg h.low.size (fun x hx => by injection hx; omega), h.hb, (World.cell?_of_block (World.putObj_heap_other (by show w.heap.size + 1 ≠ q; omega))).trans h.c4, (World.cell?_of_block (World.putObj_heap_other (by show w.heap.size + 2 ≠ q; omega))).trans h.c5, h.mks.putObj (fun D hD => by have := h.lt D hD; omega) _, h.lt, h.bl, h.nn, h.many⟩
theorem TK.free {bM n0 n1 : Nat} {KL K : List Ky} {p : Ky → List R4} {vals : Ky → Value} {Ak : Option Addr} {ck : Nat} {wi : World} (h : TK bM n0 n1 KL K p vals Ak ck wi) : TK bM 0 0 KL K p vals Ak ck wi :=
  ⟨⟨h.gs.map, fun k hk => by
    obtain ⟨g, c, e, _, hr⟩ := h.gs.vs k hk
    exact ⟨g, c, e, .inr (Nat.zero_le _), hr⟩, h.gs.apart, h.gs.rng, h.gs.nd⟩, h.cell, h.own, fun g _ => .inr (Nat.zero_le _), h.ap⟩
theorem TK.keys {bM n0 n1 : Nat} {KL KL' K : List Ky} {p : Ky → List R4} {vals : Ky → Value} {Ak : Option Addr} {ck : Nat} {wi : World} (h : TK bM n0 n1 KL K p vals Ak ck wi) (e : KL = KL') : TK bM n0 n1 KL' K p vals Ak ck wi := by
  subst e
  exact h
theorem Mks.cells {n : Nat} {ms : List Nat} {w w' : World} (h : Mks n ms w) {row : Option Nat} (hg : w.grownBy w' row) (hr : ∀ q, row = some q → q < n ∨ ∃ o, w.heap[q]? = some o ∧ o.isCells = true) : Mks n ms w' :=
  h.step hg fun q hq => by
    rcases hr q hq with h1 | ⟨o, h1, h2⟩
    · exact .inl h1
    · exact .inr ⟨o, h1, fun x e => by subst e; cases h2⟩
/-- A store into the groups: all that a round keeps. -/
theorem TI.store {w : World} {W H S : Int} {bM n0 n1 : Nat} {K KL : List Ky} {p p' : Ky → List R4} {vals vals' : Ky → Value} {Ak : Option Addr} {ck : Nat} {ms : List Nat} {A5 wA wE w9 w3 : World} {k : Ky} {g c n : Nat} (hTB : TB w W H S bM A5) (hTK : TK bM n0 n1 KL K p vals Ak ck A5) (hM : Mks (bM + 3) ms A5) (hbl : bM + 3 ≤ n0) (hnn : n0 ≤ n1) (htop : n1 ≤ A5.heap.size)
    (gA : Below A5.heap.size A5 wA) (gE : wA.grownBy wE (some bM)) (sE : wE.heap.size = wA.heap.size) (g9 : wE.grownBy w9 (gv K vals k).ownBlock) (g3 : w9.grownBy w3 (some bM)) (hloc : (gv K vals k).ownBlock = some g ∨ wE.heap.size ≤ g)
    (hv : ∀ k', vals' k' = if k' = k then .slice (some ⟨g, 0, none⟩) n c else vals k') (hgs : Gs (bM + 3) bM n0 n1 (addK K k) p' vals' w3) :
    TB w W H S bM w3 ∧ TK bM n0 n1 KL (addK K k) p' vals' Ak ck w3 ∧ Mks (bM + 3) ms w3 ∧ KpT n0 n1 A5 w3 ∧ KeepsFrom n1 A5 w3 ∧ n1 ≤ w3.heap.size := by
  have kA := hTK.below gA
  have hszA := gA.size
  have hrow : ∀ q, (gv K vals k).ownBlock = some q → bM + 3 ≤ q ∧ q < wE.heap.size ∧ (q < n0 ∨ n1 ≤ q) ∧ ∃ o, wE.heap[q]? = some o ∧ o.isCells = true := fun q hq => by
    obtain ⟨h1, h2, h3, _, o, h5, h6⟩ := kA.gvne k hq
    exact ⟨h1, by omega, h3, o, (gE.block q h2 (fun e => by injection e; omega)).trans h5, h6⟩
  have bMrow : ∀ q, (some bM : Option Nat) = some q → q = bM ∨ bM + 3 ≤ q := fun q hq => by injection hq; omega
  have s9 := g9.size
  have s3 := g3.size
  refine ⟨(((hTB.below gA).step gE bMrow).step g9 (fun q hq => .inr (hrow q hq).1)).step g3 bMrow, kA.stored gE g9 g3 sE hloc hv hgs, ?_, ?_, ?_, by omega⟩
  · exact (((hM.below gA).cells gE (fun q hq => .inl (by injection hq; omega))).cells g9 (fun q hq => .inr (hrow q hq).2.2.2)).cells g3 (fun q hq => .inl (by injection hq; omega))
  · exact (((KpT.below htop gA).trans (KpT.step (by omega) gE (fun q hq => by injection hq; omega))).trans (KpT.step (by omega) g9 (fun q hq => (hrow q hq).2.2.1))).trans (KpT.step (by omega) g3 (fun q hq => by injection hq; omega))
  · exact (((KeepsFrom.of_below' gA).trans (KeepsFrom.step gE (fun q hq => .inl (by injection hq; omega)))).trans (KeepsFrom.step g9 (fun q hq => .inr (hrow q hq).2.2.2))).trans (KeepsFrom.step g3 (fun q hq => .inl (by injection hq; omega)))
/-- Ahead of rectangle m. -/
structure TO (w : World) (W H S : Int) (bM : Nat) (l : List R4) (m : Nat) (ms : List Nat) (wi : World) : Prop where
  tb : TB w W H S bM wi
  tk : ∃ vals Ak ck, TK bM 0 0 (onceK (doneK W H S l m [])) (onceK (doneK W H S l m [])) (prt W H S (l.take m)) vals Ak ck wi
  mks : Mks (bM + 3) ms wi
  ln : (onceK (doneK W H S l m [])).length ≤ 400
theorem TO.begin {w : World} {W H S : Int} {bM : Nat} {l : List R4} {m : Nat} {ms : List Nat} {wr wb : World} (h : TO w W H S bM l m ms wr) (t : R4) (hb : Below wr.heap.size wr wb) (hs : wb.heap.size = wr.heap.size + 3) : TI w W H S bM wr.heap.size (wr.heap.size + 3) l m t ms [] wb := by
  obtain ⟨vals, Ak, ck, hk⟩ := h.tk
  have h1 := h.tb.top
  exact ⟨h.tb.below hb, ⟨vals, Ak, ck, ((hk.regap (m1 := wr.heap.size + 3) (Nat.le_refl _)).same (fun k => by simp [partK])).below hb⟩, h.mks.below hb, h.ln, by omega, h.mks.lt, by omega, by omega⟩
theorem TI.fin {w : World} {W H S : Int} {bM n0 n1 : Nat} {l : List R4} {m : Nat} {t : R4} {ms : List Nat} {wi : World} (h : TI w W H S bM n0 n1 l m t ms (keysR W H S t) wi) (ht : l[m]? = some t) {D : Nat} (hD : n1 ≤ D) (hd : wi.heap[D]? = some (.deferred (some []))) : TO w W H S bM l (m + 1) (D :: ms) wi := by
  obtain ⟨vals, Ak, ck, hk⟩ := h.tk
  have e := doneK_next W H S ht
  rw [e] at hk
  have h1 := h.bl
  have h2 := h.nn
  refine ⟨h.tb, ⟨vals, Ak, ck, hk.free.same (fun k => by rw [partK_next W H S ht k t]; simp [partK])⟩, ⟨List.nodup_cons.2 ⟨fun hm => by have := h.lt D hm; omega, h.mks.1⟩, fun D' hD' => ?_⟩, by rw [← e]; exact h.ln⟩
  rcases List.mem_cons.1 hD' with rfl | hD'
  · exact ⟨by omega, hd⟩
  · exact h.mks.2 D' hD'
theorem Pcs.push {w wr w2 : World} {vo v2 v : Value} {R : List (Ky × List R4)} {k : Ky} {r : List R4} {L : List (Ky × Value)} (low : Below w.heap.size w wr) (hL : L.length = R.length) (h1 : wr.ownsRow w.heap.size 54 3 vo R.length (L.flatMap encP))
    (h2 : ∀ (i : Nat) (k : Ky) (r : List R4), R[i]? = some (k, r) → ∃ u, L[i]? = some (k, u) ∧ wr.ownsRow w.heap.size 42 4 u r.length (r.flatMap encR)) (hv : wr.ownsRow w.heap.size 42 4 v r.length (r.flatMap encR))
    (hg : wr.grownBy w2 vo.ownBlock) (h3 : w2.ownsRow w.heap.size 54 3 v2 (R.length + 1) (L.flatMap encP ++ encP (k, v))) : Pcs w v2 (R ++ [(k, r)]) w2 := by
  refine ⟨low.grown hg low.size (fun q hq => (h1.lt q hq).1), L ++ [(k, v)], by simp [hL], by simpa using h3, fun i k' x hx => ?_⟩
  by_cases hi : i < R.length
  · rw [List.getElem?_append_left hi] at hx
    obtain ⟨u, h4, h5⟩ := h2 i k' x hx
    exact ⟨u, by rw [List.getElem?_append_left (by omega)]; exact h4, h5.kept hg (own_apart h5 h1 (by decide))⟩
  · rw [List.getElem?_append_right (by omega)] at hx
    have hi0 : i - R.length = 0 := by
      have := (List.getElem?_eq_some_iff.1 hx).1
      simp at this
      omega
    rw [hi0] at hx
    simp at hx
    obtain ⟨rfl, rfl⟩ := hx
    refine ⟨v, by rw [List.getElem?_append_right (by omega), hL, hi0]; rfl, hv.kept hg (own_apart hv h1 (by decide))⟩
theorem one3 (a b : Int) (A : Option Addr) (n c : Nat) : ∀ v ∈ ([.int .i64 a, .int .i64 b, .slice A n c] : List Value), v.oneCell' = true := by
  intro v hv
  simp only [List.mem_cons, List.not_mem_nil, or_false] at hv
  rcases hv with rfl | rfl | rfl <;> rfl
theorem Pcs.below {w wr w2 : World} {vo : Value} {R : List (Ky × List R4)} (h : Pcs w vo R wr) (hb : Below wr.heap.size wr w2) : Pcs w vo R w2 := by
  obtain ⟨L, h0, h1, h2⟩ := h.o
  refine ⟨h.low.trans (hb.mono h.low.size), L, h0, own_below h1 hb, fun i k r hr => ?_⟩
  obtain ⟨v, h3, h4⟩ := h2 i k r hr
  exact ⟨v, h3, own_below h4 hb⟩
theorem srtK_once (l : List Ky) : srtK (onceK l) = srtK l := ksort_ext (srtK_ok _).1 (srtK_ok _).1 fun k => by rw [(srtK_ok _).2, (srtK_ok _).2, (onceK_ok _).2]
/-- A bound on keys. -/
theorem kbd {W H S : Int} (hp : okPat W H S) {t : R4} (hv : valid4 t) {k : Ky} (hk : k ∈ keysR W H S t) : (-1000000 ≤ k.1 ∧ k.1 ≤ 1000000) ∧ -1000000 ≤ k.2 ∧ k.2 ≤ 1000000 := by
  obtain ⟨x, y, h1, h2⟩ := meet_wf.1 ((mem_keysR hp ⟨hv.1, hv.2.1⟩ k).1 hk)
  have e := (rin_brR hp k x y).1 h1
  obtain ⟨a1, a2, a3, a4⟩ := h2
  obtain ⟨_, _, b1, b2, b3, b4⟩ := hv
  unfold fineP at b1 b2 b3 b4
  have hs := Int.emod_lt_of_pos (rowI H y * S) (show 0 < W by have := hp.1; omega)
  have hs0 := Int.emod_nonneg (rowI H y * S) (show W ≠ 0 by have := hp.1; omega)
  have hW := hp.1
  rw [← e]
  unfold keyP
  simp only
  refine ⟨ediv_bd y H 1000000 hp.2.2.1 (by omega) (by omega) (by omega), ?_⟩
  unfold colI shiftI
  generalize rowI H y * S % W = s at *
  constructor
  · rw [Int.le_ediv_iff_mul_le (by omega)]
    omega
  · apply Int.le_of_lt_add_one
    rw [Int.ediv_lt_iff_lt_mul (by omega)]
    omega
end Go.Proofs.YtlkaniojnaaocaaGreat

/- gambrelref12.Near: at most twelve rectangles near the origin, or a list that is too long. -/
namespace Go.Proofs.YtlkaniojnaaocaaGreat
open Go.RowKit
set_option linter.unusedVariables false
set_option linter.unusedSimpArgs false

theorem run_max2 {P : Program} (w : World) (ts : Array TypeId) (t : TypeId) (a b : Int) : (Builtin.max_ ts t #[.int .i64 a, .int .i64 b]).run P w = .ok (.int .i64 (max a b)) w := by
  have k2 : ∀ (x y : Int) (v : World), Sem.run P (Builtin.max2 (.int .i64 x) (.int .i64 y)) v = .ok (.int .i64 (max x y)) v := fun x y v => by
    have k : (if y > x then y else x) = max x y := by
      by_cases h : y > x
      · rw [if_pos h]; omega
      · rw [if_neg h]; omega
    simp [Builtin.max2, k]
  simp only [Builtin.max_]
  simp [k2]
theorem run_min2 {P : Program} (w : World) (ts : Array TypeId) (t : TypeId) (a b : Int) : (Builtin.min_ ts t #[.int .i64 a, .int .i64 b]).run P w = .ok (.int .i64 (min a b)) w := by
  have k2 : ∀ (x y : Int) (v : World), Sem.run P (Builtin.min2 (.int .i64 x) (.int .i64 y)) v = .ok (.int .i64 (min x y)) v := fun x y v => by
    have k : (if y < x then y else x) = min x y := by
      by_cases h : y < x
      · rw [if_pos h]; omega
      · rw [if_neg h]; omega
    simp [Builtin.min2, k]
  simp only [Builtin.min_]
  simp [k2]
theorem run_max4 {P : Program} (w : World) (ts : Array TypeId) (t : TypeId) (a b c d : Int) : (Builtin.max_ ts t #[.int .i64 a, .int .i64 b, .int .i64 c, .int .i64 d]).run P w = .ok (.int .i64 (max (max (max a b) c) d)) w := by
  have k : ∀ x y : Int, (if y > x then y else x) = max x y := fun x y => by
    by_cases h : y > x
    · rw [if_pos h]; omega
    · rw [if_neg h]; omega
  have k2 : ∀ (x y : Int) (v : World), Sem.run P (Builtin.max2 (.int .i64 x) (.int .i64 y)) v = .ok (.int .i64 (max x y)) v := fun x y v => by simp [Builtin.max2, k]
  simp only [Builtin.max_]
  simp [k2, Int.max_assoc]
theorem run_min4 {P : Program} (w : World) (ts : Array TypeId) (t : TypeId) (a b c d : Int) : (Builtin.min_ ts t #[.int .i64 a, .int .i64 b, .int .i64 c, .int .i64 d]).run P w = .ok (.int .i64 (min (min (min a b) c) d)) w := by
  have k : ∀ x y : Int, (if y < x then y else x) = min x y := fun x y => by
    by_cases h : y < x
    · rw [if_pos h]; omega
    · rw [if_neg h]; omega
  have k2 : ∀ (x y : Int) (v : World), Sem.run P (Builtin.min2 (.int .i64 x) (.int .i64 y)) v = .ok (.int .i64 (min x y)) v := fun x y v => by simp [Builtin.min2, k]
  simp only [Builtin.min_]
  simp [k2, Int.min_assoc]
def near4 (n : Int) (r : R4) : Prop := (-n ≤ r.x0 ∧ r.x0 ≤ n) ∧ (-n ≤ r.y0 ∧ r.y0 ≤ n) ∧ (-n ≤ r.x1 ∧ r.x1 ≤ n) ∧ (-n ≤ r.y1 ∧ r.y1 ≤ n)
def NearOK (n : Int) (l : List R4) : Prop := (400 < l.length ∧ l.length ≤ 420) ∨ (l.length ≤ 12 ∧ ∀ r ∈ l, near4 n r)
end Go.Proofs.YtlkaniojnaaocaaGreat

/- Plain law: a piece is whole when its area is that of a brick; the pieces of a tiling and the region's area; pieces of a part of a region. -/
namespace Go.Proofs.YtlkaniojnaaocaaGreat
set_option linter.unusedVariables false
set_option linter.unusedSimpArgs false

theorem sumZ_all {f : Int → Int} {lo : Int} : ∀ {n : Nat}, (∀ i, lo ≤ i → i < lo + n → 0 ≤ f i) → sumZ f lo n = 0 → ∀ i, lo ≤ i → i < lo + n → f i = 0
  | 0, _, _, i, h1, h2 => by omega
  | n + 1, h, hz, i, h1, h2 => by
    have a := sumZ_nonneg (f := f) (lo := lo) (n := n) fun i h1 h2 => h i h1 (by omega)
    have b := h (lo + n) (by omega) (by omega)
    simp only [sumZ] at hz
    by_cases e : i = lo + n
    · subst e; omega
    · exact sumZ_all (n := n) (fun i h1 h2 => h i h1 (by omega)) (by omega) i h1 (by omega)
theorem vol_all {m : Nat} {f : Int → Int → Int} (h : ∀ x y, 0 ≤ f x y) (hz : vol m f = 0) (x y : Int) (h1 : -(m : Int) ≤ x) (h2 : x < m) (h3 : -(m : Int) ≤ y) (h4 : y < m) : f x y = 0 := by
  have a := sumZ_all (fun i _ _ => sumZ_nonneg fun j _ _ => h i j) hz x h1 (by omega)
  exact sumZ_all (fun j _ _ => h x j) a y h3 (by omega)
theorem can_one {r : R4} (h : wf4 r) : RCan [r] := ⟨[⟨r.x0, r.x1, [(r.y0, r.y1)]⟩], ⟨h.1, by simp, by simp [SCan]; exact h.2⟩, by simp [flat, flat1]⟩
theorem check_wfs {l : List R4} (h : checkF l = 0) : ∀ r ∈ l, wf4 r := fun r hr => ⟨((checkF_ok h).2.1 r hr).1, ((checkF_ok h).2.1 r hr).2.1⟩
theorem piece_check {W H S : Int} (hp : okPat W H S) {l : List R4} (h : checkF l = 0) (k : Ky) : checkF (pieceR W H S l k) = 0 := by
  obtain ⟨h1, h2⟩ := piece_ok hp (check_wfs h) k
  exact can_check h1 (sub_valid (can_wf h1) (checkF_ok h).2.1 fun x y hm => ((h2 x y).1 hm).1) (piece_len hp h k)
theorem mem_keysT {W H S : Int} (hp : okPat W H S) {l : List R4} (hl : ∀ r ∈ l, wf4 r) (k : Ky) : k ∈ keysT W H S l ↔ ∃ x y, pmem l x y ∧ keyP W H S x y = k := by
  rw [← mem_allK hp hl]
  exact (srtK_ok _).2 k
theorem keysT_srt (W H S : Int) (l : List R4) : (keysT W H S l).Pairwise klt := (srtK_ok _).1
theorem piece_ne {W H S : Int} (hp : okPat W H S) {l : List R4} (hl : ∀ r ∈ l, wf4 r) {k : Ky} (hk : k ∈ keysT W H S l) : pieceR W H S l k ≠ [] := by
  obtain ⟨x, y, h1, h2⟩ := (mem_keysT hp hl k).1 hk
  intro e
  have := ((piece_ok hp hl k).2 x y).2 ⟨h1, h2⟩
  rw [e] at this
  obtain ⟨r, hr, _⟩ := this
  cases hr
theorem brR_in {W H S : Int} (hp : okPat W H S) {l : List R4} (h : checkF l = 0) {k : Ky} (hk : k ∈ keysT W H S l) : inFr 2000000 (brR W H S k) := by
  obtain ⟨x, y, ⟨r, hr, h1⟩, h2⟩ := (mem_keysT hp (check_wfs h) k).1 hk
  obtain ⟨a1, a2, a3, a4⟩ := (rin_brR hp k x y).2 h2
  obtain ⟨_, _, v1, v2, v3, v4⟩ := (checkF_ok h).2.1 r hr
  obtain ⟨p1, p2, p3, p4, _⟩ := hp
  unfold fineP at v1 v2 v3 v4
  unfold rin at h1
  unfold inFr
  simp only [brR] at a1 a2 a3 a4 ⊢
  rw [Int.add_mul] at a4 ⊢
  omega
theorem brR_box (W H S : Int) (k : Ky) (hp : okPat W H S) : box (brR W H S k) = W * H := by
  obtain ⟨p1, p2, p3, p4, _⟩ := hp
  unfold box brR
  simp only
  rw [show brX W H S k.2 k.1 + W - brX W H S k.2 k.1 = W by omega, show (k.1 + 1) * H - k.1 * H = H by rw [Int.add_mul]; omega, Int.max_eq_right (by omega), Int.max_eq_right (by omega)]
/-- A piece is its brick when its area is the brick's. -/
theorem piece_whole {W H S : Int} (hp : okPat W H S) {l : List R4} (h : checkF l = 0) {k : Ky} (hk : k ∈ keysT W H S l) : areaS (pieceR W H S l k) = W * H ↔ pieceR W H S l k = [brR W H S k] := by
  obtain ⟨m, hm⟩ : ∃ m : Nat, m = 2000000 := ⟨_, rfl⟩
  have hf := brR_in hp h hk
  rw [← hm] at hf
  obtain ⟨f1, f2, f3, f4⟩ := hf
  obtain ⟨c1, c2⟩ := piece_ok hp (check_wfs h) k
  have hv := vol_rect (m := m) f1 f2 f3 f4
  rw [brR_box W H S k hp] at hv
  rw [area_vol (piece_check hp h k) (m := m) (by omega), ← hv]
  constructor
  · intro e
    refine c1.ext (can_one (brR_wf hp k)) fun x y => ?_
    have h0 : ∀ x y, 0 ≤ ind (rin (brR W H S k) x y) - one (pieceR W H S l k) x y := fun x y => by
      unfold one
      by_cases hq : pmem (pieceR W H S l k) x y
      · have : rin (brR W H S k) x y := (rin_brR hp k x y).2 ((c2 x y).1 hq).2
        rw [ind_t hq, ind_t this]; omega
      · rw [ind_f hq]
        rcases ind_01 (rin (brR W H S k) x y) with h | h <;> omega
    have hz : vol m (fun x y => ind (rin (brR W H S k) x y) - one (pieceR W H S l k) x y) = 0 := by rw [vol_sub, e]; omega
    rw [show pmem [brR W H S k] x y ↔ rin (brR W H S k) x y by simp [pmem]]
    constructor
    · intro hq; exact (rin_brR hp k x y).2 ((c2 x y).1 hq).2
    · intro hq
      have hq2 := hq
      obtain ⟨q1, q2, q3, q4⟩ := hq2
      have := vol_all h0 hz x y (by omega) (by omega) (by omega) (by omega)
      rw [ind_t hq] at this
      apply Decidable.byContradiction
      intro hn
      unfold one at this
      rw [ind_f hn] at this
      omega
  · intro e
    refine vol_congr fun x y _ _ _ _ => ?_
    rw [e]
    unfold one
    exact ind_iff (by simp [pmem])
/-- Areas of the pieces. -/
theorem vol_sum {α : Type} (m : Nat) (f : α → Int → Int → Int) : ∀ L : List α, (L.map fun k => vol m (f k)).sum = vol m (fun x y => (L.map fun k => f k x y).sum)
  | [] => by simp [vol_zero]
  | k :: L => by simp only [List.map_cons, List.sum_cons, vol_sum m f L, vol_add]
theorem sum_key {W H S : Int} (hp : okPat W H S) {l : List R4} (hl : ∀ r ∈ l, wf4 r) (x y : Int) : ∀ {L : List Ky}, L.Pairwise klt → (L.map fun k => one (pieceR W H S l k) x y).sum = if pmem l x y ∧ keyP W H S x y ∈ L then 1 else 0
  | [], _ => by simp
  | k :: L, h => by
    obtain ⟨h1, h2⟩ := List.pairwise_cons.1 h
    simp only [List.map_cons, List.sum_cons, sum_key hp hl x y h2]
    have hm := (piece_ok hp hl k).2 x y
    unfold one
    rw [ind_iff hm]
    by_cases e : keyP W H S x y = k
    · subst e
      have hn : keyP W H S x y ∉ L := fun hm => klt_irr _ (h1 _ hm)
      by_cases hq : pmem l x y
      · rw [ind_t ⟨hq, rfl⟩]; simp [hq, hn]
      · rw [ind_f (fun h => hq h.1)]; simp [hq]
    · rw [ind_f (fun h => e h.2)]
      simp [e]
theorem sum_pieces {W H S : Int} (hp : okPat W H S) {l : List R4} (h : checkF l = 0) : ((keysT W H S l).map fun k => areaS (pieceR W H S l k)).sum = areaS l := by
  obtain ⟨m, hm⟩ : ∃ m : Nat, m = 2000000 := ⟨_, rfl⟩
  rw [List.map_congr_left (g := fun k => vol m (one (pieceR W H S l k))) fun k _ => area_vol (piece_check hp h k) (by omega), vol_sum, area_vol h (m := m) (by omega)]
  refine vol_congr fun x y _ _ _ _ => ?_
  rw [sum_key hp (check_wfs h) x y (keysT_srt W H S l)]
  unfold one ind
  by_cases hq : pmem l x y
  · rw [if_pos hq, if_pos ⟨hq, (mem_keysT hp (check_wfs h) _).2 ⟨x, y, hq, rfl⟩⟩]
  · rw [if_neg hq, if_neg (fun h => hq h.1)]
/-- Count. -/
def wholeB (W H S : Int) (q : Ky × List R4) : Bool := decide (q.2 = [brR W H S q.1])
def countF (W H S : Int) (l : List R4) : Int × Int × Int :=
  if (tileF W H S l).2 = 0 then (((tileF W H S l).1.filter (wholeB W H S)).length, ((tileF W H S l).1.length : Int) - ((tileF W H S l).1.filter (wholeB W H S)).length, 0) else (0, 0, (tileF W H S l).2)
theorem tileF_mem {W H S : Int} {l : List R4} {q : Ky × List R4} (h : q ∈ (tileF W H S l).1) : checkF l = 0 ∧ okPat W H S ∧ q.1 ∈ keysT W H S l ∧ q.2 = pieceR W H S l q.1 := by
  unfold tileF at h
  split at h
  · rename_i h1
    split at h
    · rename_i h2
      split at h
      · cases h
      · obtain ⟨k, hk, rfl⟩ := List.mem_map.1 h
        exact ⟨h1, h2, hk, rfl⟩
    · cases h
  · cases h
theorem whole_area {W H S : Int} {l : List R4} {q : Ky × List R4} (h : q ∈ (tileF W H S l).1) : wholeB W H S q = decide (areaS q.2 = W * H) := by
  obtain ⟨h1, h2, h3, h4⟩ := tileF_mem h
  unfold wholeB
  rw [h4]
  exact decide_eq_decide.2 (piece_whole h2 h1 h3).symm
/-- A part of a region: its pieces are parts of the region's pieces. -/
theorem part_keys {W H S : Int} (hp : okPat W H S) {l p : List R4} (hl : ∀ r ∈ l, wf4 r) (hw : ∀ r ∈ p, wf4 r) (hs : ∀ x y, pmem p x y → pmem l x y) {k : Ky} (hk : k ∈ keysT W H S p) : k ∈ keysT W H S l := by
  obtain ⟨x, y, h1, h2⟩ := (mem_keysT hp hw k).1 hk
  exact (mem_keysT hp hl k).2 ⟨x, y, hs x y h1, h2⟩
theorem part_piece {W H S : Int} (hp : okPat W H S) {l p : List R4} (hl : checkF l = 0) (hw : checkF p = 0) (hs : ∀ x y, pmem p x y → pmem l x y) (k : Ky) : joinF hAnd (pieceR W H S l k) p = (pieceR W H S p k, 0) := by
  have c1 := piece_check hp hl k
  obtain ⟨p1, p2⟩ := piece_ok hp (check_wfs hw) k
  have e : rjoin hAnd (pieceR W H S l k) p = pieceR W H S p k := by
    obtain ⟨q1, q2⟩ := rjoin_ok (h := hAnd) rfl (check_wfs c1) (check_wfs hw)
    refine q1.ext p1 fun x y => ?_
    rw [q2, p2]
    have hm := (piece_ok hp (check_wfs hl) k).2 x y
    simp only [hAnd, Bool.and_eq_true, decide_eq_true_eq]
    rw [hm]
    constructor
    · rintro ⟨⟨_, h2⟩, h3⟩; exact ⟨h3, h2⟩
    · rintro ⟨h3, h2⟩; exact ⟨⟨hs x y h3, h2⟩, h3⟩
  rw [joinF_ok c1 hw, e, if_neg (by have := piece_len hp hw k; omega)]
/-- A piece leaves nothing of the region's, nor of its brick's. -/
theorem piece_out {W H S : Int} (hp : okPat W H S) {l m : List R4} (hl : checkF l = 0) (hm : checkF m = 0) (k : Ky) {h : Bool → Bool → Bool} (h0 : ∀ a b, h a b = (a && !b)) (hs : ∀ x y, pmem l x y → keyP W H S x y = k → pmem m x y) : joinF h (pieceR W H S l k) m = ([], 0) := by
  have c1 := piece_check hp hl k
  have hf : h false false = false := by rw [h0]; rfl
  have e : rjoin h (pieceR W H S l k) m = [] := by
    obtain ⟨q1, q2⟩ := rjoin_ok (h := h) hf (check_wfs c1) (check_wfs hm)
    refine q1.ext RCan.nil fun x y => ?_
    rw [q2]
    have hk := (piece_ok hp (check_wfs hl) k).2 x y
    rw [h0]
    simp only [Bool.and_eq_true, decide_eq_true_eq, Bool.not_eq_true', decide_eq_false_iff_not]
    constructor
    · rintro ⟨h1, h2⟩
      obtain ⟨h3, h4⟩ := hk.1 h1
      exact absurd (hs x y h3 h4) h2
    · rintro ⟨r, hr, _⟩; cases hr
  rw [joinF_ok c1 hm, e, if_neg (by simp)]
end Go.Proofs.YtlkaniojnaaocaaGreat

/- The pieces as they lie in memory: read by place; one put in between. -/
namespace Go.Proofs.YtlkaniojnaaocaaGreat
open Go.RowKit
set_option linter.unusedVariables false
set_option linter.unusedSimpArgs false

theorem set_three {α : Type} : ∀ (L : List α) (o : Nat) (a b c : α), o + 3 ≤ L.length → ((L.set o a).set (o + 1) b).set (o + 2) c = splice L o [a, b, c]
  | [], o, a, b, c, h => by simp at h
  | x :: T, o + 1, a, b, c, h => by
    have ih := set_three T o a b c (by simpa using h)
    have e : splice (x :: T) (o + 1) [a, b, c] = x :: splice T o [a, b, c] := by
      simp [splice, show o + 1 + 3 = (o + 3) + 1 by omega]
    rw [e, ← ih]
    rfl
  | [_], 0, a, b, c, h => by simp at h
  | [_, _], 0, a, b, c, h => by simp at h
  | x :: y :: z :: T, 0, a, b, c, h => by simp [splice]
theorem encP_one {L : List (Ky × Value)} (h : ∀ q ∈ L, q.2.oneCell' = true) : ∀ v ∈ L.flatMap encP, v.oneCell' = true := by
  intro v hv
  obtain ⟨a, ha, hv⟩ := List.mem_flatMap.1 hv
  simp only [encP, List.mem_cons, List.not_mem_nil, or_false] at hv
  rcases hv with rfl | rfl | rfl
  · rfl
  · rfl
  · exact h a ha
theorem ids {n : Nat} {w : World} {B : Nat} {e : TypeId} {s : Nat} {v : Value} {xs : List Value} (h : w.ownsRow B e s v n xs) : v.oneCell' = true := by
  obtain ⟨A, c, rfl⟩ := own_form h
  rfl
/-- The pieces by their places. -/
theorem Pcs.form {w wr : World} {Ao : Option Addr} {n co : Nat} {R : List (Ky × List R4)} (h : Pcs w (.slice Ao n co) R wr) (hn : 0 < R.length) : ∃ g, Ao = some ⟨g, 0, none⟩ ∧ w.heap.size ≤ g ∧ g < wr.heap.size ∧ ∀ (j : Nat) (k : Ky) (r : List R4), R[j]? = some (k, r) →
    wr.cell? ⟨g, j * 3, none⟩ = some (.int .i64 k.2) ∧ wr.cell? ⟨g, j * 3 + 1, none⟩ = some (.int .i64 k.1) ∧ ∃ u, wr.cell? ⟨g, j * 3 + 2, none⟩ = some u ∧ wr.ownsRow w.heap.size 42 4 u r.length (r.flatMap encR) := by
  obtain ⟨L, h0, h1, h2⟩ := h.o
  obtain ⟨g, cap, hv, h3, h4⟩ := h1.form hn
  injection hv with e1 _ e3
  subst e1; subst e3
  refine ⟨g, rfl, h3, h4, fun j k r hj => ?_⟩
  obtain ⟨u, h5, h6⟩ := h2 j k r hj
  have cl : ∀ (i : Nat) (v : Value), (encP (k, u))[i]? = some v → wr.cell? ⟨g, j * 3 + i, none⟩ = some v := fun i v hv => by
    have := (h1.cells (g := g) (by rfl)) _ _ (flat_get (k := 3) (fun _ => rfl) L j (k, u) i v h5 hv)
    rwa [addr_add] at this
  exact ⟨cl 0 _ rfl, cl 1 _ rfl, u, cl 2 _ rfl, h6⟩
theorem ins_at {α : Type} (L : List α) (n : Nat) (x : α) (hn : n ≤ L.length) (i : Nat) : (L.take n ++ x :: L.drop n)[i]? = if i < n then L[i]? else if i = n then some x else L[i - 1]? := by
  rw [List.getElem?_append, List.length_take, Nat.min_eq_left hn]
  by_cases h1 : i < n
  · rw [if_pos h1, if_pos h1, List.getElem?_take, if_pos h1]
  · rw [if_neg h1, if_neg h1]
    by_cases h2 : i = n
    · subst h2; simp
    · rw [if_neg h2]
      obtain ⟨d, hd⟩ : ∃ d, i - n = d + 1 := ⟨i - n - 1, by omega⟩
      rw [hd, List.getElem?_cons_succ, List.getElem?_drop]
      congr 1
      omega
/-- A piece put in. -/
theorem Pcs.ins {w wp w6 : World} {v6 : Value} {R : List (Ky × List R4)} {L : List (Ky × Value)} {n : Nat} {k : Ky} {r : List R4} {u : Value} (low : Below w.heap.size w w6) (hL : L.length = R.length) (hn : n ≤ R.length)
    (h2 : ∀ (i : Nat) (k : Ky) (r : List R4), R[i]? = some (k, r) → ∃ u, L[i]? = some (k, u) ∧ wp.ownsRow w.heap.size 42 4 u r.length (r.flatMap encR))
    (hk : ∀ (v : Value) (m : Nat) (xs : List Value), wp.ownsRow w.heap.size 42 4 v m xs → w6.ownsRow w.heap.size 42 4 v m xs) (hu : w6.ownsRow w.heap.size 42 4 u r.length (r.flatMap encR))
    (h6 : w6.ownsRow w.heap.size 54 3 v6 (R.length + 1) ((L.take n ++ (k, u) :: L.drop n).flatMap encP)) : Pcs w v6 (R.take n ++ (k, r) :: R.drop n) w6 := by
  have e : (R.take n ++ (k, r) :: R.drop n).length = R.length + 1 := by simp; omega
  refine ⟨low, L.take n ++ (k, u) :: L.drop n, by simp; omega, by rw [e]; exact h6, fun i k' x hx => ?_⟩
  rw [ins_at R n _ hn] at hx
  rw [ins_at L n _ (by omega)]
  split at hx
  · rename_i h1
    rw [if_pos h1]
    obtain ⟨v, q1, q2⟩ := h2 i k' x hx
    exact ⟨v, q1, hk _ _ _ q2⟩
  · rename_i h1
    rw [if_neg h1]
    split at hx
    · rename_i h3
      rw [if_pos h3]
      injection hx with hx
      injection hx with e1 e2
      subst e1; subst e2
      exact ⟨u, rfl, hu⟩
    · rename_i h3
      rw [if_neg h3]
      obtain ⟨v, q1, q2⟩ := h2 _ k' x hx
      exact ⟨v, q1, hk _ _ _ q2⟩
/-- The reference's box for the pattern. -/
structure T1 (w : World) (W H S : Int) (wi : World) : Prop where
  low : Below w.heap.size w wi
  hb : w.heap.size + 1 ≤ wi.heap.size
  p0 : wi.cell? ⟨w.heap.size, 0, none⟩ = some (.int .i64 W)
  p1 : wi.cell? ⟨w.heap.size, 1, none⟩ = some (.int .i64 H)
  p2 : wi.cell? ⟨w.heap.size, 2, none⟩ = some (.int .i64 S)
theorem T1.start (w : World) (W H S : Int) : T1 w W H S (w.alloc (.cells #[.int .i64 W, .int .i64 H, .int .i64 S] 27)) := by
  refine ⟨(Below.refl _ _).alloc (Nat.le_refl _) _, by simp, ?_, ?_, ?_⟩ <;> simp [go_sem]
theorem T1.below {w : World} {W H S : Int} {wi wj : World} (h : T1 w W H S wi) (hb : Below wi.heap.size wi wj) : T1 w W H S wj := by
  have h3 := h.hb
  have cl : ∀ b o u, b < wi.heap.size → wi.cell? ⟨b, o, none⟩ = some u → wj.cell? ⟨b, o, none⟩ = some u := fun b o u hlt e => (hb.cell (p := ⟨b, o, none⟩) hlt).trans e
  exact ⟨h.low.trans (hb.mono (by omega)), Nat.le_trans h3 hb.size, cl _ _ _ (by omega) h.p0, cl _ _ _ (by omega) h.p1, cl _ _ _ (by omega) h.p2⟩
theorem T1.keep {w : World} {W H S : Int} {wi wj : World} (h : T1 w W H S wi) (hb : Below wi.heap.size wi wj) : T1 w W H S wj := h.below hb
/-- The hull near the origin. -/
theorem hull_near {l : List R4} (h0 : checkF l = 0) (hn : ∀ r ∈ l, near4 30 r) : ∃ x0 y0 x1 y1 e : Int, hullF l = (⟨x0, y0, x1, y1⟩, e) ∧ ((l = [] ∧ x0 = 0 ∧ y0 = 0 ∧ x1 = 0 ∧ y1 = 0) ∨ (l ≠ [] ∧ IsHull l ⟨x0, y0, x1, y1⟩ ∧ e = 0)) ∧ -30 ≤ x0 ∧ -30 ≤ y0 ∧ x1 ≤ 30 ∧ y1 ≤ 30 ∧ x0 ≤ x1 ∧ y0 ≤ y1 := by
  by_cases hl : l = []
  · subst hl
    exact ⟨0, 0, 0, 0, 6, by unfold hullF; rw [if_pos h0, if_pos rfl], .inl ⟨rfl, rfl, rfl, rfl, rfl⟩, by omega, by omega, by omega, by omega, by omega, by omega⟩
  · have hh := hullL_ok hl
    obtain ⟨⟨p0, q0, e0⟩, ⟨p1, q1, e1⟩, ⟨p2, q2, e2⟩, ⟨p3, q3, e3⟩, hb⟩ := id hh
    have w0 := check_wfs h0 p0 q0
    have w1 := check_wfs h0 p1 q1
    have b0 := hb p0 q0
    have b1 := hb p1 q1
    have n0 := hn p0 q0
    have n1 := hn p1 q1
    have n2 := hn p2 q2
    have n3 := hn p3 q3
    refine ⟨(hullL l).x0, (hullL l).y0, (hullL l).x1, (hullL l).y1, 0, by unfold hullF; rw [if_pos h0, if_neg hl], .inr ⟨hl, hh, rfl⟩, ?_⟩
    unfold near4 at n0 n1 n2 n3
    unfold wf4 at w0 w1
    omega
theorem insK_len (k : Ky) : ∀ L : List Ky, (insK k L).length ≤ L.length + 1
  | [] => by simp [insK]
  | a :: L => by
    unfold insK
    have := insK_len k L
    split
    · simp
    · split <;> simp <;> omega
theorem SK.fin {W H S : Int} (hp : okPat W H S) {l : List R4} (hl : ∀ r ∈ l, wf4 r) {h : R4} {e : Int} (hh : (l = [] ∧ h.x0 = 0 ∧ h.y0 = 0 ∧ h.x1 = 0 ∧ h.y1 = 0) ∨ (l ≠ [] ∧ IsHull l h ∧ e = 0)) {y : Int} (hy : h.y1 ≤ y) {L : List Ky} (q : SK W H S l h y h.x0 L) : L = keysT W H S l := by
  rcases hh with ⟨rfl, _⟩ | ⟨_, hu, _⟩
  · rw [keysT_nil]
    cases L with
    | nil => rfl
    | cons k L =>
      obtain ⟨u, v, _, ⟨r, hr, _⟩, _⟩ := (q.mem k).1 (by simp)
      cases hr
  · exact q.all hp hl hu hy
end Go.Proofs.YtlkaniojnaaocaaGreat

/- RegionMakes' walk: Check, Make, Has, Area and Same against the reference. -/
namespace Go.Proofs.YtlkaniojnaaocaaGreat
open Go.RowKit
set_option linter.unusedVariables false
set_option linter.unusedSimpArgs false

theorem not_great {n : Nat} (h : ¬ greatP n) : n ≤ 420 := by unfold greatP at h; omega
theorem rSameSelf {w : World} {v v' : Value} {l : List R4} (h : RdK encR 4 w w.heap.size v l) (h' : RdK encR 4 w w.heap.size v' l) (hl : l.length ≤ 100000000) :
    Calls Tryz.prog 21 #[v, v'] w fun e w' => e = .returned (.bool true) ∧ Below w.heap.size w w' := by
  have := rSameRects_any h h' hl (Nat.le_refl _) (Nat.le_refl _)
  rwa [decide_eq_true rfl] at this

end Go.Proofs.YtlkaniojnaaocaaGreat
