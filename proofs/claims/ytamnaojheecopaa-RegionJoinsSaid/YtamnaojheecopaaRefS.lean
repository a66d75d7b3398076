/- The reference's Sorted. -/
import Derived.Test.YtamnaojheecopaaMSort
import Derived.Test.YtamnaojheecopaaSortI
import Derived.Test.YtamnaojheecopaaHeld
import Derived.Test.YtamnaojheecopaaAdd
import Derived.Laws.CopyOwn
namespace Go.Proofs.Ytamnaojheecopaa
open Go.RowKit
set_option linter.unusedVariables false
set_option linter.unusedSimpArgs false

def encI (x : Int) : List Value := [iv x]
theorem flat_encI (l : List Int) : l.flatMap encI = l.map iv := by
  induction l with
  | nil => rfl
  | cons a l ih => simp [List.flatMap_cons, encI, ih]
theorem own_rdI {w : World} {base : Nat} {e : TypeId} {v : Value} {l : List Int} (h : w.ownsRow base e 1 v l.length (l.map iv)) : RdK encI 1 w w.heap.size v l :=
  own_rd (enc := encI) (k := 1) (by rw [flat_encI]; exact h) (fun _ => rfl)
theorem infoInt : (Try.prog.info? 3).map (fun i => (i.zero, i.size, i.bytes)) = some (some (.int .i64 0), 1, 8) := by kernel_rfl

theorem below_drewN {B : Nat} {w W : World} (h : Below B w W) (n : Nat) : Below B w (W.drewN n) := h.trans ⟨rfl, rfl, rfl, Nat.le_refl _, fun _ _ => rfl⟩
theorem name_exit {Q : Exit → Act → World → Prop} {e : Exit} {a : Act} {W : World} (h : ∀ w, w = W → Q e a w) : Q e a W := h W rfl
theorem addr_add' (g o j : Nat) : (⟨g, o, none⟩ : Addr).add j = ⟨g, o + j, none⟩ := by unfold Addr.add; split <;> simp_all
theorem splice_take {α : Type} (L : List α) (off m : Nat) (cs : List α) (h : off + cs.length ≤ m) : (splice L off cs).take m = splice (L.take m) off cs := by
  unfold splice
  rw [List.take_append, List.take_append, List.take_take, List.take_take, List.drop_take]
  simp only [List.length_take]
  by_cases hl : off ≤ L.length
  · have e1 : min off L.length = off := by omega
    rw [e1, Nat.min_eq_left (show off ≤ m by omega), Nat.min_eq_right (show off ≤ m by omega), List.take_of_length_le (show cs.length ≤ m - off by omega)]
    congr 3
    omega
  · rw [List.drop_of_length_le (show L.length ≤ off + cs.length by omega), List.take_nil, List.take_nil, List.append_nil]
    rw [show min off m = off by omega, show min m off = off by omega, List.take_of_length_le (show cs.length ≤ _ by omega), List.append_nil]
theorem own_copied {w w' : World} {base : Nat} {e t : TypeId} {g n cap off : Nat} {xs cs cur : List Value} (h : w.ownsRow base e 1 (.slice (some ⟨g, 0, none⟩) n cap) n xs) (hg : w.heap[g]? = some (.cells cur.toArray t (0, 0))) (hg' : w'.heap[g]? = some (.cells (splice cur off cs).toArray t (0, 0))) (hfit : off + cs.length ≤ n) :
    w'.ownsRow base e 1 (.slice (some ⟨g, 0, none⟩) n cap) n (splice xs off cs) := by
  rcases h.2 with ⟨e0, _⟩ | ⟨g', cap', cur', e0, hb, hh, hn, hm, hs, ht⟩
  · cases e0
  · injection e0 with e1 _ e3
    injection e1 with e1
    injection e1 with e1
    subst e1; subst e3
    rw [hg] at hh
    injection hh with hh
    injection hh with h1 h2
    subst h1; subst h2
    rw [Nat.mul_one] at ht
    have hl : cur.length = cap := by simpa using hs
    have hx := h.1
    refine ⟨by rw [length_splice _ _ _ (by omega)]; exact hx, .inr ⟨g, cap, _, rfl, hb, hg', hn, hm, by rw [List.size_toArray, length_splice _ _ _ (by omega)]; omega, ?_⟩⟩
    rw [Nat.mul_one, splice_take _ _ _ _ hfit]
    rw [← ht]
theorem ins_splice (S : List Int) (x : Int) (k : Nat) (hk : k ≤ S.length) : (splice ((S ++ [0]).map iv) (k + 1) ((S.drop k).map iv)).set k (iv x) = (S.take k ++ x :: S.drop k).map iv := by
  unfold splice
  have hd : List.drop (k + 1 + ((S.drop k).map iv).length) ((S ++ [0]).map iv) = [] := List.drop_of_length_le (by simp; omega)
  rw [hd, List.append_nil, List.set_append_left _ _ (by simp; omega)]
  have hm : (S.take k ++ x :: S.drop k).map iv = (S.take k ++ [x]).map iv ++ (S.drop k).map iv := by simp
  rw [hm]
  congr 1
  apply List.ext_getElem?
  intro i
  by_cases hi : i = k
  · subst hi
    rw [List.getElem?_set_self (by simp; omega), List.getElem?_map, List.getElem?_append_right (by simp; omega)]
    simp [Nat.min_eq_left hk]
  · rw [List.getElem?_set_ne (by omega)]
    by_cases hlt : i < k
    · rw [List.getElem?_take, if_pos (by omega), List.getElem?_map, List.getElem?_map, List.getElem?_append_left (by omega), List.getElem?_append_left (by simp; omega), List.getElem?_take, if_pos hlt]
    · rw [List.getElem?_eq_none (by simp; omega), List.getElem?_eq_none (by simp; omega)]

set_option maxRecDepth 100000 in
set_option maxHeartbeats 4000000 in
theorem rSorted_any {w : World} {v : Value} {l : List Int} {B : Nat} (hr : RdK encI 1 w B v l) (hB : B ≤ w.heap.size) (hl : l.length ≤ 100000000) :
    Calls Try.prog 70 #[v] w fun e w' => ∃ vo, e = .returned vo ∧ w'.ownsRow w.heap.size 3 1 vo (srt l).length ((srt l).map iv) ∧ Below w.heap.size w w' := by
  obtain ⟨i1, gi, gz0, gz1, gz2⟩ := info_parts infoInt
  obtain ⟨A, c, rfl, hc⟩ := hr
  have HR := hide hc
  clear hc
  go_enter Try.func70, Try.ntmps70
  go_wp2
  go_loopw [3, 4, 5] (fun v i _ wr => ∃ m : Nat, m ≤ l.length ∧ i = .int .i64 m ∧ ∃ Av cv, v = .slice Av (srt (l.take m)).length cv ∧ Hid (wr.ownsRow w.heap.size 3 1 v (srt (l.take m)).length ((srt (l.take m)).map iv)) ∧ Hid (Below w.heap.size w wr)) (fun _ i _ _ => l.length - (intOf i).toNat)
  case atStart => exact ⟨0, Nat.zero_le _, rfl, none, 0, rfl, hide (World.ownsRow_nil _ _ _ _), hide (Below.refl _ _)⟩
  case round =>
    obtain ⟨m, hm, rfl, Av, cv, rfl, HO, HB⟩ := hrel
    by_cases hlt : m < l.length
    · obtain ⟨x, hp⟩ : ∃ p, l[m]? = some p := ⟨_, List.getElem?_eq_getElem hlt⟩
      obtain ⟨b, o, rfl, hbl, k⟩ := HR.out (by intro e; rw [e] at hlt; simp at hlt)
      have d0 : ∀ W, Below w.heap.size w W → W.cell? ⟨b, o + m, none⟩ = some (.int .i64 x) := fun W hW => (hW.cell (p := ⟨b, _, none⟩) (by show b < _; omega)).trans (by have := k m _ hp 0 _ rfl; rwa [Nat.mul_one] at this)
      have D0 := hide d0
      have mz : (m : Int) < (l.length : Int) := by omega
      have hS := (srt_ok (l.take m)).1
      have hSl := srt_len (l.take m)
      rw [List.length_take] at hSl
      have HT : Hid (srt (l.take (m + 1)) = insI x (srt (l.take m))) := hide (by
        obtain ⟨i1, e1⟩ := List.getElem?_eq_some_iff.1 hp
        rw [List.take_succ_eq_append_getElem i1, e1, srt_snoc])
      generalize srt (l.take m) = S at *
      clear k hp d0
      generalize wr = w1 at *
      go_wp2
      go_loopw [5] (fun kk wr => ∃ k : Nat, k ≤ S.length ∧ kk = .int .i64 k ∧ Hid (∀ j y, k ≤ j → S[j]? = some y → x < y) ∧ Hid (Below w1.heap.size w1 wr)) (fun kk _ => (intOf kk).toNat)
      case atStart => exact ⟨S.length, Nat.le_refl _, rfl, hide (fun j y h1 h2 => by rw [List.getElem?_eq_none h1] at h2; cases h2), hide (Below.refl _ _)⟩
      case round =>
        obtain ⟨k, hk, rfl, HG, HB1⟩ := hrel
        have hB1 := HB1.out.size
        rcases Nat.eq_zero_or_pos k with rfl | hkp
        · rw [show ((0 : Nat) : Int) = 0 from rfl]
          go_wp2
          go_quiet (fail)
          go_wp2
          go_quiet (fail)
          refine name_exit fun wd hwd => ?_
          have hbd : Below w1.heap.size w1 wd := by rw [hwd]; exact below_drewN (below_drewN HB1.out _) _
          have hod := own_below HO.out hbd
          have HOD := hide hod
          have hsz := HB.out.size
          have hsz2 := hbd.size
          have HBD := hide hbd
          clear hwd hod hbd
          go_wp2_with (at_builtin; go_loud (refine wpList_append_lies _ rfl (.tmp 44) (.tmp 45) 75 rfl w.heap.size 3 i1 (.int .i64 0) 1 8 Try.underlying75 gi gz0 gz1 gz2 rfl (by decide) _ _ _ rfl (HOD.out.alloc _) ⟨wd.heap.size, 0, none⟩ 1 1 [.int .i64 0] rfl rfl (news_new wd _ _ _ rfl) (ints_one rfl) (by omega) (by unfold maxLen; omega) (by omega) (by simp; omega) _ rfl ?_))
          intro g9 cap9 w2 hown2 hgrow hg9 _
          have hx2 : S.map iv ++ [.int .i64 0] = (S ++ [0]).map iv := by simp
          rw [hx2] at hown2
          have hb2 : Below w.heap.size w w2 := ((HB.out.trans (HBD.out.mono hsz)).alloc (by omega) _).grown hgrow (by simp; omega) (fun q hq => (HOD.out.lt q hq).1)
          obtain ⟨_, cap9', cur9, e9, hbg9, hh9, hn9, hm9, hs9, ht9⟩ : ∃ (g' cap' : Nat) (cur : Array Value), Value.slice (some ⟨g9, 0, none⟩) (S.length + 1) cap9 = .slice (some ⟨g', 0, none⟩) (S.length + 1) cap' ∧ w.heap.size ≤ g' ∧ w2.heap[g']? = some (.cells cur 3 (0, 0)) ∧ S.length + 1 ≤ cap' ∧ cap' ≤ maxLen ∧ cur.size = cap' * 1 ∧ cur.toList.take ((S.length + 1) * 1) = (S ++ [0]).map iv := by
            rcases hown2.2 with ⟨e0, _⟩ | q
            · cases e0
            · exact q
          injection e9 with e1 _ e3
          injection e1 with e1
          injection e1 with e1
          subst e1; subst e3
          have HX2 := hide hown2
          have HB2 := hide hb2
          have HH9 := hide hh9
          have HS9 := hide hs9
          unfold maxLen at hm9
          clear hown2 hgrow hb2 hx2 hg9 hh9 hs9 ht9
          go_wp2
          have r1 : IntKind.i64.wrap (1) = 1 := by simp [IntKind.wrap, IntKind.bits, IntKind.signed]
          have r2 : (0 : Int) ≤ 1 := by omega
          have r3 : (1 : Int) ≤ (S.length : Int) + 1 := by omega
          have r4 : (1 : Int).toNat = 0 + 1 := by omega
          have r5 : (0 : Int) ≤ 0 := by omega
          have r6 : (0 : Int) ≤ (S.length : Int) + 1 := by omega
          have r7 : (0 : Int).toNat = 0 := by omega
          refine wp_region_reads0 7 (by kernel_rfl) (by kernel_rfl) ?_
          simp only [List.take_succ_cons, List.take_zero, List.drop_succ_cons, List.drop_zero]
          iterate 7
            refine ⟨?_, Or.inl ⟨by rfl, ?_⟩, ?_⟩
            rotate_left 1
            · intro w' _
              go_simp
              first | done | with_reducible rfl
            simp only [Act.put, List.setIfInBounds_toArray, List.set_cons_zero, List.set_cons_succ]
          clear r1 r2 r3 r4 r5 r6 r7
          simp only [wpReads]
          intro K hK
          have hcur : w2.drew.heap[g9]? = some (.cells cur9.toList.toArray 3 (0, 0)) := by show w2.heap[g9]? = _; simpa using HH9.out
          have hcl : cur9.toList.length = cap9 := by simpa using HS9.out
          refine step_copy_splice rfl (.tmp 50) (.tmp 53) 75 75 rfl 3 Try.underlying75 (by kernel_rfl) _ _ _ _ _ _ rfl rfl g9 (0 + 1) cur9.toList 3 hcur ((S.drop (0)).map iv) (by show _ = min _ _; simp only [List.length_map, List.length_drop]; omega) ?_ (by simp only [List.length_map, List.length_drop]; omega) (by intro u hu; obtain ⟨z, _, rfl⟩ := List.mem_map.1 hu; rfl) w.heap.size w (HB2.out.drew) hbg9 ?_
          · intro hpos
            have hpl : 0 < S.length := by simp only [List.length_map, List.length_drop] at hpos; omega
            refine ⟨by first | rfl | rw [if_neg (by omega)], ⟨g9, 0, none⟩, by first | rfl | rw [if_neg (by omega)], fun i u hi => ?_⟩
            have hi2 : ((S ++ [0]).map iv)[0 + i]? = some u := by
              rw [List.getElem?_map] at hi ⊢
              rw [List.getElem?_drop] at hi
              have hlt3 : 0 + i < S.length := by
                rcases Nat.lt_or_ge (0 + i) S.length with h | h
                · exact h
                · rw [List.getElem?_eq_none h] at hi; cases hi
              rw [List.getElem?_append_left hlt3]
              exact hi
            have := (HX2.out.cells (g := g9) rfl) _ _ hi2
            rw [addr_add] at this
            rw [addr_add']
            exact this
          · intro w3 hsp hb3
            have hx3 := own_copied HX2.out (by simpa using HH9.out) hsp.out (by simp only [List.length_map, List.length_drop]; omega)
            refine hK _ _ (fun _ => trivial) ?_
            clear hK K
            refine NoPanic.normal ?_
            obtain ⟨u3, c3⟩ : ∃ u, w3.cell? ⟨g9, 0, none⟩ = some u := by
              have := (hx3.cells (g := g9) rfl) (0) _ (List.getElem?_eq_getElem (by have := hx3.1; omega))
              rw [addr_add] at this
              exact ⟨_, this⟩
            have f3 : w3.frozen? ⟨g9, 0, none⟩ = false := hx3.frozenAt _
            have hst := hx3.stored (0) (.int .i64 x)
            rw [ins_splice S x (0) (by omega)] at hst
            have hins : insI x S = S.take (0) ++ x :: S.drop (0) := insI_at x S (0) hS (by omega) HG.out (fun y h => absurd rfl h)
            rw [← hins] at hst
            have HST := hide hst
            have HLEN : Hid (S.length + 1 = (srt (l.take (m + 1))).length) := hide (by rw [HT.out, hins]; simp only [List.length_append, List.length_cons, List.length_take, List.length_drop]; omega)
            have c4 := D0.out w3 hb3
            have HB3 := hide hb3
            clear hins hst hx3 hsp hb3 hcur hcl
            go_wp2
            go_roundw
            case rel => exact ⟨m + 1, by omega, by go_num, some ⟨g9, 0, none⟩, cap9, by rw [HLEN.out], hide (by rw [← HLEN.out, HT.out]; exact HST.out.1), hide (HB3.out.setCell hbg9 _)⟩
            case measure => simp [intOf]; omega
        · obtain ⟨j, rfl⟩ : ∃ j, k = j + 1 := ⟨k - 1, by omega⟩
          obtain ⟨y, hy⟩ : ∃ y, S[j]? = some y := ⟨_, List.getElem?_eq_getElem (by omega)⟩
          obtain ⟨g, cap, hv, hBg, hgw⟩ := HO.out.form (by omega)
          injection hv with e1 _ e3
          subst e1; subst e3
          have c1 : wr.cell? ⟨g, j, none⟩ = some (.int .i64 y) := by
            have := (HO.out.cells (g := g) rfl) j (iv y) (by simp [hy])
            rw [addr_add] at this
            exact (HB1.out.cell (p := ⟨g, j, none⟩) hgw).trans this
          have c2 := D0.out wr (HB.out.trans (HB1.out.mono HB.out.size))
          have q1 : (0 : Int) < (j : Int) + 1 := by omega
          have q2 : (j : Int) < (S.length : Int) := by omega
          have q3 : IntKind.i64.wrap ((j : Int) + 1 - 1) = j := by simp [IntKind.wrap, IntKind.bits, IntKind.signed]; omega
          have q4 : (0 : Int) ≤ (j : Int) := by omega
          have HY := hide hy
          clear hy hkp
          rw [show ((j + 1 : Nat) : Int) = (j : Int) + 1 from rfl]
          by_cases hgt : x < y
          · go_wp2
            go_quiet (fail)
            go_wp2
            go_roundw
            case rel =>
              refine ⟨j, by omega, by go_num, hide ?_, hide (below_drewN HB1.out _)⟩
              intro i z h1 h2
              by_cases hij : i = j
              · subst hij
                rw [HY.out] at h2
                injection h2 with h2
                omega
              · exact HG.out i z (by omega) h2
            case measure => simp [intOf]
          · have hng : decide (x < y) = false := decide_eq_false hgt
            by_cases hxy : y = x
            · subst hxy
              have e1 : (y == y) = true := by simp
              have HI : Hid (insI y S = S) := hide (insI_there y S hS (List.mem_of_getElem? HY.out))
              have HLEN : Hid (S.length = (srt (l.take (m + 1))).length) := hide (by rw [HT.out, HI.out])
              clear hgt
              go_wp2
              go_quiet (fail)
              go_wp2
              go_quiet (fail)
              refine name_exit fun wd hwd => ?_
              have hbd : Below w1.heap.size w1 wd := by rw [hwd]; exact below_drewN (below_drewN HB1.out _) _
              have hod := own_below HO.out hbd
              have HOD := hide hod
              have hsz := HB.out.size
              have HBD := hide hbd
              clear hwd hod hbd
              go_wp2
              go_roundw
              case rel => exact ⟨m + 1, by omega, by go_num, some ⟨g, 0, none⟩, cv, by rw [HLEN.out], hide (by rw [← HLEN.out, HT.out, HI.out]; exact HOD.out), hide (HB.out.trans (HBD.out.mono hsz))⟩
              case measure => simp [intOf]; omega
            · have e1 : (y == x) = false := by simpa using hxy
              have hyx : y < x := by omega
              clear hgt hxy
              go_wp2
              go_quiet (fail)
              go_wp2
              go_quiet (fail)
              refine name_exit fun wd hwd => ?_
              have hbd : Below w1.heap.size w1 wd := by rw [hwd]; exact below_drewN (below_drewN HB1.out _) _
              have hod := own_below HO.out hbd
              have HOD := hide hod
              have hsz := HB.out.size
              have hsz2 := hbd.size
              have HBD := hide hbd
              clear hwd hod hbd
              go_wp2_with (at_builtin; go_loud (refine wpList_append_lies _ rfl (.tmp 44) (.tmp 45) 75 rfl w.heap.size 3 i1 (.int .i64 0) 1 8 Try.underlying75 gi gz0 gz1 gz2 rfl (by decide) _ _ _ rfl (HOD.out.alloc _) ⟨wd.heap.size, 0, none⟩ 1 1 [.int .i64 0] rfl rfl (news_new wd _ _ _ rfl) (ints_one rfl) (by omega) (by unfold maxLen; omega) (by omega) (by simp; omega) _ rfl ?_))
              intro g9 cap9 w2 hown2 hgrow hg9 _
              have hx2 : S.map iv ++ [.int .i64 0] = (S ++ [0]).map iv := by simp
              rw [hx2] at hown2
              have hb2 : Below w.heap.size w w2 := ((HB.out.trans (HBD.out.mono hsz)).alloc (by omega) _).grown hgrow (by simp; omega) (fun q hq => (HOD.out.lt q hq).1)
              obtain ⟨_, cap9', cur9, e9, hbg9, hh9, hn9, hm9, hs9, ht9⟩ : ∃ (g' cap' : Nat) (cur : Array Value), Value.slice (some ⟨g9, 0, none⟩) (S.length + 1) cap9 = .slice (some ⟨g', 0, none⟩) (S.length + 1) cap' ∧ w.heap.size ≤ g' ∧ w2.heap[g']? = some (.cells cur 3 (0, 0)) ∧ S.length + 1 ≤ cap' ∧ cap' ≤ maxLen ∧ cur.size = cap' * 1 ∧ cur.toList.take ((S.length + 1) * 1) = (S ++ [0]).map iv := by
                rcases hown2.2 with ⟨e0, _⟩ | q
                · cases e0
                · exact q
              injection e9 with e1 _ e3
              injection e1 with e1
              injection e1 with e1
              subst e1; subst e3
              have HX2 := hide hown2
              have HB2 := hide hb2
              have HH9 := hide hh9
              have HS9 := hide hs9
              unfold maxLen at hm9
              clear hown2 hgrow hb2 hx2 hg9 hh9 hs9 ht9
              go_wp2
              have r1 : IntKind.i64.wrap ((j : Int) + 1 + 1) = (j : Int) + 1 + 1 := by simp [IntKind.wrap, IntKind.bits, IntKind.signed]; omega
              have r2 : (0 : Int) ≤ (j : Int) + 1 + 1 := by omega
              have r3 : ((j : Int) + 1 + 1 : Int) ≤ (S.length : Int) + 1 := by omega
              have r4 : ((j : Int) + 1 + 1 : Int).toNat = (j + 1) + 1 := by omega
              have r5 : (0 : Int) ≤ ((j : Int) + 1) := by omega
              have r6 : (((j : Int) + 1) : Int) ≤ (S.length : Int) + 1 := by omega
              have r7 : (((j : Int) + 1) : Int).toNat = (j + 1) := by omega
              refine wp_region_reads0 7 (by kernel_rfl) (by kernel_rfl) ?_
              simp only [List.take_succ_cons, List.take_zero, List.drop_succ_cons, List.drop_zero]
              iterate 7
                refine ⟨?_, Or.inl ⟨by rfl, ?_⟩, ?_⟩
                rotate_left 1
                · intro w' _
                  go_simp
                  first | done | with_reducible rfl
                simp only [Act.put, List.setIfInBounds_toArray, List.set_cons_zero, List.set_cons_succ]
              clear r1 r2 r3 r4 r5 r6 r7
              simp only [wpReads]
              intro K hK
              have hcur : w2.drew.heap[g9]? = some (.cells cur9.toList.toArray 3 (0, 0)) := by show w2.heap[g9]? = _; simpa using HH9.out
              have hcl : cur9.toList.length = cap9 := by simpa using HS9.out
              refine step_copy_splice rfl (.tmp 50) (.tmp 53) 75 75 rfl 3 Try.underlying75 (by kernel_rfl) _ _ _ _ _ _ rfl rfl g9 ((j + 1) + 1) cur9.toList 3 hcur ((S.drop ((j + 1))).map iv) (by show _ = min _ _; simp only [List.length_map, List.length_drop]; omega) ?_ (by simp only [List.length_map, List.length_drop]; omega) (by intro u hu; obtain ⟨z, _, rfl⟩ := List.mem_map.1 hu; rfl) w.heap.size w (HB2.out.drew) hbg9 ?_
              · intro hpos
                have hpl : (j + 1) < S.length := by simp only [List.length_map, List.length_drop] at hpos; omega
                refine ⟨by first | rfl | rw [if_neg (by omega)], ⟨g9, (j + 1), none⟩, by first | rfl | rw [if_neg (by omega)], fun i u hi => ?_⟩
                have hi2 : ((S ++ [0]).map iv)[(j + 1) + i]? = some u := by
                  rw [List.getElem?_map] at hi ⊢
                  rw [List.getElem?_drop] at hi
                  have hlt3 : (j + 1) + i < S.length := by
                    rcases Nat.lt_or_ge ((j + 1) + i) S.length with h | h
                    · exact h
                    · rw [List.getElem?_eq_none h] at hi; cases hi
                  rw [List.getElem?_append_left hlt3]
                  exact hi
                have := (HX2.out.cells (g := g9) rfl) _ _ hi2
                rw [addr_add] at this
                rw [addr_add']
                exact this
              · intro w3 hsp hb3
                have hx3 := own_copied HX2.out (by simpa using HH9.out) hsp.out (by simp only [List.length_map, List.length_drop]; omega)
                refine hK _ _ (fun _ => trivial) ?_
                clear hK K
                refine NoPanic.normal ?_
                obtain ⟨u3, c3⟩ : ∃ u, w3.cell? ⟨g9, (j + 1), none⟩ = some u := by
                  have := (hx3.cells (g := g9) rfl) ((j + 1)) _ (List.getElem?_eq_getElem (by have := hx3.1; omega))
                  rw [addr_add] at this
                  exact ⟨_, this⟩
                have f3 : w3.frozen? ⟨g9, (j + 1), none⟩ = false := hx3.frozenAt _
                have hst := hx3.stored ((j + 1)) (.int .i64 x)
                rw [ins_splice S x ((j + 1)) (by omega)] at hst
                have hins : insI x S = S.take ((j + 1)) ++ x :: S.drop ((j + 1)) := insI_at x S ((j + 1)) hS (by omega) HG.out (fun z _ hz => by rw [show j + 1 - 1 = j from rfl, HY.out] at hz; injection hz with hz; omega)
                rw [← hins] at hst
                have HST := hide hst
                have HLEN : Hid (S.length + 1 = (srt (l.take (m + 1))).length) := hide (by rw [HT.out, hins]; simp only [List.length_append, List.length_cons, List.length_take, List.length_drop]; omega)
                have c4 := D0.out w3 hb3
                have HB3 := hide hb3
                clear hins hst hx3 hsp hb3 hcur hcl
                go_wp2
                go_roundw
                case rel => exact ⟨m + 1, by omega, by go_num, some ⟨g9, 0, none⟩, cap9, by rw [HLEN.out], hide (by rw [← HLEN.out, HT.out]; exact HST.out.1), hide (HB3.out.setCell hbg9 _)⟩
                case measure => simp [intOf]; omega
    · have mz : ¬ (m : Int) < (l.length : Int) := by omega
      have ht : l.take m = l := List.take_of_length_le (by omega)
      rw [ht] at HO ⊢
      clear ht
      go_wp2
      go_ret
      exact ⟨_, rfl, HO.out, HB.out⟩
end Go.Proofs.Ytamnaojheecopaa
