/- Texts laid together: ParT, ParU, ParG, ParH, ParW. Lemmas for the statements of this seat; no condition. -/
import Derived.Test.YtgdlbaabdebclaaPk5
import Derived.WalkSmall
import Derived.Test.YtgdlbaabdebclaaPk3

/- The reference's Wide and High. -/
namespace Go.Proofs.Ytgdlbaabdebclaa
open Go.RowKit
set_option linter.unusedVariables false
set_option linter.unusedSimpArgs false

theorem Box5.upd {w w' : World} {b o : Nat} {row : Option Nat} {v0 v1 v2 v3 v4 : Value} (h : Box5 w b v0 v1 v2 v3 v4) (U : Upd o row w w') (h1 : b ≠ o) (h2 : row ≠ some b) : Box5 w' b v0 v1 v2 v3 v4 := by
  have hs := lt_of_cell h.c0
  exact ⟨(U.cell hs h1 h2).trans h.c0, (U.cell hs h1 h2).trans h.c1, (U.cell hs h1 h2).trans h.c2, (U.cell hs h1 h2).trans h.c3, (U.cell hs h1 h2).trans h.c4, (U.frozen hs h1 h2).trans h.z0, (U.frozen hs h1 h2).trans h.z1, (U.frozen hs h1 h2).trans h.z2, (U.frozen hs h1 h2).trans h.z3, (U.frozen hs h1 h2).trans h.z4⟩
set_option maxRecDepth 100000 in
set_option maxHeartbeats 8000000 in
theorem rWide_any (l : Lot5) (h : validL l) (w : World) : Calls Try.prog 59 #[.agg (encL l).toArray] w fun e w' => e = .returned (.tuple #[.agg (encL (wideL l).1).toArray, .agg (encL (wideL l).2).toArray]) ∧ Below w.heap.size w w' := by
  have hf : 0 ≤ l.f ∧ l.f ≤ 255 := by have := h.2; omega
  have HF1 := hide (fun W => rless_any hf (s := 2) (.inr (.inl rfl)) W)
  have HF2 := hide (fun W => rless_any hf (s := 1) (.inl rfl) W)
  have HWI : Hid (∀ W, Calls Try.prog 29 #[.agg (encR l.r).toArray] W fun e w' => e = .returned (.int .i64 l.w) ∧ Below W.heap.size W w') := hide (fun W => rWidth_any l.r h.1 W)
  have hp := valid_pos h
  have hm := half_wrap (x := l.r.x0) (d := l.w) h.1.2.2.1 ⟨hp.1, hp.2.2.1⟩
  have HR : Hid (wideL l = (⟨⟨l.r.x0, l.r.y0, l.r.x0 + l.w / 2, l.r.y1⟩, lessS l.f 2⟩, ⟨⟨l.r.x0 + l.w / 2, l.r.y0, l.r.x1, l.r.y1⟩, lessS l.f 1⟩)) := hide rfl
  clear hp h hf
  generalize wideL l = R at *
  generalize l.r.x0 + l.w / 2 = m at *
  generalize l.w = d at *
  generalize lessS l.f 2 = fa at *
  generalize lessS l.f 1 = fb at *
  obtain ⟨⟨x0, y0, x1, y1⟩, f⟩ := l
  have HM := hide hm
  clear hm
  show Calls Try.prog _ #[.agg #[.int .i64 x0, .int .i64 y0, .int .i64 x1, .int .i64 y1, .int .u8 f]] w _
  simp only [encR] at HWI
  go_enter Try.func59, Try.ntmps59
  go_upto_region 1 with fail
  refine wp_name5 fun W hW => ?_
  have hb0 : Below w.heap.size w W := by rw [hW]; exact (((Below.refl _ _).alloc (Nat.le_refl _) _).alloc (by simp) _).alloc (by simp; omega) _
  have hs0 : w.heap.size + 2 < W.heap.size := by rw [hW]; simp
  have HL : Box5L W w.heap.size ⟨⟨x0, y0, x1, y1⟩, f⟩ := by rw [hW]; refine ⟨?_, ?_, ?_, ?_, ?_, ?_, ?_, ?_, ?_, ?_⟩ <;> simp [go_sem]
  have HA : Box5L W (w.heap.size + 1) zeroL := by rw [hW]; refine ⟨?_, ?_, ?_, ?_, ?_, ?_, ?_, ?_, ?_, ?_⟩ <;> simp [go_sem, zeroL]
  have HB : Box5L W (w.heap.size + 1 + 1) zeroL := by rw [hW]; refine ⟨?_, ?_, ?_, ?_, ?_, ?_, ?_, ?_, ?_, ?_⟩ <;> simp [go_sem, zeroL]
  obtain ⟨n, hn⟩ : ∃ n, w.heap.size = n := ⟨_, rfl⟩
  rw [hn] at hb0 hs0 HL HA HB ⊢
  have K0 := hide hb0
  have HN := hide hn
  clear hW hb0 hn
  go_cut [4, 5] (fun s4 s5 wx => ∃ g4 g5 : Nat, s4 = .pointer (some ⟨g4, 0, none⟩) ∧ s5 = .pointer (some ⟨g5, 0, none⟩) ∧ Below W.heap.size W wx ∧ W.heap.size ≤ g4 ∧ W.heap.size ≤ g5 ∧ g4 ≠ g5 ∧ Box5L wx g4 ⟨⟨x0, y0, x1, y1⟩, f⟩ ∧ Box5L wx g5 ⟨⟨x0, y0, x1, y1⟩, f⟩)
  case first =>
    obtain ⟨l0, l1, l2, l3, l4, -, -, -, -, -⟩ := id HL
    simp only at l0 l1 l2 l3 l4
    have q1 : n < W.heap.size := by omega
    have q2 : n < W.heap.size + 1 := by omega
    go_region
    all_goals (go_wp2_with (fail); go_meet)
    all_goals
      refine ⟨_, _, rfl, rfl, ?_, ?_, ?_, ?_, ?_, ?_⟩
      · repeat (first | with_reducible exact Below.refl _ _ | with_reducible refine Below.setCell ?_ (by simp) _ | with_reducible refine Below.alloc ?_ (by simp <;> omega) _ | with_reducible refine Below.drew ?_)
      · first | omega | simp
      · first | omega | simp
      · first | omega | simp
      · refine ⟨?_, ?_, ?_, ?_, ?_, ?_, ?_, ?_, ?_, ?_⟩ <;> simp [go_sem]
      · refine ⟨?_, ?_, ?_, ?_, ?_, ?_, ?_, ?_, ?_, ?_⟩ <;> simp [go_sem]
  case rest =>
    obtain ⟨g4, g5, rfl, rfl, hb, hg4, hg5, hne, HX, HY⟩ := hcut
    have HL1 := HL.below hb
    have HA1 := HA.below hb
    have HB1 := HB.below hb
    have K1 := hide (K0.out.trans (hb.mono (by omega)))
    have hn4 : n + 2 < g4 := by omega
    have hn5 : n + 2 < g5 := by omega
    have hnw : n + 2 < wc.heap.size := by have := hb.size; omega
    clear hb HL HA HB hg4 hg5 hs0 K0
    obtain ⟨l0, l1, l2, l3, l4, -, -, -, -, -⟩ := id HL1
    simp only at l0 l1 l2 l3 l4
    have q1 : n < wc.heap.size := by omega
    go_wp2
    refine wp_hab fun hab => ?_
    refine wp_region_above (by kernel_rfl) (by kernel_rfl) ?_
    repeat (go_big_quiet_step ((go_at_call 29; exact above_of (HWI.out _))))
    refine wpQuiet_nil ?_
    refine above_ends fun w3 hb => ?_
    clear hab l0 l1 l2 l3 l4 q1
    have HL3 := HL1.below hb
    have HA3 := HA1.below hb
    have HB3 := HB1.below hb
    have HX3 := HX.below hb
    have HY3 := HY.below hb
    have K3 := hide (K1.out.trans (hb.mono (by omega)))
    clear hb HL1 HA1 HB1 HX HY K1 hnw
    try rw [HM.out]
    obtain ⟨a0, a1, a2, a3, a4, af0, af1, af2, af3, af4⟩ := id HX3
    obtain ⟨b0, b1, b2, b3, b4, bf0, bf1, bf2, bf3, bf4⟩ := id HY3
    simp only at a0 a1 a2 a3 a4 b0 b1 b2 b3 b4
    have hnx : n + 2 < w3.heap.size := by have := lt_of_cell HB3.c0; omega
    go_upto_region 4 with fail
    refine wp_name5 fun Z hZ => ?_
    have U : Upd g4 (some g5) w3 Z := by rw [hZ]; exact (Upd.refl g4 (some g5) w3).setCell _ _ |>.setRow _ _
    have HXZ : Box5L Z g4 ⟨⟨x0, y0, m, y1⟩, f⟩ := by rw [hZ]; refine ⟨?_, ?_, ?_, ?_, ?_, ?_, ?_, ?_, ?_, ?_⟩ <;> simp [go_sem, hne, hne.symm, a0, a1, a2, a3, a4, af0, af1, af2, af3, af4]
    have HYZ : Box5L Z g5 ⟨⟨m, y0, x1, y1⟩, f⟩ := by rw [hZ]; refine ⟨?_, ?_, ?_, ?_, ?_, ?_, ?_, ?_, ?_, ?_⟩ <;> simp [go_sem, hne, hne.symm, b0, b1, b2, b3, b4, bf0, bf1, bf2, bf3, bf4]
    have HLZ : Box5L Z n ⟨⟨x0, y0, x1, y1⟩, f⟩ := Box5.upd HL3 U (by omega) (fun e => by injection e with e; omega)
    have HAZ : Box5L Z (n + 1) zeroL := Box5.upd HA3 U (by omega) (fun e => by injection e with e; omega)
    have HBZ : Box5L Z (n + 1 + 1) zeroL := Box5.upd HB3 U (by omega) (fun e => by injection e with e; omega)
    have KZ := hide (K3.out.trans (U.below (n := n) (by omega) (by omega) (fun k hk => by injection hk with hk; omega)))
    clear hZ U a0 a1 a2 a3 a4 af0 af1 af2 af3 af4 b0 b1 b2 b3 b4 bf0 bf1 bf2 bf3 bf4 HX3 HY3 HL3 HA3 HB3 K3 hnx
    obtain ⟨-, -, -, -, l4, -, -, -, -, -⟩ := id HLZ
    obtain ⟨a0, a1, a2, a3, a4, af0, af1, af2, af3, af4⟩ := id HXZ
    obtain ⟨b0, b1, b2, b3, b4, bf0, bf1, bf2, bf3, bf4⟩ := id HYZ
    simp only at l4 a0 a1 a2 a3 a4 b0 b1 b2 b3 b4
    refine wp_region_two [0, 1, 3, 4] [2] [6] [5, 7, 8, 9] (fun w' => w'.cell? ⟨n, 4, none⟩ = some (.int .u8 f) ∧ (w'.cell? ⟨g4, 4, none⟩ = some (.int .u8 f) ∨ True)) (by kernel_rfl) (by kernel_rfl) ⟨l4, .inr trivial⟩ ?_
    simp only [List.map_cons, List.map_nil, opAt, List.getElem?_cons_succ, List.getElem?_cons_zero, Option.getD_some]
    iterate 4
      refine ⟨?_, Or.inl ⟨by rfl, ?_⟩, ?_⟩
      rotate_left 1
      · intro w' hSw
        obtain ⟨z0, -⟩ := hSw
        go_simp
        first | done | with_reducible rfl
      simp only [Act.put, List.setIfInBounds_toArray, List.set_cons_zero, List.set_cons_succ]
    simp only [wpReads, wpChain]
    intro K hK
    simp only [Act.put, List.setIfInBounds_toArray, List.set_cons_zero, List.set_cons_succ] at hK ⊢
    go_simp
    refine (HF1.out _).mono ?_
    rintro e w6 ⟨rfl, rfl⟩
    refine hK _ _ ⟨l4, .inr trivial⟩ ?_
    clear hK K
    iterate 1
      refine ⟨?_, Or.inl ⟨by rfl, ?_⟩, ?_⟩
      rotate_left 1
      · intro w' hSw
        clear hSw
        go_simp
        first | done | with_reducible rfl
      try simp only [Act.put, List.setIfInBounds_toArray, List.set_cons_zero, List.set_cons_succ]
    intro K hK
    simp only [Act.put, List.setIfInBounds_toArray, List.set_cons_zero, List.set_cons_succ] at hK ⊢
    go_simp
    refine (HF2.out _).mono ?_
    rintro e w6 ⟨rfl, rfl⟩
    refine hK _ _ (fun _ => ⟨l4, .inr trivial⟩) ?_
    clear hK K
    have n1 : n ≠ g4 := by omega
    intro K hK
    simp only [Act.put, List.setIfInBounds_toArray, List.set_cons_zero, List.set_cons_succ] at hK ⊢
    go_simp
    refine hK _ _ (fun _ => ⟨by simp [go_sem, n1, n1.symm, l4], .inr trivial⟩) ?_
    clear hK K
    intro K hK
    simp only [Act.put, List.setIfInBounds_toArray, List.set_cons_zero, List.set_cons_succ] at hK ⊢
    go_simp
    refine hK _ _ (fun _ => ⟨by simp [go_sem, n1, n1.symm, l4], .inr trivial⟩) ?_
    clear hK K
    intro K hK
    simp only [Act.put, List.setIfInBounds_toArray, List.set_cons_zero, List.set_cons_succ] at hK ⊢
    go_simp
    refine hK _ _ (fun h => absurd rfl h) ?_
    clear hK K
    refine NoPanic.normal ?_
    go_upto_region 5 with fail
    refine wp_name5 fun V0 hV0 => ?_
    have U : Upd g4 (some g5) Z V0 := by rw [hV0]; exact upd_drew ((Upd.refl g4 (some g5) Z).setCell _ _ |>.setRow _ _)
    have HXV : Box5L V0 g4 ⟨⟨x0, y0, m, y1⟩, fa⟩ := by rw [hV0]; refine ⟨?_, ?_, ?_, ?_, ?_, ?_, ?_, ?_, ?_, ?_⟩ <;> simp [go_sem, hne, hne.symm, a0, a1, a2, a3, a4, af0, af1, af2, af3, af4]
    have HYV : Box5L V0 g5 ⟨⟨m, y0, x1, y1⟩, fb⟩ := by rw [hV0]; refine ⟨?_, ?_, ?_, ?_, ?_, ?_, ?_, ?_, ?_, ?_⟩ <;> simp [go_sem, hne, hne.symm, b0, b1, b2, b3, b4, bf0, bf1, bf2, bf3, bf4]
    have HAV : Box5L V0 (n + 1) zeroL := Box5.upd HAZ U (by omega) (fun e => by injection e with e; omega)
    have HBV : Box5L V0 (n + 1 + 1) zeroL := Box5.upd HBZ U (by omega) (fun e => by injection e with e; omega)
    have KV := hide (KZ.out.trans (U.below (n := n) (by omega) (by have := lt_of_cell HBZ.c0; omega) (fun k hk => by injection hk with hk; omega)))
    clear hV0 U a0 a1 a2 a3 a4 af0 af1 af2 af3 af4 b0 b1 b2 b3 b4 bf0 bf1 bf2 bf3 bf4 HXZ HYZ HLZ HAZ HBZ KZ l4
    obtain ⟨x0', x1', x2', x3', x4', -, -, -, -, -⟩ := id HXV
    obtain ⟨y0', y1', y2', y3', y4', -, -, -, -, -⟩ := id HYV
    simp only at x0' x1' x2' x3' x4' y0' y1' y2' y3' y4'
    obtain ⟨a0, a1, a2, a3, a4, af0, af1, af2, af3, af4⟩ := id HAV
    obtain ⟨b0, b1, b2, b3, b4, bf0, bf1, bf2, bf3, bf4⟩ := id HBV
    simp only [zeroL] at a0 a1 a2 a3 a4 b0 b1 b2 b3 b4
    have g4a : g4 ≠ n + 1 := by omega
    have g4b : g4 ≠ n + 1 + 1 := by omega
    have g5a : g5 ≠ n + 1 := by omega
    have g5b : g5 ≠ n + 1 + 1 := by omega
    go_region
    go_wp2_with (fail)
    refine exit_name fun V hV => ?_
    have HAE : Box5L V (n + 1) ⟨⟨x0, y0, m, y1⟩, fa⟩ := by rw [hV]; refine ⟨?_, ?_, ?_, ?_, ?_, ?_, ?_, ?_, ?_, ?_⟩ <;> simp [go_sem, a0, a1, a2, a3, a4, af0, af1, af2, af3, af4]
    have HBE : Box5L V (n + 1 + 1) ⟨⟨m, y0, x1, y1⟩, fb⟩ := by rw [hV]; refine ⟨?_, ?_, ?_, ?_, ?_, ?_, ?_, ?_, ?_, ?_⟩ <;> simp [go_sem, b0, b1, b2, b3, b4, bf0, bf1, bf2, bf3, bf4]
    have KE : Below n w V := by
      rw [hV]
      repeat (first | with_reducible exact KV.out | with_reducible refine Below.setCell ?_ (by first | (simp; done) | (simp; omega)) _ | with_reducible refine Below.drew ?_)
    clear hV a0 a1 a2 a3 a4 af0 af1 af2 af3 af4 b0 b1 b2 b3 b4 bf0 bf1 bf2 bf3 bf4
    obtain ⟨a0, a1, a2, a3, a4, -, -, -, -, -⟩ := HAE
    obtain ⟨b0, b1, b2, b3, b4, -, -, -, -, -⟩ := HBE
    refine bodyPost_ret (v := .tuple #[.agg (encL ⟨⟨x0, y0, m, y1⟩, fa⟩).toArray, .agg (encL ⟨⟨m, y0, x1, y1⟩, fb⟩).toArray]) (by simp [results, Try.results59, go_sem, a0, a1, a2, a3, a4, b0, b1, b2, b3, b4, encL]) rfl ⟨by first | (rw [HR.out]; rfl) | rw [HR.out], by first | exact KE | (rw [HN.out]; exact KE)⟩
set_option maxRecDepth 100000 in
set_option maxHeartbeats 8000000 in
theorem rHigh_any (l : Lot5) (h : validL l) (w : World) : Calls Try.prog 60 #[.agg (encL l).toArray] w fun e w' => e = .returned (.tuple #[.agg (encL (highL l).1).toArray, .agg (encL (highL l).2).toArray]) ∧ Below w.heap.size w w' := by
  have hf : 0 ≤ l.f ∧ l.f ≤ 255 := by have := h.2; omega
  have HF1 := hide (fun W => rless_any hf (s := 8) (.inr (.inr (.inr rfl))) W)
  have HF2 := hide (fun W => rless_any hf (s := 4) (.inr (.inr (.inl rfl))) W)
  have HWI : Hid (∀ W, Calls Try.prog 30 #[.agg (encR l.r).toArray] W fun e w' => e = .returned (.int .i64 l.h) ∧ Below W.heap.size W w') := hide (fun W => rHeight_any l.r h.1 W)
  have hp := valid_pos h
  have hm := half_wrap (x := l.r.y0) (d := l.h) h.1.2.2.2.2.1 ⟨hp.2.1, hp.2.2.2⟩
  have HR : Hid (highL l = (⟨⟨l.r.x0, l.r.y0, l.r.x1, l.r.y0 + l.h / 2⟩, lessS l.f 8⟩, ⟨⟨l.r.x0, l.r.y0 + l.h / 2, l.r.x1, l.r.y1⟩, lessS l.f 4⟩)) := hide rfl
  clear hp h hf
  generalize highL l = R at *
  generalize l.r.y0 + l.h / 2 = m at *
  generalize l.h = d at *
  generalize lessS l.f 8 = fa at *
  generalize lessS l.f 4 = fb at *
  obtain ⟨⟨x0, y0, x1, y1⟩, f⟩ := l
  have HM := hide hm
  clear hm
  show Calls Try.prog _ #[.agg #[.int .i64 x0, .int .i64 y0, .int .i64 x1, .int .i64 y1, .int .u8 f]] w _
  simp only [encR] at HWI
  go_enter Try.func60, Try.ntmps60
  go_upto_region 1 with fail
  refine wp_name5 fun W hW => ?_
  have hb0 : Below w.heap.size w W := by rw [hW]; exact (((Below.refl _ _).alloc (Nat.le_refl _) _).alloc (by simp) _).alloc (by simp; omega) _
  have hs0 : w.heap.size + 2 < W.heap.size := by rw [hW]; simp
  have HL : Box5L W w.heap.size ⟨⟨x0, y0, x1, y1⟩, f⟩ := by rw [hW]; refine ⟨?_, ?_, ?_, ?_, ?_, ?_, ?_, ?_, ?_, ?_⟩ <;> simp [go_sem]
  have HA : Box5L W (w.heap.size + 1) zeroL := by rw [hW]; refine ⟨?_, ?_, ?_, ?_, ?_, ?_, ?_, ?_, ?_, ?_⟩ <;> simp [go_sem, zeroL]
  have HB : Box5L W (w.heap.size + 1 + 1) zeroL := by rw [hW]; refine ⟨?_, ?_, ?_, ?_, ?_, ?_, ?_, ?_, ?_, ?_⟩ <;> simp [go_sem, zeroL]
  obtain ⟨n, hn⟩ : ∃ n, w.heap.size = n := ⟨_, rfl⟩
  rw [hn] at hb0 hs0 HL HA HB ⊢
  have K0 := hide hb0
  have HN := hide hn
  clear hW hb0 hn
  go_cut [4, 5] (fun s4 s5 wx => ∃ g4 g5 : Nat, s4 = .pointer (some ⟨g4, 0, none⟩) ∧ s5 = .pointer (some ⟨g5, 0, none⟩) ∧ Below W.heap.size W wx ∧ W.heap.size ≤ g4 ∧ W.heap.size ≤ g5 ∧ g4 ≠ g5 ∧ Box5L wx g4 ⟨⟨x0, y0, x1, y1⟩, f⟩ ∧ Box5L wx g5 ⟨⟨x0, y0, x1, y1⟩, f⟩)
  case first =>
    obtain ⟨l0, l1, l2, l3, l4, -, -, -, -, -⟩ := id HL
    simp only at l0 l1 l2 l3 l4
    have q1 : n < W.heap.size := by omega
    have q2 : n < W.heap.size + 1 := by omega
    go_region
    all_goals (go_wp2_with (fail); go_meet)
    all_goals
      refine ⟨_, _, rfl, rfl, ?_, ?_, ?_, ?_, ?_, ?_⟩
      · repeat (first | with_reducible exact Below.refl _ _ | with_reducible refine Below.setCell ?_ (by simp) _ | with_reducible refine Below.alloc ?_ (by simp <;> omega) _ | with_reducible refine Below.drew ?_)
      · first | omega | simp
      · first | omega | simp
      · first | omega | simp
      · refine ⟨?_, ?_, ?_, ?_, ?_, ?_, ?_, ?_, ?_, ?_⟩ <;> simp [go_sem]
      · refine ⟨?_, ?_, ?_, ?_, ?_, ?_, ?_, ?_, ?_, ?_⟩ <;> simp [go_sem]
  case rest =>
    obtain ⟨g4, g5, rfl, rfl, hb, hg4, hg5, hne, HX, HY⟩ := hcut
    have HL1 := HL.below hb
    have HA1 := HA.below hb
    have HB1 := HB.below hb
    have K1 := hide (K0.out.trans (hb.mono (by omega)))
    have hn4 : n + 2 < g4 := by omega
    have hn5 : n + 2 < g5 := by omega
    have hnw : n + 2 < wc.heap.size := by have := hb.size; omega
    clear hb HL HA HB hg4 hg5 hs0 K0
    obtain ⟨l0, l1, l2, l3, l4, -, -, -, -, -⟩ := id HL1
    simp only at l0 l1 l2 l3 l4
    have q1 : n < wc.heap.size := by omega
    go_wp2
    refine wp_hab fun hab => ?_
    refine wp_region_above (by kernel_rfl) (by kernel_rfl) ?_
    repeat (go_big_quiet_step ((go_at_call 30; exact above_of (HWI.out _))))
    refine wpQuiet_nil ?_
    refine above_ends fun w3 hb => ?_
    clear hab l0 l1 l2 l3 l4 q1
    have HL3 := HL1.below hb
    have HA3 := HA1.below hb
    have HB3 := HB1.below hb
    have HX3 := HX.below hb
    have HY3 := HY.below hb
    have K3 := hide (K1.out.trans (hb.mono (by omega)))
    clear hb HL1 HA1 HB1 HX HY K1 hnw
    try rw [HM.out]
    obtain ⟨a0, a1, a2, a3, a4, af0, af1, af2, af3, af4⟩ := id HX3
    obtain ⟨b0, b1, b2, b3, b4, bf0, bf1, bf2, bf3, bf4⟩ := id HY3
    simp only at a0 a1 a2 a3 a4 b0 b1 b2 b3 b4
    have hnx : n + 2 < w3.heap.size := by have := lt_of_cell HB3.c0; omega
    go_upto_region 4 with fail
    refine wp_name5 fun Z hZ => ?_
    have U : Upd g4 (some g5) w3 Z := by rw [hZ]; exact (Upd.refl g4 (some g5) w3).setCell _ _ |>.setRow _ _
    have HXZ : Box5L Z g4 ⟨⟨x0, y0, x1, m⟩, f⟩ := by rw [hZ]; refine ⟨?_, ?_, ?_, ?_, ?_, ?_, ?_, ?_, ?_, ?_⟩ <;> simp [go_sem, hne, hne.symm, a0, a1, a2, a3, a4, af0, af1, af2, af3, af4]
    have HYZ : Box5L Z g5 ⟨⟨x0, m, x1, y1⟩, f⟩ := by rw [hZ]; refine ⟨?_, ?_, ?_, ?_, ?_, ?_, ?_, ?_, ?_, ?_⟩ <;> simp [go_sem, hne, hne.symm, b0, b1, b2, b3, b4, bf0, bf1, bf2, bf3, bf4]
    have HLZ : Box5L Z n ⟨⟨x0, y0, x1, y1⟩, f⟩ := Box5.upd HL3 U (by omega) (fun e => by injection e with e; omega)
    have HAZ : Box5L Z (n + 1) zeroL := Box5.upd HA3 U (by omega) (fun e => by injection e with e; omega)
    have HBZ : Box5L Z (n + 1 + 1) zeroL := Box5.upd HB3 U (by omega) (fun e => by injection e with e; omega)
    have KZ := hide (K3.out.trans (U.below (n := n) (by omega) (by omega) (fun k hk => by injection hk with hk; omega)))
    clear hZ U a0 a1 a2 a3 a4 af0 af1 af2 af3 af4 b0 b1 b2 b3 b4 bf0 bf1 bf2 bf3 bf4 HX3 HY3 HL3 HA3 HB3 K3 hnx
    obtain ⟨-, -, -, -, l4, -, -, -, -, -⟩ := id HLZ
    obtain ⟨a0, a1, a2, a3, a4, af0, af1, af2, af3, af4⟩ := id HXZ
    obtain ⟨b0, b1, b2, b3, b4, bf0, bf1, bf2, bf3, bf4⟩ := id HYZ
    simp only at l4 a0 a1 a2 a3 a4 b0 b1 b2 b3 b4
    refine wp_region_two [0, 1, 3, 4] [2] [6] [5, 7, 8, 9] (fun w' => w'.cell? ⟨n, 4, none⟩ = some (.int .u8 f) ∧ (w'.cell? ⟨g4, 4, none⟩ = some (.int .u8 f) ∨ True)) (by kernel_rfl) (by kernel_rfl) ⟨l4, .inr trivial⟩ ?_
    simp only [List.map_cons, List.map_nil, opAt, List.getElem?_cons_succ, List.getElem?_cons_zero, Option.getD_some]
    iterate 4
      refine ⟨?_, Or.inl ⟨by rfl, ?_⟩, ?_⟩
      rotate_left 1
      · intro w' hSw
        obtain ⟨z0, -⟩ := hSw
        go_simp
        first | done | with_reducible rfl
      simp only [Act.put, List.setIfInBounds_toArray, List.set_cons_zero, List.set_cons_succ]
    simp only [wpReads, wpChain]
    intro K hK
    simp only [Act.put, List.setIfInBounds_toArray, List.set_cons_zero, List.set_cons_succ] at hK ⊢
    go_simp
    refine (HF1.out _).mono ?_
    rintro e w6 ⟨rfl, rfl⟩
    refine hK _ _ ⟨l4, .inr trivial⟩ ?_
    clear hK K
    iterate 1
      refine ⟨?_, Or.inl ⟨by rfl, ?_⟩, ?_⟩
      rotate_left 1
      · intro w' hSw
        clear hSw
        go_simp
        first | done | with_reducible rfl
      try simp only [Act.put, List.setIfInBounds_toArray, List.set_cons_zero, List.set_cons_succ]
    intro K hK
    simp only [Act.put, List.setIfInBounds_toArray, List.set_cons_zero, List.set_cons_succ] at hK ⊢
    go_simp
    refine (HF2.out _).mono ?_
    rintro e w6 ⟨rfl, rfl⟩
    refine hK _ _ (fun _ => ⟨l4, .inr trivial⟩) ?_
    clear hK K
    have n1 : n ≠ g4 := by omega
    intro K hK
    simp only [Act.put, List.setIfInBounds_toArray, List.set_cons_zero, List.set_cons_succ] at hK ⊢
    go_simp
    refine hK _ _ (fun _ => ⟨by simp [go_sem, n1, n1.symm, l4], .inr trivial⟩) ?_
    clear hK K
    intro K hK
    simp only [Act.put, List.setIfInBounds_toArray, List.set_cons_zero, List.set_cons_succ] at hK ⊢
    go_simp
    refine hK _ _ (fun _ => ⟨by simp [go_sem, n1, n1.symm, l4], .inr trivial⟩) ?_
    clear hK K
    intro K hK
    simp only [Act.put, List.setIfInBounds_toArray, List.set_cons_zero, List.set_cons_succ] at hK ⊢
    go_simp
    refine hK _ _ (fun h => absurd rfl h) ?_
    clear hK K
    refine NoPanic.normal ?_
    go_upto_region 5 with fail
    refine wp_name5 fun V0 hV0 => ?_
    have U : Upd g4 (some g5) Z V0 := by rw [hV0]; exact upd_drew ((Upd.refl g4 (some g5) Z).setCell _ _ |>.setRow _ _)
    have HXV : Box5L V0 g4 ⟨⟨x0, y0, x1, m⟩, fa⟩ := by rw [hV0]; refine ⟨?_, ?_, ?_, ?_, ?_, ?_, ?_, ?_, ?_, ?_⟩ <;> simp [go_sem, hne, hne.symm, a0, a1, a2, a3, a4, af0, af1, af2, af3, af4]
    have HYV : Box5L V0 g5 ⟨⟨x0, m, x1, y1⟩, fb⟩ := by rw [hV0]; refine ⟨?_, ?_, ?_, ?_, ?_, ?_, ?_, ?_, ?_, ?_⟩ <;> simp [go_sem, hne, hne.symm, b0, b1, b2, b3, b4, bf0, bf1, bf2, bf3, bf4]
    have HAV : Box5L V0 (n + 1) zeroL := Box5.upd HAZ U (by omega) (fun e => by injection e with e; omega)
    have HBV : Box5L V0 (n + 1 + 1) zeroL := Box5.upd HBZ U (by omega) (fun e => by injection e with e; omega)
    have KV := hide (KZ.out.trans (U.below (n := n) (by omega) (by have := lt_of_cell HBZ.c0; omega) (fun k hk => by injection hk with hk; omega)))
    clear hV0 U a0 a1 a2 a3 a4 af0 af1 af2 af3 af4 b0 b1 b2 b3 b4 bf0 bf1 bf2 bf3 bf4 HXZ HYZ HLZ HAZ HBZ KZ l4
    obtain ⟨x0', x1', x2', x3', x4', -, -, -, -, -⟩ := id HXV
    obtain ⟨y0', y1', y2', y3', y4', -, -, -, -, -⟩ := id HYV
    simp only at x0' x1' x2' x3' x4' y0' y1' y2' y3' y4'
    obtain ⟨a0, a1, a2, a3, a4, af0, af1, af2, af3, af4⟩ := id HAV
    obtain ⟨b0, b1, b2, b3, b4, bf0, bf1, bf2, bf3, bf4⟩ := id HBV
    simp only [zeroL] at a0 a1 a2 a3 a4 b0 b1 b2 b3 b4
    have g4a : g4 ≠ n + 1 := by omega
    have g4b : g4 ≠ n + 1 + 1 := by omega
    have g5a : g5 ≠ n + 1 := by omega
    have g5b : g5 ≠ n + 1 + 1 := by omega
    go_region
    go_wp2_with (fail)
    refine exit_name fun V hV => ?_
    have HAE : Box5L V (n + 1) ⟨⟨x0, y0, x1, m⟩, fa⟩ := by rw [hV]; refine ⟨?_, ?_, ?_, ?_, ?_, ?_, ?_, ?_, ?_, ?_⟩ <;> simp [go_sem, a0, a1, a2, a3, a4, af0, af1, af2, af3, af4]
    have HBE : Box5L V (n + 1 + 1) ⟨⟨x0, m, x1, y1⟩, fb⟩ := by rw [hV]; refine ⟨?_, ?_, ?_, ?_, ?_, ?_, ?_, ?_, ?_, ?_⟩ <;> simp [go_sem, b0, b1, b2, b3, b4, bf0, bf1, bf2, bf3, bf4]
    have KE : Below n w V := by
      rw [hV]
      repeat (first | with_reducible exact KV.out | with_reducible refine Below.setCell ?_ (by first | (simp; done) | (simp; omega)) _ | with_reducible refine Below.drew ?_)
    clear hV a0 a1 a2 a3 a4 af0 af1 af2 af3 af4 b0 b1 b2 b3 b4 bf0 bf1 bf2 bf3 bf4
    obtain ⟨a0, a1, a2, a3, a4, -, -, -, -, -⟩ := HAE
    obtain ⟨b0, b1, b2, b3, b4, -, -, -, -, -⟩ := HBE
    refine bodyPost_ret (v := .tuple #[.agg (encL ⟨⟨x0, y0, x1, m⟩, fa⟩).toArray, .agg (encL ⟨⟨x0, m, x1, y1⟩, fb⟩).toArray]) (by simp [results, Try.results60, go_sem, a0, a1, a2, a3, a4, b0, b1, b2, b3, b4, encL]) rfl ⟨by first | (rw [HR.out]; rfl) | rw [HR.out], by first | exact KE | (rw [HN.out]; exact KE)⟩
end Go.Proofs.Ytgdlbaabdebclaa

/- The reference's parts. -/
namespace Go.Proofs.Ytgdlbaabdebclaa
open Go.RowKit
set_option linter.unusedVariables false
set_option linter.unusedSimpArgs false

theorem Box3.under {w w' : World} {b B : Nat} {v0 v1 v2 : Value} (h : Box3 w b v0 v1 v2) (hb : Below B w w') (hB : b < B) : Box3 w' b v0 v1 v2 :=
  ⟨(hb.cell (p := ⟨b, 0, none⟩) hB).trans h.c0, (hb.cell (p := ⟨b, 1, none⟩) hB).trans h.c1, (hb.cell (p := ⟨b, 2, none⟩) hB).trans h.c2⟩
theorem Box5L.under {w w' : World} {b B : Nat} {l : Lot5} (h : Box5L w b l) (hb : Below B w w') (hB : b < B) : Box5L w' b l :=
  ⟨(hb.cell (p := ⟨b, 0, none⟩) hB).trans h.c0, (hb.cell (p := ⟨b, 1, none⟩) hB).trans h.c1, (hb.cell (p := ⟨b, 2, none⟩) hB).trans h.c2, (hb.cell (p := ⟨b, 3, none⟩) hB).trans h.c3, (hb.cell (p := ⟨b, 4, none⟩) hB).trans h.c4,
    (hb.frozen (p := ⟨b, 0, none⟩) hB).trans h.z0, (hb.frozen (p := ⟨b, 1, none⟩) hB).trans h.z1, (hb.frozen (p := ⟨b, 2, none⟩) hB).trans h.z2, (hb.frozen (p := ⟨b, 3, none⟩) hB).trans h.z3, (hb.frozen (p := ⟨b, 4, none⟩) hB).trans h.z4⟩
theorem meet_aux {n m : Nat} {w w6 V : World} {v0 v1 v2 : Value} {A B : Lot5} (K : Below n w w6) (hs : n + 3 < w6.heap.size) (HP : Box3 w6 (n + 1) v0 v1 v2) (HA : Box5L w6 (n + 1 + 1) A) (HB : Box5L w6 (n + 1 + 1 + 1) B) (hm : n + 3 < m) (hV : Below m w6 V) {Q : Prop} (q : Q) :
    Below n w V ∧ n + 3 < V.heap.size ∧ Box3 V (n + 1) v0 v1 v2 ∧ Box5L V (n + 1 + 1) A ∧ Box5L V (n + 1 + 1 + 1) B ∧ Q :=
  ⟨K.trans (hV.mono (by omega)), Nat.lt_of_lt_of_le hs hV.size, HP.under hV (by omega), HA.under hV (by omega), HB.under hV (by omega), q⟩
set_option maxRecDepth 100000 in
set_option maxHeartbeats 16000000 in
theorem rparts_any (l : Lot5) (p : Pl3) (hv : validL l) (w : World) : Calls Try.prog 47 #[.agg (encL l).toArray, .agg (encP p).toArray] w fun e w' => e = .returned (.tuple #[.agg (encL (cutR l p).1).toArray, .agg (encL (cutR l p).2.1).toArray, .bool (cutR l p).2.2]) ∧ Below w.heap.size w w' := by
  have hf15 : 0 ≤ l.f ∧ l.f ≤ 15 := by have := hv.2; omega
  have HHE : Hid (∀ W, Calls Try.prog 30 #[.agg (encR l.r).toArray] W fun e w' => e = .returned (.int .i64 l.h) ∧ Below W.heap.size W w') := hide (fun W => rHeight_any l.r hv.1 W)
  have HWI : Hid (∀ W, Calls Try.prog 29 #[.agg (encR l.r).toArray] W fun e w' => e = .returned (.int .i64 l.w) ∧ Below W.heap.size W w') := hide (fun W => rWidth_any l.r hv.1 W)
  have HAR : Hid (∀ W, Calls Try.prog 16 #[.agg (encR l.r).toArray] W fun e w' => e = .returned (.int .i64 (l.w * l.h)) ∧ Below W.heap.size W w') := hide (fun W => rArea_box l.r hv.1 W)
  have HGD := hide (fun W => rFine_any l p (by omega) W)
  have HWD := hide (fun W => rWide_any l hv W)
  have HHI := hide (fun W => rHigh_any l hv W)
  have HF (x : Lot5) (hx : 0 ≤ x.f ∧ x.f ≤ 15) := hide (fun W => rFine_any x p (by omega) W)
  have HR : Hid (cutR l p = if decide (l.w * l.h ≤ p.ma) = true then (zeroL, zeroL, false) else if decide (goodL p l) = false then (zeroL, zeroL, false) else if bothG p (wayL (decide (l.h ≤ l.w)) l) = true then ((wayL (decide (l.h ≤ l.w)) l).1, (wayL (decide (l.h ≤ l.w)) l).2, true) else if bothG p (wayL (decide (l.w < l.h)) l) = true then ((wayL (decide (l.w < l.h)) l).1, (wayL (decide (l.w < l.h)) l).2, true) else (zeroL, zeroL, false)) := hide (cutR_eq l p)
  have HF1 := HF _ (way_15 hf15 (decide (l.h ≤ l.w))).1
  have HF2 := HF _ (way_15 hf15 (decide (l.h ≤ l.w))).2
  have HF3 := HF _ (way_15 hf15 (decide (l.w < l.h))).1
  have HF4 := HF _ (way_15 hf15 (decide (l.w < l.h))).2
  clear HF hf15
  have HW1 : Hid (decide (l.w < l.h) = true → wayL (decide (l.h ≤ l.w)) l = highL l ∧ wayL (decide (l.w < l.h)) l = wideL l) := hide (fun h => by
    have h1 : l.w < l.h := of_decide_eq_true h
    have h2 : decide (l.h ≤ l.w) = false := decide_eq_false (by omega)
    rw [h, h2]; exact ⟨rfl, rfl⟩)
  have HW2 : Hid (decide (l.w < l.h) = false → wayL (decide (l.h ≤ l.w)) l = wideL l ∧ wayL (decide (l.w < l.h)) l = highL l) := hide (fun h => by
    have h1 : ¬ l.w < l.h := of_decide_eq_false h
    have h2 : decide (l.h ≤ l.w) = true := decide_eq_true (by omega)
    rw [h, h2]; exact ⟨rfl, rfl⟩)
  generalize wayL (decide (l.h ≤ l.w)) l = X1 at *
  generalize wayL (decide (l.w < l.h)) l = X2 at *
  generalize wideL l = XW at *
  generalize highL l = XH at *
  unfold bothG at HR
  generalize decide (goodL p X1.1) = g1 at *
  generalize decide (goodL p X1.2) = g2 at *
  generalize decide (goodL p X2.1) = g3 at *
  generalize decide (goodL p X2.2) = g4 at *
  generalize cutR l p = R at *
  generalize decide (goodL p l) = G at *
  generalize l.w = wd at *
  generalize l.h = hg at *
  obtain ⟨⟨x0, y0, x1, y1⟩, f⟩ := l
  obtain ⟨mf, ms, ma⟩ := p
  clear hv
  show Calls Try.prog _ #[.agg #[.int .i64 x0, .int .i64 y0, .int .i64 x1, .int .i64 y1, .int .u8 f], .agg #[.int .i64 mf, .int .i64 ms, .int .i64 ma]] w _
  simp only [encL, encP, encR] at HHE HWI HAR HGD HWD HHI HF1 HF2 HF3 HF4
  go_enter Try.func47, Try.ntmps47
  go_upto_region 1 with fail
  refine wp_name5 fun W hW => ?_
  have hb0 : Below w.heap.size w W := by rw [hW]; exact ((((Below.refl _ _).alloc (Nat.le_refl _) _).alloc (by simp) _).alloc (by simp; omega) _).alloc (by simp; omega) _
  have hs0 : w.heap.size + 3 < W.heap.size := by rw [hW]; simp
  have HL0 : Box5L W w.heap.size ⟨⟨x0, y0, x1, y1⟩, f⟩ := by rw [hW]; refine ⟨?_, ?_, ?_, ?_, ?_, ?_, ?_, ?_, ?_, ?_⟩ <;> simp [go_sem]
  have HP0 : Box3 W (w.heap.size + 1) (.int .i64 mf) (.int .i64 ms) (.int .i64 ma) := by rw [hW]; refine ⟨?_, ?_, ?_⟩ <;> simp [go_sem]
  have HA0 : Box5L W (w.heap.size + 1 + 1) zeroL := by rw [hW]; refine ⟨?_, ?_, ?_, ?_, ?_, ?_, ?_, ?_, ?_, ?_⟩ <;> simp [go_sem, zeroL]
  have HB0 : Box5L W (w.heap.size + 1 + 1 + 1) zeroL := by rw [hW]; refine ⟨?_, ?_, ?_, ?_, ?_, ?_, ?_, ?_, ?_, ?_⟩ <;> simp [go_sem, zeroL]
  obtain ⟨n, hn⟩ : ∃ n, w.heap.size = n := ⟨_, rfl⟩
  rw [hn] at hb0 hs0 HL0 HP0 HA0 HB0 ⊢
  have K0 := hide hb0
  have HN := hide hn
  clear hW hb0 hn
  obtain ⟨l0, l1, l2, l3, l4, -, -, -, -, -⟩ := id HL0
  obtain ⟨p0, p1, p2⟩ := id HP0
  simp only at l0 l1 l2 l3 l4
  have q0 : n < W.heap.size := by omega
  have q1 : n + 1 < W.heap.size := by omega
  cases hS : decide (wd * hg ≤ ma) with
  | true =>
    rw [hS] at HR
    refine wp_hab fun hab => ?_
    refine wp_region_above (by kernel_rfl) (by kernel_rfl) ?_
    repeat (go_big_quiet_step (((first | (go_at_call 16; exact above_of (HAR.out _)) | (go_at_call 42; exact above_of (HGD.out _))))))
    refine wpQuiet_nil ?_
    refine above_ends fun w1 hb => ?_
    clear hab l0 l1 l2 l3 l4 p0 p1 p2 q0 q1
    have hs1 : n + 3 < w1.heap.size := by have := hb.size; omega
    have HL1 := HL0.below hb
    have HP1 := HP0.below hb
    have HA1 := HA0.below hb
    have HB1 := HB0.below hb
    have K1 := hide (K0.out.trans (hb.mono (by omega)))
    clear hb HL0 HP0 HA0 HB0 K0 hs0
    obtain ⟨a0, a1, a2, a3, a4, af0, af1, af2, af3, af4⟩ := id HA1
    obtain ⟨b0, b1, b2, b3, b4, bf0, bf1, bf2, bf3, bf4⟩ := id HB1
    simp only [zeroL] at a0 a1 a2 a3 a4 b0 b1 b2 b3 b4
    clear hS
    go_wp2_with (fail)
    refine exit_name fun V hV => ?_
    have HAV : Box5L V (n + 1 + 1) zeroL := by rw [hV]; refine ⟨?_, ?_, ?_, ?_, ?_, ?_, ?_, ?_, ?_, ?_⟩ <;> simp [go_sem, a0, a1, a2, a3, a4, af0, af1, af2, af3, af4, zeroL]
    have HBV : Box5L V (n + 1 + 1 + 1) zeroL := by rw [hV]; refine ⟨?_, ?_, ?_, ?_, ?_, ?_, ?_, ?_, ?_, ?_⟩ <;> simp [go_sem, b0, b1, b2, b3, b4, bf0, bf1, bf2, bf3, bf4, zeroL]
    have KV : Below n w V := by
      rw [hV]
      repeat (first | with_reducible exact K1.out | with_reducible refine Below.setCell ?_ (by first | (simp; done) | (simp; omega)) _ | with_reducible refine Below.drew ?_)
    clear hV a0 a1 a2 a3 a4 b0 b1 b2 b3 b4 af0 af1 af2 af3 af4 bf0 bf1 bf2 bf3 bf4
    obtain ⟨a0, a1, a2, a3, a4, -, -, -, -, -⟩ := HAV
    obtain ⟨b0, b1, b2, b3, b4, -, -, -, -, -⟩ := HBV
    refine bodyPost_ret (v := .tuple #[.agg (encL zeroL).toArray, .agg (encL zeroL).toArray, .bool false]) (by simp [results, Try.results47, go_sem, a0, a1, a2, a3, a4, b0, b1, b2, b3, b4, encL]) rfl ⟨by first | (rw [HR.out]; rfl) | rw [HR.out], by first | exact KV | (rw [HN.out]; exact KV)⟩
  | false =>
    rw [hS] at HR
    cases G with
    | false =>
      refine wp_hab fun hab => ?_
      refine wp_region_above (by kernel_rfl) (by kernel_rfl) ?_
      repeat (go_big_quiet_step (((first | (go_at_call 16; exact above_of (HAR.out _)) | (go_at_call 42; exact above_of (HGD.out _))))))
      refine wpQuiet_nil ?_
      refine above_ends fun w1 hb => ?_
      clear hab l0 l1 l2 l3 l4 p0 p1 p2 q0 q1
      have hs1 : n + 3 < w1.heap.size := by have := hb.size; omega
      have HL1 := HL0.below hb
      have HP1 := HP0.below hb
      have HA1 := HA0.below hb
      have HB1 := HB0.below hb
      have K1 := hide (K0.out.trans (hb.mono (by omega)))
      clear hb HL0 HP0 HA0 HB0 K0 hs0
      obtain ⟨a0, a1, a2, a3, a4, af0, af1, af2, af3, af4⟩ := id HA1
      obtain ⟨b0, b1, b2, b3, b4, bf0, bf1, bf2, bf3, bf4⟩ := id HB1
      simp only [zeroL] at a0 a1 a2 a3 a4 b0 b1 b2 b3 b4
      clear hS
      go_wp2_with (fail)
      refine exit_name fun V hV => ?_
      have HAV : Box5L V (n + 1 + 1) zeroL := by rw [hV]; refine ⟨?_, ?_, ?_, ?_, ?_, ?_, ?_, ?_, ?_, ?_⟩ <;> simp [go_sem, a0, a1, a2, a3, a4, af0, af1, af2, af3, af4, zeroL]
      have HBV : Box5L V (n + 1 + 1 + 1) zeroL := by rw [hV]; refine ⟨?_, ?_, ?_, ?_, ?_, ?_, ?_, ?_, ?_, ?_⟩ <;> simp [go_sem, b0, b1, b2, b3, b4, bf0, bf1, bf2, bf3, bf4, zeroL]
      have KV : Below n w V := by
        rw [hV]
        repeat (first | with_reducible exact K1.out | with_reducible refine Below.setCell ?_ (by first | (simp; done) | (simp; omega)) _ | with_reducible refine Below.drew ?_)
      clear hV a0 a1 a2 a3 a4 b0 b1 b2 b3 b4 af0 af1 af2 af3 af4 bf0 bf1 bf2 bf3 bf4
      obtain ⟨a0, a1, a2, a3, a4, -, -, -, -, -⟩ := HAV
      obtain ⟨b0, b1, b2, b3, b4, -, -, -, -, -⟩ := HBV
      refine bodyPost_ret (v := .tuple #[.agg (encL zeroL).toArray, .agg (encL zeroL).toArray, .bool false]) (by simp [results, Try.results47, go_sem, a0, a1, a2, a3, a4, b0, b1, b2, b3, b4, encL]) rfl ⟨by first | (rw [HR.out]; rfl) | rw [HR.out], by first | exact KV | (rw [HN.out]; exact KV)⟩
    | true =>
      refine wp_hab fun hab => ?_
      refine wp_region_above (by kernel_rfl) (by kernel_rfl) ?_
      repeat (go_big_quiet_step (((first | (go_at_call 16; exact above_of (HAR.out _)) | (go_at_call 42; exact above_of (HGD.out _))))))
      refine wpQuiet_nil ?_
      refine above_ends fun w1 hb => ?_
      clear hab l0 l1 l2 l3 l4 p0 p1 p2 q0 q1
      have hs1 : n + 3 < w1.heap.size := by have := hb.size; omega
      have HL1 := HL0.below hb
      have HP1 := HP0.below hb
      have HA1 := HA0.below hb
      have HB1 := HB0.below hb
      have K1 := hide (K0.out.trans (hb.mono (by omega)))
      clear hb HL0 HP0 HA0 HB0 K0 hs0
      clear hS HAR HGD
      obtain ⟨l0, l1, l2, l3, l4, -, -, -, -, -⟩ := id HL1
      simp only at l0 l1 l2 l3 l4
      go_wp2_with (fail)
      refine (HWD.out _).mono ?_
      rintro e w2 ⟨rfl, hb⟩
      have hs2 : n + 3 < w2.heap.size := by have := hb.size; omega
      have HL2 := HL1.below hb
      have HP2 := HP1.below hb
      have HA2 := HA1.below hb
      have HB2 := HB1.below hb
      have K2 := hide (K1.out.trans (hb.mono (by omega)))
      clear hb HL1 HP1 HA1 HB1 K1 hs1 l0 l1 l2 l3 l4
      obtain ⟨l0, l1, l2, l3, l4, -, -, -, -, -⟩ := id HL2
      simp only at l0 l1 l2 l3 l4
      have q0 : n < w2.heap.size := by omega
      have q1 : n < w2.heap.size + 1 := by omega
      go_wp2_with (fail)
      refine calls_name fun Z hZ => ?_
      have hbz : Below w2.heap.size w2 Z := by
        rw [hZ]
        repeat (first | with_reducible exact Below.refl _ _ | with_reducible refine Below.setCell ?_ (by simp) _ | with_reducible refine Below.alloc ?_ (by first | omega | (simp; omega) | simp) _)
      have HX3 : Box5L Z w2.heap.size XW.1 := by rw [hZ]; refine ⟨?_, ?_, ?_, ?_, ?_, ?_, ?_, ?_, ?_, ?_⟩ <;> simp [go_sem]
      have HY3 : Box5L Z (w2.heap.size + 1) XW.2 := by rw [hZ]; refine ⟨?_, ?_, ?_, ?_, ?_, ?_, ?_, ?_, ?_, ?_⟩ <;> simp [go_sem]
      have HL3 := HL2.below hbz
      have HP3 := HP2.below hbz
      have HA3 := HA2.below hbz
      have HB3 := HB2.below hbz
      have K3 := hide (K2.out.trans (hbz.mono (by omega)))
      have hs3 : n + 3 < Z.heap.size := by have := hbz.size; omega
      obtain ⟨m, hm⟩ : ∃ m, w2.heap.size = m := ⟨_, rfl⟩
      simp only [hm] at *
      have HNM := hide (show n + 3 < m from hs2)
      clear hZ hbz HL2 HP2 HA2 HB2 K2 l0 l1 l2 l3 l4 q0 q1 hm hs2 HWD
      refine (HHI.out _).mono ?_
      rintro e w3 ⟨rfl, hb⟩
      have hs4 : n + 3 < w3.heap.size := by have := hb.size; omega
      have hmw : m + 1 < w3.heap.size := by have := lt_of_cell HY3.c0; have := hb.size; omega
      have HL4 := HL3.below hb
      have HP4 := HP3.below hb
      have HA4 := HA3.below hb
      have HB4 := HB3.below hb
      have HX4 := HX3.below hb
      have HY4 := HY3.below hb
      have K4 := hide (K3.out.trans (hb.mono (by omega)))
      clear hb HL3 HP3 HA3 HB3 HX3 HY3 K3 hs3 HHI
      go_upto_region 5 with fail
      refine wp_name5 fun Y hY => ?_
      have hbz : Below w3.heap.size w3 Y := by
        rw [hY]
        repeat (first | with_reducible exact Below.refl _ _ | with_reducible refine Below.setCell ?_ (by simp) _ | with_reducible refine Below.alloc ?_ (by first | omega | (simp; omega) | simp) _)
      have HU5 : Box5L Y w3.heap.size XH.1 := by rw [hY]; refine ⟨?_, ?_, ?_, ?_, ?_, ?_, ?_, ?_, ?_, ?_⟩ <;> simp [go_sem]
      have HV5 : Box5L Y (w3.heap.size + 1) XH.2 := by rw [hY]; refine ⟨?_, ?_, ?_, ?_, ?_, ?_, ?_, ?_, ?_, ?_⟩ <;> simp [go_sem]
      have HL5 := HL4.below hbz
      have HP5 := HP4.below hbz
      have HA5 := HA4.below hbz
      have HB5 := HB4.below hbz
      have HX5 := HX4.below hbz
      have HY5 := HY4.below hbz
      have K5 := hide (K4.out.trans (hbz.mono (by omega)))
      have hs5 : n + 3 < Y.heap.size := by have := hbz.size; omega
      obtain ⟨k, hk⟩ : ∃ k, w3.heap.size = k := ⟨_, rfl⟩
      simp only [hk] at *
      have HMK := hide (show m + 1 < k from hmw)
      clear hY hbz HL4 HP4 HA4 HB4 HX4 HY4 K4 hk hs4 hmw
      obtain ⟨l0, l1, l2, l3, l4, -, -, -, -, -⟩ := id HL5
      simp only at l0 l1 l2 l3 l4
      have q0 : n < Y.heap.size := by omega
      refine wp_hab fun hab => ?_
      refine wp_region_above (by kernel_rfl) (by kernel_rfl) ?_
      repeat (go_big_quiet_step (((first | (go_at_call 29; exact above_of (HWI.out _)) | (go_at_call 30; exact above_of (HHE.out _))))))
      refine wpQuiet_nil ?_
      refine above_ends fun w6 hb => ?_
      clear hab l0 l1 l2 l3 l4 q0
      have hs6 : n + 3 < w6.heap.size := by have := hb.size; omega
      have HL6 := HL5.below hb
      have HP6 := HP5.below hb
      have HA6 := HA5.below hb
      have HB6 := HB5.below hb
      have HX6 := HX5.below hb
      have HY6 := HY5.below hb
      have HU6 := HU5.below hb
      have HV6 := HV5.below hb
      have K6 := hide (K5.out.trans (hb.mono (by omega)))
      clear hb HL5 HP5 HA5 HB5 HX5 HY5 HU5 HV5 K5 hs5 HWI HHE
      have hnm := HNM.out
      have hmk := HMK.out
      go_upto_if 41 with (fail)
      go_cut [] (fun wx => Below n w wx ∧ n + 3 < wx.heap.size ∧ Box3 wx (n + 1) (.int .i64 mf) (.int .i64 ms) (.int .i64 ma) ∧ Box5L wx (n + 1 + 1) zeroL ∧ Box5L wx (n + 1 + 1 + 1) zeroL ∧ Box5L wx m X1.1 ∧ Box5L wx (m + 1) X1.2 ∧ Box5L wx k X2.1 ∧ Box5L wx (k + 1) X2.2)
      case first =>
        cases hD : decide (wd < hg) with
        | true =>
          obtain ⟨e1, e2⟩ := HW1.out hD
          subst e1 e2
          obtain ⟨c0, c1, c2, c3, c4, cf0, cf1, cf2, cf3, cf4⟩ := id HX6
          obtain ⟨d0, d1, d2, d3, d4, df0, df1, df2, df3, df4⟩ := id HY6
          obtain ⟨e0, e1, e2, e3, e4, ef0, ef1, ef2, ef3, ef4⟩ := id HU6
          obtain ⟨f0, f1, f2, f3, f4, ff0, ff1, ff2, ff3, ff4⟩ := id HV6
          have n1 : m ≠ k := by omega
          have n2 : m + 1 ≠ k := by omega
          have n3 : m ≠ k + 1 := by omega
          have n4 : ¬ m + 1 = k + 1 := by omega
          clear HR HW1 HW2
          go_wp2_with (fail)
          go_region
          go_wp2_with (fail)
          go_meet
          refine meet_aux K6.out hs6 HP6 HA6 HB6 hnm ?_ ⟨?_, ?_, ?_, ?_⟩
          · repeat (first | with_reducible exact Below.refl _ _ | with_reducible refine Below.setCell ?_ (by first | (simp; done) | (simp; omega)) _ | with_reducible refine Below.drew ?_)
          · refine ⟨?_, ?_, ?_, ?_, ?_, ?_, ?_, ?_, ?_, ?_⟩ <;> simp [go_sem, n1, n2, n3, n4, n1.symm, n2.symm, n3.symm, c0, c1, c2, c3, c4, cf0, cf1, cf2, cf3, cf4]
          · refine ⟨?_, ?_, ?_, ?_, ?_, ?_, ?_, ?_, ?_, ?_⟩ <;> simp [go_sem, n1, n2, n3, n4, n1.symm, n2.symm, n3.symm, d0, d1, d2, d3, d4, df0, df1, df2, df3, df4]
          · refine ⟨?_, ?_, ?_, ?_, ?_, ?_, ?_, ?_, ?_, ?_⟩ <;> simp [go_sem, n1, n2, n3, n4, n1.symm, n2.symm, n3.symm, e0, e1, e2, e3, e4, ef0, ef1, ef2, ef3, ef4]
          · refine ⟨?_, ?_, ?_, ?_, ?_, ?_, ?_, ?_, ?_, ?_⟩ <;> simp [go_sem, n1, n2, n3, n4, n1.symm, n2.symm, n3.symm, f0, f1, f2, f3, f4, ff0, ff1, ff2, ff3, ff4]
        | false =>
          obtain ⟨e1, e2⟩ := HW2.out hD
          subst e1 e2
          go_wp2_with (fail)
          go_meet
          exact ⟨K6.out, hs6, HP6, HA6, HB6, HX6, HY6, HU6, HV6⟩
      case rest =>
        obtain ⟨K7, hs7, HP7, HA7, HB7, HX7, HY7, HU7, HV7⟩ := hcut
        have K7 := hide K7
        clear HW1 HW2 K6 hs6 HP6 HA6 HB6 HX6 HY6 HU6 HV6 HL6
        try clear p0 p1 p2 l0 l1 l2 l3 l4
        obtain ⟨p0, p1, p2⟩ := id HP7
        obtain ⟨l0, l1, l2, l3, l4, -, -, -, -, -⟩ := id HX7
        try simp only at l0 l1 l2 l3 l4
        go_wp2_with (fail)
        refine (HF1.out _).mono ?_
        rintro e w8 ⟨rfl, hb⟩
        have hs8 : n + 3 < w8.heap.size := by have := hb.size; omega
        have HP8 := HP7.below hb
        have HA8 := HA7.below hb
        have HB8 := HB7.below hb
        have HX8 := HX7.below hb
        have HY8 := HY7.below hb
        have HU8 := HU7.below hb
        have HV8 := HV7.below hb
        have K8 := hide (K7.out.trans (hb.mono (by omega)))
        clear hb hs7 K7 HP7 HA7 HB7 HX7 HY7 HU7 HV7
        cases g1 with
        | true =>
          try clear p0 p1 p2 l0 l1 l2 l3 l4
          obtain ⟨p0, p1, p2⟩ := id HP8
          obtain ⟨l0, l1, l2, l3, l4, -, -, -, -, -⟩ := id HY8
          try simp only at l0 l1 l2 l3 l4
          go_wp2_with (fail)
          refine (HF2.out _).mono ?_
          rintro e w9 ⟨rfl, hb⟩
          have hs9 : n + 3 < w9.heap.size := by have := hb.size; omega
          have HP9 := HP8.below hb
          have HA9 := HA8.below hb
          have HB9 := HB8.below hb
          have HX9 := HX8.below hb
          have HY9 := HY8.below hb
          have HU9 := HU8.below hb
          have HV9 := HV8.below hb
          have K9 := hide (K8.out.trans (hb.mono (by omega)))
          clear hb hs8 K8 HP8 HA8 HB8 HX8 HY8 HU8 HV8
          cases g2 with
          | true =>
            clear l0 l1 l2 l3 l4 p0 p1 p2
            obtain ⟨u0, u1, u2, u3, u4, -, -, -, -, -⟩ := id HX9
            obtain ⟨v0, v1, v2, v3, v4, -, -, -, -, -⟩ := id HY9
            obtain ⟨a0, a1, a2, a3, a4, af0, af1, af2, af3, af4⟩ := id HA9
            obtain ⟨b0, b1, b2, b3, b4, bf0, bf1, bf2, bf3, bf4⟩ := id HB9
            simp only [zeroL] at a0 a1 a2 a3 a4 b0 b1 b2 b3 b4
            have n1 : n + 1 + 1 ≠ m := by omega
            have n2 : n + 1 + 1 + 1 ≠ m := by omega
            have n3 : n + 1 + 1 ≠ k := by omega
            have n4 : n + 1 + 1 + 1 ≠ k := by omega
            have n5 : n + 1 + 1 ≠ m + 1 := by omega
            have n6 : n + 1 + 1 + 1 ≠ m + 1 := by omega
            have n7 : n + 1 + 1 ≠ k + 1 := by omega
            have n8 : n + 1 + 1 + 1 ≠ k + 1 := by omega
            go_upto_region 8 with fail
            go_region
            go_wp2_with (fail)
            refine exit_name fun V hV => ?_
            have HAV : Box5L V (n + 1 + 1) X1.1 := by rw [hV]; refine ⟨?_, ?_, ?_, ?_, ?_, ?_, ?_, ?_, ?_, ?_⟩ <;> simp [go_sem, a0, a1, a2, a3, a4, af0, af1, af2, af3, af4]
            have HBV : Box5L V (n + 1 + 1 + 1) X1.2 := by rw [hV]; refine ⟨?_, ?_, ?_, ?_, ?_, ?_, ?_, ?_, ?_, ?_⟩ <;> simp [go_sem, b0, b1, b2, b3, b4, bf0, bf1, bf2, bf3, bf4]
            have KV : Below n w V := by
              rw [hV]
              repeat (first | with_reducible exact K9.out | with_reducible refine Below.setCell ?_ (by first | (simp; done) | (simp; omega)) _ | with_reducible refine Below.drew ?_)
            clear hV a0 a1 a2 a3 a4 b0 b1 b2 b3 b4 af0 af1 af2 af3 af4 bf0 bf1 bf2 bf3 bf4
            obtain ⟨a0, a1, a2, a3, a4, -, -, -, -, -⟩ := HAV
            obtain ⟨b0, b1, b2, b3, b4, -, -, -, -, -⟩ := HBV
            refine bodyPost_ret (v := .tuple #[.agg (encL X1.1).toArray, .agg (encL X1.2).toArray, .bool true]) (by simp [results, Try.results47, go_sem, a0, a1, a2, a3, a4, b0, b1, b2, b3, b4, encL]) rfl ⟨by first | (rw [HR.out]; rfl) | rw [HR.out], by first | exact KV | (rw [HN.out]; exact KV)⟩
          | false =>
            try clear p0 p1 p2 l0 l1 l2 l3 l4
            obtain ⟨p0, p1, p2⟩ := id HP9
            obtain ⟨l0, l1, l2, l3, l4, -, -, -, -, -⟩ := id HU9
            try simp only at l0 l1 l2 l3 l4
            go_wp2_with (fail)
            refine (HF3.out _).mono ?_
            rintro e w10 ⟨rfl, hb⟩
            have hs10 : n + 3 < w10.heap.size := by have := hb.size; omega
            have HP10 := HP9.below hb
            have HA10 := HA9.below hb
            have HB10 := HB9.below hb
            have HX10 := HX9.below hb
            have HY10 := HY9.below hb
            have HU10 := HU9.below hb
            have HV10 := HV9.below hb
            have K10 := hide (K9.out.trans (hb.mono (by omega)))
            clear hb hs9 K9 HP9 HA9 HB9 HX9 HY9 HU9 HV9
            cases g3 with
            | true =>
              try clear p0 p1 p2 l0 l1 l2 l3 l4
              obtain ⟨p0, p1, p2⟩ := id HP10
              obtain ⟨l0, l1, l2, l3, l4, -, -, -, -, -⟩ := id HV10
              try simp only at l0 l1 l2 l3 l4
              go_wp2_with (fail)
              refine (HF4.out _).mono ?_
              rintro e w11 ⟨rfl, hb⟩
              have hs11 : n + 3 < w11.heap.size := by have := hb.size; omega
              have HP11 := HP10.below hb
              have HA11 := HA10.below hb
              have HB11 := HB10.below hb
              have HX11 := HX10.below hb
              have HY11 := HY10.below hb
              have HU11 := HU10.below hb
              have HV11 := HV10.below hb
              have K11 := hide (K10.out.trans (hb.mono (by omega)))
              clear hb hs10 K10 HP10 HA10 HB10 HX10 HY10 HU10 HV10
              cases g4 with
              | true =>
                clear l0 l1 l2 l3 l4 p0 p1 p2
                obtain ⟨u0, u1, u2, u3, u4, -, -, -, -, -⟩ := id HU11
                obtain ⟨v0, v1, v2, v3, v4, -, -, -, -, -⟩ := id HV11
                obtain ⟨a0, a1, a2, a3, a4, af0, af1, af2, af3, af4⟩ := id HA11
                obtain ⟨b0, b1, b2, b3, b4, bf0, bf1, bf2, bf3, bf4⟩ := id HB11
                simp only [zeroL] at a0 a1 a2 a3 a4 b0 b1 b2 b3 b4
                have n1 : n + 1 + 1 ≠ m := by omega
                have n2 : n + 1 + 1 + 1 ≠ m := by omega
                have n3 : n + 1 + 1 ≠ k := by omega
                have n4 : n + 1 + 1 + 1 ≠ k := by omega
                have n5 : n + 1 + 1 ≠ m + 1 := by omega
                have n6 : n + 1 + 1 + 1 ≠ m + 1 := by omega
                have n7 : n + 1 + 1 ≠ k + 1 := by omega
                have n8 : n + 1 + 1 + 1 ≠ k + 1 := by omega
                go_upto_region 10 with fail
                go_region
                go_wp2_with (fail)
                refine exit_name fun V hV => ?_
                have HAV : Box5L V (n + 1 + 1) X2.1 := by rw [hV]; refine ⟨?_, ?_, ?_, ?_, ?_, ?_, ?_, ?_, ?_, ?_⟩ <;> simp [go_sem, a0, a1, a2, a3, a4, af0, af1, af2, af3, af4]
                have HBV : Box5L V (n + 1 + 1 + 1) X2.2 := by rw [hV]; refine ⟨?_, ?_, ?_, ?_, ?_, ?_, ?_, ?_, ?_, ?_⟩ <;> simp [go_sem, b0, b1, b2, b3, b4, bf0, bf1, bf2, bf3, bf4]
                have KV : Below n w V := by
                  rw [hV]
                  repeat (first | with_reducible exact K11.out | with_reducible refine Below.setCell ?_ (by first | (simp; done) | (simp; omega)) _ | with_reducible refine Below.drew ?_)
                clear hV a0 a1 a2 a3 a4 b0 b1 b2 b3 b4 af0 af1 af2 af3 af4 bf0 bf1 bf2 bf3 bf4
                obtain ⟨a0, a1, a2, a3, a4, -, -, -, -, -⟩ := HAV
                obtain ⟨b0, b1, b2, b3, b4, -, -, -, -, -⟩ := HBV
                refine bodyPost_ret (v := .tuple #[.agg (encL X2.1).toArray, .agg (encL X2.2).toArray, .bool true]) (by simp [results, Try.results47, go_sem, a0, a1, a2, a3, a4, b0, b1, b2, b3, b4, encL]) rfl ⟨by first | (rw [HR.out]; rfl) | rw [HR.out], by first | exact KV | (rw [HN.out]; exact KV)⟩
              | false =>
                clear l0 l1 l2 l3 l4 p0 p1 p2
                obtain ⟨a0, a1, a2, a3, a4, af0, af1, af2, af3, af4⟩ := id HA11
                obtain ⟨b0, b1, b2, b3, b4, bf0, bf1, bf2, bf3, bf4⟩ := id HB11
                simp only [zeroL] at a0 a1 a2 a3 a4 b0 b1 b2 b3 b4
                go_wp2_with (fail)
                refine exit_name fun V hV => ?_
                have HAV : Box5L V (n + 1 + 1) zeroL := by rw [hV]; refine ⟨?_, ?_, ?_, ?_, ?_, ?_, ?_, ?_, ?_, ?_⟩ <;> simp [go_sem, a0, a1, a2, a3, a4, af0, af1, af2, af3, af4, zeroL]
                have HBV : Box5L V (n + 1 + 1 + 1) zeroL := by rw [hV]; refine ⟨?_, ?_, ?_, ?_, ?_, ?_, ?_, ?_, ?_, ?_⟩ <;> simp [go_sem, b0, b1, b2, b3, b4, bf0, bf1, bf2, bf3, bf4, zeroL]
                have KV : Below n w V := by
                  rw [hV]
                  repeat (first | with_reducible exact K11.out | with_reducible refine Below.setCell ?_ (by first | (simp; done) | (simp; omega)) _ | with_reducible refine Below.drew ?_)
                clear hV a0 a1 a2 a3 a4 b0 b1 b2 b3 b4 af0 af1 af2 af3 af4 bf0 bf1 bf2 bf3 bf4
                obtain ⟨a0, a1, a2, a3, a4, -, -, -, -, -⟩ := HAV
                obtain ⟨b0, b1, b2, b3, b4, -, -, -, -, -⟩ := HBV
                refine bodyPost_ret (v := .tuple #[.agg (encL zeroL).toArray, .agg (encL zeroL).toArray, .bool false]) (by simp [results, Try.results47, go_sem, a0, a1, a2, a3, a4, b0, b1, b2, b3, b4, encL]) rfl ⟨by first | (rw [HR.out]; rfl) | rw [HR.out], by first | exact KV | (rw [HN.out]; exact KV)⟩
            | false =>
              clear l0 l1 l2 l3 l4 p0 p1 p2
              obtain ⟨a0, a1, a2, a3, a4, af0, af1, af2, af3, af4⟩ := id HA10
              obtain ⟨b0, b1, b2, b3, b4, bf0, bf1, bf2, bf3, bf4⟩ := id HB10
              simp only [zeroL] at a0 a1 a2 a3 a4 b0 b1 b2 b3 b4
              go_wp2_with (fail)
              refine exit_name fun V hV => ?_
              have HAV : Box5L V (n + 1 + 1) zeroL := by rw [hV]; refine ⟨?_, ?_, ?_, ?_, ?_, ?_, ?_, ?_, ?_, ?_⟩ <;> simp [go_sem, a0, a1, a2, a3, a4, af0, af1, af2, af3, af4, zeroL]
              have HBV : Box5L V (n + 1 + 1 + 1) zeroL := by rw [hV]; refine ⟨?_, ?_, ?_, ?_, ?_, ?_, ?_, ?_, ?_, ?_⟩ <;> simp [go_sem, b0, b1, b2, b3, b4, bf0, bf1, bf2, bf3, bf4, zeroL]
              have KV : Below n w V := by
                rw [hV]
                repeat (first | with_reducible exact K10.out | with_reducible refine Below.setCell ?_ (by first | (simp; done) | (simp; omega)) _ | with_reducible refine Below.drew ?_)
              clear hV a0 a1 a2 a3 a4 b0 b1 b2 b3 b4 af0 af1 af2 af3 af4 bf0 bf1 bf2 bf3 bf4
              obtain ⟨a0, a1, a2, a3, a4, -, -, -, -, -⟩ := HAV
              obtain ⟨b0, b1, b2, b3, b4, -, -, -, -, -⟩ := HBV
              refine bodyPost_ret (v := .tuple #[.agg (encL zeroL).toArray, .agg (encL zeroL).toArray, .bool false]) (by simp [results, Try.results47, go_sem, a0, a1, a2, a3, a4, b0, b1, b2, b3, b4, encL]) rfl ⟨by first | (rw [HR.out]; rfl) | rw [HR.out], by first | exact KV | (rw [HN.out]; exact KV)⟩
        | false =>
          try clear p0 p1 p2 l0 l1 l2 l3 l4
          obtain ⟨p0, p1, p2⟩ := id HP8
          obtain ⟨l0, l1, l2, l3, l4, -, -, -, -, -⟩ := id HU8
          try simp only at l0 l1 l2 l3 l4
          go_wp2_with (fail)
          refine (HF3.out _).mono ?_
          rintro e w9 ⟨rfl, hb⟩
          have hs9 : n + 3 < w9.heap.size := by have := hb.size; omega
          have HP9 := HP8.below hb
          have HA9 := HA8.below hb
          have HB9 := HB8.below hb
          have HX9 := HX8.below hb
          have HY9 := HY8.below hb
          have HU9 := HU8.below hb
          have HV9 := HV8.below hb
          have K9 := hide (K8.out.trans (hb.mono (by omega)))
          clear hb hs8 K8 HP8 HA8 HB8 HX8 HY8 HU8 HV8
          cases g3 with
          | true =>
            try clear p0 p1 p2 l0 l1 l2 l3 l4
            obtain ⟨p0, p1, p2⟩ := id HP9
            obtain ⟨l0, l1, l2, l3, l4, -, -, -, -, -⟩ := id HV9
            try simp only at l0 l1 l2 l3 l4
            go_wp2_with (fail)
            refine (HF4.out _).mono ?_
            rintro e w10 ⟨rfl, hb⟩
            have hs10 : n + 3 < w10.heap.size := by have := hb.size; omega
            have HP10 := HP9.below hb
            have HA10 := HA9.below hb
            have HB10 := HB9.below hb
            have HX10 := HX9.below hb
            have HY10 := HY9.below hb
            have HU10 := HU9.below hb
            have HV10 := HV9.below hb
            have K10 := hide (K9.out.trans (hb.mono (by omega)))
            clear hb hs9 K9 HP9 HA9 HB9 HX9 HY9 HU9 HV9
            cases g4 with
            | true =>
              clear l0 l1 l2 l3 l4 p0 p1 p2
              obtain ⟨u0, u1, u2, u3, u4, -, -, -, -, -⟩ := id HU10
              obtain ⟨v0, v1, v2, v3, v4, -, -, -, -, -⟩ := id HV10
              obtain ⟨a0, a1, a2, a3, a4, af0, af1, af2, af3, af4⟩ := id HA10
              obtain ⟨b0, b1, b2, b3, b4, bf0, bf1, bf2, bf3, bf4⟩ := id HB10
              simp only [zeroL] at a0 a1 a2 a3 a4 b0 b1 b2 b3 b4
              have n1 : n + 1 + 1 ≠ m := by omega
              have n2 : n + 1 + 1 + 1 ≠ m := by omega
              have n3 : n + 1 + 1 ≠ k := by omega
              have n4 : n + 1 + 1 + 1 ≠ k := by omega
              have n5 : n + 1 + 1 ≠ m + 1 := by omega
              have n6 : n + 1 + 1 + 1 ≠ m + 1 := by omega
              have n7 : n + 1 + 1 ≠ k + 1 := by omega
              have n8 : n + 1 + 1 + 1 ≠ k + 1 := by omega
              go_upto_region 10 with fail
              go_region
              go_wp2_with (fail)
              refine exit_name fun V hV => ?_
              have HAV : Box5L V (n + 1 + 1) X2.1 := by rw [hV]; refine ⟨?_, ?_, ?_, ?_, ?_, ?_, ?_, ?_, ?_, ?_⟩ <;> simp [go_sem, a0, a1, a2, a3, a4, af0, af1, af2, af3, af4]
              have HBV : Box5L V (n + 1 + 1 + 1) X2.2 := by rw [hV]; refine ⟨?_, ?_, ?_, ?_, ?_, ?_, ?_, ?_, ?_, ?_⟩ <;> simp [go_sem, b0, b1, b2, b3, b4, bf0, bf1, bf2, bf3, bf4]
              have KV : Below n w V := by
                rw [hV]
                repeat (first | with_reducible exact K10.out | with_reducible refine Below.setCell ?_ (by first | (simp; done) | (simp; omega)) _ | with_reducible refine Below.drew ?_)
              clear hV a0 a1 a2 a3 a4 b0 b1 b2 b3 b4 af0 af1 af2 af3 af4 bf0 bf1 bf2 bf3 bf4
              obtain ⟨a0, a1, a2, a3, a4, -, -, -, -, -⟩ := HAV
              obtain ⟨b0, b1, b2, b3, b4, -, -, -, -, -⟩ := HBV
              refine bodyPost_ret (v := .tuple #[.agg (encL X2.1).toArray, .agg (encL X2.2).toArray, .bool true]) (by simp [results, Try.results47, go_sem, a0, a1, a2, a3, a4, b0, b1, b2, b3, b4, encL]) rfl ⟨by first | (rw [HR.out]; rfl) | rw [HR.out], by first | exact KV | (rw [HN.out]; exact KV)⟩
            | false =>
              clear l0 l1 l2 l3 l4 p0 p1 p2
              obtain ⟨a0, a1, a2, a3, a4, af0, af1, af2, af3, af4⟩ := id HA10
              obtain ⟨b0, b1, b2, b3, b4, bf0, bf1, bf2, bf3, bf4⟩ := id HB10
              simp only [zeroL] at a0 a1 a2 a3 a4 b0 b1 b2 b3 b4
              go_wp2_with (fail)
              refine exit_name fun V hV => ?_
              have HAV : Box5L V (n + 1 + 1) zeroL := by rw [hV]; refine ⟨?_, ?_, ?_, ?_, ?_, ?_, ?_, ?_, ?_, ?_⟩ <;> simp [go_sem, a0, a1, a2, a3, a4, af0, af1, af2, af3, af4, zeroL]
              have HBV : Box5L V (n + 1 + 1 + 1) zeroL := by rw [hV]; refine ⟨?_, ?_, ?_, ?_, ?_, ?_, ?_, ?_, ?_, ?_⟩ <;> simp [go_sem, b0, b1, b2, b3, b4, bf0, bf1, bf2, bf3, bf4, zeroL]
              have KV : Below n w V := by
                rw [hV]
                repeat (first | with_reducible exact K10.out | with_reducible refine Below.setCell ?_ (by first | (simp; done) | (simp; omega)) _ | with_reducible refine Below.drew ?_)
              clear hV a0 a1 a2 a3 a4 b0 b1 b2 b3 b4 af0 af1 af2 af3 af4 bf0 bf1 bf2 bf3 bf4
              obtain ⟨a0, a1, a2, a3, a4, -, -, -, -, -⟩ := HAV
              obtain ⟨b0, b1, b2, b3, b4, -, -, -, -, -⟩ := HBV
              refine bodyPost_ret (v := .tuple #[.agg (encL zeroL).toArray, .agg (encL zeroL).toArray, .bool false]) (by simp [results, Try.results47, go_sem, a0, a1, a2, a3, a4, b0, b1, b2, b3, b4, encL]) rfl ⟨by first | (rw [HR.out]; rfl) | rw [HR.out], by first | exact KV | (rw [HN.out]; exact KV)⟩
          | false =>
            clear l0 l1 l2 l3 l4 p0 p1 p2
            obtain ⟨a0, a1, a2, a3, a4, af0, af1, af2, af3, af4⟩ := id HA9
            obtain ⟨b0, b1, b2, b3, b4, bf0, bf1, bf2, bf3, bf4⟩ := id HB9
            simp only [zeroL] at a0 a1 a2 a3 a4 b0 b1 b2 b3 b4
            go_wp2_with (fail)
            refine exit_name fun V hV => ?_
            have HAV : Box5L V (n + 1 + 1) zeroL := by rw [hV]; refine ⟨?_, ?_, ?_, ?_, ?_, ?_, ?_, ?_, ?_, ?_⟩ <;> simp [go_sem, a0, a1, a2, a3, a4, af0, af1, af2, af3, af4, zeroL]
            have HBV : Box5L V (n + 1 + 1 + 1) zeroL := by rw [hV]; refine ⟨?_, ?_, ?_, ?_, ?_, ?_, ?_, ?_, ?_, ?_⟩ <;> simp [go_sem, b0, b1, b2, b3, b4, bf0, bf1, bf2, bf3, bf4, zeroL]
            have KV : Below n w V := by
              rw [hV]
              repeat (first | with_reducible exact K9.out | with_reducible refine Below.setCell ?_ (by first | (simp; done) | (simp; omega)) _ | with_reducible refine Below.drew ?_)
            clear hV a0 a1 a2 a3 a4 b0 b1 b2 b3 b4 af0 af1 af2 af3 af4 bf0 bf1 bf2 bf3 bf4
            obtain ⟨a0, a1, a2, a3, a4, -, -, -, -, -⟩ := HAV
            obtain ⟨b0, b1, b2, b3, b4, -, -, -, -, -⟩ := HBV
            refine bodyPost_ret (v := .tuple #[.agg (encL zeroL).toArray, .agg (encL zeroL).toArray, .bool false]) (by simp [results, Try.results47, go_sem, a0, a1, a2, a3, a4, b0, b1, b2, b3, b4, encL]) rfl ⟨by first | (rw [HR.out]; rfl) | rw [HR.out], by first | exact KV | (rw [HN.out]; exact KV)⟩

end Go.Proofs.Ytgdlbaabdebclaa

/- The walk of parcel.Cut. -/

namespace Go.Proofs.Ytgdlbaabdebclaa
open Go.RowKit
set_option linter.unusedVariables false
set_option linter.unusedSimpArgs false

def cutE (l : Lot5) (p : Pl3) : Lot5 × Lot5 × Int := if checkL l p = 0 then (if (cutR l p).2.2 = true then ((cutR l p).1, (cutR l p).2.1, 0) else (zeroL, zeroL, 6)) else (zeroL, zeroL, checkL l p)
theorem cutE_ok {l : Lot5} {p : Pl3} (h : checkL l p = 0) : cutE l p = if (cutR l p).2.2 = true then ((cutR l p).1, (cutR l p).2.1, 0) else (zeroL, zeroL, 6) := if_pos h
theorem cutE_bad {l : Lot5} {p : Pl3} (h : ¬ checkL l p = 0) : cutE l p = (zeroL, zeroL, checkL l p) := if_neg h
theorem checkL_valid {l : Lot5} {p : Pl3} (h : checkL l p = 0) : validL l := by
  unfold checkL at h
  by_cases hv : validL l
  · exact hv
  · rw [if_neg hv] at h; cases h
set_option maxRecDepth 100000 in
set_option maxHeartbeats 8000000 in
theorem pcut_any (l : Lot5) (p : Pl3) (hf : 0 ≤ l.f ∧ l.f ≤ 255) (w : World) : Calls Try.prog 23 #[.agg (encL l).toArray, .agg (encP p).toArray] w fun e w' => e = .returned (.tuple #[.agg (encL (cutE l p).1).toArray, .agg (encL (cutE l p).2.1).toArray, .int .i64 (cutE l p).2.2]) ∧ Below w.heap.size w w' := by
  have HCK := hide (fun W => checkL_any l p hf W)
  by_cases h0 : checkL l p = 0
  · have hv := checkL_valid h0
    have HCU := hide (fun W => cut_any l p hv W)
    rw [h0] at HCK
    have HR := hide (cutE_ok h0)
    clear h0 hf hv
    generalize cutE l p = R at *
    generalize cutR l p = C at *
    obtain ⟨X, Y, ok⟩ := C
    obtain ⟨⟨u0, u1, u2, u3⟩, u4⟩ := X
    obtain ⟨⟨v0, v1, v2, v3⟩, v4⟩ := Y
    simp only at HR
    obtain ⟨⟨x0, y0, x1, y1⟩, f⟩ := l
    obtain ⟨mf, ms, ma⟩ := p
    show Calls Try.prog _ #[.agg #[.int .i64 x0, .int .i64 y0, .int .i64 x1, .int .i64 y1, .int .u8 f], .agg #[.int .i64 mf, .int .i64 ms, .int .i64 ma]] w fun e w' => e = .returned (.tuple #[.agg (encL R.1).toArray, .agg (encL R.2.1).toArray, .int .i64 R.2.2]) ∧ Below w.heap.size w w'
    simp only [encL, encP] at HCK HCU
    go_enter Try.func23, Try.ntmps23
    go_wp2_with (fail)
    obtain ⟨W, hW⟩ : ∃ x, x = (((w.alloc (.cells #[.int .i64 x0, .int .i64 y0, .int .i64 x1, .int .i64 y1, .int .u8 f] 25)).alloc (.cells #[.int .i64 mf, .int .i64 ms, .int .i64 ma] 27)).alloc (.cells #[.int .i64 0, .int .i64 0, .int .i64 0, .int .i64 0, .int .u8 0] 25)).alloc (.cells #[.int .i64 0, .int .i64 0, .int .i64 0, .int .i64 0, .int .u8 0] 25) := ⟨_, rfl⟩
    rw [← hW]
    have hb0 : Below w.heap.size w W := by rw [hW]; exact ((((Below.refl _ _).alloc (Nat.le_refl _) _).alloc (by simp) _).alloc (by simp; omega) _).alloc (by simp; omega) _
    have hs0 : w.heap.size + 3 < W.heap.size := by rw [hW]; simp
    have HL : Box5L W w.heap.size ⟨⟨x0, y0, x1, y1⟩, f⟩ := by rw [hW]; refine ⟨?_, ?_, ?_, ?_, ?_, ?_, ?_, ?_, ?_, ?_⟩ <;> simp [go_sem]
    have HP : Box3 W (w.heap.size + 1) (.int .i64 mf) (.int .i64 ms) (.int .i64 ma) := by rw [hW]; refine ⟨?_, ?_, ?_⟩ <;> simp [go_sem]
    have HA : Box5L W (w.heap.size + 1 + 1) zeroL := by rw [hW]; refine ⟨?_, ?_, ?_, ?_, ?_, ?_, ?_, ?_, ?_, ?_⟩ <;> simp [go_sem, zeroL]
    have HB : Box5L W (w.heap.size + 1 + 1 + 1) zeroL := by rw [hW]; refine ⟨?_, ?_, ?_, ?_, ?_, ?_, ?_, ?_, ?_, ?_⟩ <;> simp [go_sem, zeroL]
    obtain ⟨n, hn⟩ : ∃ n, w.heap.size = n := ⟨_, rfl⟩
    rw [hn] at hb0 hs0 HL HP HA HB ⊢
    have K0 := hide hb0
    have HN := hide hn
    clear hW hb0 hn
    refine (HCK.out _).mono ?_
    rintro e w1 ⟨rfl, hb⟩
    have hs1 : n + 3 < w1.heap.size := by have := hb.size; omega
    have HL1 := HL.below hb
    have HP1 := HP.below hb
    have HA1 := HA.below hb
    have HB1 := HB.below hb
    have K1 := hide (K0.out.trans (hb.mono (by omega)))
    clear hb hs0 HL HP HA HB
    obtain ⟨l0, l1, l2, l3, l4, -, -, -, -, -⟩ := id HL1
    obtain ⟨p0, p1, p2⟩ := id HP1
    go_wp2_with (fail)
    refine (HCU.out _).mono ?_
    rintro e w2 ⟨rfl, hb⟩
    have hs2 : n + 3 < w2.heap.size := by have := hb.size; omega
    have HL2 := HL1.below hb
    have HP2 := HP1.below hb
    have HA2 := HA1.below hb
    have HB2 := HB1.below hb
    have K2 := hide (K1.out.trans (hb.mono (by omega)))
    clear hb hs1 HL1 HP1 HA1 HB1
    clear l0 l1 l2 l3 l4 p0 p1 p2
    cases ok with
    | true =>
      go_upto_region 7 with fail
      refine wp_name5 fun Z hZ => ?_
      have hm : n + 3 < w2.heap.size := hs2
      have HX : Box5L Z w2.heap.size ⟨⟨u0, u1, u2, u3⟩, u4⟩ := by rw [hZ]; refine ⟨?_, ?_, ?_, ?_, ?_, ?_, ?_, ?_, ?_, ?_⟩ <;> simp [go_sem]
      have HY : Box5L Z (w2.heap.size + 1) ⟨⟨v0, v1, v2, v3⟩, v4⟩ := by rw [hZ]; refine ⟨?_, ?_, ?_, ?_, ?_, ?_, ?_, ?_, ?_, ?_⟩ <;> simp [go_sem]
      have hbz : Below w2.heap.size w2 Z := by
        rw [hZ]
        repeat (first | with_reducible exact Below.refl _ _ | with_reducible refine Below.setCell ?_ (by first | (simp; done) | (simp; omega)) _ | with_reducible refine Below.alloc ?_ (by first | omega | (simp; omega) | simp) _)
      have HAZ := HA2.below hbz
      have HBZ := HB2.below hbz
      have KZ := hide (K2.out.trans (hbz.mono (by omega)))
      have hsZ : w2.heap.size + 1 < Z.heap.size := lt_of_cell HY.c0
      generalize w2.heap.size = m at *
      clear hZ hbz HA2 HB2 HL2 HP2 hs2
      obtain ⟨q0, q1, q2, q3, q4, -, -, -, -, -⟩ := id HX
      obtain ⟨z0, z1, z2, z3, z4, -, -, -, -, -⟩ := id HY
      simp only at q0 q1 q2 q3 q4 z0 z1 z2 z3 z4
      obtain ⟨a0, a1, a2, a3, a4, af0, af1, af2, af3, af4⟩ := id HAZ
      obtain ⟨b0, b1, b2, b3, b4, bf0, bf1, bf2, bf3, bf4⟩ := id HBZ
      simp only [zeroL] at a0 a1 a2 a3 a4 b0 b1 b2 b3 b4
      go_region
      go_wp2_with (fail)
      refine exit_name fun V hV => ?_
      have HAV : Box5L V (n + 1 + 1) ⟨⟨u0, u1, u2, u3⟩, u4⟩ := by rw [hV]; refine ⟨?_, ?_, ?_, ?_, ?_, ?_, ?_, ?_, ?_, ?_⟩ <;> simp [go_sem, a0, a1, a2, a3, a4, af0, af1, af2, af3, af4]
      have HBV : Box5L V (n + 1 + 1 + 1) ⟨⟨v0, v1, v2, v3⟩, v4⟩ := by rw [hV]; refine ⟨?_, ?_, ?_, ?_, ?_, ?_, ?_, ?_, ?_, ?_⟩ <;> simp [go_sem, b0, b1, b2, b3, b4, bf0, bf1, bf2, bf3, bf4]
      have KV : Below n w V := by
        rw [hV]
        repeat (first | with_reducible exact KZ.out | with_reducible refine Below.setCell ?_ (by first | (simp; done) | (simp; omega)) _ | with_reducible refine Below.drew ?_ | with_reducible refine Below.alloc ?_ (by first | omega | (simp; omega)) _)
      clear hV a0 a1 a2 a3 a4 b0 b1 b2 b3 b4 af0 af1 af2 af3 af4 bf0 bf1 bf2 bf3 bf4
      obtain ⟨a0, a1, a2, a3, a4, -, -, -, -, -⟩ := HAV
      obtain ⟨b0, b1, b2, b3, b4, -, -, -, -, -⟩ := HBV
      refine bodyPost_ret (v := .tuple #[.agg (encL ⟨⟨u0, u1, u2, u3⟩, u4⟩).toArray, .agg (encL ⟨⟨v0, v1, v2, v3⟩, v4⟩).toArray, .int .i64 0]) (by simp [results, Try.results23, go_sem, a0, a1, a2, a3, a4, b0, b1, b2, b3, b4, encL]) rfl ⟨by first | (rw [HR.out]; rfl) | rw [HR.out], by rw [HN.out]; exact KV⟩
    | false =>
      have h2 : n + 1 + 1 < w2.heap.size := by omega
      have h3 : n + 1 + 1 + 1 < w2.heap.size := by omega
      have h4 : n + 1 + 1 < w2.heap.size + 1 := by omega
      have h5 : n + 1 + 1 + 1 < w2.heap.size + 1 := by omega
      obtain ⟨a0, a1, a2, a3, a4, af0, af1, af2, af3, af4⟩ := id HA2
      obtain ⟨b0, b1, b2, b3, b4, bf0, bf1, bf2, bf3, bf4⟩ := id HB2
      simp only [zeroL] at a0 a1 a2 a3 a4 b0 b1 b2 b3 b4
      go_wp2_with (fail)
      refine exit_name fun V hV => ?_
      have HAV : Box5L V (n + 1 + 1) zeroL := by rw [hV]; refine ⟨?_, ?_, ?_, ?_, ?_, ?_, ?_, ?_, ?_, ?_⟩ <;> simp [go_sem, a0, a1, a2, a3, a4, af0, af1, af2, af3, af4, h2, h3, h4, h5, zeroL]
      have HBV : Box5L V (n + 1 + 1 + 1) zeroL := by rw [hV]; refine ⟨?_, ?_, ?_, ?_, ?_, ?_, ?_, ?_, ?_, ?_⟩ <;> simp [go_sem, b0, b1, b2, b3, b4, bf0, bf1, bf2, bf3, bf4, h2, h3, h4, h5, zeroL]
      have KV : Below n w V := by
        rw [hV]
        repeat (first | with_reducible exact K2.out | with_reducible refine Below.setCell ?_ (by first | (simp; done) | (simp; omega)) _ | with_reducible refine Below.drew ?_ | with_reducible refine Below.alloc ?_ (by first | omega | (simp; omega)) _)
      clear hV a0 a1 a2 a3 a4 b0 b1 b2 b3 b4 af0 af1 af2 af3 af4 bf0 bf1 bf2 bf3 bf4
      obtain ⟨a0, a1, a2, a3, a4, -, -, -, -, -⟩ := HAV
      obtain ⟨b0, b1, b2, b3, b4, -, -, -, -, -⟩ := HBV
      refine bodyPost_ret (v := .tuple #[.agg (encL zeroL).toArray, .agg (encL zeroL).toArray, .int .i64 6]) (by simp [results, Try.results23, go_sem, a0, a1, a2, a3, a4, b0, b1, b2, b3, b4, encL]) rfl ⟨by first | (rw [HR.out]; rfl) | rw [HR.out], by rw [HN.out]; exact KV⟩
  · have HR := hide (cutE_bad h0)
    clear hf
    generalize cutE l p = R at *
    generalize checkL l p = ck at *
    have hne : (ck != 0) = true := by simpa using h0
    clear h0
    obtain ⟨⟨x0, y0, x1, y1⟩, f⟩ := l
    obtain ⟨mf, ms, ma⟩ := p
    show Calls Try.prog _ #[.agg #[.int .i64 x0, .int .i64 y0, .int .i64 x1, .int .i64 y1, .int .u8 f], .agg #[.int .i64 mf, .int .i64 ms, .int .i64 ma]] w fun e w' => e = .returned (.tuple #[.agg (encL R.1).toArray, .agg (encL R.2.1).toArray, .int .i64 R.2.2]) ∧ Below w.heap.size w w'
    simp only [encL, encP] at HCK
    go_enter Try.func23, Try.ntmps23
    go_wp2_with (fail)
    obtain ⟨W, hW⟩ : ∃ x, x = (((w.alloc (.cells #[.int .i64 x0, .int .i64 y0, .int .i64 x1, .int .i64 y1, .int .u8 f] 25)).alloc (.cells #[.int .i64 mf, .int .i64 ms, .int .i64 ma] 27)).alloc (.cells #[.int .i64 0, .int .i64 0, .int .i64 0, .int .i64 0, .int .u8 0] 25)).alloc (.cells #[.int .i64 0, .int .i64 0, .int .i64 0, .int .i64 0, .int .u8 0] 25) := ⟨_, rfl⟩
    rw [← hW]
    have hb0 : Below w.heap.size w W := by rw [hW]; exact ((((Below.refl _ _).alloc (Nat.le_refl _) _).alloc (by simp) _).alloc (by simp; omega) _).alloc (by simp; omega) _
    have hs0 : w.heap.size + 3 < W.heap.size := by rw [hW]; simp
    have HL : Box5L W w.heap.size ⟨⟨x0, y0, x1, y1⟩, f⟩ := by rw [hW]; refine ⟨?_, ?_, ?_, ?_, ?_, ?_, ?_, ?_, ?_, ?_⟩ <;> simp [go_sem]
    have HP : Box3 W (w.heap.size + 1) (.int .i64 mf) (.int .i64 ms) (.int .i64 ma) := by rw [hW]; refine ⟨?_, ?_, ?_⟩ <;> simp [go_sem]
    have HA : Box5L W (w.heap.size + 1 + 1) zeroL := by rw [hW]; refine ⟨?_, ?_, ?_, ?_, ?_, ?_, ?_, ?_, ?_, ?_⟩ <;> simp [go_sem, zeroL]
    have HB : Box5L W (w.heap.size + 1 + 1 + 1) zeroL := by rw [hW]; refine ⟨?_, ?_, ?_, ?_, ?_, ?_, ?_, ?_, ?_, ?_⟩ <;> simp [go_sem, zeroL]
    obtain ⟨n, hn⟩ : ∃ n, w.heap.size = n := ⟨_, rfl⟩
    rw [hn] at hb0 hs0 HL HP HA HB ⊢
    have K0 := hide hb0
    have HN := hide hn
    clear hW hb0 hn
    refine (HCK.out _).mono ?_
    rintro e w1 ⟨rfl, hb⟩
    have hs1 : n + 3 < w1.heap.size := by have := hb.size; omega
    have HL1 := HL.below hb
    have HP1 := HP.below hb
    have HA1 := HA.below hb
    have HB1 := HB.below hb
    have K1 := hide (K0.out.trans (hb.mono (by omega)))
    clear hb hs0 HL HP HA HB
    obtain ⟨a0, a1, a2, a3, a4, af0, af1, af2, af3, af4⟩ := id HA1
    obtain ⟨b0, b1, b2, b3, b4, bf0, bf1, bf2, bf3, bf4⟩ := id HB1
    simp only [zeroL] at a0 a1 a2 a3 a4 b0 b1 b2 b3 b4
    go_wp2_with (fail)
    refine exit_name fun V hV => ?_
    have HAV : Box5L V (n + 1 + 1) zeroL := by rw [hV]; refine ⟨?_, ?_, ?_, ?_, ?_, ?_, ?_, ?_, ?_, ?_⟩ <;> simp [go_sem, a0, a1, a2, a3, a4, af0, af1, af2, af3, af4, zeroL]
    have HBV : Box5L V (n + 1 + 1 + 1) zeroL := by rw [hV]; refine ⟨?_, ?_, ?_, ?_, ?_, ?_, ?_, ?_, ?_, ?_⟩ <;> simp [go_sem, b0, b1, b2, b3, b4, bf0, bf1, bf2, bf3, bf4, zeroL]
    have KV : Below n w V := by
      rw [hV]
      repeat (first | with_reducible exact K1.out | with_reducible refine Below.setCell ?_ (by first | (simp; done) | (simp; omega)) _ | with_reducible refine Below.drew ?_ | with_reducible refine Below.alloc ?_ (by first | omega | (simp; omega)) _)
    clear hV a0 a1 a2 a3 a4 b0 b1 b2 b3 b4 af0 af1 af2 af3 af4 bf0 bf1 bf2 bf3 bf4
    obtain ⟨a0, a1, a2, a3, a4, -, -, -, -, -⟩ := HAV
    obtain ⟨b0, b1, b2, b3, b4, -, -, -, -, -⟩ := HBV
    refine bodyPost_ret (v := .tuple #[.agg (encL zeroL).toArray, .agg (encL zeroL).toArray, .int .i64 ck]) (by simp [results, Try.results23, go_sem, a0, a1, a2, a3, a4, b0, b1, b2, b3, b4, encL]) rfl ⟨by first | (rw [HR.out]; rfl) | rw [HR.out], by rw [HN.out]; exact KV⟩
end Go.Proofs.Ytgdlbaabdebclaa

/- parcel.Split: what holds between its rounds; no walk yet. -/
namespace Go.Proofs.Ytgdlbaabdebclaa
open Go.RowKit
set_option linter.unusedVariables false
set_option linter.unusedSimpArgs false

def splitR (l : Lot5) (p : Pl3) : List Lot5 × Int := if checkL l p = 0 then (if (leaves p l).length ≤ 400 then (leaves p l, 0) else ([], 4)) else ([], checkL l p)
/-- Lots of the call's own and a code come back. -/
def LotsRet (w : World) (R : List Lot5 × Int) (e : Ending) (w' : World) : Prop :=
  (∃ A c, e = .returned (.tuple #[.slice A R.1.length c, .int .i64 R.2]) ∧ w'.ownsRow w.heap.size 25 5 (.slice A R.1.length c) R.1.length (R.1.flatMap encL)) ∧ Below w.heap.size w w'
theorem infoLot : (Try.prog.info? 25).map (fun i => (i.zero, i.size, i.bytes)) = some (some (.agg #[.int .i64 0, .int .i64 0, .int .i64 0, .int .i64 0, .int .u8 0]), 5, 40) := by kernel_rfl
theorem infoLand : (Try.prog.info? 65).map (fun i => (i.zero, i.size, i.bytes)) = some (some (.agg #[.int .i64 0, .int .i64 0, .int .i64 0, .int .i64 0, .int .u8 0]), 5, 40) := by kernel_rfl
theorem ty_ne : 25 ≠ 65 := by decide
/-- The lots on the stack, the next one last. -/
def stackL (p : Pl3) (S : List Lot5) : List Lot5 := S.reverse.flatMap (leaves p)
def nodesS (p : Pl3) (S : List Lot5) : Nat := (S.map (nodes p)).sum
structure StackOk (l : Lot5) (p : Pl3) (O S : List Lot5) : Prop where
  eq : O ++ stackL p S = leaves p l
  ok : ∀ (i : Nat) (x : Lot5), S[i]? = some x → validL x ∧ i + sizeL x ≤ sizeL l
  lenO : O.length ≤ 400
theorem StackOk.start {l : Lot5} {p : Pl3} (h : validL l) : StackOk l p [] [l] := ⟨by simp [stackL], fun i x hx => by
  cases i with
  | zero => simp at hx; subst hx; exact ⟨h, by omega⟩
  | succ i => simp at hx, by simp⟩
theorem StackOk.top {l x : Lot5} {p : Pl3} {O S : List Lot5} (h : StackOk l p O (S ++ [x])) : validL x ∧ S.length + sizeL x ≤ sizeL l := h.ok S.length x (by simp)
theorem StackOk.leaf {l x : Lot5} {p : Pl3} {O S : List Lot5} (h : StackOk l p O (S ++ [x])) (hc : cutL p x = none) (hn : O.length + 1 ≤ 400) : StackOk l p (O ++ [x]) S := ⟨by
  have := h.eq
  simp only [stackL, List.reverse_append, List.reverse_cons, List.reverse_nil, List.nil_append, List.cons_append, List.flatMap_cons, leaves_none hc] at this
  rw [← this]
  simp [stackL], fun i y hy => h.ok i y (by rw [List.getElem?_append_left (List.getElem?_eq_some_iff.1 hy).1]; exact hy), by simpa using hn⟩
theorem StackOk.many {l x : Lot5} {p : Pl3} {O S : List Lot5} (h : StackOk l p O (S ++ [x])) (hn : 400 < O.length + 1) : 400 < (leaves p l).length := by
  have h1 := h.eq
  have h2 := leaves_ne p x
  simp only [stackL, List.reverse_append, List.reverse_cons, List.reverse_nil, List.nil_append, List.cons_append, List.flatMap_cons] at h1
  rw [← h1]
  simp only [List.length_append]
  omega
theorem StackOk.cut {l x a b : Lot5} {p : Pl3} {O S : List Lot5} (h : StackOk l p O (S ++ [x])) (hc : cutL p x = some (a, b)) : StackOk l p O (S ++ [b, a]) := ⟨by
  have := h.eq
  simp only [stackL, List.reverse_append, List.reverse_cons, List.reverse_nil, List.nil_append, List.cons_append, List.flatMap_cons, leaves_some hc] at this
  rw [← this]
  simp [stackL], fun i y hy => by
    obtain ⟨_, g1, g2, _⟩ := cutL_some hc
    have hlt := cutL_lt hc
    obtain ⟨t1, t2⟩ := h.top
    by_cases hi : i < S.length
    · rw [List.getElem?_append_left hi] at hy
      exact h.ok i y (by rw [List.getElem?_append_left hi]; exact hy)
    · rw [List.getElem?_append_right (by omega)] at hy
      have : i = S.length ∨ i = S.length + 1 := by
        have := (List.getElem?_eq_some_iff.1 hy).1
        simp at this
        omega
      rcases this with rfl | rfl
      · simp at hy; subst hy; exact ⟨g2.1, by omega⟩
      · simp at hy; subst hy; exact ⟨g1.1, by omega⟩, h.lenO⟩
theorem nodes_leaf {p : Pl3} {x : Lot5} {S : List Lot5} (hc : cutL p x = none) : nodesS p (S ++ [x]) = nodesS p S + 1 := by
  simp [nodesS, nodes_none hc]
theorem nodes_cut {p : Pl3} {x a b : Lot5} {S : List Lot5} (hc : cutL p x = some (a, b)) : nodesS p (S ++ [x]) = nodesS p (S ++ [b, a]) + 1 := by
  simp [nodesS, nodes_some hc]; omega
theorem sizeL_le {l : Lot5} (h : validL l) : sizeL l ≤ 4000000 := by
  have := valid_pos h
  unfold sizeL; omega
theorem cutR_true {l a b : Lot5} {p : Pl3} (h : cutR l p = (a, b, true)) : cutL p l = some (a, b) := by
  unfold cutR at h
  split at h
  · rename_i x hx
    rw [hx]
    obtain ⟨x1, x2⟩ := x
    simp at h
    rw [h.1, h.2]
  · simp at h
theorem cutR_false {l a b : Lot5} {p : Pl3} (h : cutR l p = (a, b, false)) : cutL p l = none := by
  unfold cutR at h
  split at h
  · simp at h
  · rename_i hx; exact hx
/-- The two rows and the wishes, between the rounds. -/
structure Rows2 (n : Nat) (w : World) (p : Pl3) (O S : List Lot5) (ov sv : Value) (no ns : Nat) (wr : World) : Prop where
  rowO : wr.ownsRow (n + 2) 25 5 ov no (O.flatMap encL)
  rowS : wr.ownsRow (n + 2) 65 5 sv ns (S.flatMap encL)
  below : Below n w wr
  size : n + 2 ≤ wr.heap.size
  box : Box3 wr (n + 1) (.int .i64 p.mf) (.int .i64 p.ms) (.int .i64 p.ma)
theorem Rows2.keep {n : Nat} {w wr w' : World} {p : Pl3} {O S : List Lot5} {ov sv : Value} {no ns : Nat} (h : Rows2 n w p O S ov sv no ns wr) (hb : Below wr.heap.size wr w') : Rows2 n w p O S ov sv no ns w' :=
  ⟨own_below h.rowO hb, own_below h.rowS hb, h.below.trans (hb.mono (by have := h.size; omega)), Nat.le_trans h.size hb.size, h.box.below hb⟩
theorem Rows2.pop {n : Nat} {w wr : World} {p : Pl3} {O S : List Lot5} {x : Lot5} {ov : Value} {no g k cp : Nat} (h : Rows2 n w p O (S ++ [x]) ov (.slice (some ⟨g, 0, none⟩) (k + 1) cp) no (k + 1) wr) : Rows2 n w p O S ov (.slice (some ⟨g, 0, none⟩) k cp) no k wr := by
  have h1 := h.rowS
  rw [List.flatMap_append] at h1
  have hl := h1.1
  rw [List.length_append] at hl
  have e1 : ([x].flatMap encL).length = 5 := rfl
  exact ⟨h.rowO, ownsRow_pop (by omega) h1, h.below, h.size, h.box⟩
theorem Rows2.grow {n : Nat} {w wr w' : World} {row : Option Nat} (hb : Below n w wr) (hs : n + 2 ≤ wr.heap.size) (hg : wr.grownBy w' row) (hr : ∀ q, row = some q → n + 2 ≤ q) : Below n w w' ∧ n + 2 ≤ w'.heap.size :=
  ⟨hb.grown hg (by omega) (fun q hq => by have := hr q hq; omega), Nat.le_trans hs hg.size⟩
theorem box_grown {w w' : World} {b : Nat} {v0 v1 v2 : Value} {row : Option Nat} (h : Box3 w b v0 v1 v2) (hg : w.grownBy w' row) (hr : ∀ q, row = some q → q ≠ b) : Box3 w' b v0 v1 v2 := by
  have hs := lt_of_cell h.c0
  have hb : w'.heap[b]? = w.heap[b]? := hg.block b hs (fun e => hr b e.symm rfl)
  exact ⟨(World.cell?_of_block (a := ⟨b, 0, none⟩) hb).trans h.c0, (World.cell?_of_block (a := ⟨b, 1, none⟩) hb).trans h.c1, (World.cell?_of_block (a := ⟨b, 2, none⟩) hb).trans h.c2⟩
theorem Rows2.pushO {n : Nat} {w wr w' : World} {p : Pl3} {O O' S : List Lot5} {ov ov' sv : Value} {no no' ns : Nat} (h : Rows2 n w p O S ov sv no ns wr) (hg : wr.grownBy w' ov.ownBlock) (ho : w'.ownsRow (n + 2) 25 5 ov' no' (O'.flatMap encL)) : Rows2 n w p O' S ov' sv no' ns w' := by
  have hr : ∀ q, ov.ownBlock = some q → n + 2 ≤ q := fun q hq => (h.rowO.lt q hq).1
  obtain ⟨h1, h2⟩ := Rows2.grow h.below h.size hg hr
  exact ⟨ho, h.rowS.kept hg (own_apart h.rowS h.rowO ty_ne.symm), h1, h2, box_grown h.box hg (fun q hq => by have := hr q hq; omega)⟩
theorem Rows2.pushS {n : Nat} {w wr w' : World} {p : Pl3} {O S S' : List Lot5} {ov sv sv' : Value} {no ns ns' : Nat} (h : Rows2 n w p O S ov sv no ns wr) (hg : wr.grownBy w' sv.ownBlock) (ho : w'.ownsRow (n + 2) 65 5 sv' ns' (S'.flatMap encL)) : Rows2 n w p O S' ov sv' no ns' w' := by
  have hr : ∀ q, sv.ownBlock = some q → n + 2 ≤ q := fun q hq => (h.rowS.lt q hq).1
  obtain ⟨h1, h2⟩ := Rows2.grow h.below h.size hg hr
  exact ⟨h.rowO.kept hg (own_apart h.rowO h.rowS ty_ne), ho, h1, h2, box_grown h.box hg (fun q hq => by have := hr q hq; omega)⟩
theorem row_cap {w : World} {base : Nat} {e : TypeId} {size g n cap : Nat} {xs : List Value} (h : w.ownsRow base e size (.slice (some ⟨g, 0, none⟩) n cap) n xs) : n ≤ cap := by
  rcases h.2 with ⟨h0, _⟩ | ⟨g', cap', cur, hv, _, _, hn, _⟩
  · cases h0
  · cases hv; exact hn
/-- The next lot's cells. -/
theorem Rows2.top {n : Nat} {w wr : World} {p : Pl3} {O S : List Lot5} {x : Lot5} {ov : Value} {no g k cp : Nat} (h : Rows2 n w p O (S ++ [x]) ov (.slice (some ⟨g, 0, none⟩) (k + 1) cp) no (k + 1) wr) : S.length = k ∧ ∀ i u, (encL x)[i]? = some u → wr.cell? ⟨g, k * 5 + i, none⟩ = some u := by
  have h1 := h.rowS
  have hl := own_len h1 (fun _ => rfl) (by omega)
  simp at hl
  refine ⟨hl.symm, fun i u hu => ?_⟩
  have := h1.cells (g := g) rfl _ _ (flat_get (k := 5) (fun _ => rfl) (S ++ [x]) k x i u (by rw [hl]; simp) hu)
  rw [addr_add] at this
  exact this
end Go.Proofs.Ytgdlbaabdebclaa

/- The reference's all (it calls itself) and Split. -/
namespace Go.Proofs.Ytgdlbaabdebclaa
open Go.RowKit
set_option linter.unusedVariables false
set_option linter.unusedSimpArgs false

/-- What all gives: the lots behind those that were there, no more than 401. -/
def allR (p : Pl3) (l : Lot5) (O : List Lot5) : List Lot5 := (O ++ leaves p l).take 401
theorem take_app (A B C : List Lot5) : ((A ++ B).take 401 ++ C).take 401 = (A ++ (B ++ C)).take 401 := by
  rw [← List.append_assoc]
  generalize A ++ B = D
  rw [List.take_append, List.take_append, List.take_take, Nat.min_self, List.length_take]
  by_cases h : D.length ≤ 401
  · rw [Nat.min_eq_right h]
  · rw [Nat.min_eq_left (by omega), show 401 - 401 = 0 from rfl, show 401 - D.length = 0 by omega]
theorem allR_none {p : Pl3} {l : Lot5} {O : List Lot5} (h : cutL p l = none) (hO : O.length ≤ 400) : allR p l O = O ++ [l] := by
  unfold allR
  rw [leaves_none h, List.take_of_length_le (by simp; omega)]
theorem allR_full {p : Pl3} {l : Lot5} {O : List Lot5} (h1 : 400 < O.length) (h2 : O.length ≤ 401) : allR p l O = O := by
  unfold allR
  rw [List.take_append, List.take_of_length_le h2, show 401 - O.length = 0 by omega]
  simp
theorem allR_some {p : Pl3} {l a b : Lot5} {O : List Lot5} (h : cutL p l = some (a, b)) : allR p b (allR p a O) = allR p l O := by
  unfold allR
  rw [take_app, leaves_some h]
theorem allR_len (p : Pl3) (l : Lot5) (O : List Lot5) : (allR p l O).length ≤ 401 := by
  unfold allR
  rw [List.length_take]
  exact Nat.min_le_left _ _
theorem gtrans {a b c : World} {r s : Option Nat} (h : a.grownBy b r) (k : b.grownBy c s) (hs : ∀ q, s = some q → r = some q ∨ a.heap.size ≤ q) : a.grownBy c r :=
  ⟨k.os.trans h.os, k.tape.trans h.tape, k.output.trans h.output, Nat.le_trans h.size k.size, fun i hi hne => (k.block i (Nat.lt_of_lt_of_le hi h.size) (fun e => by
    rcases hs i e.symm with h1 | h1
    · exact hne h1.symm
    · omega)).trans (h.block i hi hne)⟩
theorem g_below {a b : World} {r : Option Nat} (h : Below a.heap.size a b) : a.grownBy b r := ⟨h.os, h.tape, h.output, h.size, fun i hi _ => h.block i hi⟩
/-- What a call of all leaves. -/
def AllRet (w : World) (B : Nat) (row : Option Nat) (R : List Lot5) (e : Ending) (w' : World) : Prop :=
  ∃ A c, e = .returned (.slice A R.length c) ∧ w'.ownsRow B 25 5 (.slice A R.length c) R.length (R.flatMap encL) ∧ w.grownBy w' row ∧ ∀ q, (Value.slice A R.length c).ownBlock = some q → row = some q ∨ w.heap.size ≤ q
theorem cutR_none {l : Lot5} {p : Pl3} (h : cutL p l = none) : cutR l p = (zeroL, zeroL, false) := by simp [cutR, h]
theorem cutR_some {l a b : Lot5} {p : Pl3} (h : cutL p l = some (a, b)) : cutR l p = (a, b, true) := by simp [cutR, h]
theorem five_grown {A B : World} {r : Option Nat} {b : Nat} {l : Lot5} (h : Box5L A b l) (hg : A.grownBy B r) (hr : ∀ q, r = some q → q ≠ b) : Box5L B b l := by
  have hs := lt_of_cell h.c0
  have hb : B.heap[b]? = A.heap[b]? := hg.block b hs (fun e => hr b e.symm rfl)
  exact ⟨(World.cell?_of_block (a := ⟨b, 0, none⟩) hb).trans h.c0, (World.cell?_of_block (a := ⟨b, 1, none⟩) hb).trans h.c1, (World.cell?_of_block (a := ⟨b, 2, none⟩) hb).trans h.c2, (World.cell?_of_block (a := ⟨b, 3, none⟩) hb).trans h.c3, (World.cell?_of_block (a := ⟨b, 4, none⟩) hb).trans h.c4,
    (World.frozen?_of_block (a := ⟨b, 0, none⟩) hb).trans h.z0, (World.frozen?_of_block (a := ⟨b, 1, none⟩) hb).trans h.z1, (World.frozen?_of_block (a := ⟨b, 2, none⟩) hb).trans h.z2, (World.frozen?_of_block (a := ⟨b, 3, none⟩) hb).trans h.z3, (World.frozen?_of_block (a := ⟨b, 4, none⟩) hb).trans h.z4⟩
theorem three_cells {W : World} {b1 b2 b3 : Nat} {l k : Lot5} {v0 v1 v2 : Value} (h1 : Box5L W b1 l) (h2 : Box3 W b2 v0 v1 v2) (h3 : Box5L W b3 k) :
    (W.cell? ⟨b1, 0, none⟩ = some (.int .i64 l.r.x0) ∧ W.cell? ⟨b1, 1, none⟩ = some (.int .i64 l.r.y0) ∧ W.cell? ⟨b1, 2, none⟩ = some (.int .i64 l.r.x1) ∧ W.cell? ⟨b1, 3, none⟩ = some (.int .i64 l.r.y1) ∧ W.cell? ⟨b1, 4, none⟩ = some (.int .u8 l.f)) ∧ (W.cell? ⟨b2, 0, none⟩ = some v0 ∧ W.cell? ⟨b2, 1, none⟩ = some v1 ∧ W.cell? ⟨b2, 2, none⟩ = some v2) ∧ (W.cell? ⟨b3, 0, none⟩ = some (.int .i64 k.r.x0) ∧ W.cell? ⟨b3, 1, none⟩ = some (.int .i64 k.r.y0) ∧ W.cell? ⟨b3, 2, none⟩ = some (.int .i64 k.r.x1) ∧ W.cell? ⟨b3, 3, none⟩ = some (.int .i64 k.r.y1) ∧ W.cell? ⟨b3, 4, none⟩ = some (.int .u8 k.f)) :=
  ⟨⟨h1.c0, h1.c1, h1.c2, h1.c3, h1.c4⟩, ⟨h2.c0, h2.c1, h2.c2⟩, ⟨h3.c0, h3.c1, h3.c2, h3.c3, h3.c4⟩⟩
set_option maxRecDepth 100000 in
set_option maxHeartbeats 4000000 in
theorem rall_full (p : Pl3) (l : Lot5) {w : World} {B : Nat} {A : Option Addr} {c : Nat} {O : List Lot5} (hown : w.ownsRow B 25 5 (.slice A O.length c) O.length (O.flatMap encL)) (hB : B ≤ w.heap.size) (h1 : 400 < O.length) (h2 : O.length ≤ 401) : Calls Try.prog 36 #[.agg (encL l).toArray, .agg (encP p).toArray, .slice A O.length c] w (AllRet w B (Value.slice A O.length c).ownBlock (allR p l O)) := by
  rw [allR_full h1 h2]
  show Calls Try.prog _ #[.agg #[.int .i64 l.r.x0, .int .i64 l.r.y0, .int .i64 l.r.x1, .int .i64 l.r.y1, .int .u8 l.f], .agg #[.int .i64 p.mf, .int .i64 p.ms, .int .i64 p.ma], .slice A O.length c] w _
  have hz : (400 : Int) < (O.length : Int) := by omega
  have HO := hide hown
  obtain ⟨no, hno⟩ : ∃ no, O.length = no := ⟨_, rfl⟩
  simp only [hno] at hz HO ⊢
  have HNO := hide hno
  clear hown h1 h2 hno
  go_enter Try.func36, Try.ntmps36
  go_wp2_with (fail)
  go_ret
  have hb : Below w.heap.size w ((w.alloc (.cells #[.int .i64 l.r.x0, .int .i64 l.r.y0, .int .i64 l.r.x1, .int .i64 l.r.y1, .int .u8 l.f] 25)).alloc (.cells #[.int .i64 p.mf, .int .i64 p.ms, .int .i64 p.ma] 27)) := ((Below.refl _ _).alloc (Nat.le_refl _) _).alloc (by simp) _
  refine ⟨A, c, by rw [HNO.out]; rfl, by rw [HNO.out]; exact own_below HO.out hb, g_below hb, fun q hq => .inl (by rw [HNO.out] at hq; exact hq)⟩
set_option maxRecDepth 100000 in
set_option maxHeartbeats 4000000 in
theorem rall_none (p : Pl3) (l : Lot5) (hv : validL l) (hc : cutL p l = none) {w : World} {B : Nat} {A : Option Addr} {c : Nat} {O : List Lot5} (hown : w.ownsRow B 25 5 (.slice A O.length c) O.length (O.flatMap encL)) (hB : B ≤ w.heap.size) (h1 : O.length ≤ 400) : Calls Try.prog 36 #[.agg (encL l).toArray, .agg (encP p).toArray, .slice A O.length c] w (AllRet w B (Value.slice A O.length c).ownBlock (allR p l O)) := by
  rw [allR_none hc h1]
  obtain ⟨i1, gi, gz0, gz1, gz2⟩ := info_parts infoLot
  have HCU : Hid (∀ W, Calls Try.prog 47 #[.agg (encL l).toArray, .agg (encP p).toArray] W fun e w' => e = .returned (.tuple #[.agg (encL zeroL).toArray, .agg (encL zeroL).toArray, .bool false]) ∧ Below W.heap.size W w') := hide (fun W => by have := rparts_any l p hv W; rw [cutR_none hc] at this; exact this)
  simp only [encL, encP] at HCU
  show Calls Try.prog _ #[.agg #[.int .i64 l.r.x0, .int .i64 l.r.y0, .int .i64 l.r.x1, .int .i64 l.r.y1, .int .u8 l.f], .agg #[.int .i64 p.mf, .int .i64 p.ms, .int .i64 p.ma], .slice A O.length c] w _
  have hz : (O.length : Int) ≤ 400 := by omega
  obtain ⟨no, hno⟩ : ∃ no, O.length = no := ⟨_, rfl⟩
  have hno4 : no ≤ 400 := by omega
  simp only [hno] at hz hown ⊢
  have HNO := hide hno
  clear h1 hno hv hc
  go_enter Try.func36, Try.ntmps36
  go_wp2_with (fail)
  obtain ⟨W, hW⟩ : ∃ x, x = (w.alloc (.cells #[.int .i64 l.r.x0, .int .i64 l.r.y0, .int .i64 l.r.x1, .int .i64 l.r.y1, .int .u8 l.f] 25)).alloc (.cells #[.int .i64 p.mf, .int .i64 p.ms, .int .i64 p.ma] 27) := ⟨_, rfl⟩
  rw [← hW]
  have hb0 : Below w.heap.size w W := by rw [hW]; exact ((Below.refl _ _).alloc (Nat.le_refl _) _).alloc (by simp) _
  have hs0 : w.heap.size + 2 ≤ W.heap.size := by rw [hW]; simp
  have HL : Box5L W w.heap.size l := by rw [hW]; refine ⟨?_, ?_, ?_, ?_, ?_, ?_, ?_, ?_, ?_, ?_⟩ <;> simp [go_sem]
  have HP : Box3 W (w.heap.size + 1) (.int .i64 p.mf) (.int .i64 p.ms) (.int .i64 p.ma) := by rw [hW]; refine ⟨?_, ?_, ?_⟩ <;> simp [go_sem]
  have HROW := hide (own_below hown hb0)
  obtain ⟨n, hn⟩ : ∃ n, w.heap.size = n := ⟨_, rfl⟩
  have HN := hide hn
  have HROWLT : Hid (∀ q, (Value.slice A no c).ownBlock = some q → q < n) := hide (fun q hq => by rw [← hn]; exact (hown.lt q hq).2)
  rw [hn] at hb0 hs0 HL HP hB ⊢
  have K0 := hide hb0
  clear hW hb0 hn hown
  refine (HCU.out _).mono ?_
  rintro e w1 ⟨rfl, hb⟩
  have HL1 := HL.below hb
  have HROW1 := hide (own_below HROW.out hb)
  have K1 := hide (K0.out.trans (hb.mono (by omega)))
  have hs1 : n + 2 ≤ w1.heap.size := Nat.le_trans hs0 hb.size
  clear hb HL HP HROW K0 hs0
  go_upto_region 5 with fail
  refine wp_name5 fun Z hZ => ?_
  have hbz : Below w1.heap.size w1 Z := by
    rw [hZ]
    repeat (first | with_reducible exact Below.refl _ _ | with_reducible refine Below.setCell ?_ (by first | (simp; done) | (simp; omega)) _ | with_reducible refine Below.alloc ?_ (by first | omega | (simp; omega) | simp) _)
  have HLZ := HL1.below hbz
  have HROWZ := hide (own_below HROW1.out hbz)
  have KZ := hide (K1.out.trans (hbz.mono (by omega)))
  have hsZ : n + 2 ≤ Z.heap.size := Nat.le_trans hs1 hbz.size
  clear hZ hbz HL1 HROW1 K1 hs1
  obtain ⟨a0, a1, a2, a3, a4, -, -, -, -, -⟩ := HLZ
  go_wp2_with (at_builtin; go_loud (refine wpList_append_lies _ rfl (.tmp 23) (.tmp 25) 28 rfl B 25 i1 (.agg #[.int .i64 0, .int .i64 0, .int .i64 0, .int .i64 0, .int .u8 0]) 5 40 Try.underlying28 gi gz0 gz1 gz2 rfl (by decide) _ no _ rfl (World.ownsRow.alloc HROWZ.out _) ⟨Z.heap.size, 0, none⟩ 1 1 [.int .i64 l.r.x0, .int .i64 l.r.y0, .int .i64 l.r.x1, .int .i64 l.r.y1, .int .u8 l.f] rfl rfl (news_new Z _ _ _ rfl) (ints_one rfl) (by omega) (by unfold maxLen; omega) (by omega) (by simp; omega) _ rfl ?_))
  intro g2 cp2 w9 hown hgrow hg2 hlt
  have hgz : w.grownBy Z (Value.slice A no c).ownBlock := g_below (by rw [HN.out]; exact KZ.out)
  have HG : Hid (w.grownBy w9 (Value.slice A no c).ownBlock) := hide (gtrans hgz (gtrans (World.grownBy_alloc _ _ _) hgrow (fun q hq => .inl hq)) (fun q hq => .inl hq))
  have HO := hide hown
  have HG2 : Hid (∀ q, (Value.slice (some ⟨g2, 0, none⟩) (no + 1) cp2).ownBlock = some q → (Value.slice A no c).ownBlock = some q ∨ w.heap.size ≤ q) := hide (fun q hq => by
    rcases hg2 with h | h
    · exact .inl (by rw [h]; exact hq)
    · right
      have : g2 = q := by injection hq
      rw [HN.out]; first | omega | (simp at h; omega))
  clear hown hgrow hg2 hlt a0 a1 a2 a3 a4 hgz
  go_wp2_with (fail)
  go_ret
  have e1 : (O ++ [l]).length = no + 1 := by rw [List.length_append, HNO.out]; rfl
  refine ⟨some ⟨g2, 0, none⟩, cp2, by rw [e1]; rfl, by rw [e1, List.flatMap_append]; exact HO.out, HG.out, fun q hq => HG2.out q (by rw [e1] at hq; exact hq)⟩
set_option maxRecDepth 100000 in
set_option maxHeartbeats 8000000 in
theorem rall_some (p : Pl3) (l a b : Lot5) (hv : validL l) (hc : cutL p l = some (a, b)) {w : World} {B : Nat} {A : Option Addr} {c : Nat} {O : List Lot5} (hown : w.ownsRow B 25 5 (.slice A O.length c) O.length (O.flatMap encL)) (hB : B ≤ w.heap.size) (h1 : O.length ≤ 400)
    (iha : ∀ {w : World} {B : Nat} {A : Option Addr} {c : Nat} {O : List Lot5}, w.ownsRow B 25 5 (.slice A O.length c) O.length (O.flatMap encL) → B ≤ w.heap.size → O.length ≤ 401 → Calls Try.prog 36 #[.agg (encL a).toArray, .agg (encP p).toArray, .slice A O.length c] w (AllRet w B (Value.slice A O.length c).ownBlock (allR p a O)))
    (ihb : ∀ {w : World} {B : Nat} {A : Option Addr} {c : Nat} {O : List Lot5}, w.ownsRow B 25 5 (.slice A O.length c) O.length (O.flatMap encL) → B ≤ w.heap.size → O.length ≤ 401 → Calls Try.prog 36 #[.agg (encL b).toArray, .agg (encP p).toArray, .slice A O.length c] w (AllRet w B (Value.slice A O.length c).ownBlock (allR p b O))) : Calls Try.prog 36 #[.agg (encL l).toArray, .agg (encP p).toArray, .slice A O.length c] w (AllRet w B (Value.slice A O.length c).ownBlock (allR p l O)) := by
  have HEQ := hide (allR_some (O := O) hc)
  have HIA : Hid (∀ W, W.ownsRow B 25 5 (.slice A O.length c) O.length (O.flatMap encL) → B ≤ W.heap.size → Calls Try.prog 36 #[.agg (encL a).toArray, .agg (encP p).toArray, .slice A O.length c] W (AllRet W B (Value.slice A O.length c).ownBlock (allR p a O))) := hide (fun W h h' => iha h h' (by omega))
  have hl1 := allR_len p a O
  generalize allR p a O = R1 at *
  have HIB : Hid (∀ W A c, W.ownsRow B 25 5 (.slice A R1.length c) R1.length (R1.flatMap encL) → B ≤ W.heap.size → Calls Try.prog 36 #[.agg (encL b).toArray, .agg (encP p).toArray, .slice A R1.length c] W (AllRet W B (Value.slice A R1.length c).ownBlock (allR p b R1))) := hide (fun W A c h h' => ihb h h' hl1)
  have HCU : Hid (∀ W, Calls Try.prog 47 #[.agg (encL l).toArray, .agg (encP p).toArray] W fun e w' => e = .returned (.tuple #[.agg (encL a).toArray, .agg (encL b).toArray, .bool true]) ∧ Below W.heap.size W w') := hide (fun W => by have := rparts_any l p hv W; rw [cutR_some hc] at this; exact this)
  simp only [encP] at HCU HIA HIB
  simp only [encL] at HCU
  have HIA' : Hid (∀ W, W.ownsRow B 25 5 (.slice A O.length c) O.length (O.flatMap encL) → B ≤ W.heap.size → Calls Try.prog 36 #[.agg #[.int .i64 a.r.x0, .int .i64 a.r.y0, .int .i64 a.r.x1, .int .i64 a.r.y1, .int .u8 a.f], .agg #[.int .i64 p.mf, .int .i64 p.ms, .int .i64 p.ma], .slice A O.length c] W (AllRet W B (Value.slice A O.length c).ownBlock R1)) := hide HIA.out
  have HIB' : Hid (∀ W A c, W.ownsRow B 25 5 (.slice A R1.length c) R1.length (R1.flatMap encL) → B ≤ W.heap.size → Calls Try.prog 36 #[.agg #[.int .i64 b.r.x0, .int .i64 b.r.y0, .int .i64 b.r.x1, .int .i64 b.r.y1, .int .u8 b.f], .agg #[.int .i64 p.mf, .int .i64 p.ms, .int .i64 p.ma], .slice A R1.length c] W (AllRet W B (Value.slice A R1.length c).ownBlock (allR p b R1))) := hide HIB.out
  rw [← HEQ.out]
  clear HIA HIB iha ihb hv hc HEQ hl1
  generalize allR p b R1 = R2 at *
  show Calls Try.prog _ #[.agg #[.int .i64 l.r.x0, .int .i64 l.r.y0, .int .i64 l.r.x1, .int .i64 l.r.y1, .int .u8 l.f], .agg #[.int .i64 p.mf, .int .i64 p.ms, .int .i64 p.ma], .slice A O.length c] w _
  have hz : (O.length : Int) ≤ 400 := by omega
  obtain ⟨no, hno⟩ : ∃ no, O.length = no := ⟨_, rfl⟩
  have hno4 : no ≤ 400 := by omega
  simp only [hno] at hz hown HIA' ⊢
  clear h1 hno
  go_enter Try.func36, Try.ntmps36
  go_wp2_with (fail)
  obtain ⟨W, hW⟩ : ∃ x, x = (w.alloc (.cells #[.int .i64 l.r.x0, .int .i64 l.r.y0, .int .i64 l.r.x1, .int .i64 l.r.y1, .int .u8 l.f] 25)).alloc (.cells #[.int .i64 p.mf, .int .i64 p.ms, .int .i64 p.ma] 27) := ⟨_, rfl⟩
  rw [← hW]
  have hb0 : Below w.heap.size w W := by rw [hW]; exact ((Below.refl _ _).alloc (Nat.le_refl _) _).alloc (by simp) _
  have hs0 : w.heap.size + 2 ≤ W.heap.size := by rw [hW]; simp
  have HL : Box5L W w.heap.size l := by rw [hW]; refine ⟨?_, ?_, ?_, ?_, ?_, ?_, ?_, ?_, ?_, ?_⟩ <;> simp [go_sem]
  have HP : Box3 W (w.heap.size + 1) (.int .i64 p.mf) (.int .i64 p.ms) (.int .i64 p.ma) := by rw [hW]; refine ⟨?_, ?_, ?_⟩ <;> simp [go_sem]
  have HROW := hide (own_below hown hb0)
  obtain ⟨n, hn⟩ : ∃ n, w.heap.size = n := ⟨_, rfl⟩
  have HN := hide hn
  have HROWLT : Hid (∀ q, (Value.slice A no c).ownBlock = some q → q < n) := hide (fun q hq => by rw [← hn]; exact (hown.lt q hq).2)
  rw [hn] at hb0 hs0 HL HP hB ⊢
  have K0 := hide hb0
  clear hW hb0 hn hown
  refine (HCU.out _).mono ?_
  rintro e w1 ⟨rfl, hb⟩
  have HL1 := HL.below hb
  have HP1 := HP.below hb
  have HROW1 := hide (own_below HROW.out hb)
  have K1 := hide (K0.out.trans (hb.mono (by omega)))
  have hs1 : n + 2 ≤ w1.heap.size := Nat.le_trans hs0 hb.size
  clear hb HL HP HROW K0 hs0 HCU
  go_upto_region 6 with fail
  refine wp_name5 fun Z hZ => ?_
  have hbz : Below w1.heap.size w1 Z := by
    rw [hZ]
    repeat (first | with_reducible exact Below.refl _ _ | with_reducible refine Below.setCell ?_ (by first | (simp; done) | (simp; omega)) _ | with_reducible refine Below.alloc ?_ (by first | omega | (simp; omega) | simp) _)
  have HXZ : Box5L Z w1.heap.size a := by rw [hZ]; refine ⟨?_, ?_, ?_, ?_, ?_, ?_, ?_, ?_, ?_, ?_⟩ <;> simp [go_sem]
  have HYZ : Box5L Z (w1.heap.size + 1) b := by rw [hZ]; refine ⟨?_, ?_, ?_, ?_, ?_, ?_, ?_, ?_, ?_, ?_⟩ <;> simp [go_sem]
  have HPZ := HP1.below hbz
  have HROWZ := hide (own_below HROW1.out hbz)
  have KZ := hide (K1.out.trans (hbz.mono (by omega)))
  have hsZ : n + 2 ≤ Z.heap.size := Nat.le_trans hs1 hbz.size
  obtain ⟨m, hm⟩ : ∃ m, w1.heap.size = m := ⟨_, rfl⟩
  rw [hm] at HXZ HYZ hs1 ⊢
  clear hZ hbz HL1 HP1 HROW1 K1 hm
  have HD : Hid (Box5L Z.drew (m + 1) b ∧ Box3 Z.drew (n + 1) (.int .i64 p.mf) (.int .i64 p.ms) (.int .i64 p.ma) ∧ Box5L Z.drew m a) := hide ⟨⟨HYZ.c0, HYZ.c1, HYZ.c2, HYZ.c3, HYZ.c4, HYZ.z0, HYZ.z1, HYZ.z2, HYZ.z3, HYZ.z4⟩, ⟨HPZ.c0, HPZ.c1, HPZ.c2⟩, ⟨HXZ.c0, HXZ.c1, HXZ.c2, HXZ.c3, HXZ.c4, HXZ.z0, HXZ.z1, HXZ.z2, HXZ.z3, HXZ.z4⟩⟩
  have HROWD := hide (World.ownsRow.drew HROWZ.out)
  have KD := hide KZ.out.drew
  have hmZ : m + 1 < Z.drew.heap.size := lt_of_cell HD.out.1.c0
  clear HXZ HYZ HPZ HROWZ KZ hsZ
  refine wp_region_mix [0, 1, 2, 3, 4] [5, 6, 7] (fun w' => (w'.cell? ⟨m + 1, 0, none⟩ = some (.int .i64 b.r.x0) ∧ w'.cell? ⟨m + 1, 1, none⟩ = some (.int .i64 b.r.y0) ∧ w'.cell? ⟨m + 1, 2, none⟩ = some (.int .i64 b.r.x1) ∧ w'.cell? ⟨m + 1, 3, none⟩ = some (.int .i64 b.r.y1) ∧ w'.cell? ⟨m + 1, 4, none⟩ = some (.int .u8 b.f)) ∧ (w'.cell? ⟨n + 1, 0, none⟩ = some (.int .i64 p.mf) ∧ w'.cell? ⟨n + 1, 1, none⟩ = some (.int .i64 p.ms) ∧ w'.cell? ⟨n + 1, 2, none⟩ = some (.int .i64 p.ma)) ∧ (w'.cell? ⟨m, 0, none⟩ = some (.int .i64 a.r.x0) ∧ w'.cell? ⟨m, 1, none⟩ = some (.int .i64 a.r.y0) ∧ w'.cell? ⟨m, 2, none⟩ = some (.int .i64 a.r.x1) ∧ w'.cell? ⟨m, 3, none⟩ = some (.int .i64 a.r.y1) ∧ w'.cell? ⟨m, 4, none⟩ = some (.int .u8 a.f))) (by kernel_rfl) (by kernel_rfl) (three_cells HD.out.1 HD.out.2.1 HD.out.2.2) ?_
  generalize Z.drew = Y at *
  simp only [List.map_cons, List.map_nil, opAt, List.getElem?_cons_succ, List.getElem?_cons_zero, Option.getD_some]
  iterate 5
    refine ⟨?_, Or.inl ⟨by rfl, ?_⟩, ?_⟩
    rotate_left 1
    · intro w' hSw
      obtain ⟨⟨z0, z1, z2, z3, z4⟩, ⟨z5, z6, z7⟩, ⟨z8, z9, z10, z11, z12⟩⟩ := hSw
      go_simp
      first | done | with_reducible rfl
    simp only [Act.put, List.setIfInBounds_toArray, List.set_cons_zero, List.set_cons_succ]
  simp only [wpReads]
  intro K hK
  simp only [Act.put, List.setIfInBounds_toArray, List.set_cons_zero, List.set_cons_succ] at hK ⊢
  go_simp
  refine (HIA'.out _ HROWD.out (by omega)).mono ?_
  rintro e w2 ⟨A1, c1, rfl, ho1, hg1, hq1⟩
  have HD2 : Hid (Box5L w2 (m + 1) b ∧ Box3 w2 (n + 1) (.int .i64 p.mf) (.int .i64 p.ms) (.int .i64 p.ma) ∧ Box5L w2 m a) := hide ⟨five_grown HD.out.1 hg1 (fun q hq => by have := HROWLT.out q hq; omega), box_grown HD.out.2.1 hg1 (fun q hq => by have := HROWLT.out q hq; omega), five_grown HD.out.2.2 hg1 (fun q hq => by have := HROWLT.out q hq; omega)⟩
  have HO1 := hide ho1
  have HG1 := hide hg1
  have HQ1 := hide hq1
  have hs2 := hg1.size
  clear ho1 hg1 hq1
  refine hK _ _ (fun _ => three_cells HD2.out.1 HD2.out.2.1 HD2.out.2.2) ?_
  clear hK K
  intro K hK
  simp only [Act.put, List.setIfInBounds_toArray, List.set_cons_zero, List.set_cons_succ] at hK ⊢
  go_simp
  refine (HIB'.out _ _ _ HO1.out (by omega)).mono ?_
  rintro e w3 ⟨A2, c2, rfl, ho2, hg2, hq2⟩
  have HROW2 : Hid (∀ q, (Value.slice A1 R1.length c1).ownBlock = some q → q < n ∨ m + 1 < q) := hide (fun q hq => by
    rcases HQ1.out q hq with h | h
    · exact .inl (HROWLT.out q h)
    · exact .inr (by omega))
  have HD3 : Hid (Box5L w3 (m + 1) b ∧ Box3 w3 (n + 1) (.int .i64 p.mf) (.int .i64 p.ms) (.int .i64 p.ma) ∧ Box5L w3 m a) := hide ⟨five_grown HD2.out.1 hg2 (fun q hq => by have := HROW2.out q hq; omega), box_grown HD2.out.2.1 hg2 (fun q hq => by have := HROW2.out q hq; omega), five_grown HD2.out.2.2 hg2 (fun q hq => by have := HROW2.out q hq; omega)⟩
  have HO2 := hide ho2
  have HG2 := hide hg2
  have HQ2 := hide hq2
  clear ho2 hg2 hq2
  refine hK _ _ (fun _ => three_cells HD3.out.1 HD3.out.2.1 HD3.out.2.2) ?_
  clear hK K
  intro K hK
  simp only [Act.put, List.setIfInBounds_toArray, List.set_cons_zero, List.set_cons_succ] at hK ⊢
  go_simp
  refine hK _ _ (fun h => absurd rfl h) ?_
  clear hK K
  refine NoPanic.normal ?_
  have hnn := HN.out
  have HGD : Hid (w.grownBy w3 (Value.slice A no c).ownBlock) := hide (gtrans (gtrans (g_below (r := (Value.slice A no c).ownBlock) (by rw [hnn]; exact KD.out)) HG1.out (fun q hq => .inl hq)) HG2.out (fun q hq => by
    rcases HQ1.out q hq with h | h
    · exact .inl h
    · exact .inr (by omega)))
  have HQD : Hid (∀ q, (Value.slice A2 R2.length c2).ownBlock = some q → (Value.slice A no c).ownBlock = some q ∨ w.heap.size ≤ q) := hide (fun q hq => by
    rcases HQ2.out q hq with h | h
    · rcases HQ1.out q h with h | h
      · exact .inl h
      · exact .inr (by omega)
    · exact .inr (by omega))
  clear hnn hs2
  go_wp2_with (fail)
  go_ret
  exact ⟨A2, c2, rfl, HO2.out, HGD.out, HQD.out⟩
def AllGood (p : Pl3) (l : Lot5) : Prop := validL l → ∀ (w : World) (B : Nat) (A : Option Addr) (c : Nat) (O : List Lot5), w.ownsRow B 25 5 (.slice A O.length c) O.length (O.flatMap encL) → B ≤ w.heap.size → O.length ≤ 401 → Calls Try.prog 36 #[.agg (encL l).toArray, .agg (encP p).toArray, .slice A O.length c] w (AllRet w B (Value.slice A O.length c).ownBlock (allR p l O))
theorem rall_any (p : Pl3) : ∀ l, AllGood p l := cut_ind (p := p) (P := AllGood p)
  (fun l hc => by
    intro hv w B A c O hown hB h2
    by_cases h1 : O.length ≤ 400
    · exact rall_none p l hv hc hown hB h1
    · exact rall_full p l hown hB (by omega) h2)
  (fun l a b hc iha ihb => by
    intro hv w B A c O hown hB h2
    by_cases h1 : O.length ≤ 400
    · obtain ⟨_, ga, gb, _⟩ := cutL_some hc
      exact rall_some p l a b hv hc hown hB h1 (fun x1 x2 x3 => iha ga.1 _ _ _ _ _ x1 x2 x3) (fun x1 x2 x3 => ihb gb.1 _ _ _ _ _ x1 x2 x3)
    · exact rall_full p l hown hB (by omega) h2)
theorem allR_nil (p : Pl3) (l : Lot5) : allR p l [] = (leaves p l).take 401 := rfl
set_option maxRecDepth 100000 in
set_option maxHeartbeats 4000000 in
theorem rSplit_any (l : Lot5) (p : Pl3) (hf : 0 ≤ l.f ∧ l.f ≤ 255) (w : World) : Calls Try.prog 12 #[.agg (encL l).toArray, .agg (encP p).toArray] w (LotsRet w (splitR l p)) := by
  have HCK := hide (fun W => rCheckL_any l p hf W)
  by_cases h0 : checkL l p = 0
  · have hv := checkL_valid h0
    rw [h0] at HCK
    have HAL : Hid (∀ W : World, Calls Try.prog 36 #[.agg (encL l).toArray, .agg (encP p).toArray, .slice none 0 0] W (AllRet W W.heap.size none (allR p l []))) := hide (fun W => rall_any p l hv W W.heap.size none 0 [] (World.ownsRow_nil _ _ _ _) (Nat.le_refl _) (by simp))
    have hR : splitR l p = if (allR p l []).length ≤ 400 then (allR p l [], 0) else ([], 4) := by
      unfold splitR
      rw [if_pos h0, allR_nil]
      by_cases h : (leaves p l).length ≤ 400
      · rw [if_pos h, List.take_of_length_le (by omega), if_pos h]
      · rw [if_neg h, if_neg (by rw [List.length_take]; omega)]
    have hl4 := allR_len p l []
    have HR := hide hR
    clear h0 hv hf hR
    generalize splitR l p = R at *
    generalize allR p l [] = Q at *
    show Calls Try.prog _ #[.agg #[.int .i64 l.r.x0, .int .i64 l.r.y0, .int .i64 l.r.x1, .int .i64 l.r.y1, .int .u8 l.f], .agg #[.int .i64 p.mf, .int .i64 p.ms, .int .i64 p.ma]] w (LotsRet w R)
    simp only [encL, encP] at HCK
    have HAL' : Hid (∀ W : World, Calls Try.prog 36 #[.agg #[.int .i64 l.r.x0, .int .i64 l.r.y0, .int .i64 l.r.x1, .int .i64 l.r.y1, .int .u8 l.f], .agg #[.int .i64 p.mf, .int .i64 p.ms, .int .i64 p.ma], .slice none 0 0] W (AllRet W W.heap.size none Q)) := hide HAL.out
    clear HAL
    go_enter Try.func12, Try.ntmps12
    go_wp2_with (fail)
    obtain ⟨W, hW⟩ : ∃ x, x = (w.alloc (.cells #[.int .i64 l.r.x0, .int .i64 l.r.y0, .int .i64 l.r.x1, .int .i64 l.r.y1, .int .u8 l.f] 25)).alloc (.cells #[.int .i64 p.mf, .int .i64 p.ms, .int .i64 p.ma] 27) := ⟨_, rfl⟩
    rw [← hW]
    have hb0 : Below w.heap.size w W := by rw [hW]; exact ((Below.refl _ _).alloc (Nat.le_refl _) _).alloc (by simp) _
    have hs0 : w.heap.size + 2 ≤ W.heap.size := by rw [hW]; simp
    have HL : Box5L W w.heap.size l := by rw [hW]; refine ⟨?_, ?_, ?_, ?_, ?_, ?_, ?_, ?_, ?_, ?_⟩ <;> simp [go_sem]
    have HP : Box3 W (w.heap.size + 1) (.int .i64 p.mf) (.int .i64 p.ms) (.int .i64 p.ma) := by rw [hW]; refine ⟨?_, ?_, ?_⟩ <;> simp [go_sem]
    obtain ⟨n, hn⟩ : ∃ n, w.heap.size = n := ⟨_, rfl⟩
    have HN := hide hn
    rw [hn] at hb0 hs0 HL HP ⊢
    have K0 := hide hb0
    clear hW hb0 hn
    refine (HCK.out _).mono ?_
    rintro e w1 ⟨rfl, hb⟩
    have HL1 := HL.below hb
    have HP1 := HP.below hb
    have hs1 : n + 2 ≤ w1.heap.size := Nat.le_trans hs0 hb.size
    have K1 := hide (K0.out.trans (hb.mono (by omega)))
    clear hb HL HP K0 hs0
    try clear l0 l1 l2 l3 l4 p0 p1 p2
    obtain ⟨l0, l1, l2, l3, l4, -, -, -, -, -⟩ := id HL1
    obtain ⟨p0, p1, p2⟩ := id HP1
    go_wp2_with (fail)
    refine (HAL'.out _).mono ?_
    rintro e w2 ⟨A, c, rfl, ho, hg, hq⟩
    have K2 : Hid (Below n w w2) := hide (K1.out.grown hg (by omega) (fun q hq => by cases hq))
    have HO : Hid (w2.ownsRow w.heap.size 25 5 (.slice A Q.length c) Q.length (Q.flatMap encL)) := hide (own_base ho (by rw [HN.out]; omega))
    clear ho hg hq K1 hs1 HL1 HP1 l0 l1 l2 l3 l4 p0 p1 p2
    by_cases h4 : Q.length ≤ 400
    · have hz : ¬ (400 : Int) < (Q.length : Int) := by omega
      have HR2 : Hid (R = (Q, 0)) := hide (by rw [HR.out, if_pos h4])
      clear h4 hl4 HR
      go_wp2_with (fail)
      go_ret2
      exact ⟨⟨A, c, by rw [HR2.out]; rfl, by rw [HR2.out]; exact HO.out⟩, by rw [HN.out]; exact K2.out⟩
    · have hz : (400 : Int) < (Q.length : Int) := by omega
      have HR2 : Hid (R = ([], 4)) := hide (by rw [HR.out, if_neg h4])
      clear h4 hl4 HR
      go_wp2_with (fail)
      go_ret2
      exact ⟨⟨none, 0, by rw [HR2.out]; rfl, by rw [HR2.out]; exact World.ownsRow_nil _ _ _ _⟩, by rw [HN.out]; exact K2.out⟩
  · have HR : Hid (splitR l p = ([], checkL l p)) := hide (if_neg h0)
    clear hf
    generalize splitR l p = R at *
    generalize checkL l p = ck at *
    have hne : (ck != 0) = true := by simpa using h0
    clear h0
    show Calls Try.prog _ #[.agg #[.int .i64 l.r.x0, .int .i64 l.r.y0, .int .i64 l.r.x1, .int .i64 l.r.y1, .int .u8 l.f], .agg #[.int .i64 p.mf, .int .i64 p.ms, .int .i64 p.ma]] w (LotsRet w R)
    simp only [encL, encP] at HCK
    go_enter Try.func12, Try.ntmps12
    go_wp2_with (fail)
    obtain ⟨W, hW⟩ : ∃ x, x = (w.alloc (.cells #[.int .i64 l.r.x0, .int .i64 l.r.y0, .int .i64 l.r.x1, .int .i64 l.r.y1, .int .u8 l.f] 25)).alloc (.cells #[.int .i64 p.mf, .int .i64 p.ms, .int .i64 p.ma] 27) := ⟨_, rfl⟩
    rw [← hW]
    have hb0 : Below w.heap.size w W := by rw [hW]; exact ((Below.refl _ _).alloc (Nat.le_refl _) _).alloc (by simp) _
    have hs0 : w.heap.size + 2 ≤ W.heap.size := by rw [hW]; simp
    have HL : Box5L W w.heap.size l := by rw [hW]; refine ⟨?_, ?_, ?_, ?_, ?_, ?_, ?_, ?_, ?_, ?_⟩ <;> simp [go_sem]
    have HP : Box3 W (w.heap.size + 1) (.int .i64 p.mf) (.int .i64 p.ms) (.int .i64 p.ma) := by rw [hW]; refine ⟨?_, ?_, ?_⟩ <;> simp [go_sem]
    obtain ⟨n, hn⟩ : ∃ n, w.heap.size = n := ⟨_, rfl⟩
    have HN := hide hn
    rw [hn] at hb0 hs0 HL HP ⊢
    have K0 := hide hb0
    clear hW hb0 hn
    refine (HCK.out _).mono ?_
    rintro e w1 ⟨rfl, hb⟩
    have HL1 := HL.below hb
    have HP1 := HP.below hb
    have hs1 : n + 2 ≤ w1.heap.size := Nat.le_trans hs0 hb.size
    have K1 := hide (K0.out.trans (hb.mono (by omega)))
    clear hb HL HP K0 hs0
    try clear l0 l1 l2 l3 l4 p0 p1 p2
    obtain ⟨l0, l1, l2, l3, l4, -, -, -, -, -⟩ := id HL1
    obtain ⟨p0, p1, p2⟩ := id HP1
    go_wp2_with (fail)
    refine (HCK.out _).mono ?_
    rintro e w2 ⟨rfl, hb⟩
    have HL2 := HL1.below hb
    have HP2 := HP1.below hb
    have hs2 : n + 2 ≤ w2.heap.size := Nat.le_trans hs1 hb.size
    have K2 := hide (K1.out.trans (hb.mono (by omega)))
    clear hb HL1 HP1 K1 hs1
    try clear l0 l1 l2 l3 l4 p0 p1 p2
    obtain ⟨l0, l1, l2, l3, l4, -, -, -, -, -⟩ := id HL2
    obtain ⟨p0, p1, p2⟩ := id HP2
    go_wp2_with (fail)
    go_ret2
    exact ⟨⟨none, 0, by rw [HR.out]; rfl, by rw [HR.out]; exact World.ownsRow_nil _ _ _ _⟩, by rw [HN.out]; exact K2.out⟩
end Go.Proofs.Ytgdlbaabdebclaa
