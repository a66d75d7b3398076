/- Texts laid together: ParB, ParC, ParD, ParE, ParF, ParR, ParS, ParG, ParH, LotA, LotA2. Lemmas for the statements of this seat; no condition. -/
import Derived.Test.YtdolpeljengpaaaGreatPk5
import Derived.Test.YtdolpeljengpaaaGreatPk3
import Derived.Test.YtdolpeljengpaaaGreatPk2
import Derived.Deep.RegionHeld3
import Derived.Deep.DeepCutAuto
import Derived.Test.YtdolpeljengpaaaGreatPk4
import Derived.WalkSmall

/- The walk of parcel's longest side. -/
namespace Go.Proofs.YtdolpeljengpaaaGreat
open Go.RowKit
set_option linter.unusedVariables false
set_option linter.unusedSimpArgs false

theorem bits_has : ∀ n ∈ List.range 16, ∀ s ∈ ([1, 2, 4, 8] : List Int), (bits .and .u8 (n : Int) s != 0) = hasS (n : Int) s := by decide
theorem bits_less : ∀ n ∈ List.range 16, ∀ s ∈ ([1, 2, 4, 8] : List Int), bits .andNot .u8 (n : Int) s = lessS (n : Int) s := by decide
theorem bit_has {f s : Int} (h : 0 ≤ f ∧ f ≤ 15) (hs : isSide s) : (bits .and .u8 f s != 0) = hasS f s := by
  obtain ⟨n, hn, rfl⟩ := f16 h
  exact bits_has n hn s (side_mem hs)
theorem bit_less {f s : Int} (h : 0 ≤ f ∧ f ≤ 15) (hs : isSide s) : bits .andNot .u8 f s = lessS f s := by
  obtain ⟨n, hn, rfl⟩ := f16 h
  exact bits_less n hn s (side_mem hs)
theorem grown_store {w wr w6 : World} {bo : Nat} (h : w.grownBy wr (some bo)) (hb : Below wr.heap.size wr w6) (v : Value) : w.grownBy (w6.setCell ⟨bo, 0, none⟩ v) (some bo) :=
  ⟨hb.os.trans h.os, hb.tape.trans h.tape, hb.output.trans h.output, by have := h.size; have := hb.size; simp [World.setCell]; omega, fun k hk hne => (Below.heap_setCell _ _ _ _ (fun e => hne (by rw [e]))).trans ((hb.block k (by have := h.size; omega)).trans (h.block k hk hne))⟩
/-- What stands in the closure's variable after so many sides. -/
def accS (h1 h2 : Bool) (n0 n : Int) : Nat → Int
  | 0 => n0
  | 1 => if h1 = true then max n0 n else n0
  | _ => if h2 = true then max (if h1 = true then max n0 n else n0) n else (if h1 = true then max n0 n else n0)
set_option maxRecDepth 100000 in
set_option maxHeartbeats 8000000 in
theorem side_any {w : World} {F bs bl bo : Nat} {s1 s2 n n0 f : Int} {c : Nat} {x0 y0 x1 y1 : Int} (h1 h2 : Bool) (hF : F = 165 ∨ F = 166)
    (hcall : ∀ W : World, Calls Tryz.prog F #[.agg #[.int .i64 x0, .int .i64 y0, .int .i64 x1, .int .i64 y1, .int .u8 f]] W fun e w' => e = .returned (.int .i64 n) ∧ Below W.heap.size W w')
    (b0 : w.cell? ⟨bl, 0, none⟩ = some (.int .i64 x0)) (b1 : w.cell? ⟨bl, 1, none⟩ = some (.int .i64 y0)) (b2 : w.cell? ⟨bl, 2, none⟩ = some (.int .i64 x1)) (b3 : w.cell? ⟨bl, 3, none⟩ = some (.int .i64 y1)) (b4 : w.cell? ⟨bl, 4, none⟩ = some (.int .u8 f))
    (c1 : w.cell? ⟨bs, 0, none⟩ = some (.int .u8 s1)) (c2 : w.cell? ⟨bs, 1, none⟩ = some (.int .u8 s2)) (o0 : w.cell? ⟨bo, 0, none⟩ = some (.int .i64 n0)) (o1 : w.frozen? ⟨bo, 0, none⟩ = false) (hbl : bl ≠ bo) (hbs : bs ≠ bo)
    (t1 : (bits .and .u8 f s1 != 0) = h1) (t2 : (bits .and .u8 f s2 != 0) = h2) :
    Calls Tryz.prog 226 #[.func (.func F) #[] #[], .slice (some ⟨bs, 0, none⟩) 2 c, .pointer (some ⟨bl, 0, none⟩), .pointer (some ⟨bo, 0, none⟩)] w fun e w' => e = .returned (.tuple #[]) ∧ w.grownBy w' (some bo) ∧ w'.cell? ⟨bo, 0, none⟩ = some (.int .i64 (accS h1 h2 n0 n 2)) ∧ w'.frozen? ⟨bo, 0, none⟩ = false := by
  have hlo := lt_of_cell o0
  have HC := hide hcall
  have HLO := hide hlo
  have HN1 := hide hbl
  have HN2 := hide hbs
  have B0 := hide b0
  have B1 := hide b1
  have B2 := hide b2
  have B3 := hide b3
  have B4 := hide b4
  have C1 := hide c1
  have C2 := hide c2
  have O0 := hide o0
  have O1 := hide o1
  have T1 := hide t1
  have T2 := hide t2
  clear hcall hlo hbl hbs b0 b1 b2 b3 b4 c1 c2 o0 o1 t1 t2
  rcases hF with rfl | rfl
  all_goals
    go_enter Tryz.func226, Tryz.ntmps226
    go_wp2
    go_loopw [10] (fun i wr => ∃ m : Nat, m ≤ 2 ∧ i = .int .i64 m ∧ Hid (w.grownBy wr (some bo)) ∧ Hid (wr.cell? ⟨bo, 0, none⟩ = some (.int .i64 (accS h1 h2 n0 n m))) ∧ Hid (wr.frozen? ⟨bo, 0, none⟩ = false)) (fun i _ => 2 - (intOf i).toNat)
    case atStart => exact ⟨0, by omega, rfl, hide ⟨rfl, rfl, rfl, Nat.le_refl _, fun _ _ _ => rfl⟩, O0, O1⟩
    case round =>
      obtain ⟨m, hm, rfl, HB, HO, HZ⟩ := hrel
      have k0 := HB.out.cell B0.out (fun e => HN1.out (by injection e))
      have k1 := HB.out.cell B1.out (fun e => HN1.out (by injection e))
      have k2 := HB.out.cell B2.out (fun e => HN1.out (by injection e))
      have k3 := HB.out.cell B3.out (fun e => HN1.out (by injection e))
      have k4 := HB.out.cell B4.out (fun e => HN1.out (by injection e))
      have j1 := HB.out.cell C1.out (fun e => HN2.out (by injection e))
      have j2 := HB.out.cell C2.out (fun e => HN2.out (by injection e))
      have hbow : bo < wr.heap.size := by have := HB.out.size; have := HLO.out; omega
      have hblw := lt_of_cell k0
      have hm3 : m = 0 ∨ m = 1 ∨ m = 2 := by omega
      rcases hm3 with rfl | rfl | rfl
      · have hacc : accS h1 h2 n0 n 1 = if h1 = true then max (accS h1 h2 n0 n 0) n else accS h1 h2 n0 n 0 := rfl
        have HACC := hide hacc
        clear hacc
        generalize accS h1 h2 n0 n 0 = q at *
        have u1 := T1.out
        have zz : ((0 : Nat) : Int) = 0 := rfl
        have o0 := HO.out
        have o1 := HZ.out
        clear j2
        cases h1 with
        | false =>
          have HO2 := hide (show wr.cell? ⟨bo, 0, none⟩ = some (.int .i64 (accS false h2 n0 n 1)) by rw [HACC.out]; exact HO.out)
          go_wp2
          go_roundw
          case rel => exact ⟨1, by omega, by go_num, HB, HO2, HZ⟩
          case measure => simp [intOf]
        | true =>
          go_wp2
          refine wp_region_mix [0, 1, 2] [3, 4, 5] (fun w' => (w'.cell? ⟨bo, 0, none⟩ = some (.int .i64 q) ∧ w'.frozen? ⟨bo, 0, none⟩ = false) ∧ (w'.cell? ⟨bl, 0, none⟩ = some (.int .i64 x0) ∧ w'.cell? ⟨bl, 1, none⟩ = some (.int .i64 y0) ∧ w'.cell? ⟨bl, 2, none⟩ = some (.int .i64 x1) ∧ w'.cell? ⟨bl, 3, none⟩ = some (.int .i64 y1) ∧ w'.cell? ⟨bl, 4, none⟩ = some (.int .u8 f))) (by kernel_rfl) (by kernel_rfl) ⟨⟨o0, o1⟩, k0, k1, k2, k3, k4⟩ ?_
          simp only [List.map_cons, List.map_nil, opAt, List.getElem?_cons_succ, List.getElem?_cons_zero, Option.getD_some]
          iterate 3
            refine ⟨?_, Or.inl ⟨by rfl, ?_⟩, ?_⟩
            rotate_left 1
            · intro w' hSw
              obtain ⟨⟨z0, z1⟩, z2, z3, z4, z5, z6⟩ := hSw
              go_simp
              first | done | with_reducible rfl
            simp only [Act.put, List.setIfInBounds_toArray, List.set_cons_zero, List.set_cons_succ]
          simp only [wpReads]
          intro K hK
          simp only [Act.put, List.setIfInBounds_toArray, List.set_cons_zero, List.set_cons_succ] at hK ⊢
          go_simp
          refine (HC.out _).mono ?_
          rintro e w6 ⟨rfl, hb'⟩
          have hb : Below wr.heap.size wr w6 := (Below.refl _ _).drew.trans hb'
          have p0 := (hb.cell (p := ⟨bl, 0, none⟩) hblw).trans k0
          have p1 := (hb.cell (p := ⟨bl, 1, none⟩) hblw).trans k1
          have p2 := (hb.cell (p := ⟨bl, 2, none⟩) hblw).trans k2
          have p3 := (hb.cell (p := ⟨bl, 3, none⟩) hblw).trans k3
          have p4 := (hb.cell (p := ⟨bl, 4, none⟩) hblw).trans k4
          have q0 := (hb.cell (p := ⟨bo, 0, none⟩) hbow).trans o0
          have q1 := (hb.frozen (p := ⟨bo, 0, none⟩) hbow).trans o1
          have HB6 := hide hb
          have hs6 := hb.size
          clear hb hb' k0 k1 k2 k3 k4 o0 o1
          refine hK _ _ (fun _ => ⟨⟨q0, q1⟩, p0, p1, p2, p3, p4⟩) ?_
          clear hK K
          intro K hK
          simp only [Act.put, List.setIfInBounds_toArray, List.set_cons_zero, List.set_cons_succ] at hK ⊢
          go_simp
          refine hK _ _ (fun _ => ⟨⟨q0, q1⟩, p0, p1, p2, p3, p4⟩) ?_
          clear hK K
          intro K hK
          simp only [Act.put, List.setIfInBounds_toArray, List.set_cons_zero, List.set_cons_succ] at hK ⊢
          go_simp
          refine hK _ _ (fun h => absurd rfl h) ?_
          clear hK K
          refine NoPanic.normal ?_
          have HB7 := hide (grown_store HB.out HB6.out (.int .i64 (max q n)))
          have HO7 := hide (show (w6.setCell ⟨bo, 0, none⟩ (.int .i64 (max q n))).cell? ⟨bo, 0, none⟩ = some (.int .i64 (accS true h2 n0 n 1)) by rw [HACC.out]; simp [go_sem, q0])
          have HZ7 := hide (show (w6.setCell ⟨bo, 0, none⟩ (.int .i64 (max q n))).frozen? ⟨bo, 0, none⟩ = false by rw [World.frozen?_setCell]; exact q1)
          clear p0 p1 p2 p3 p4 q0 q1
          go_wp2
          go_roundw
          case rel => exact ⟨1, by omega, by go_num, HB7, HO7, HZ7⟩
          case measure => simp [intOf]
      · have hacc : accS h1 h2 n0 n 2 = if h2 = true then max (accS h1 h2 n0 n 1) n else accS h1 h2 n0 n 1 := rfl
        have HACC := hide hacc
        clear hacc
        generalize accS h1 h2 n0 n 1 = q at *
        have u1 := T2.out
        have zz : ((1 : Nat) : Int) = 1 := rfl
        have o0 := HO.out
        have o1 := HZ.out
        clear j1
        cases h2 with
        | false =>
          have HO2 := hide (show wr.cell? ⟨bo, 0, none⟩ = some (.int .i64 (accS h1 false n0 n 2)) by rw [HACC.out]; exact HO.out)
          go_wp2
          go_roundw
          case rel => exact ⟨2, by omega, by go_num, HB, HO2, HZ⟩
          case measure => simp [intOf]
        | true =>
          go_wp2
          refine wp_region_mix [0, 1, 2] [3, 4, 5] (fun w' => (w'.cell? ⟨bo, 0, none⟩ = some (.int .i64 q) ∧ w'.frozen? ⟨bo, 0, none⟩ = false) ∧ (w'.cell? ⟨bl, 0, none⟩ = some (.int .i64 x0) ∧ w'.cell? ⟨bl, 1, none⟩ = some (.int .i64 y0) ∧ w'.cell? ⟨bl, 2, none⟩ = some (.int .i64 x1) ∧ w'.cell? ⟨bl, 3, none⟩ = some (.int .i64 y1) ∧ w'.cell? ⟨bl, 4, none⟩ = some (.int .u8 f))) (by kernel_rfl) (by kernel_rfl) ⟨⟨o0, o1⟩, k0, k1, k2, k3, k4⟩ ?_
          simp only [List.map_cons, List.map_nil, opAt, List.getElem?_cons_succ, List.getElem?_cons_zero, Option.getD_some]
          iterate 3
            refine ⟨?_, Or.inl ⟨by rfl, ?_⟩, ?_⟩
            rotate_left 1
            · intro w' hSw
              obtain ⟨⟨z0, z1⟩, z2, z3, z4, z5, z6⟩ := hSw
              go_simp
              first | done | with_reducible rfl
            simp only [Act.put, List.setIfInBounds_toArray, List.set_cons_zero, List.set_cons_succ]
          simp only [wpReads]
          intro K hK
          simp only [Act.put, List.setIfInBounds_toArray, List.set_cons_zero, List.set_cons_succ] at hK ⊢
          go_simp
          refine (HC.out _).mono ?_
          rintro e w6 ⟨rfl, hb'⟩
          have hb : Below wr.heap.size wr w6 := (Below.refl _ _).drew.trans hb'
          have p0 := (hb.cell (p := ⟨bl, 0, none⟩) hblw).trans k0
          have p1 := (hb.cell (p := ⟨bl, 1, none⟩) hblw).trans k1
          have p2 := (hb.cell (p := ⟨bl, 2, none⟩) hblw).trans k2
          have p3 := (hb.cell (p := ⟨bl, 3, none⟩) hblw).trans k3
          have p4 := (hb.cell (p := ⟨bl, 4, none⟩) hblw).trans k4
          have q0 := (hb.cell (p := ⟨bo, 0, none⟩) hbow).trans o0
          have q1 := (hb.frozen (p := ⟨bo, 0, none⟩) hbow).trans o1
          have HB6 := hide hb
          have hs6 := hb.size
          clear hb hb' k0 k1 k2 k3 k4 o0 o1
          refine hK _ _ (fun _ => ⟨⟨q0, q1⟩, p0, p1, p2, p3, p4⟩) ?_
          clear hK K
          intro K hK
          simp only [Act.put, List.setIfInBounds_toArray, List.set_cons_zero, List.set_cons_succ] at hK ⊢
          go_simp
          refine hK _ _ (fun _ => ⟨⟨q0, q1⟩, p0, p1, p2, p3, p4⟩) ?_
          clear hK K
          intro K hK
          simp only [Act.put, List.setIfInBounds_toArray, List.set_cons_zero, List.set_cons_succ] at hK ⊢
          go_simp
          refine hK _ _ (fun h => absurd rfl h) ?_
          clear hK K
          refine NoPanic.normal ?_
          have HB7 := hide (grown_store HB.out HB6.out (.int .i64 (max q n)))
          have HO7 := hide (show (w6.setCell ⟨bo, 0, none⟩ (.int .i64 (max q n))).cell? ⟨bo, 0, none⟩ = some (.int .i64 (accS h1 true n0 n 2)) by rw [HACC.out]; simp [go_sem, q0])
          have HZ7 := hide (show (w6.setCell ⟨bo, 0, none⟩ (.int .i64 (max q n))).frozen? ⟨bo, 0, none⟩ = false by rw [World.frozen?_setCell]; exact q1)
          clear p0 p1 p2 p3 p4 q0 q1
          go_wp2
          go_roundw
          case rel => exact ⟨2, by omega, by go_num, HB7, HO7, HZ7⟩
          case measure => simp [intOf]
      · have zz : ((2 : Nat) : Int) = 2 := rfl
        go_wp2
        go_end0
        exact ⟨rfl, HB.out, HO.out, HZ.out⟩
theorem acc_side (h1 h2 : Bool) (n0 n : Int) (h0 : 0 ≤ n0) (hn : 0 ≤ n) : accS h1 h2 n0 n 2 = max n0 (if h1 = true ∨ h2 = true then n else 0) := by
  unfold accS
  cases h1 <;> cases h2 <;> simp <;> omega
theorem acc_long {l : Lot5} (h : validL l) : accS (hasS l.f 4) (hasS l.f 8) (accS (hasS l.f 1) (hasS l.f 2) 0 l.h 2) l.w 2 = longL l := by
  have hp := valid_pos h
  have e1 := acc_side (hasS l.f 1) (hasS l.f 2) 0 l.h (by omega) (by omega)
  have h0 : 0 ≤ (if hasS l.f 1 = true ∨ hasS l.f 2 = true then l.h else 0) := by split <;> omega
  rw [acc_side (hasS l.f 4) (hasS l.f 8) _ l.w (by rw [e1]; omega) (by omega), e1]
  unfold longL
  omega
set_option maxRecDepth 100000 in
set_option maxHeartbeats 4000000 in
theorem longest_any (l : Lot5) (h : validL l) (w : World) : Calls Tryz.prog 205 #[.agg (encL l).toArray] w fun e w' => e = .returned (.int .i64 (longL l)) ∧ Below w.heap.size w w' := by
  have HHE := hide (fun W => height_any l h.1 W)
  have HWI := hide (fun W => width_any l h.1 W)
  have hf : 0 ≤ l.f ∧ l.f ≤ 15 := by have := h.2; omega
  have T1 := hide (bit_has hf (s := 1) (.inl rfl))
  have T2 := hide (bit_has hf (s := 2) (.inr (.inl rfl)))
  have T4 := hide (bit_has hf (s := 4) (.inr (.inr (.inl rfl))))
  have T8 := hide (bit_has hf (s := 8) (.inr (.inr (.inr rfl))))
  have HL := hide (acc_long h)
  clear h hf
  generalize longL l = L at *
  generalize l.h = hh at *
  generalize l.w = ww at *
  obtain ⟨⟨x0, y0, x1, y1⟩, f⟩ := l
  show Calls Tryz.prog _ #[.agg #[.int .i64 x0, .int .i64 y0, .int .i64 x1, .int .i64 y1, .int .u8 f]] w _
  go_enter Tryz.func205, Tryz.ntmps205
  go_wp2_with (fail)
  obtain ⟨W, hW⟩ : ∃ x, x = ((w.alloc (.cells #[.int .i64 x0, .int .i64 y0, .int .i64 x1, .int .i64 y1, .int .u8 f] 176)).alloc (.cells #[.int .i64 0] 3)).alloc (.cells #[.int .u8 1, .int .u8 2] 5) := ⟨_, rfl⟩
  rw [← hW]
  have hb0 : Below w.heap.size w W := by rw [hW]; exact (((Below.refl _ _).alloc (Nat.le_refl _) _).alloc (by simp) _).alloc (by simp; omega) _
  have hs0 : w.heap.size + 1 + 1 < W.heap.size := by rw [hW]; simp
  have b0 : W.cell? ⟨w.heap.size, 0, none⟩ = some (.int .i64 x0) := by rw [hW]; simp [go_sem]
  have b1 : W.cell? ⟨w.heap.size, 1, none⟩ = some (.int .i64 y0) := by rw [hW]; simp [go_sem]
  have b2 : W.cell? ⟨w.heap.size, 2, none⟩ = some (.int .i64 x1) := by rw [hW]; simp [go_sem]
  have b3 : W.cell? ⟨w.heap.size, 3, none⟩ = some (.int .i64 y1) := by rw [hW]; simp [go_sem]
  have b4 : W.cell? ⟨w.heap.size, 4, none⟩ = some (.int .u8 f) := by rw [hW]; simp [go_sem]
  have o0 : W.cell? ⟨w.heap.size + 1, 0, none⟩ = some (.int .i64 0) := by rw [hW]; simp [go_sem]
  have o1 : W.frozen? ⟨w.heap.size + 1, 0, none⟩ = false := by rw [hW]; simp [go_sem]
  have c1 : W.cell? ⟨w.heap.size + 1 + 1, 0, none⟩ = some (.int .u8 1) := by rw [hW]; simp [go_sem]
  have c2 : W.cell? ⟨w.heap.size + 1 + 1, 1, none⟩ = some (.int .u8 2) := by rw [hW]; simp [go_sem]
  have hcall := side_any (w := W) (F := 166) (bs := w.heap.size + 1 + 1) (bl := w.heap.size) (bo := w.heap.size + 1) (c := 2) _ _ (.inr rfl) HHE.out b0 b1 b2 b3 b4 c1 c2 o0 o1 (by omega) (by omega) T1.out T2.out
  have HCA := hide hcall
  have B0 := hide b0
  have B1 := hide b1
  have B2 := hide b2
  have B3 := hide b3
  have B4 := hide b4
  have K0 := hide hb0
  have HS := hide hs0
  clear hW hcall b0 b1 b2 b3 b4 c1 c2 o0 o1 hb0 hs0
  refine HCA.out.mono ?_
  rintro e w2 ⟨rfl, hg, ho, hz⟩
  have HG := hide hg
  have HO := hide ho
  have HZ := hide hz
  clear hg ho hz
  go_wp2_with (fail)
  obtain ⟨W2, hW2⟩ : ∃ x, x = w2.alloc (.cells #[.int .u8 4, .int .u8 8] 5) := ⟨_, rfl⟩
  rw [← hW2]
  have hs2 := HG.out.size
  have hs1 := HS.out
  have hk : ∀ p : Addr, p.block < w2.heap.size → W2.cell? p = w2.cell? p := fun p hp => by rw [hW2]; exact World.cell?_alloc_lt w2 _ p hp
  have ne0 : some w.heap.size ≠ some (w.heap.size + 1) := fun e => by injection e with e; omega
  have b0 := (hk ⟨w.heap.size, 0, none⟩ (by show w.heap.size < _; omega)).trans (HG.out.cell B0.out ne0)
  have b1 := (hk ⟨w.heap.size, 1, none⟩ (by show w.heap.size < _; omega)).trans (HG.out.cell B1.out ne0)
  have b2 := (hk ⟨w.heap.size, 2, none⟩ (by show w.heap.size < _; omega)).trans (HG.out.cell B2.out ne0)
  have b3 := (hk ⟨w.heap.size, 3, none⟩ (by show w.heap.size < _; omega)).trans (HG.out.cell B3.out ne0)
  have b4 := (hk ⟨w.heap.size, 4, none⟩ (by show w.heap.size < _; omega)).trans (HG.out.cell B4.out ne0)
  have o0 := (hk ⟨w.heap.size + 1, 0, none⟩ (by show w.heap.size + 1 < _; omega)).trans HO.out
  have o1 : W2.frozen? ⟨w.heap.size + 1, 0, none⟩ = false := by rw [hW2]; exact (((Below.refl w2.heap.size w2).alloc (Nat.le_refl _) _).frozen (p := ⟨w.heap.size + 1, 0, none⟩) (by show w.heap.size + 1 < _; omega)).trans HZ.out
  have c1 : W2.cell? ⟨w2.heap.size, 0, none⟩ = some (.int .u8 4) := by rw [hW2]; simp [go_sem]
  have c2 : W2.cell? ⟨w2.heap.size, 1, none⟩ = some (.int .u8 8) := by rw [hW2]; simp [go_sem]
  have hcall := side_any (w := W2) (F := 165) (bs := w2.heap.size) (bl := w.heap.size) (bo := w.heap.size + 1) (c := 2) _ _ (.inl rfl) HWI.out b0 b1 b2 b3 b4 c1 c2 o0 o1 (by omega) (by omega) T4.out T8.out
  have HCB := hide hcall
  have K2 : Hid (Below w.heap.size w W2) := hide (by
    rw [hW2]
    exact (K0.out.grown HG.out (by omega) (fun q hq => by injection hq with hq; omega)).alloc (by omega) _)
  have hsW : w2.heap.size < W2.heap.size := by rw [hW2]; simp
  have HSW := hide hsW
  clear hW2 hcall hk ne0 b0 b1 b2 b3 b4 c1 c2 o0 o1 hsW
  refine HCB.out.mono ?_
  rintro e w3 ⟨rfl, hg, ho, hz⟩
  rw [HL.out] at ho
  have K3 : Hid (Below w.heap.size w w3) := hide (K2.out.grown hg (by have := HSW.out; omega) (fun q hq => by injection hq with hq; omega))
  clear hg hz hs1 hs2
  go_wp2_with (fail)
  go_ret
  exact ⟨rfl, K3.out⟩
end Go.Proofs.YtdolpeljengpaaaGreat

/- The walks of parcel.good, Check, Good and Front. -/
namespace Go.Proofs.YtdolpeljengpaaaGreat
open Go.RowKit
set_option linter.unusedVariables false
set_option linter.unusedSimpArgs false

set_option maxRecDepth 100000 in
set_option maxHeartbeats 4000000 in
theorem good_any (l : Lot5) (p : Pl3) (hf : 0 ≤ l.f ∧ l.f ≤ 255) (w : World) : Calls Tryz.prog 167 #[.agg (encL l).toArray, .agg (encP p).toArray] w fun e w' => e = .returned (.bool (decide (goodL p l))) ∧ Below w.heap.size w w' := by
  have hpv := fun W => pvalid_any l hf W
  by_cases hv : validL l
  · rw [decide_eq_true hv] at hpv
    have HPV := hide hpv
    have HLO := hide (fun W => longest_any l hv W)
    have HHE := hide (fun W => height_any l hv.1 W)
    have HWI := hide (fun W => width_any l hv.1 W)
    have HG : Hid (∀ b : Bool, ((p.mf ≤ longL l ∧ p.ms ≤ min l.w l.h) ↔ b = true) → decide (goodL p l) = b) := hide (fun b hb => by
      have e : goodL p l ↔ b = true := by
        rw [← hb]
        unfold goodL
        constructor
        · rintro ⟨_, h1, h2, h3⟩; exact ⟨h1, by omega⟩
        · rintro ⟨h1, h2⟩; exact ⟨hv, h1, by omega, by omega⟩
      cases b with
      | true => exact decide_eq_true (e.2 rfl)
      | false => exact decide_eq_false (fun h => Bool.false_ne_true (e.1 h)))
    generalize longL l = L at *
    generalize l.h = hh at *
    generalize l.w = ww at *
    generalize decide (goodL p l) = G at *
    clear hpv hv hf
    obtain ⟨⟨x0, y0, x1, y1⟩, f⟩ := l
    obtain ⟨mf, ms, ma⟩ := p
    show Calls Tryz.prog _ #[.agg #[.int .i64 x0, .int .i64 y0, .int .i64 x1, .int .i64 y1, .int .u8 f], .agg #[.int .i64 mf, .int .i64 ms, .int .i64 ma]] w _
    simp only [encL] at HPV HLO HHE HWI
    simp only at HG
    by_cases h1 : mf ≤ L
    · have d1 : decide (mf ≤ L) = true := decide_eq_true h1
      by_cases h2 : ms ≤ min ww hh
      · have d2 : decide (ms ≤ min ww hh) = true := decide_eq_true h2
        have HGG := hide (HG.out true ⟨fun _ => rfl, fun _ => ⟨h1, h2⟩⟩)
        clear HG h1 h2
        go_enter Tryz.func167, Tryz.ntmps167
        go_wp2
        refine wp_hab fun hab => ?_
        refine wp_region_above (by kernel_rfl) (by kernel_rfl) ?_
        repeat (go_big_quiet_step (((first | (go_at_call 116; exact above_of (HPV.out _)) | (go_at_call 205; exact above_of (HLO.out _)) | (go_at_call 165; exact above_of (HWI.out _)) | (go_at_call 166; exact above_of (HHE.out _))))))
        refine wpQuiet_nil ?_
        refine above_ends fun w3 hb3 => ?_
        clear hab
        have HB := hide ((((Below.refl w.heap.size w).alloc (Nat.le_refl _) (.cells #[.int .i64 x0, .int .i64 y0, .int .i64 x1, .int .i64 y1, .int .u8 f] 176)).alloc (by simp) (.cells #[.int .i64 mf, .int .i64 ms, .int .i64 ma] 58)).trans (hb3.mono (by simp; omega)))
        clear hb3
        go_wp2_with (fail)
        go_ret
        exact ⟨ret_eq (bool_eq HGG.out.symm), HB.out⟩
      · have d2 : decide (ms ≤ min ww hh) = false := decide_eq_false h2
        have HGG := hide (HG.out false ⟨fun h => absurd h.2 h2, fun h => by cases h⟩)
        clear HG h1 h2
        go_enter Tryz.func167, Tryz.ntmps167
        go_wp2
        refine wp_hab fun hab => ?_
        refine wp_region_above (by kernel_rfl) (by kernel_rfl) ?_
        repeat (go_big_quiet_step (((first | (go_at_call 116; exact above_of (HPV.out _)) | (go_at_call 205; exact above_of (HLO.out _)) | (go_at_call 165; exact above_of (HWI.out _)) | (go_at_call 166; exact above_of (HHE.out _))))))
        refine wpQuiet_nil ?_
        refine above_ends fun w3 hb3 => ?_
        clear hab
        have HB := hide ((((Below.refl w.heap.size w).alloc (Nat.le_refl _) (.cells #[.int .i64 x0, .int .i64 y0, .int .i64 x1, .int .i64 y1, .int .u8 f] 176)).alloc (by simp) (.cells #[.int .i64 mf, .int .i64 ms, .int .i64 ma] 58)).trans (hb3.mono (by simp; omega)))
        clear hb3
        go_wp2_with (fail)
        go_ret
        exact ⟨ret_eq (bool_eq HGG.out.symm), HB.out⟩
    · have d1 : decide (mf ≤ L) = false := decide_eq_false h1
      have HGG := hide (HG.out false ⟨fun h => absurd h.1 h1, fun h => by cases h⟩)
      clear HG h1
      go_enter Tryz.func167, Tryz.ntmps167
      go_wp2
      refine wp_hab fun hab => ?_
      refine wp_region_above (by kernel_rfl) (by kernel_rfl) ?_
      repeat (go_big_quiet_step (((first | (go_at_call 116; exact above_of (HPV.out _)) | (go_at_call 205; exact above_of (HLO.out _)) | (go_at_call 165; exact above_of (HWI.out _)) | (go_at_call 166; exact above_of (HHE.out _))))))
      refine wpQuiet_nil ?_
      refine above_ends fun w3 hb3 => ?_
      clear hab
      have HB := hide ((((Below.refl w.heap.size w).alloc (Nat.le_refl _) (.cells #[.int .i64 x0, .int .i64 y0, .int .i64 x1, .int .i64 y1, .int .u8 f] 176)).alloc (by simp) (.cells #[.int .i64 mf, .int .i64 ms, .int .i64 ma] 58)).trans (hb3.mono (by simp; omega)))
      clear hb3
      go_wp2_with (fail)
      go_ret
      exact ⟨ret_eq (bool_eq HGG.out.symm), HB.out⟩
  · rw [decide_eq_false hv] at hpv
    have HPV := hide hpv
    have HGG := hide (decide_eq_false (fun h => hv h.1) : decide (goodL p l) = false)
    generalize decide (goodL p l) = G at *
    clear hpv hv hf
    obtain ⟨⟨x0, y0, x1, y1⟩, f⟩ := l
    obtain ⟨mf, ms, ma⟩ := p
    show Calls Tryz.prog _ #[.agg #[.int .i64 x0, .int .i64 y0, .int .i64 x1, .int .i64 y1, .int .u8 f], .agg #[.int .i64 mf, .int .i64 ms, .int .i64 ma]] w _
    simp only [encL] at HPV
    go_enter Tryz.func167, Tryz.ntmps167
    go_wp2
    refine wp_hab fun hab => ?_
    refine wp_region_above (by kernel_rfl) (by kernel_rfl) ?_
    repeat (go_big_quiet_step (((go_at_call 116; exact above_of (HPV.out _)))))
    refine wpQuiet_nil ?_
    refine above_ends fun w3 hb3 => ?_
    clear hab
    have HB := hide ((((Below.refl w.heap.size w).alloc (Nat.le_refl _) (.cells #[.int .i64 x0, .int .i64 y0, .int .i64 x1, .int .i64 y1, .int .u8 f] 176)).alloc (by simp) (.cells #[.int .i64 mf, .int .i64 ms, .int .i64 ma] 58)).trans (hb3.mono (by simp; omega)))
    clear hb3
    go_wp2_with (fail)
    go_ret
    exact ⟨ret_eq (bool_eq HGG.out.symm), HB.out⟩

def okP (p : Pl3) : Prop := 1 ≤ p.mf ∧ p.mf ≤ 1000000 ∧ 1 ≤ p.ms ∧ p.ms ≤ 1000000 ∧ 1 ≤ p.ma ∧ p.ma ≤ 1000000000000
instance (p : Pl3) : Decidable (okP p) := by unfold okP; infer_instance
def checkL (l : Lot5) (p : Pl3) : Int := if validL l then (if okP p then 0 else 2) else 8
set_option maxRecDepth 100000 in
set_option maxHeartbeats 4000000 in
theorem checkL_any (l : Lot5) (p : Pl3) (hf : 0 ≤ l.f ∧ l.f ≤ 255) (w : World) : Calls Tryz.prog 69 #[.agg (encL l).toArray, .agg (encP p).toArray] w fun e w' => e = .returned (.int .i64 (checkL l p)) ∧ Below w.heap.size w w' := by
  have hpv := fun W => pvalid_any l hf W
  by_cases hv : validL l
  · rw [decide_eq_true hv] at hpv
    have HPV := hide hpv
    have HC : Hid (∀ b : Int, ((okP p → b = 0) ∧ (¬ okP p → b = 2)) → checkL l p = b) := hide (fun b hb => by
      unfold checkL
      rw [if_pos hv]
      by_cases h : okP p
      · rw [if_pos h, hb.1 h]
      · rw [if_neg h, hb.2 h])
    generalize checkL l p = C at *
    clear hpv hv hf
    obtain ⟨⟨x0, y0, x1, y1⟩, f⟩ := l
    obtain ⟨mf, ms, ma⟩ := p
    show Calls Tryz.prog _ #[.agg #[.int .i64 x0, .int .i64 y0, .int .i64 x1, .int .i64 y1, .int .u8 f], .agg #[.int .i64 mf, .int .i64 ms, .int .i64 ma]] w _
    simp only [encL] at HPV
    simp only [okP] at HC
    go_enter Tryz.func69, Tryz.ntmps69
    go_wp2_with (fail)
    obtain ⟨W, hW⟩ : ∃ x, x = (w.alloc (.cells #[.int .i64 x0, .int .i64 y0, .int .i64 x1, .int .i64 y1, .int .u8 f] 71)).alloc (.cells #[.int .i64 mf, .int .i64 ms, .int .i64 ma] 58) := ⟨_, rfl⟩
    rw [← hW]
    have hb0 : Below w.heap.size w W := by rw [hW]; exact ((Below.refl _ _).alloc (Nat.le_refl _) _).alloc (by simp) _
    have hs0 : w.heap.size + 1 < W.heap.size := by rw [hW]; simp
    have b0 : W.cell? ⟨w.heap.size + 1, 0, none⟩ = some (.int .i64 mf) := by rw [hW]; simp [go_sem]
    have b1 : W.cell? ⟨w.heap.size + 1, 1, none⟩ = some (.int .i64 ms) := by rw [hW]; simp [go_sem]
    have b2 : W.cell? ⟨w.heap.size + 1, 2, none⟩ = some (.int .i64 ma) := by rw [hW]; simp [go_sem]
    have HS := hide hs0
    have B0 := hide b0
    have B1 := hide b1
    have B2 := hide b2
    have K0 := hide hb0
    clear hW hb0 hs0 b0 b1 b2
    refine (HPV.out _).mono ?_
    rintro e w1 ⟨rfl, hb⟩
    have d0 := (hb.cell (p := ⟨w.heap.size + 1, 0, none⟩) HS.out).trans B0.out
    have d1 := (hb.cell (p := ⟨w.heap.size + 1, 1, none⟩) HS.out).trans B1.out
    have d2 := (hb.cell (p := ⟨w.heap.size + 1, 2, none⟩) HS.out).trans B2.out
    have K1 := hide (K0.out.trans (hb.mono K0.out.size))
    clear hb
    go_wp2_with (fail)
    all_goals
      go_ret
      refine ⟨ret_eq (int_eq (HC.out _ ?_).symm), K1.out⟩
      first
        | exact ⟨fun _ => rfl, fun h => absurd (by omega) h⟩
        | exact ⟨fun h => absurd h (by omega), fun _ => rfl⟩
  · rw [decide_eq_false hv] at hpv
    have HPV := hide hpv
    have hc8 : checkL l p = 8 := if_neg hv
    have HC := hide hc8
    clear hc8
    generalize checkL l p = C at *
    clear hpv hv hf
    obtain ⟨⟨x0, y0, x1, y1⟩, f⟩ := l
    obtain ⟨mf, ms, ma⟩ := p
    show Calls Tryz.prog _ #[.agg #[.int .i64 x0, .int .i64 y0, .int .i64 x1, .int .i64 y1, .int .u8 f], .agg #[.int .i64 mf, .int .i64 ms, .int .i64 ma]] w _
    simp only [encL] at HPV
    go_enter Tryz.func69, Tryz.ntmps69
    go_wp2_with (fail)
    refine (HPV.out _).mono ?_
    rintro e w1 ⟨rfl, hb⟩
    have K1 := hide ((((Below.refl w.heap.size w).alloc (Nat.le_refl _) (.cells #[.int .i64 x0, .int .i64 y0, .int .i64 x1, .int .i64 y1, .int .u8 f] 71)).alloc (by simp) (.cells #[.int .i64 mf, .int .i64 ms, .int .i64 ma] 58)).trans (hb.mono (by simp; omega)))
    clear hb
    go_wp2_with (fail)
    go_ret
    exact ⟨ret_eq (int_eq HC.out.symm), K1.out⟩
end Go.Proofs.YtdolpeljengpaaaGreat

/- The walks of parcel.Good and Front. -/
namespace Go.Proofs.YtdolpeljengpaaaGreat
open Go.RowKit
set_option linter.unusedVariables false
set_option linter.unusedSimpArgs false

def goodR (l : Lot5) (p : Pl3) : Bool × Int := if checkL l p = 0 then (decide (goodL p l), 0) else (false, checkL l p)
def frontR (l : Lot5) : Int × Int := if validL l then (longL l, 0) else (0, 8)
end Go.Proofs.YtdolpeljengpaaaGreat

/- The walk of the closure of parcel.cut. -/
namespace Go.Proofs.YtdolpeljengpaaaGreat
open Go.RowKit
set_option linter.unusedVariables false
set_option linter.unusedSimpArgs false

theorem exit_name {Q : Exit → Act → World → Prop} {e : Exit} {a : Act} {W : World} (h : ∀ w, w = W → Q e a w) : Q e a W := h W rfl
theorem calls_name {P : Program} {F : Nat} {A : Array Value} {W : World} {Q : Ending → World → Prop} (h : ∀ w, w = W → Calls P F A w Q) : Calls P F A W Q := h W rfl
theorem upd_drew {o : Nat} {row : Option Nat} {a b : World} (h : Upd o row a b) : Upd o row a b.drew := ⟨h.os, h.tape, h.output, h.size, h.block⟩
/-- A box of five cells, and none of them frozen. -/
structure Box5 (w : World) (b : Nat) (v0 v1 v2 v3 v4 : Value) : Prop where
  c0 : w.cell? ⟨b, 0, none⟩ = some v0
  c1 : w.cell? ⟨b, 1, none⟩ = some v1
  c2 : w.cell? ⟨b, 2, none⟩ = some v2
  c3 : w.cell? ⟨b, 3, none⟩ = some v3
  c4 : w.cell? ⟨b, 4, none⟩ = some v4
  z0 : w.frozen? ⟨b, 0, none⟩ = false
  z1 : w.frozen? ⟨b, 1, none⟩ = false
  z2 : w.frozen? ⟨b, 2, none⟩ = false
  z3 : w.frozen? ⟨b, 3, none⟩ = false
  z4 : w.frozen? ⟨b, 4, none⟩ = false
theorem Box5.below {w w' : World} {b : Nat} {v0 v1 v2 v3 v4 : Value} (h : Box5 w b v0 v1 v2 v3 v4) (hb : Below w.heap.size w w') : Box5 w' b v0 v1 v2 v3 v4 := by
  have hs := lt_of_cell h.c0
  exact ⟨(hb.cell (p := ⟨b, 0, none⟩) hs).trans h.c0, (hb.cell (p := ⟨b, 1, none⟩) hs).trans h.c1, (hb.cell (p := ⟨b, 2, none⟩) hs).trans h.c2, (hb.cell (p := ⟨b, 3, none⟩) hs).trans h.c3, (hb.cell (p := ⟨b, 4, none⟩) hs).trans h.c4, (hb.frozen (p := ⟨b, 0, none⟩) hs).trans h.z0, (hb.frozen (p := ⟨b, 1, none⟩) hs).trans h.z1, (hb.frozen (p := ⟨b, 2, none⟩) hs).trans h.z2, (hb.frozen (p := ⟨b, 3, none⟩) hs).trans h.z3, (hb.frozen (p := ⟨b, 4, none⟩) hs).trans h.z4⟩
set_option maxRecDepth 100000 in
set_option maxHeartbeats 4000000 in
theorem try_true {w : World} {bl ba bb bw bh bp : Nat} {x0 y0 x1 y1 f mf ms ma wd hg m fa fb : Int} {g1 g2 : Bool} {A0 A1 A2 A3 A4 B0 B1 B2 B3 B4 : Value}
    (l0 : w.cell? ⟨bl, 0, none⟩ = some (.int .i64 x0)) (l1 : w.cell? ⟨bl, 1, none⟩ = some (.int .i64 y0)) (l2 : w.cell? ⟨bl, 2, none⟩ = some (.int .i64 x1)) (l3 : w.cell? ⟨bl, 3, none⟩ = some (.int .i64 y1)) (l4 : w.cell? ⟨bl, 4, none⟩ = some (.int .u8 f))
    (p0 : w.cell? ⟨bp, 0, none⟩ = some (.int .i64 mf)) (p1 : w.cell? ⟨bp, 1, none⟩ = some (.int .i64 ms)) (p2 : w.cell? ⟨bp, 2, none⟩ = some (.int .i64 ma))
    (w0 : w.cell? ⟨bw, 0, none⟩ = some (.int .i64 wd)) (h0 : w.cell? ⟨bh, 0, none⟩ = some (.int .i64 hg))
    (ha : Box5 w ba A0 A1 A2 A3 A4) (hb : Box5 w bb B0 B1 B2 B3 B4)
    (d1 : bl ≠ ba) (d2 : bl ≠ bb) (d3 : ba ≠ bb) (d4 : bw ≠ ba) (d5 : bw ≠ bb) (d6 : bh ≠ ba) (d7 : bh ≠ bb) (d8 : bp ≠ ba) (d9 : bp ≠ bb)
    (hm : wrap64 (x0 + wrap64 (wd.tdiv 2)) = m) (hfa : bits .andNot .u8 f 2 = fa) (hfb : bits .andNot .u8 f 1 = fb)
    (hg1 : ∀ W : World, Calls Tryz.prog 167 #[.agg #[.int .i64 x0, .int .i64 y0, .int .i64 m, .int .i64 y1, .int .u8 fa], .agg #[.int .i64 mf, .int .i64 ms, .int .i64 ma]] W fun e w' => e = .returned (.bool g1) ∧ Below W.heap.size W w')
    (hg2 : ∀ W : World, Calls Tryz.prog 167 #[.agg #[.int .i64 m, .int .i64 y0, .int .i64 x1, .int .i64 y1, .int .u8 fb], .agg #[.int .i64 mf, .int .i64 ms, .int .i64 ma]] W fun e w' => e = .returned (.bool g2) ∧ Below W.heap.size W w') :
    Calls Tryz.prog 168 #[.bool true, .pointer (some ⟨bl, 0, none⟩), .pointer (some ⟨ba, 0, none⟩), .pointer (some ⟨bb, 0, none⟩), .pointer (some ⟨bw, 0, none⟩), .pointer (some ⟨bh, 0, none⟩), .pointer (some ⟨bp, 0, none⟩)] w fun e w' => e = .returned (.bool (g1 && g2)) ∧ Upd ba (some bb) w w' ∧ Box5 w' ba (.int .i64 x0) (.int .i64 y0) (.int .i64 m) (.int .i64 y1) (.int .u8 fa) ∧ Box5 w' bb (.int .i64 m) (.int .i64 y0) (.int .i64 x1) (.int .i64 y1) (.int .u8 fb) := by
  obtain ⟨a0, a1, a2, a3, a4, af0, af1, af2, af3, af4⟩ := ha
  obtain ⟨b0, b1, b2, b3, b4, bf0, bf1, bf2, bf3, bf4⟩ := hb
  have HG1 := hide hg1
  have HG2 := hide hg2
  have HM := hide hm
  have HFA := hide hfa
  have HFB := hide hfb
  clear hg1 hg2 hm hfa hfb
  go_enter Tryz.func168, Tryz.ntmps168
  go_wp2
  go_region
  refine exit_name fun W hW => ?_
  have U1 : Upd ba (some bb) w W := by
    rw [hW]
    exact upd_drew (Upd.refl ba (some bb) w |>.setCell 0 _ |>.setCell 1 _ |>.setCell 2 _ |>.setCell 3 _ |>.setCell 4 _ |>.setRow 0 _ |>.setRow 1 _ |>.setRow 2 _ |>.setRow 3 _ |>.setRow 4 _)
  have A0 : W.cell? ⟨ba, 0, none⟩ = some (.int .i64 x0) := by rw [hW]; simp [go_sem, d1, d2, d3, d1.symm, d2.symm, d3.symm, d8, d9, d8.symm, d9.symm, a0, a1, a2, a3, a4]
  have A1 : W.cell? ⟨ba, 1, none⟩ = some (.int .i64 y0) := by rw [hW]; simp [go_sem, d1, d2, d3, d1.symm, d2.symm, d3.symm, d8, d9, d8.symm, d9.symm, a0, a1, a2, a3, a4]
  have A2 : W.cell? ⟨ba, 2, none⟩ = some (.int .i64 x1) := by rw [hW]; simp [go_sem, d1, d2, d3, d1.symm, d2.symm, d3.symm, d8, d9, d8.symm, d9.symm, a0, a1, a2, a3, a4]
  have A3 : W.cell? ⟨ba, 3, none⟩ = some (.int .i64 y1) := by rw [hW]; simp [go_sem, d1, d2, d3, d1.symm, d2.symm, d3.symm, d8, d9, d8.symm, d9.symm, a0, a1, a2, a3, a4]
  have A4 : W.cell? ⟨ba, 4, none⟩ = some (.int .u8 f) := by rw [hW]; simp [go_sem, d1, d2, d3, d1.symm, d2.symm, d3.symm, d8, d9, d8.symm, d9.symm, a0, a1, a2, a3, a4]
  have B0 : W.cell? ⟨bb, 0, none⟩ = some (.int .i64 x0) := by rw [hW]; simp [go_sem, d1, d2, d3, d1.symm, d2.symm, d3.symm, d8, d9, d8.symm, d9.symm, b0, b1, b2, b3, b4]
  have B1 : W.cell? ⟨bb, 1, none⟩ = some (.int .i64 y0) := by rw [hW]; simp [go_sem, d1, d2, d3, d1.symm, d2.symm, d3.symm, d8, d9, d8.symm, d9.symm, b0, b1, b2, b3, b4]
  have B2 : W.cell? ⟨bb, 2, none⟩ = some (.int .i64 x1) := by rw [hW]; simp [go_sem, d1, d2, d3, d1.symm, d2.symm, d3.symm, d8, d9, d8.symm, d9.symm, b0, b1, b2, b3, b4]
  have B3 : W.cell? ⟨bb, 3, none⟩ = some (.int .i64 y1) := by rw [hW]; simp [go_sem, d1, d2, d3, d1.symm, d2.symm, d3.symm, d8, d9, d8.symm, d9.symm, b0, b1, b2, b3, b4]
  have B4 : W.cell? ⟨bb, 4, none⟩ = some (.int .u8 f) := by rw [hW]; simp [go_sem, d1, d2, d3, d1.symm, d2.symm, d3.symm, d8, d9, d8.symm, d9.symm, b0, b1, b2, b3, b4]
  have AF0 : W.frozen? ⟨ba, 0, none⟩ = false := by rw [hW]; simp [go_sem, af0]
  have AF1 : W.frozen? ⟨ba, 1, none⟩ = false := by rw [hW]; simp [go_sem, af1]
  have AF2 : W.frozen? ⟨ba, 2, none⟩ = false := by rw [hW]; simp [go_sem, af2]
  have AF3 : W.frozen? ⟨ba, 3, none⟩ = false := by rw [hW]; simp [go_sem, af3]
  have AF4 : W.frozen? ⟨ba, 4, none⟩ = false := by rw [hW]; simp [go_sem, af4]
  have BF0 : W.frozen? ⟨bb, 0, none⟩ = false := by rw [hW]; simp [go_sem, bf0]
  have BF1 : W.frozen? ⟨bb, 1, none⟩ = false := by rw [hW]; simp [go_sem, bf1]
  have BF2 : W.frozen? ⟨bb, 2, none⟩ = false := by rw [hW]; simp [go_sem, bf2]
  have BF3 : W.frozen? ⟨bb, 3, none⟩ = false := by rw [hW]; simp [go_sem, bf3]
  have BF4 : W.frozen? ⟨bb, 4, none⟩ = false := by rw [hW]; simp [go_sem, bf4]
  have L0 := (U1.cell (off := 0) (lt_of_cell l0) d1 (fun e => d2 (by injection e with e; exact e.symm))).trans l0
  have L1 := (U1.cell (off := 1) (lt_of_cell l1) d1 (fun e => d2 (by injection e with e; exact e.symm))).trans l1
  have L2 := (U1.cell (off := 2) (lt_of_cell l2) d1 (fun e => d2 (by injection e with e; exact e.symm))).trans l2
  have L3 := (U1.cell (off := 3) (lt_of_cell l3) d1 (fun e => d2 (by injection e with e; exact e.symm))).trans l3
  have L4 := (U1.cell (off := 4) (lt_of_cell l4) d1 (fun e => d2 (by injection e with e; exact e.symm))).trans l4
  have P0 := (U1.cell (off := 0) (lt_of_cell p0) d8 (fun e => d9 (by injection e with e; exact e.symm))).trans p0
  have P1 := (U1.cell (off := 1) (lt_of_cell p1) d8 (fun e => d9 (by injection e with e; exact e.symm))).trans p1
  have P2 := (U1.cell (off := 2) (lt_of_cell p2) d8 (fun e => d9 (by injection e with e; exact e.symm))).trans p2
  have W0 := (U1.cell (off := 0) (lt_of_cell w0) d4 (fun e => d5 (by injection e with e; exact e.symm))).trans w0
  have H0 := (U1.cell (off := 0) (lt_of_cell h0) d6 (fun e => d7 (by injection e with e; exact e.symm))).trans h0
  have HW1 := hide U1
  clear U1 hW a0 a1 a2 a3 a4 b0 b1 b2 b3 b4 l0 l1 l2 l3 l4 p0 p1 p2 w0 h0 af0 af1 af2 af3 af4 bf0 bf1 bf2 bf3 bf4
  go_wp2_with (fail)
  simp only [HM.out, HFA.out, HFB.out]
  refine calls_name fun V hV => ?_
  have U2 : Upd ba (some bb) w V := by
    rw [hV]
    exact HW1.out |>.setCell _ _ |>.setRow _ _ |>.setCell _ _ |>.setRow _ _
  have HA : Box5 V ba (.int .i64 x0) (.int .i64 y0) (.int .i64 m) (.int .i64 y1) (.int .u8 fa) := by
    rw [hV]
    refine ⟨?_, ?_, ?_, ?_, ?_, ?_, ?_, ?_, ?_, ?_⟩ <;> simp [go_sem, d1, d2, d3, d1.symm, d2.symm, d3.symm, d8, d9, d8.symm, d9.symm, A0, A1, A2, A3, A4, AF0, AF1, AF2, AF3, AF4]
  have HB : Box5 V bb (.int .i64 m) (.int .i64 y0) (.int .i64 x1) (.int .i64 y1) (.int .u8 fb) := by
    rw [hV]
    refine ⟨?_, ?_, ?_, ?_, ?_, ?_, ?_, ?_, ?_, ?_⟩ <;> simp [go_sem, d1, d2, d3, d1.symm, d2.symm, d3.symm, d8, d9, d8.symm, d9.symm, B0, B1, B2, B3, B4, BF0, BF1, BF2, BF3, BF4]
  have p0 : V.cell? ⟨bp, 0, none⟩ = some (.int .i64 mf) := by rw [hV]; simp [go_sem, d1, d2, d3, d1.symm, d2.symm, d3.symm, d8, d9, d8.symm, d9.symm, P0]
  have p1 : V.cell? ⟨bp, 1, none⟩ = some (.int .i64 ms) := by rw [hV]; simp [go_sem, d1, d2, d3, d1.symm, d2.symm, d3.symm, d8, d9, d8.symm, d9.symm, P1]
  have p2 : V.cell? ⟨bp, 2, none⟩ = some (.int .i64 ma) := by rw [hV]; simp [go_sem, d1, d2, d3, d1.symm, d2.symm, d3.symm, d8, d9, d8.symm, d9.symm, P2]
  have HU := hide U2
  have hs0 := lt_of_cell p0
  have HS := hide hs0
  clear hV U2 A0 A1 A2 A3 A4 B0 B1 B2 B3 B4 L0 L1 L2 L3 L4 P0 P1 P2 W0 H0 AF0 AF1 AF2 AF3 AF4 BF0 BF1 BF2 BF3 BF4 hs0
  refine (HG1.out _).mono ?_
  rintro e w1 ⟨rfl, hb⟩
  have K1 := hide (HU.out.trans (Upd.of_below hb))
  have HA1 := HA.below hb
  have HB1 := HB.below hb
  have q0 := (hb.cell (p := ⟨bp, 0, none⟩) HS.out).trans p0
  have q1 := (hb.cell (p := ⟨bp, 1, none⟩) HS.out).trans p1
  have q2 := (hb.cell (p := ⟨bp, 2, none⟩) HS.out).trans p2
  clear hb p0 p1 p2 HA HB
  cases g1 with
  | false =>
    go_wp2_with (fail)
    go_ret
    exact ⟨rfl, K1.out, HA1, HB1⟩
  | true =>
    obtain ⟨b0, b1, b2, b3, b4, bf0, bf1, bf2, bf3, bf4⟩ := id HB1
    have HB2 := hide HB1
    have HA2 := hide HA1
    clear HA1 HB1 bf0 bf1 bf2 bf3 bf4
    go_wp2_with (fail)
    refine (HG2.out _).mono ?_
    rintro e w2 ⟨rfl, hb⟩
    have K2 := hide (K1.out.trans (Upd.of_below hb))
    have HA3 := hide (HA2.out.below hb)
    have HB3 := hide (HB2.out.below hb)
    clear hb b0 b1 b2 b3 b4 q0 q1 q2
    go_wp2_with (fail)
    go_ret
    exact ⟨rfl, K2.out, HA3.out, HB3.out⟩
set_option maxRecDepth 100000 in
set_option maxHeartbeats 4000000 in
theorem try_false {w : World} {bl ba bb bw bh bp : Nat} {x0 y0 x1 y1 f mf ms ma wd hg m fa fb : Int} {g1 g2 : Bool} {A0 A1 A2 A3 A4 B0 B1 B2 B3 B4 : Value}
    (l0 : w.cell? ⟨bl, 0, none⟩ = some (.int .i64 x0)) (l1 : w.cell? ⟨bl, 1, none⟩ = some (.int .i64 y0)) (l2 : w.cell? ⟨bl, 2, none⟩ = some (.int .i64 x1)) (l3 : w.cell? ⟨bl, 3, none⟩ = some (.int .i64 y1)) (l4 : w.cell? ⟨bl, 4, none⟩ = some (.int .u8 f))
    (p0 : w.cell? ⟨bp, 0, none⟩ = some (.int .i64 mf)) (p1 : w.cell? ⟨bp, 1, none⟩ = some (.int .i64 ms)) (p2 : w.cell? ⟨bp, 2, none⟩ = some (.int .i64 ma))
    (w0 : w.cell? ⟨bw, 0, none⟩ = some (.int .i64 wd)) (h0 : w.cell? ⟨bh, 0, none⟩ = some (.int .i64 hg))
    (ha : Box5 w ba A0 A1 A2 A3 A4) (hb : Box5 w bb B0 B1 B2 B3 B4)
    (d1 : bl ≠ ba) (d2 : bl ≠ bb) (d3 : ba ≠ bb) (d4 : bw ≠ ba) (d5 : bw ≠ bb) (d6 : bh ≠ ba) (d7 : bh ≠ bb) (d8 : bp ≠ ba) (d9 : bp ≠ bb)
    (hm : wrap64 (y0 + wrap64 (hg.tdiv 2)) = m) (hfa : bits .andNot .u8 f 8 = fa) (hfb : bits .andNot .u8 f 4 = fb)
    (hg1 : ∀ W : World, Calls Tryz.prog 167 #[.agg #[.int .i64 x0, .int .i64 y0, .int .i64 x1, .int .i64 m, .int .u8 fa], .agg #[.int .i64 mf, .int .i64 ms, .int .i64 ma]] W fun e w' => e = .returned (.bool g1) ∧ Below W.heap.size W w')
    (hg2 : ∀ W : World, Calls Tryz.prog 167 #[.agg #[.int .i64 x0, .int .i64 m, .int .i64 x1, .int .i64 y1, .int .u8 fb], .agg #[.int .i64 mf, .int .i64 ms, .int .i64 ma]] W fun e w' => e = .returned (.bool g2) ∧ Below W.heap.size W w') :
    Calls Tryz.prog 168 #[.bool false, .pointer (some ⟨bl, 0, none⟩), .pointer (some ⟨ba, 0, none⟩), .pointer (some ⟨bb, 0, none⟩), .pointer (some ⟨bw, 0, none⟩), .pointer (some ⟨bh, 0, none⟩), .pointer (some ⟨bp, 0, none⟩)] w fun e w' => e = .returned (.bool (g1 && g2)) ∧ Upd ba (some bb) w w' ∧ Box5 w' ba (.int .i64 x0) (.int .i64 y0) (.int .i64 x1) (.int .i64 m) (.int .u8 fa) ∧ Box5 w' bb (.int .i64 x0) (.int .i64 m) (.int .i64 x1) (.int .i64 y1) (.int .u8 fb) := by
  obtain ⟨a0, a1, a2, a3, a4, af0, af1, af2, af3, af4⟩ := ha
  obtain ⟨b0, b1, b2, b3, b4, bf0, bf1, bf2, bf3, bf4⟩ := hb
  have HG1 := hide hg1
  have HG2 := hide hg2
  have HM := hide hm
  have HFA := hide hfa
  have HFB := hide hfb
  clear hg1 hg2 hm hfa hfb
  go_enter Tryz.func168, Tryz.ntmps168
  go_wp2
  go_region
  refine exit_name fun W hW => ?_
  have U1 : Upd ba (some bb) w W := by
    rw [hW]
    exact upd_drew (Upd.refl ba (some bb) w |>.setCell 0 _ |>.setCell 1 _ |>.setCell 2 _ |>.setCell 3 _ |>.setCell 4 _ |>.setRow 0 _ |>.setRow 1 _ |>.setRow 2 _ |>.setRow 3 _ |>.setRow 4 _)
  have A0 : W.cell? ⟨ba, 0, none⟩ = some (.int .i64 x0) := by rw [hW]; simp [go_sem, d1, d2, d3, d1.symm, d2.symm, d3.symm, d8, d9, d8.symm, d9.symm, a0, a1, a2, a3, a4]
  have A1 : W.cell? ⟨ba, 1, none⟩ = some (.int .i64 y0) := by rw [hW]; simp [go_sem, d1, d2, d3, d1.symm, d2.symm, d3.symm, d8, d9, d8.symm, d9.symm, a0, a1, a2, a3, a4]
  have A2 : W.cell? ⟨ba, 2, none⟩ = some (.int .i64 x1) := by rw [hW]; simp [go_sem, d1, d2, d3, d1.symm, d2.symm, d3.symm, d8, d9, d8.symm, d9.symm, a0, a1, a2, a3, a4]
  have A3 : W.cell? ⟨ba, 3, none⟩ = some (.int .i64 y1) := by rw [hW]; simp [go_sem, d1, d2, d3, d1.symm, d2.symm, d3.symm, d8, d9, d8.symm, d9.symm, a0, a1, a2, a3, a4]
  have A4 : W.cell? ⟨ba, 4, none⟩ = some (.int .u8 f) := by rw [hW]; simp [go_sem, d1, d2, d3, d1.symm, d2.symm, d3.symm, d8, d9, d8.symm, d9.symm, a0, a1, a2, a3, a4]
  have B0 : W.cell? ⟨bb, 0, none⟩ = some (.int .i64 x0) := by rw [hW]; simp [go_sem, d1, d2, d3, d1.symm, d2.symm, d3.symm, d8, d9, d8.symm, d9.symm, b0, b1, b2, b3, b4]
  have B1 : W.cell? ⟨bb, 1, none⟩ = some (.int .i64 y0) := by rw [hW]; simp [go_sem, d1, d2, d3, d1.symm, d2.symm, d3.symm, d8, d9, d8.symm, d9.symm, b0, b1, b2, b3, b4]
  have B2 : W.cell? ⟨bb, 2, none⟩ = some (.int .i64 x1) := by rw [hW]; simp [go_sem, d1, d2, d3, d1.symm, d2.symm, d3.symm, d8, d9, d8.symm, d9.symm, b0, b1, b2, b3, b4]
  have B3 : W.cell? ⟨bb, 3, none⟩ = some (.int .i64 y1) := by rw [hW]; simp [go_sem, d1, d2, d3, d1.symm, d2.symm, d3.symm, d8, d9, d8.symm, d9.symm, b0, b1, b2, b3, b4]
  have B4 : W.cell? ⟨bb, 4, none⟩ = some (.int .u8 f) := by rw [hW]; simp [go_sem, d1, d2, d3, d1.symm, d2.symm, d3.symm, d8, d9, d8.symm, d9.symm, b0, b1, b2, b3, b4]
  have AF0 : W.frozen? ⟨ba, 0, none⟩ = false := by rw [hW]; simp [go_sem, af0]
  have AF1 : W.frozen? ⟨ba, 1, none⟩ = false := by rw [hW]; simp [go_sem, af1]
  have AF2 : W.frozen? ⟨ba, 2, none⟩ = false := by rw [hW]; simp [go_sem, af2]
  have AF3 : W.frozen? ⟨ba, 3, none⟩ = false := by rw [hW]; simp [go_sem, af3]
  have AF4 : W.frozen? ⟨ba, 4, none⟩ = false := by rw [hW]; simp [go_sem, af4]
  have BF0 : W.frozen? ⟨bb, 0, none⟩ = false := by rw [hW]; simp [go_sem, bf0]
  have BF1 : W.frozen? ⟨bb, 1, none⟩ = false := by rw [hW]; simp [go_sem, bf1]
  have BF2 : W.frozen? ⟨bb, 2, none⟩ = false := by rw [hW]; simp [go_sem, bf2]
  have BF3 : W.frozen? ⟨bb, 3, none⟩ = false := by rw [hW]; simp [go_sem, bf3]
  have BF4 : W.frozen? ⟨bb, 4, none⟩ = false := by rw [hW]; simp [go_sem, bf4]
  have L0 := (U1.cell (off := 0) (lt_of_cell l0) d1 (fun e => d2 (by injection e with e; exact e.symm))).trans l0
  have L1 := (U1.cell (off := 1) (lt_of_cell l1) d1 (fun e => d2 (by injection e with e; exact e.symm))).trans l1
  have L2 := (U1.cell (off := 2) (lt_of_cell l2) d1 (fun e => d2 (by injection e with e; exact e.symm))).trans l2
  have L3 := (U1.cell (off := 3) (lt_of_cell l3) d1 (fun e => d2 (by injection e with e; exact e.symm))).trans l3
  have L4 := (U1.cell (off := 4) (lt_of_cell l4) d1 (fun e => d2 (by injection e with e; exact e.symm))).trans l4
  have P0 := (U1.cell (off := 0) (lt_of_cell p0) d8 (fun e => d9 (by injection e with e; exact e.symm))).trans p0
  have P1 := (U1.cell (off := 1) (lt_of_cell p1) d8 (fun e => d9 (by injection e with e; exact e.symm))).trans p1
  have P2 := (U1.cell (off := 2) (lt_of_cell p2) d8 (fun e => d9 (by injection e with e; exact e.symm))).trans p2
  have W0 := (U1.cell (off := 0) (lt_of_cell w0) d4 (fun e => d5 (by injection e with e; exact e.symm))).trans w0
  have H0 := (U1.cell (off := 0) (lt_of_cell h0) d6 (fun e => d7 (by injection e with e; exact e.symm))).trans h0
  have HW1 := hide U1
  clear U1 hW a0 a1 a2 a3 a4 b0 b1 b2 b3 b4 l0 l1 l2 l3 l4 p0 p1 p2 w0 h0 af0 af1 af2 af3 af4 bf0 bf1 bf2 bf3 bf4
  go_wp2_with (fail)
  simp only [HM.out, HFA.out, HFB.out]
  refine calls_name fun V hV => ?_
  have U2 : Upd ba (some bb) w V := by
    rw [hV]
    exact HW1.out |>.setCell _ _ |>.setRow _ _ |>.setCell _ _ |>.setRow _ _
  have HA : Box5 V ba (.int .i64 x0) (.int .i64 y0) (.int .i64 x1) (.int .i64 m) (.int .u8 fa) := by
    rw [hV]
    refine ⟨?_, ?_, ?_, ?_, ?_, ?_, ?_, ?_, ?_, ?_⟩ <;> simp [go_sem, d1, d2, d3, d1.symm, d2.symm, d3.symm, d8, d9, d8.symm, d9.symm, A0, A1, A2, A3, A4, AF0, AF1, AF2, AF3, AF4]
  have HB : Box5 V bb (.int .i64 x0) (.int .i64 m) (.int .i64 x1) (.int .i64 y1) (.int .u8 fb) := by
    rw [hV]
    refine ⟨?_, ?_, ?_, ?_, ?_, ?_, ?_, ?_, ?_, ?_⟩ <;> simp [go_sem, d1, d2, d3, d1.symm, d2.symm, d3.symm, d8, d9, d8.symm, d9.symm, B0, B1, B2, B3, B4, BF0, BF1, BF2, BF3, BF4]
  have p0 : V.cell? ⟨bp, 0, none⟩ = some (.int .i64 mf) := by rw [hV]; simp [go_sem, d1, d2, d3, d1.symm, d2.symm, d3.symm, d8, d9, d8.symm, d9.symm, P0]
  have p1 : V.cell? ⟨bp, 1, none⟩ = some (.int .i64 ms) := by rw [hV]; simp [go_sem, d1, d2, d3, d1.symm, d2.symm, d3.symm, d8, d9, d8.symm, d9.symm, P1]
  have p2 : V.cell? ⟨bp, 2, none⟩ = some (.int .i64 ma) := by rw [hV]; simp [go_sem, d1, d2, d3, d1.symm, d2.symm, d3.symm, d8, d9, d8.symm, d9.symm, P2]
  have HU := hide U2
  have hs0 := lt_of_cell p0
  have HS := hide hs0
  clear hV U2 A0 A1 A2 A3 A4 B0 B1 B2 B3 B4 L0 L1 L2 L3 L4 P0 P1 P2 W0 H0 AF0 AF1 AF2 AF3 AF4 BF0 BF1 BF2 BF3 BF4 hs0
  refine (HG1.out _).mono ?_
  rintro e w1 ⟨rfl, hb⟩
  have K1 := hide (HU.out.trans (Upd.of_below hb))
  have HA1 := HA.below hb
  have HB1 := HB.below hb
  have q0 := (hb.cell (p := ⟨bp, 0, none⟩) HS.out).trans p0
  have q1 := (hb.cell (p := ⟨bp, 1, none⟩) HS.out).trans p1
  have q2 := (hb.cell (p := ⟨bp, 2, none⟩) HS.out).trans p2
  clear hb p0 p1 p2 HA HB
  cases g1 with
  | false =>
    go_wp2_with (fail)
    go_ret
    exact ⟨rfl, K1.out, HA1, HB1⟩
  | true =>
    obtain ⟨b0, b1, b2, b3, b4, bf0, bf1, bf2, bf3, bf4⟩ := id HB1
    have HB2 := hide HB1
    have HA2 := hide HA1
    clear HA1 HB1 bf0 bf1 bf2 bf3 bf4
    go_wp2_with (fail)
    refine (HG2.out _).mono ?_
    rintro e w2 ⟨rfl, hb⟩
    have K2 := hide (K1.out.trans (Upd.of_below hb))
    have HA3 := hide (HA2.out.below hb)
    have HB3 := hide (HB2.out.below hb)
    clear hb b0 b1 b2 b3 b4 q0 q1 q2
    go_wp2_with (fail)
    go_ret
    exact ⟨rfl, K2.out, HA3.out, HB3.out⟩
def Box5L (w : World) (b : Nat) (l : Lot5) : Prop := Box5 w b (.int .i64 l.r.x0) (.int .i64 l.r.y0) (.int .i64 l.r.x1) (.int .i64 l.r.y1) (.int .u8 l.f)
theorem less_range {f s : Int} (h : 1 ≤ f ∧ f ≤ 15) (hs : isSide s) : 0 ≤ lessS f s ∧ lessS f s ≤ 255 := by
  have h16 : 0 ≤ f ∧ f ≤ 15 := by omega
  obtain ⟨n, hn, rfl⟩ := f16 h16
  have key : ∀ n ∈ List.range 16, ∀ s ∈ ([1, 2, 4, 8] : List Int), 0 ≤ lessS (n : Int) s ∧ lessS (n : Int) s ≤ 255 := by decide
  exact key n hn s (side_mem hs)
theorem half_wrap {x d : Int} (hx : inR x) (hd : 0 < d ∧ d ≤ 2000000) : wrap64 (x + wrap64 (d.tdiv 2)) = x + d / 2 := by
  unfold inR at hx
  rw [Int.tdiv_eq_ediv_of_nonneg (by omega), show wrap64 (d / 2) = d / 2 from by unfold wrap64; omega]
  unfold wrap64; omega
theorem parTry_any (d : Bool) (l : Lot5) (p : Pl3) (hv : validL l) {w : World} {bl ba bb bw bh bp : Nat} {A0 A1 A2 A3 A4 B0 B1 B2 B3 B4 : Value}
    (l0 : w.cell? ⟨bl, 0, none⟩ = some (.int .i64 l.r.x0)) (l1 : w.cell? ⟨bl, 1, none⟩ = some (.int .i64 l.r.y0)) (l2 : w.cell? ⟨bl, 2, none⟩ = some (.int .i64 l.r.x1)) (l3 : w.cell? ⟨bl, 3, none⟩ = some (.int .i64 l.r.y1)) (l4 : w.cell? ⟨bl, 4, none⟩ = some (.int .u8 l.f))
    (p0 : w.cell? ⟨bp, 0, none⟩ = some (.int .i64 p.mf)) (p1 : w.cell? ⟨bp, 1, none⟩ = some (.int .i64 p.ms)) (p2 : w.cell? ⟨bp, 2, none⟩ = some (.int .i64 p.ma))
    (w0 : w.cell? ⟨bw, 0, none⟩ = some (.int .i64 l.w)) (h0 : w.cell? ⟨bh, 0, none⟩ = some (.int .i64 l.h))
    (ha : Box5 w ba A0 A1 A2 A3 A4) (hb : Box5 w bb B0 B1 B2 B3 B4)
    (d1 : bl ≠ ba) (d2 : bl ≠ bb) (d3 : ba ≠ bb) (d4 : bw ≠ ba) (d5 : bw ≠ bb) (d6 : bh ≠ ba) (d7 : bh ≠ bb) (d8 : bp ≠ ba) (d9 : bp ≠ bb) :
    Calls Tryz.prog 168 #[.bool d, .pointer (some ⟨bl, 0, none⟩), .pointer (some ⟨ba, 0, none⟩), .pointer (some ⟨bb, 0, none⟩), .pointer (some ⟨bw, 0, none⟩), .pointer (some ⟨bh, 0, none⟩), .pointer (some ⟨bp, 0, none⟩)] w fun e w' => e = .returned (.bool (bothG p (wayL d l))) ∧ Upd ba (some bb) w w' ∧ Box5L w' ba (wayL d l).1 ∧ Box5L w' bb (wayL d l).2 := by
  have hf : 0 ≤ l.f ∧ l.f ≤ 15 := by have := hv.2; omega
  have hp := valid_pos hv
  have s1 : isSide 1 := by unfold isSide; omega
  have s2 : isSide 2 := by unfold isSide; omega
  have s4 : isSide 4 := by unfold isSide; omega
  have s8 : isSide 8 := by unfold isSide; omega
  cases d with
  | true => exact try_true l0 l1 l2 l3 l4 p0 p1 p2 w0 h0 ha hb d1 d2 d3 d4 d5 d6 d7 d8 d9 (half_wrap hv.1.2.2.1 ⟨hp.1, hp.2.2.1⟩) (bit_less hf s2) (bit_less hf s1) (fun W => good_any (wideL l).1 p (less_range hv.2 s2) W) (fun W => good_any (wideL l).2 p (less_range hv.2 s1) W)
  | false => exact try_false l0 l1 l2 l3 l4 p0 p1 p2 w0 h0 ha hb d1 d2 d3 d4 d5 d6 d7 d8 d9 (half_wrap hv.1.2.2.2.2.1 ⟨hp.2.1, hp.2.2.2⟩) (bit_less hf s8) (bit_less hf s4) (fun W => good_any (highL l).1 p (less_range hv.2 s8) W) (fun W => good_any (highL l).2 p (less_range hv.2 s4) W)
end Go.Proofs.YtdolpeljengpaaaGreat

/- The walk of parcel.cut. -/
namespace Go.Proofs.YtdolpeljengpaaaGreat
open Go.RowKit
set_option linter.unusedVariables false
set_option linter.unusedSimpArgs false

set_option maxHeartbeats 1000000 in
theorem width_exact (l : Lot5) (h : okR l.r) (w : World) : Calls Tryz.prog 165 #[.agg (encL l).toArray] w fun e w' => e = .returned (.int .i64 l.w) ∧ w' = w.alloc (.cells (encL l).toArray 176) := by
  obtain ⟨⟨x0, y0, x1, y1⟩, f⟩ := l
  simp only [okR, inR] at h
  obtain ⟨h1, h2, ⟨h3, h4⟩, ⟨h5, h6⟩, ⟨h7, h8⟩, ⟨h9, h10⟩⟩ := h
  show Calls Tryz.prog _ #[.agg #[.int .i64 x0, .int .i64 y0, .int .i64 x1, .int .i64 y1, .int .u8 f]] w fun e w' => e = .returned (.int .i64 (x1 - x0)) ∧ w' = w.alloc (.cells #[.int .i64 x0, .int .i64 y0, .int .i64 x1, .int .i64 y1, .int .u8 f] 176)
  go_enter Tryz.func165, Tryz.ntmps165
  go_wp2
  go_ret
  exact ⟨rfl, rfl⟩
set_option maxHeartbeats 1000000 in
theorem height_exact (l : Lot5) (h : okR l.r) (w : World) : Calls Tryz.prog 166 #[.agg (encL l).toArray] w fun e w' => e = .returned (.int .i64 l.h) ∧ w' = w.alloc (.cells (encL l).toArray 176) := by
  obtain ⟨⟨x0, y0, x1, y1⟩, f⟩ := l
  simp only [okR, inR] at h
  obtain ⟨h1, h2, ⟨h3, h4⟩, ⟨h5, h6⟩, ⟨h7, h8⟩, ⟨h9, h10⟩⟩ := h
  show Calls Tryz.prog _ #[.agg #[.int .i64 x0, .int .i64 y0, .int .i64 x1, .int .i64 y1, .int .u8 f]] w fun e w' => e = .returned (.int .i64 (y1 - y0)) ∧ w' = w.alloc (.cells #[.int .i64 x0, .int .i64 y0, .int .i64 x1, .int .i64 y1, .int .u8 f] 176)
  go_enter Tryz.func166, Tryz.ntmps166
  go_wp2
  go_ret
  exact ⟨rfl, rfl⟩
theorem keepS {n : Nat} {A B : World} {v0 v1 v2 v3 v4 : Value} (hb : Below A.heap.size A B) (h : A.cell? ⟨n, 0, none⟩ = some v0 ∧ A.cell? ⟨n, 1, none⟩ = some v1 ∧ A.cell? ⟨n, 2, none⟩ = some v2 ∧ A.cell? ⟨n, 3, none⟩ = some v3 ∧ A.cell? ⟨n, 4, none⟩ = some v4) : B.cell? ⟨n, 0, none⟩ = some v0 ∧ B.cell? ⟨n, 1, none⟩ = some v1 ∧ B.cell? ⟨n, 2, none⟩ = some v2 ∧ B.cell? ⟨n, 3, none⟩ = some v3 ∧ B.cell? ⟨n, 4, none⟩ = some v4 :=
  have hs := lt_of_cell h.1
  ⟨(hb.cell (p := ⟨n, 0, none⟩) hs).trans h.1, (hb.cell (p := ⟨n, 1, none⟩) hs).trans h.2.1, (hb.cell (p := ⟨n, 2, none⟩) hs).trans h.2.2.1, (hb.cell (p := ⟨n, 3, none⟩) hs).trans h.2.2.2.1, (hb.cell (p := ⟨n, 4, none⟩) hs).trans h.2.2.2.2⟩
theorem keepD {n : Nat} {A : World} {v0 v1 v2 v3 v4 : Value} (h : A.cell? ⟨n, 0, none⟩ = some v0 ∧ A.cell? ⟨n, 1, none⟩ = some v1 ∧ A.cell? ⟨n, 2, none⟩ = some v2 ∧ A.cell? ⟨n, 3, none⟩ = some v3 ∧ A.cell? ⟨n, 4, none⟩ = some v4) : A.drew.cell? ⟨n, 0, none⟩ = some v0 ∧ A.drew.cell? ⟨n, 1, none⟩ = some v1 ∧ A.drew.cell? ⟨n, 2, none⟩ = some v2 ∧ A.drew.cell? ⟨n, 3, none⟩ = some v3 ∧ A.drew.cell? ⟨n, 4, none⟩ = some v4 := h
theorem keepA {n : Nat} {A : World} {v0 v1 v2 v3 v4 : Value} {o : Obj} (h : A.cell? ⟨n, 0, none⟩ = some v0 ∧ A.cell? ⟨n, 1, none⟩ = some v1 ∧ A.cell? ⟨n, 2, none⟩ = some v2 ∧ A.cell? ⟨n, 3, none⟩ = some v3 ∧ A.cell? ⟨n, 4, none⟩ = some v4) : (A.alloc o).cell? ⟨n, 0, none⟩ = some v0 ∧ (A.alloc o).cell? ⟨n, 1, none⟩ = some v1 ∧ (A.alloc o).cell? ⟨n, 2, none⟩ = some v2 ∧ (A.alloc o).cell? ⟨n, 3, none⟩ = some v3 ∧ (A.alloc o).cell? ⟨n, 4, none⟩ = some v4 := keepS ((Below.refl _ _).alloc (Nat.le_refl _) o) h
theorem keepC {n : Nat} {A : World} {v0 v1 v2 v3 v4 : Value} {g k : Nat} {v : Value} (h : A.cell? ⟨n, 0, none⟩ = some v0 ∧ A.cell? ⟨n, 1, none⟩ = some v1 ∧ A.cell? ⟨n, 2, none⟩ = some v2 ∧ A.cell? ⟨n, 3, none⟩ = some v3 ∧ A.cell? ⟨n, 4, none⟩ = some v4) (hg : n ≠ g) : (A.setCell ⟨g, k, none⟩ v).cell? ⟨n, 0, none⟩ = some v0 ∧ (A.setCell ⟨g, k, none⟩ v).cell? ⟨n, 1, none⟩ = some v1 ∧ (A.setCell ⟨g, k, none⟩ v).cell? ⟨n, 2, none⟩ = some v2 ∧ (A.setCell ⟨g, k, none⟩ v).cell? ⟨n, 3, none⟩ = some v3 ∧ (A.setCell ⟨g, k, none⟩ v).cell? ⟨n, 4, none⟩ = some v4 := by
  refine ⟨?_, ?_, ?_, ?_, ?_⟩ <;> simp [go_sem, hg, hg.symm, h]
theorem wp_name5 {P : Program} {c : Code} {Q : Exit → Act → World → Prop} {a : Act} {W : World} (h : ∀ w, w = W → c.wp P Q a w) : c.wp P Q a W := h W rfl
def zeroL : Lot5 := ⟨⟨0, 0, 0, 0⟩, 0⟩
def cutR (l : Lot5) (p : Pl3) : Lot5 × Lot5 × Bool := match cutL p l with
  | some x => (x.1, x.2, true)
  | none => (zeroL, zeroL, false)
theorem cutR_eq (l : Lot5) (p : Pl3) : cutR l p = if decide (l.w * l.h ≤ p.ma) = true then (zeroL, zeroL, false) else if decide (goodL p l) = false then (zeroL, zeroL, false) else if bothG p (wayL (decide (l.h ≤ l.w)) l) = true then ((wayL (decide (l.h ≤ l.w)) l).1, (wayL (decide (l.h ≤ l.w)) l).2, true) else if bothG p (wayL (decide (l.w < l.h)) l) = true then ((wayL (decide (l.w < l.h)) l).1, (wayL (decide (l.w < l.h)) l).2, true) else (zeroL, zeroL, false) := by
  unfold cutR cutL
  by_cases h1 : l.w * l.h ≤ p.ma
  · simp [h1]
  · by_cases h2 : goodL p l
    · simp only [h1, h2, decide_true, decide_false, not_true_eq_false, or_self, if_false, Bool.false_eq_true, Bool.true_eq_false]
      repeat' split
      all_goals first | rfl | simp_all
    · simp [h1, h2]
set_option maxRecDepth 100000 in
set_option maxHeartbeats 8000000 in
theorem cut_any (l : Lot5) (p : Pl3) (hv : validL l) (w : World) : Calls Tryz.prog 119 #[.agg (encL l).toArray, .agg (encP p).toArray] w fun e w' => e = .returned (.tuple #[.agg (encL (cutR l p).1).toArray, .agg (encL (cutR l p).2.1).toArray, .bool (cutR l p).2.2]) ∧ Below w.heap.size w w' := by
  have HWI := hide (fun W => width_exact l hv.1 W)
  have HHE := hide (fun W => height_exact l hv.1 W)
  have HGD := hide (fun W => good_any l p (by have := hv.2; omega) W)
  have HT := hide (fun d w bl ba bb bw bh bp A0 A1 A2 A3 A4 B0 B1 B2 B3 B4 => @parTry_any d l p hv w bl ba bb bw bh bp A0 A1 A2 A3 A4 B0 B1 B2 B3 B4)
  have hpos := valid_pos hv
  have HR := hide (cutR_eq l p)
  generalize cutR l p = R at *
  generalize decide (goodL p l) = G at *
  generalize l.w = wd at *
  generalize l.h = hg at *
  obtain ⟨⟨x0, y0, x1, y1⟩, f⟩ := l
  obtain ⟨mf, ms, ma⟩ := p
  clear hv
  show Calls Tryz.prog _ #[.agg #[.int .i64 x0, .int .i64 y0, .int .i64 x1, .int .i64 y1, .int .u8 f], .agg #[.int .i64 mf, .int .i64 ms, .int .i64 ma]] w _
  simp only [encL, encP] at HWI HHE HGD
  go_enter Tryz.func119, Tryz.ntmps119
  go_upto_region 1 with fail
  refine wp_name5 fun W hW => ?_
  have hb0 : Below w.heap.size w W := by rw [hW]; exact ((((Below.refl _ _).alloc (Nat.le_refl _) _).alloc (by simp) _).alloc (by simp; omega) _).alloc (by simp; omega) _
  have hs0 : w.heap.size + 3 < W.heap.size := by rw [hW]; simp
  have l0 : W.cell? ⟨w.heap.size, 0, none⟩ = some (.int .i64 x0) := by rw [hW]; simp [go_sem]
  have l1 : W.cell? ⟨w.heap.size, 1, none⟩ = some (.int .i64 y0) := by rw [hW]; simp [go_sem]
  have l2 : W.cell? ⟨w.heap.size, 2, none⟩ = some (.int .i64 x1) := by rw [hW]; simp [go_sem]
  have l3 : W.cell? ⟨w.heap.size, 3, none⟩ = some (.int .i64 y1) := by rw [hW]; simp [go_sem]
  have l4 : W.cell? ⟨w.heap.size, 4, none⟩ = some (.int .u8 f) := by rw [hW]; simp [go_sem]
  have p0 : W.cell? ⟨w.heap.size + 1, 0, none⟩ = some (.int .i64 mf) := by rw [hW]; simp [go_sem]
  have p1 : W.cell? ⟨w.heap.size + 1, 1, none⟩ = some (.int .i64 ms) := by rw [hW]; simp [go_sem]
  have p2 : W.cell? ⟨w.heap.size + 1, 2, none⟩ = some (.int .i64 ma) := by rw [hW]; simp [go_sem]
  have HA0 : Box5 W (w.heap.size + 2) (.int .i64 0) (.int .i64 0) (.int .i64 0) (.int .i64 0) (.int .u8 0) := by rw [hW]; refine ⟨?_, ?_, ?_, ?_, ?_, ?_, ?_, ?_, ?_, ?_⟩ <;> simp [go_sem]
  have HB0 : Box5 W (w.heap.size + 3) (.int .i64 0) (.int .i64 0) (.int .i64 0) (.int .i64 0) (.int .u8 0) := by rw [hW]; refine ⟨?_, ?_, ?_, ?_, ?_, ?_, ?_, ?_, ?_, ?_⟩ <;> simp [go_sem]
  generalize hn : w.heap.size = n at *
  clear hW
  go_cut [7, 8] (fun s7 s8 wx => ∃ g7 g8 : Nat, s7 = .pointer (some ⟨g7, 0, none⟩) ∧ s8 = .pointer (some ⟨g8, 0, none⟩) ∧ Below W.heap.size W wx ∧ W.heap.size ≤ g7 ∧ W.heap.size ≤ g8 ∧ wx.cell? ⟨g7, 0, none⟩ = some (.int .i64 wd) ∧ wx.cell? ⟨g8, 0, none⟩ = some (.int .i64 hg))
  case first =>
    go_region_held3 (fun w' => w'.cell? ⟨n, 0, none⟩ = some (.int .i64 x0) ∧ w'.cell? ⟨n, 1, none⟩ = some (.int .i64 y0) ∧ w'.cell? ⟨n, 2, none⟩ = some (.int .i64 x1) ∧ w'.cell? ⟨n, 3, none⟩ = some (.int .i64 y1) ∧ w'.cell? ⟨n, 4, none⟩ = some (.int .u8 f)) (((repeat (first | with_reducible refine keepA ?_ | with_reducible refine keepC ?_ (by have := hs0; simp; omega) | with_reducible refine keepD ?_)); exact ⟨l0, l1, l2, l3, l4⟩))
      (first
        | (go_at_call 165; refine (HWI.out _).mono ?_; rintro e w' ⟨rfl, rfl⟩)
        | (go_at_call 166; refine (HHE.out _).mono ?_; rintro e w' ⟨rfl, rfl⟩))
    all_goals (go_wp2_with (fail); go_meet)
    all_goals
      refine ⟨_, _, rfl, rfl, ?_, ?_, ?_, ?_, ?_⟩
      · repeat (first | with_reducible exact Below.refl _ _ | with_reducible refine Below.setCell ?_ (by simp) _ | with_reducible refine Below.alloc ?_ (by simp <;> omega) _ | with_reducible refine Below.drew ?_)
      · first | omega | simp
      · first | omega | simp
      · simp [go_sem]
      · simp [go_sem]
  case rest =>
    obtain ⟨g7, g8, rfl, rfl, hb, hg7, hg8, c7, c8⟩ := hcut
    have L0 := (hb.cell (p := ⟨n, 0, none⟩) (by show n < _; omega)).trans l0
    have L1 := (hb.cell (p := ⟨n, 1, none⟩) (by show n < _; omega)).trans l1
    have L2 := (hb.cell (p := ⟨n, 2, none⟩) (by show n < _; omega)).trans l2
    have L3 := (hb.cell (p := ⟨n, 3, none⟩) (by show n < _; omega)).trans l3
    have L4 := (hb.cell (p := ⟨n, 4, none⟩) (by show n < _; omega)).trans l4
    have P0 := (hb.cell (p := ⟨n + 1, 0, none⟩) (by show n + 1 < _; omega)).trans p0
    have P1 := (hb.cell (p := ⟨n + 1, 1, none⟩) (by show n + 1 < _; omega)).trans p1
    have P2 := (hb.cell (p := ⟨n + 1, 2, none⟩) (by show n + 1 < _; omega)).trans p2
    have HA := HA0.below hb
    have HB := HB0.below hb
    have K0 := hide (hb0.trans (hb.mono (by omega)))
    have hsz : n + 3 < wc.heap.size := by have := hb.size; omega
    clear l0 l1 l2 l3 l4 p0 p1 p2 HA0 HB0 hb hb0
    obtain ⟨hw1, hh1, hw2, hh2⟩ := hpos
    have hm0 : 0 ≤ wd * hg := Int.mul_nonneg (by omega) (by omega)
    have hm1 : wd * hg ≤ 2000000 * 2000000 := Int.mul_le_mul hw2 hh2 (by omega) (by omega)
    cases hS : decide (wd * hg ≤ ma) with
    | true =>
      rw [hS] at HR
      have hS' : wd * hg ≤ ma := of_decide_eq_true hS
      obtain ⟨a0, a1, a2, a3, a4, af0, af1, af2, af3, af4⟩ := HA
      obtain ⟨b0, b1, b2, b3, b4, bf0, bf1, bf2, bf3, bf4⟩ := HB
      clear hS
      go_wp2_with (fail)
      refine exit_name fun V hV => ?_
      have HAV : Box5L V (n + 1 + 1) zeroL := by rw [hV]; refine ⟨?_, ?_, ?_, ?_, ?_, ?_, ?_, ?_, ?_, ?_⟩ <;> simp [go_sem, a0, a1, a2, a3, a4, af0, af1, af2, af3, af4, zeroL]
      have HBV : Box5L V (n + 1 + 1 + 1) zeroL := by rw [hV]; refine ⟨?_, ?_, ?_, ?_, ?_, ?_, ?_, ?_, ?_, ?_⟩ <;> simp [go_sem, b0, b1, b2, b3, b4, bf0, bf1, bf2, bf3, bf4, zeroL]
      have KV : Below n w V := by
        rw [hV]
        repeat (first | with_reducible exact K0.out | with_reducible refine Below.setCell ?_ (by first | (simp; done) | (simp; omega)) _ | with_reducible refine Below.drew ?_)
      have hsV : n + 3 < V.heap.size := by have := lt_of_cell HBV.c0; omega
      clear hV a0 a1 a2 a3 a4 b0 b1 b2 b3 b4 af0 af1 af2 af3 af4 bf0 bf1 bf2 bf3 bf4
      obtain ⟨a0, a1, a2, a3, a4, -, -, -, -, -⟩ := HAV
      obtain ⟨b0, b1, b2, b3, b4, -, -, -, -, -⟩ := HBV
      refine bodyPost_ret (v := .tuple #[.agg (encL zeroL).toArray, .agg (encL zeroL).toArray, .bool false]) (by simp [results, Tryz.results119, go_sem, a0, a1, a2, a3, a4, b0, b1, b2, b3, b4, encL]) rfl ⟨by rw [HR.out]; rfl, by first | exact KV | (rw [hn]; exact KV)⟩
    | false =>
      rw [hS] at HR
      have hS1 : ¬ wd * hg ≤ ma := of_decide_eq_false hS
      have hS2 : ma < wd * hg := by omega
      clear hS
      obtain ⟨a0, a1, a2, a3, a4, af0, af1, af2, af3, af4⟩ := id HA
      obtain ⟨b0, b1, b2, b3, b4, bf0, bf1, bf2, bf3, bf4⟩ := id HB
      cases G with
      | false =>
        go_wp2_with (fail)
        refine (HGD.out _).mono ?_
        rintro e w1 ⟨rfl, hb⟩
        have HA1 := HA.below hb
        have HB1 := HB.below hb
        have K1 := hide (K0.out.trans (hb.mono (by omega)))
        have l0 := (hb.cell (p := ⟨n, 0, none⟩) (by show n < _; omega)).trans L0
        have l1 := (hb.cell (p := ⟨n, 1, none⟩) (by show n < _; omega)).trans L1
        have l2 := (hb.cell (p := ⟨n, 2, none⟩) (by show n < _; omega)).trans L2
        have l3 := (hb.cell (p := ⟨n, 3, none⟩) (by show n < _; omega)).trans L3
        have l4 := (hb.cell (p := ⟨n, 4, none⟩) (by show n < _; omega)).trans L4
        have p0 := (hb.cell (p := ⟨n + 1, 0, none⟩) (by show n + 1 < _; omega)).trans P0
        have p1 := (hb.cell (p := ⟨n + 1, 1, none⟩) (by show n + 1 < _; omega)).trans P1
        have p2 := (hb.cell (p := ⟨n + 1, 2, none⟩) (by show n + 1 < _; omega)).trans P2
        have d7 := (hb.cell (p := ⟨g7, 0, none⟩) (lt_of_cell c7)).trans c7
        have d8 := (hb.cell (p := ⟨g8, 0, none⟩) (lt_of_cell c8)).trans c8
        have hsz1 : n + 3 < w1.heap.size := by have := hb.size; omega
        clear hb L0 L1 L2 L3 L4 P0 P1 P2 c7 c8 HA HB hsz a0 a1 a2 a3 a4 b0 b1 b2 b3 b4 af0 af1 af2 af3 af4 bf0 bf1 bf2 bf3 bf4
        obtain ⟨a0, a1, a2, a3, a4, af0, af1, af2, af3, af4⟩ := id HA1
        obtain ⟨b0, b1, b2, b3, b4, bf0, bf1, bf2, bf3, bf4⟩ := id HB1
        clear HA1 HB1
        go_wp2_with (fail)
        refine exit_name fun V hV => ?_
        have HAV : Box5L V (n + 1 + 1) zeroL := by rw [hV]; refine ⟨?_, ?_, ?_, ?_, ?_, ?_, ?_, ?_, ?_, ?_⟩ <;> simp [go_sem, a0, a1, a2, a3, a4, af0, af1, af2, af3, af4, zeroL]
        have HBV : Box5L V (n + 1 + 1 + 1) zeroL := by rw [hV]; refine ⟨?_, ?_, ?_, ?_, ?_, ?_, ?_, ?_, ?_, ?_⟩ <;> simp [go_sem, b0, b1, b2, b3, b4, bf0, bf1, bf2, bf3, bf4, zeroL]
        have KV : Below n w V := by
          rw [hV]
          repeat (first | with_reducible exact K1.out | with_reducible refine Below.setCell ?_ (by first | (simp; done) | (simp; omega)) _ | with_reducible refine Below.drew ?_)
        have hsV : n + 3 < V.heap.size := by have := lt_of_cell HBV.c0; omega
        clear hV a0 a1 a2 a3 a4 b0 b1 b2 b3 b4 af0 af1 af2 af3 af4 bf0 bf1 bf2 bf3 bf4
        obtain ⟨a0, a1, a2, a3, a4, -, -, -, -, -⟩ := HAV
        obtain ⟨b0, b1, b2, b3, b4, -, -, -, -, -⟩ := HBV
        refine bodyPost_ret (v := .tuple #[.agg (encL zeroL).toArray, .agg (encL zeroL).toArray, .bool false]) (by simp [results, Tryz.results119, go_sem, a0, a1, a2, a3, a4, b0, b1, b2, b3, b4, encL]) rfl ⟨by rw [HR.out]; rfl, by first | exact KV | (rw [hn]; exact KV)⟩
      | true =>
        have HT1 := hide (HT.out (decide (hg ≤ wd)))
        have HT2 := hide (HT.out (decide (wd < hg)))
        clear HT
        generalize wayL (decide (hg ≤ wd)) ⟨⟨x0, y0, x1, y1⟩, f⟩ = X1 at *
        generalize wayL (decide (wd < hg)) ⟨⟨x0, y0, x1, y1⟩, f⟩ = X2 at *
        generalize bothG ⟨mf, ms, ma⟩ X1 = T1 at *
        generalize bothG ⟨mf, ms, ma⟩ X2 = T2 at *
        go_wp2_with (fail)
        refine (HGD.out _).mono ?_
        rintro e w1 ⟨rfl, hb⟩
        have HA1 := HA.below hb
        have HB1 := HB.below hb
        have K1 := hide (K0.out.trans (hb.mono (by omega)))
        have l0 := (hb.cell (p := ⟨n, 0, none⟩) (by show n < _; omega)).trans L0
        have l1 := (hb.cell (p := ⟨n, 1, none⟩) (by show n < _; omega)).trans L1
        have l2 := (hb.cell (p := ⟨n, 2, none⟩) (by show n < _; omega)).trans L2
        have l3 := (hb.cell (p := ⟨n, 3, none⟩) (by show n < _; omega)).trans L3
        have l4 := (hb.cell (p := ⟨n, 4, none⟩) (by show n < _; omega)).trans L4
        have p0 := (hb.cell (p := ⟨n + 1, 0, none⟩) (by show n + 1 < _; omega)).trans P0
        have p1 := (hb.cell (p := ⟨n + 1, 1, none⟩) (by show n + 1 < _; omega)).trans P1
        have p2 := (hb.cell (p := ⟨n + 1, 2, none⟩) (by show n + 1 < _; omega)).trans P2
        have d7 := (hb.cell (p := ⟨g7, 0, none⟩) (lt_of_cell c7)).trans c7
        have d8 := (hb.cell (p := ⟨g8, 0, none⟩) (lt_of_cell c8)).trans c8
        have hsz1 : n + 3 < w1.heap.size := by have := hb.size; omega
        clear hb L0 L1 L2 L3 L4 P0 P1 P2 c7 c8 HA HB hsz a0 a1 a2 a3 a4 b0 b1 b2 b3 b4 af0 af1 af2 af3 af4 bf0 bf1 bf2 bf3 bf4
        obtain ⟨a0, a1, a2, a3, a4, af0, af1, af2, af3, af4⟩ := id HA1
        obtain ⟨b0, b1, b2, b3, b4, bf0, bf1, bf2, bf3, bf4⟩ := id HB1
        clear a0 a1 a2 a3 a4 b0 b1 b2 b3 b4 af0 af1 af2 af3 af4 bf0 bf1 bf2 bf3 bf4
        go_wp2_with (fail)
        refine (HT1.out _ _ _ _ _ _ _ _ _ _ _ _ _ _ _ _ _ l0 l1 l2 l3 l4 p0 p1 p2 d7 d8 HA1 HB1 (by omega) (by omega) (by omega) (by omega) (by omega) (by omega) (by omega) (by omega) (by omega)).mono ?_
        rintro e w2 ⟨rfl, hu, HA2, HB2⟩
        have K2 := hide (K1.out.trans ((hu.below (n := n) (by omega) (by omega) (fun k hk => by injection hk with hk; omega)).mono (Nat.le_refl _)))
        have m0 := (hu.cell (off := 0) (lt_of_cell l0) (by omega) (by intro e; injection e with e; omega)).trans l0
        have m1 := (hu.cell (off := 1) (lt_of_cell l1) (by omega) (by intro e; injection e with e; omega)).trans l1
        have m2 := (hu.cell (off := 2) (lt_of_cell l2) (by omega) (by intro e; injection e with e; omega)).trans l2
        have m3 := (hu.cell (off := 3) (lt_of_cell l3) (by omega) (by intro e; injection e with e; omega)).trans l3
        have m4 := (hu.cell (off := 4) (lt_of_cell l4) (by omega) (by intro e; injection e with e; omega)).trans l4
        have q0 := (hu.cell (off := 0) (lt_of_cell p0) (by omega) (by intro e; injection e with e; omega)).trans p0
        have q1 := (hu.cell (off := 1) (lt_of_cell p1) (by omega) (by intro e; injection e with e; omega)).trans p1
        have q2 := (hu.cell (off := 2) (lt_of_cell p2) (by omega) (by intro e; injection e with e; omega)).trans p2
        have e7 := (hu.cell (off := 0) (lt_of_cell d7) (by omega) (by intro e; injection e with e; omega)).trans d7
        have e8 := (hu.cell (off := 0) (lt_of_cell d8) (by omega) (by intro e; injection e with e; omega)).trans d8
        have hsz2 : n + 3 < w2.heap.size := by have := hu.size; omega
        clear hu HA1 HB1 l0 l1 l2 l3 l4 p0 p1 p2 d7 d8 hsz1
        cases T1 with
        | true =>
          obtain ⟨a0, a1, a2, a3, a4, af0, af1, af2, af3, af4⟩ := HA2
          obtain ⟨b0, b1, b2, b3, b4, bf0, bf1, bf2, bf3, bf4⟩ := HB2
          obtain ⟨X, Y⟩ := X1
          obtain ⟨⟨u0, u1, u2, u3⟩, u4⟩ := X
          obtain ⟨⟨v0, v1, v2, v3⟩, v4⟩ := Y
          simp only at a0 a1 a2 a3 a4 b0 b1 b2 b3 b4
          clear m0 m1 m2 m3 m4 q0 q1 q2 e7 e8
          go_wp2_with (fail)
          go_region
          go_wp2_with (fail)
          refine exit_name fun V hV => ?_
          have HAV : Box5L V (n + 1 + 1) ⟨⟨u0, u1, u2, u3⟩, u4⟩ := by rw [hV]; refine ⟨?_, ?_, ?_, ?_, ?_, ?_, ?_, ?_, ?_, ?_⟩ <;> simp [go_sem, a0, a1, a2, a3, a4, af0, af1, af2, af3, af4]
          have HBV : Box5L V (n + 1 + 1 + 1) ⟨⟨v0, v1, v2, v3⟩, v4⟩ := by rw [hV]; refine ⟨?_, ?_, ?_, ?_, ?_, ?_, ?_, ?_, ?_, ?_⟩ <;> simp [go_sem, b0, b1, b2, b3, b4, bf0, bf1, bf2, bf3, bf4]
          have KV : Below n w V := by
            rw [hV]
            repeat (first | with_reducible exact K2.out | with_reducible refine Below.setCell ?_ (by first | (simp; done) | (simp; omega)) _ | with_reducible refine Below.drew ?_)
          have hsV : n + 3 < V.heap.size := by have := lt_of_cell HBV.c0; omega
          clear hV a0 a1 a2 a3 a4 b0 b1 b2 b3 b4 af0 af1 af2 af3 af4 bf0 bf1 bf2 bf3 bf4
          obtain ⟨a0, a1, a2, a3, a4, -, -, -, -, -⟩ := HAV
          obtain ⟨b0, b1, b2, b3, b4, -, -, -, -, -⟩ := HBV
          refine bodyPost_ret (v := .tuple #[.agg (encL ⟨⟨u0, u1, u2, u3⟩, u4⟩).toArray, .agg (encL ⟨⟨v0, v1, v2, v3⟩, v4⟩).toArray, .bool true]) (by simp [results, Tryz.results119, go_sem, a0, a1, a2, a3, a4, b0, b1, b2, b3, b4, encL]) rfl ⟨by rw [HR.out]; rfl, by first | exact KV | (rw [hn]; exact KV)⟩
        | false =>
          go_wp2_with (fail)
          refine (HT2.out _ _ _ _ _ _ _ _ _ _ _ _ _ _ _ _ _ m0 m1 m2 m3 m4 q0 q1 q2 e7 e8 HA2 HB2 (by omega) (by omega) (by omega) (by omega) (by omega) (by omega) (by omega) (by omega) (by omega)).mono ?_
          rintro e w3 ⟨rfl, hu, HA3, HB3⟩
          have K3 := hide (K2.out.trans ((hu.below (n := n) (by omega) (by omega) (fun k hk => by injection hk with hk; omega)).mono (Nat.le_refl _)))
          have hsz3 : n + 3 < w3.heap.size := by have := hu.size; omega
          clear hu HA2 HB2 m0 m1 m2 m3 m4 q0 q1 q2 e7 e8 hsz2
          obtain ⟨a0, a1, a2, a3, a4, af0, af1, af2, af3, af4⟩ := HA3
          obtain ⟨b0, b1, b2, b3, b4, bf0, bf1, bf2, bf3, bf4⟩ := HB3
          obtain ⟨X, Y⟩ := X2
          obtain ⟨⟨u0, u1, u2, u3⟩, u4⟩ := X
          obtain ⟨⟨v0, v1, v2, v3⟩, v4⟩ := Y
          simp only at a0 a1 a2 a3 a4 b0 b1 b2 b3 b4
          cases T2 with
          | true =>
            go_wp2_with (fail)
            go_region
            go_wp2_with (fail)
            refine exit_name fun V hV => ?_
            have HAV : Box5L V (n + 1 + 1) ⟨⟨u0, u1, u2, u3⟩, u4⟩ := by rw [hV]; refine ⟨?_, ?_, ?_, ?_, ?_, ?_, ?_, ?_, ?_, ?_⟩ <;> simp [go_sem, a0, a1, a2, a3, a4, af0, af1, af2, af3, af4]
            have HBV : Box5L V (n + 1 + 1 + 1) ⟨⟨v0, v1, v2, v3⟩, v4⟩ := by rw [hV]; refine ⟨?_, ?_, ?_, ?_, ?_, ?_, ?_, ?_, ?_, ?_⟩ <;> simp [go_sem, b0, b1, b2, b3, b4, bf0, bf1, bf2, bf3, bf4]
            have KV : Below n w V := by
              rw [hV]
              repeat (first | with_reducible exact K3.out | with_reducible refine Below.setCell ?_ (by first | (simp; done) | (simp; omega)) _ | with_reducible refine Below.drew ?_)
            have hsV : n + 3 < V.heap.size := by have := lt_of_cell HBV.c0; omega
            clear hV a0 a1 a2 a3 a4 b0 b1 b2 b3 b4 af0 af1 af2 af3 af4 bf0 bf1 bf2 bf3 bf4
            obtain ⟨a0, a1, a2, a3, a4, -, -, -, -, -⟩ := HAV
            obtain ⟨b0, b1, b2, b3, b4, -, -, -, -, -⟩ := HBV
            refine bodyPost_ret (v := .tuple #[.agg (encL ⟨⟨u0, u1, u2, u3⟩, u4⟩).toArray, .agg (encL ⟨⟨v0, v1, v2, v3⟩, v4⟩).toArray, .bool true]) (by simp [results, Tryz.results119, go_sem, a0, a1, a2, a3, a4, b0, b1, b2, b3, b4, encL]) rfl ⟨by rw [HR.out]; rfl, by first | exact KV | (rw [hn]; exact KV)⟩
          | false =>
            go_wp2_with (fail)
            refine exit_name fun V hV => ?_
            have HAV : Box5L V (n + 1 + 1) zeroL := by rw [hV]; refine ⟨?_, ?_, ?_, ?_, ?_, ?_, ?_, ?_, ?_, ?_⟩ <;> simp [go_sem, a0, a1, a2, a3, a4, af0, af1, af2, af3, af4, zeroL]
            have HBV : Box5L V (n + 1 + 1 + 1) zeroL := by rw [hV]; refine ⟨?_, ?_, ?_, ?_, ?_, ?_, ?_, ?_, ?_, ?_⟩ <;> simp [go_sem, b0, b1, b2, b3, b4, bf0, bf1, bf2, bf3, bf4, zeroL]
            have KV : Below n w V := by
              rw [hV]
              repeat (first | with_reducible exact K3.out | with_reducible refine Below.setCell ?_ (by first | (simp; done) | (simp; omega)) _ | with_reducible refine Below.drew ?_)
            have hsV : n + 3 < V.heap.size := by have := lt_of_cell HBV.c0; omega
            clear hV a0 a1 a2 a3 a4 b0 b1 b2 b3 b4 af0 af1 af2 af3 af4 bf0 bf1 bf2 bf3 bf4
            obtain ⟨a0, a1, a2, a3, a4, -, -, -, -, -⟩ := HAV
            obtain ⟨b0, b1, b2, b3, b4, -, -, -, -, -⟩ := HBV
            refine bodyPost_ret (v := .tuple #[.agg (encL zeroL).toArray, .agg (encL zeroL).toArray, .bool false]) (by simp [results, Tryz.results119, go_sem, a0, a1, a2, a3, a4, b0, b1, b2, b3, b4, encL]) rfl ⟨by rw [HR.out]; rfl, by first | exact KV | (rw [hn]; exact KV)⟩
end Go.Proofs.YtdolpeljengpaaaGreat

/- The reference of lots: sides, checks, lengths, good lots. -/
namespace Go.Proofs.YtdolpeljengpaaaGreat
open Go.RowKit
set_option linter.unusedVariables false
set_option linter.unusedSimpArgs false

theorem ok_valid (r : R4) : okR r ↔ valid4 r := by simp only [okR, inR, valid4, fineP]
set_option maxHeartbeats 1000000 in
theorem rLot_any (l : Lot5) (hf : 0 ≤ l.f ∧ l.f ≤ 255) (w : World) : Calls Tryz.prog 112 #[.agg (encL l).toArray] w fun e w' => e = .returned (.bool (decide (validL l))) ∧ Below w.heap.size w w' := by
  have hv := fun W => rValid_any l.r W
  have e0 : decide (valid4 l.r) = decide (okR l.r) := decide_eq_decide.2 (ok_valid l.r).symm
  rw [e0] at hv
  have HD : Hid (decide (validL l) = (decide (okR l.r) && (decide (1 ≤ l.f) && decide (l.f ≤ 15)))) := hide (by
    rw [Bool.eq_iff_iff, decide_eq_true_iff]; simp only [Bool.and_eq_true, decide_eq_true_iff]; exact Iff.rfl)
  generalize decide (validL l) = V at *
  generalize decide (okR l.r) = D at *
  obtain ⟨⟨x0, y0, x1, y1⟩, f⟩ := l
  obtain ⟨f1, f2⟩ := hf
  simp only at f1 f2 HD
  have HV := hide hv
  clear hv e0
  show Calls Tryz.prog _ #[.agg #[.int .i64 x0, .int .i64 y0, .int .i64 x1, .int .i64 y1, .int .u8 f]] w _
  simp only [encR] at HV
  go_enter Tryz.func112, Tryz.ntmps112
  go_wp2_with (fail)
  obtain ⟨W, hW⟩ : ∃ x, x = w.alloc (.cells #[.int .i64 x0, .int .i64 y0, .int .i64 x1, .int .i64 y1, .int .u8 f] 71) := ⟨_, rfl⟩
  rw [← hW]
  have hb0 : Below w.heap.size w W := by rw [hW]; exact (Below.refl _ _).alloc (Nat.le_refl _) _
  have hs0 : w.heap.size < W.heap.size := by rw [hW]; simp
  have b4 : W.cell? ⟨w.heap.size, 4, none⟩ = some (.int .u8 f) := by rw [hW]; simp [go_sem]
  have K0 := hide hb0
  have HS0 := hide hs0
  have B4 := hide b4
  clear hW hb0 b4 hs0
  refine (HV.out _).mono ?_
  rintro e w1 ⟨rfl, hb⟩
  have d4 := (hb.cell (p := ⟨w.heap.size, 4, none⟩) HS0.out).trans B4.out
  have K1 := hide (K0.out.trans (hb.mono K0.out.size))
  clear hb
  cases D with
  | false =>
    go_wp2_with (fail)
    go_ret
    exact ⟨by rw [HD.out]; rfl, K1.out⟩
  | true =>
    go_wp2_with (fail)
    all_goals
      go_ret
      refine ⟨ret_eq (bool_eq ?_), K1.out⟩
      rw [HD.out, Bool.eq_iff_iff]
      simp
      try omega
set_option maxRecDepth 100000 in
set_option maxHeartbeats 4000000 in
theorem rCheckL_any (l : Lot5) (p : Pl3) (hf : 0 ≤ l.f ∧ l.f ≤ 255) (w : World) : Calls Tryz.prog 64 #[.agg (encL l).toArray, .agg (encP p).toArray] w fun e w' => e = .returned (.int .i64 (checkL l p)) ∧ Below w.heap.size w w' := by
  have hpv := fun W => rLot_any l hf W
  by_cases hv : validL l
  · rw [decide_eq_true hv] at hpv
    have HPV := hide hpv
    have HC : Hid (∀ b : Int, ((okP p → b = 0) ∧ (¬ okP p → b = 2)) → checkL l p = b) := hide (fun b hb => by
      unfold checkL
      rw [if_pos hv]
      by_cases h : okP p
      · rw [if_pos h, hb.1 h]
      · rw [if_neg h, hb.2 h])
    generalize checkL l p = C at *
    clear hpv hv hf
    obtain ⟨⟨x0, y0, x1, y1⟩, f⟩ := l
    obtain ⟨mf, ms, ma⟩ := p
    show Calls Tryz.prog _ #[.agg #[.int .i64 x0, .int .i64 y0, .int .i64 x1, .int .i64 y1, .int .u8 f], .agg #[.int .i64 mf, .int .i64 ms, .int .i64 ma]] w _
    simp only [encL] at HPV
    simp only [okP] at HC
    go_enter Tryz.func64, Tryz.ntmps64
    go_wp2_with (fail)
    obtain ⟨W, hW⟩ : ∃ x, x = (w.alloc (.cells #[.int .i64 x0, .int .i64 y0, .int .i64 x1, .int .i64 y1, .int .u8 f] 71)).alloc (.cells #[.int .i64 mf, .int .i64 ms, .int .i64 ma] 58) := ⟨_, rfl⟩
    rw [← hW]
    have hb0 : Below w.heap.size w W := by rw [hW]; exact ((Below.refl _ _).alloc (Nat.le_refl _) _).alloc (by simp) _
    have hs0 : w.heap.size + 1 < W.heap.size := by rw [hW]; simp
    have b0 : W.cell? ⟨w.heap.size + 1, 0, none⟩ = some (.int .i64 mf) := by rw [hW]; simp [go_sem]
    have b1 : W.cell? ⟨w.heap.size + 1, 1, none⟩ = some (.int .i64 ms) := by rw [hW]; simp [go_sem]
    have b2 : W.cell? ⟨w.heap.size + 1, 2, none⟩ = some (.int .i64 ma) := by rw [hW]; simp [go_sem]
    have HS := hide hs0
    have B0 := hide b0
    have B1 := hide b1
    have B2 := hide b2
    have K0 := hide hb0
    clear hW hb0 hs0 b0 b1 b2
    refine (HPV.out _).mono ?_
    rintro e w1 ⟨rfl, hb⟩
    have d0 := (hb.cell (p := ⟨w.heap.size + 1, 0, none⟩) HS.out).trans B0.out
    have d1 := (hb.cell (p := ⟨w.heap.size + 1, 1, none⟩) HS.out).trans B1.out
    have d2 := (hb.cell (p := ⟨w.heap.size + 1, 2, none⟩) HS.out).trans B2.out
    have K1 := hide (K0.out.trans (hb.mono K0.out.size))
    clear hb
    go_wp2_with (fail)
    all_goals
      go_ret
      refine ⟨ret_eq (int_eq (HC.out _ ?_).symm), K1.out⟩
      first
        | exact ⟨fun _ => rfl, fun h => absurd (by omega) h⟩
        | exact ⟨fun h => absurd h (by omega), fun _ => rfl⟩
  · rw [decide_eq_false hv] at hpv
    have HPV := hide hpv
    have hc8 : checkL l p = 8 := if_neg hv
    have HC := hide hc8
    clear hc8
    generalize checkL l p = C at *
    clear hpv hv hf
    obtain ⟨⟨x0, y0, x1, y1⟩, f⟩ := l
    obtain ⟨mf, ms, ma⟩ := p
    show Calls Tryz.prog _ #[.agg #[.int .i64 x0, .int .i64 y0, .int .i64 x1, .int .i64 y1, .int .u8 f], .agg #[.int .i64 mf, .int .i64 ms, .int .i64 ma]] w _
    simp only [encL] at HPV
    go_enter Tryz.func64, Tryz.ntmps64
    go_wp2_with (fail)
    refine (HPV.out _).mono ?_
    rintro e w1 ⟨rfl, hb⟩
    have K1 := hide ((((Below.refl w.heap.size w).alloc (Nat.le_refl _) (.cells #[.int .i64 x0, .int .i64 y0, .int .i64 x1, .int .i64 y1, .int .u8 f] 71)).alloc (by simp) (.cells #[.int .i64 mf, .int .i64 ms, .int .i64 ma] 58)).trans (hb.mono (by simp; omega)))
    clear hb
    go_wp2_with (fail)
    go_ret
    exact ⟨ret_eq (int_eq HC.out.symm), K1.out⟩
end Go.Proofs.YtdolpeljengpaaaGreat

/- The reference of lots: the longest side in a front, good lots. -/
namespace Go.Proofs.YtdolpeljengpaaaGreat
open Go.RowKit
set_option linter.unusedVariables false
set_option linter.unusedSimpArgs false

structure Box3 (w : World) (b : Nat) (v0 v1 v2 : Value) : Prop where
  c0 : w.cell? ⟨b, 0, none⟩ = some v0
  c1 : w.cell? ⟨b, 1, none⟩ = some v1
  c2 : w.cell? ⟨b, 2, none⟩ = some v2
theorem Box3.below {w w' : World} {b : Nat} {v0 v1 v2 : Value} (h : Box3 w b v0 v1 v2) (hb : Below w.heap.size w w') : Box3 w' b v0 v1 v2 := by
  have hs := lt_of_cell h.c0
  exact ⟨(hb.cell (p := ⟨b, 0, none⟩) hs).trans h.c0, (hb.cell (p := ⟨b, 1, none⟩) hs).trans h.c1, (hb.cell (p := ⟨b, 2, none⟩) hs).trans h.c2⟩
theorem Box5L.below {w w' : World} {b : Nat} {l : Lot5} (h : Box5L w b l) (hb : Below w.heap.size w w') : Box5L w' b l := Box5.below h hb
end Go.Proofs.YtdolpeljengpaaaGreat

/- The walk of parcel.Cut. -/

namespace Go.Proofs.YtdolpeljengpaaaGreat
open Go.RowKit
set_option linter.unusedVariables false
set_option linter.unusedSimpArgs false

def cutE (l : Lot5) (p : Pl3) : Lot5 × Lot5 × Int := if checkL l p = 0 then (if (cutR l p).2.2 = true then ((cutR l p).1, (cutR l p).2.1, 0) else (zeroL, zeroL, 6)) else (zeroL, zeroL, checkL l p)
theorem checkL_valid {l : Lot5} {p : Pl3} (h : checkL l p = 0) : validL l := by
  unfold checkL at h
  by_cases hv : validL l
  · exact hv
  · rw [if_neg hv] at h; cases h
end Go.Proofs.YtdolpeljengpaaaGreat

/- parcel.Split: what holds between its rounds; no walk yet. -/
namespace Go.Proofs.YtdolpeljengpaaaGreat
open Go.RowKit
set_option linter.unusedVariables false
set_option linter.unusedSimpArgs false

def splitR (l : Lot5) (p : Pl3) : List Lot5 × Int := if checkL l p = 0 then (if (leaves p l).length ≤ 400 then (leaves p l, 0) else ([], 4)) else ([], checkL l p)
/-- Lots of the call's own and a code come back. -/
def LotsRet (w : World) (R : List Lot5 × Int) (e : Ending) (w' : World) : Prop :=
  (∃ A c, e = .returned (.tuple #[.slice A R.1.length c, .int .i64 R.2]) ∧ w'.ownsRow w.heap.size 71 5 (.slice A R.1.length c) R.1.length (R.1.flatMap encL)) ∧ Below w.heap.size w w'
theorem infoLot : (Tryz.prog.info? 71).map (fun i => (i.zero, i.size, i.bytes)) = some (some (.agg #[.int .i64 0, .int .i64 0, .int .i64 0, .int .i64 0, .int .u8 0]), 5, 40) := by kernel_rfl
theorem infoLand : (Tryz.prog.info? 176).map (fun i => (i.zero, i.size, i.bytes)) = some (some (.agg #[.int .i64 0, .int .i64 0, .int .i64 0, .int .i64 0, .int .u8 0]), 5, 40) := by kernel_rfl
theorem ty_ne : 71 ≠ 176 := by decide
/-- The lots on the stack, the next one last. -/
def stackL (p : Pl3) (S : List Lot5) : List Lot5 := S.reverse.flatMap (leaves p)
def nodesS (p : Pl3) (S : List Lot5) : Nat := (S.map (nodes p)).sum
structure StackOk (l : Lot5) (p : Pl3) (O S : List Lot5) : Prop where
  eq : O ++ stackL p S = leaves p l
  ok : ∀ (i : Nat) (x : Lot5), S[i]? = some x → validL x ∧ i + sizeL x ≤ sizeL l
  lenO : O.length ≤ 400
theorem StackOk.start {l : Lot5} {p : Pl3} (h : validL l) : StackOk l p [] [l] := ⟨by simp [stackL], fun i x hx => by
  cases i with
  | zero => simp at hx; subst hx; exact ⟨h, by omega⟩
  | succ i => simp at hx, by simp⟩
theorem StackOk.top {l x : Lot5} {p : Pl3} {O S : List Lot5} (h : StackOk l p O (S ++ [x])) : validL x ∧ S.length + sizeL x ≤ sizeL l := h.ok S.length x (by simp)
theorem StackOk.leaf {l x : Lot5} {p : Pl3} {O S : List Lot5} (h : StackOk l p O (S ++ [x])) (hc : cutL p x = none) (hn : O.length + 1 ≤ 400) : StackOk l p (O ++ [x]) S := ⟨by
  have := h.eq
  simp only [stackL, List.reverse_append, List.reverse_cons, List.reverse_nil, List.nil_append, List.cons_append, List.flatMap_cons, leaves_none hc] at this
  rw [← this]
  simp [stackL], fun i y hy => h.ok i y (by rw [List.getElem?_append_left (List.getElem?_eq_some_iff.1 hy).1]; exact hy), by simpa using hn⟩
theorem StackOk.many {l x : Lot5} {p : Pl3} {O S : List Lot5} (h : StackOk l p O (S ++ [x])) (hn : 400 < O.length + 1) : 400 < (leaves p l).length := by
  have h1 := h.eq
  have h2 := leaves_ne p x
  simp only [stackL, List.reverse_append, List.reverse_cons, List.reverse_nil, List.nil_append, List.cons_append, List.flatMap_cons] at h1
  rw [← h1]
  simp only [List.length_append]
  omega
theorem StackOk.cut {l x a b : Lot5} {p : Pl3} {O S : List Lot5} (h : StackOk l p O (S ++ [x])) (hc : cutL p x = some (a, b)) : StackOk l p O (S ++ [b, a]) := ⟨by
  have := h.eq
  simp only [stackL, List.reverse_append, List.reverse_cons, List.reverse_nil, List.nil_append, List.cons_append, List.flatMap_cons, leaves_some hc] at this
  rw [← this]
  simp [stackL], fun i y hy => by
    obtain ⟨_, g1, g2, _⟩ := cutL_some hc
    have hlt := cutL_lt hc
    obtain ⟨t1, t2⟩ := h.top
    by_cases hi : i < S.length
    · rw [List.getElem?_append_left hi] at hy
      exact h.ok i y (by rw [List.getElem?_append_left hi]; exact hy)
    · rw [List.getElem?_append_right (by omega)] at hy
      have : i = S.length ∨ i = S.length + 1 := by
        have := (List.getElem?_eq_some_iff.1 hy).1
        simp at this
        omega
      rcases this with rfl | rfl
      · simp at hy; subst hy; exact ⟨g2.1, by omega⟩
      · simp at hy; subst hy; exact ⟨g1.1, by omega⟩, h.lenO⟩
theorem nodes_leaf {p : Pl3} {x : Lot5} {S : List Lot5} (hc : cutL p x = none) : nodesS p (S ++ [x]) = nodesS p S + 1 := by
  simp [nodesS, nodes_none hc]
theorem nodes_cut {p : Pl3} {x a b : Lot5} {S : List Lot5} (hc : cutL p x = some (a, b)) : nodesS p (S ++ [x]) = nodesS p (S ++ [b, a]) + 1 := by
  simp [nodesS, nodes_some hc]; omega
theorem sizeL_le {l : Lot5} (h : validL l) : sizeL l ≤ 4000000 := by
  have := valid_pos h
  unfold sizeL; omega
theorem cutR_true {l a b : Lot5} {p : Pl3} (h : cutR l p = (a, b, true)) : cutL p l = some (a, b) := by
  unfold cutR at h
  split at h
  · rename_i x hx
    rw [hx]
    obtain ⟨x1, x2⟩ := x
    simp at h
    rw [h.1, h.2]
  · simp at h
theorem cutR_false {l a b : Lot5} {p : Pl3} (h : cutR l p = (a, b, false)) : cutL p l = none := by
  unfold cutR at h
  split at h
  · simp at h
  · rename_i hx; exact hx
/-- The two rows and the wishes, between the rounds. -/
structure Rows2 (n : Nat) (w : World) (p : Pl3) (O S : List Lot5) (ov sv : Value) (no ns : Nat) (wr : World) : Prop where
  rowO : wr.ownsRow (n + 2) 71 5 ov no (O.flatMap encL)
  rowS : wr.ownsRow (n + 2) 176 5 sv ns (S.flatMap encL)
  below : Below n w wr
  size : n + 2 ≤ wr.heap.size
  box : Box3 wr (n + 1) (.int .i64 p.mf) (.int .i64 p.ms) (.int .i64 p.ma)
theorem Rows2.keep {n : Nat} {w wr w' : World} {p : Pl3} {O S : List Lot5} {ov sv : Value} {no ns : Nat} (h : Rows2 n w p O S ov sv no ns wr) (hb : Below wr.heap.size wr w') : Rows2 n w p O S ov sv no ns w' :=
  ⟨own_below h.rowO hb, own_below h.rowS hb, h.below.trans (hb.mono (by have := h.size; omega)), Nat.le_trans h.size hb.size, h.box.below hb⟩
theorem Rows2.pop {n : Nat} {w wr : World} {p : Pl3} {O S : List Lot5} {x : Lot5} {ov : Value} {no g k cp : Nat} (h : Rows2 n w p O (S ++ [x]) ov (.slice (some ⟨g, 0, none⟩) (k + 1) cp) no (k + 1) wr) : Rows2 n w p O S ov (.slice (some ⟨g, 0, none⟩) k cp) no k wr := by
  have h1 := h.rowS
  rw [List.flatMap_append] at h1
  have hl := h1.1
  rw [List.length_append] at hl
  have e1 : ([x].flatMap encL).length = 5 := rfl
  exact ⟨h.rowO, ownsRow_pop (by omega) h1, h.below, h.size, h.box⟩
theorem Rows2.grow {n : Nat} {w wr w' : World} {row : Option Nat} (hb : Below n w wr) (hs : n + 2 ≤ wr.heap.size) (hg : wr.grownBy w' row) (hr : ∀ q, row = some q → n + 2 ≤ q) : Below n w w' ∧ n + 2 ≤ w'.heap.size :=
  ⟨hb.grown hg (by omega) (fun q hq => by have := hr q hq; omega), Nat.le_trans hs hg.size⟩
theorem box_grown {w w' : World} {b : Nat} {v0 v1 v2 : Value} {row : Option Nat} (h : Box3 w b v0 v1 v2) (hg : w.grownBy w' row) (hr : ∀ q, row = some q → q ≠ b) : Box3 w' b v0 v1 v2 := by
  have hs := lt_of_cell h.c0
  have hb : w'.heap[b]? = w.heap[b]? := hg.block b hs (fun e => hr b e.symm rfl)
  exact ⟨(World.cell?_of_block (a := ⟨b, 0, none⟩) hb).trans h.c0, (World.cell?_of_block (a := ⟨b, 1, none⟩) hb).trans h.c1, (World.cell?_of_block (a := ⟨b, 2, none⟩) hb).trans h.c2⟩
theorem Rows2.pushO {n : Nat} {w wr w' : World} {p : Pl3} {O O' S : List Lot5} {ov ov' sv : Value} {no no' ns : Nat} (h : Rows2 n w p O S ov sv no ns wr) (hg : wr.grownBy w' ov.ownBlock) (ho : w'.ownsRow (n + 2) 71 5 ov' no' (O'.flatMap encL)) : Rows2 n w p O' S ov' sv no' ns w' := by
  have hr : ∀ q, ov.ownBlock = some q → n + 2 ≤ q := fun q hq => (h.rowO.lt q hq).1
  obtain ⟨h1, h2⟩ := Rows2.grow h.below h.size hg hr
  exact ⟨ho, h.rowS.kept hg (own_apart h.rowS h.rowO ty_ne.symm), h1, h2, box_grown h.box hg (fun q hq => by have := hr q hq; omega)⟩
theorem Rows2.pushS {n : Nat} {w wr w' : World} {p : Pl3} {O S S' : List Lot5} {ov sv sv' : Value} {no ns ns' : Nat} (h : Rows2 n w p O S ov sv no ns wr) (hg : wr.grownBy w' sv.ownBlock) (ho : w'.ownsRow (n + 2) 176 5 sv' ns' (S'.flatMap encL)) : Rows2 n w p O S' ov sv' no ns' w' := by
  have hr : ∀ q, sv.ownBlock = some q → n + 2 ≤ q := fun q hq => (h.rowS.lt q hq).1
  obtain ⟨h1, h2⟩ := Rows2.grow h.below h.size hg hr
  exact ⟨h.rowO.kept hg (own_apart h.rowO h.rowS ty_ne), ho, h1, h2, box_grown h.box hg (fun q hq => by have := hr q hq; omega)⟩
theorem row_cap {w : World} {base : Nat} {e : TypeId} {size g n cap : Nat} {xs : List Value} (h : w.ownsRow base e size (.slice (some ⟨g, 0, none⟩) n cap) n xs) : n ≤ cap := by
  rcases h.2 with ⟨h0, _⟩ | ⟨g', cap', cur, hv, _, _, hn, _⟩
  · cases h0
  · cases hv; exact hn
/-- The next lot's cells. -/
theorem Rows2.top {n : Nat} {w wr : World} {p : Pl3} {O S : List Lot5} {x : Lot5} {ov : Value} {no g k cp : Nat} (h : Rows2 n w p O (S ++ [x]) ov (.slice (some ⟨g, 0, none⟩) (k + 1) cp) no (k + 1) wr) : S.length = k ∧ ∀ i u, (encL x)[i]? = some u → wr.cell? ⟨g, k * 5 + i, none⟩ = some u := by
  have h1 := h.rowS
  have hl := own_len h1 (fun _ => rfl) (by omega)
  simp at hl
  refine ⟨hl.symm, fun i u hu => ?_⟩
  have := h1.cells (g := g) rfl _ _ (flat_get (k := 5) (fun _ => rfl) (S ++ [x]) k x i u (by rw [hl]; simp) hu)
  rw [addr_add] at this
  exact this
end Go.Proofs.YtdolpeljengpaaaGreat

/- The walks of lots' small functions: beside, the closure of on, on, fine. -/
namespace Go.Proofs.YtdolpeljengpaaaGreat
open Go.RowKit
set_option linter.unusedVariables false
set_option linter.unusedSimpArgs false

set_option maxHeartbeats 4000000 in
theorem lbeside_any (r : R4) (i : Nat) (hi : i < 4) (h : okR r) (w : World) : Calls Tryz.prog 117 #[.agg (encR r).toArray, .int .i64 i] w fun e w' => e = .returned (.agg (encR (besF r i)).toArray) ∧ Below w.heap.size w w' := by
  obtain ⟨x0, y0, x1, y1⟩ := r
  simp only [okR, inR] at h
  obtain ⟨h1, h2, ⟨h3, h4⟩, ⟨h5, h6⟩, ⟨h7, h8⟩, ⟨h9, h10⟩⟩ := h
  have hb : ∀ (Z : World) (v : Value), Z = Z → True := fun _ _ _ => trivial
  clear hb
  match i, hi with
  | 0, _ =>
    show Calls Tryz.prog _ #[.agg #[.int .i64 x0, .int .i64 y0, .int .i64 x1, .int .i64 y1], .int .i64 0] w fun e w' => e = .returned (.agg #[.int .i64 (x0 - 1), .int .i64 y0, .int .i64 x0, .int .i64 y1]) ∧ Below w.heap.size w w'
    go_enter Tryz.func117, Tryz.ntmps117
    go_wp2
    refine bodyPost_ret (v := .agg #[.int .i64 (x0 - 1), .int .i64 y0, .int .i64 x0, .int .i64 y1]) (by simp [results, Tryz.results117, go_sem]) rfl ⟨rfl, ?_⟩
    repeat (first | with_reducible exact Below.refl _ _ | with_reducible refine Below.setCell ?_ (by first | (simp; done) | (simp; omega)) _ | with_reducible refine Below.alloc ?_ (by first | omega | (simp; omega) | simp) _)
  | 1, _ =>
    show Calls Tryz.prog _ #[.agg #[.int .i64 x0, .int .i64 y0, .int .i64 x1, .int .i64 y1], .int .i64 1] w fun e w' => e = .returned (.agg #[.int .i64 x1, .int .i64 y0, .int .i64 (x1 + 1), .int .i64 y1]) ∧ Below w.heap.size w w'
    go_enter Tryz.func117, Tryz.ntmps117
    go_wp2
    refine bodyPost_ret (v := .agg #[.int .i64 x1, .int .i64 y0, .int .i64 (x1 + 1), .int .i64 y1]) (by simp [results, Tryz.results117, go_sem]) rfl ⟨rfl, ?_⟩
    repeat (first | with_reducible exact Below.refl _ _ | with_reducible refine Below.setCell ?_ (by first | (simp; done) | (simp; omega)) _ | with_reducible refine Below.alloc ?_ (by first | omega | (simp; omega) | simp) _)
  | 2, _ =>
    show Calls Tryz.prog _ #[.agg #[.int .i64 x0, .int .i64 y0, .int .i64 x1, .int .i64 y1], .int .i64 2] w fun e w' => e = .returned (.agg #[.int .i64 x0, .int .i64 (y0 - 1), .int .i64 x1, .int .i64 y0]) ∧ Below w.heap.size w w'
    go_enter Tryz.func117, Tryz.ntmps117
    go_wp2
    refine bodyPost_ret (v := .agg #[.int .i64 x0, .int .i64 (y0 - 1), .int .i64 x1, .int .i64 y0]) (by simp [results, Tryz.results117, go_sem]) rfl ⟨rfl, ?_⟩
    repeat (first | with_reducible exact Below.refl _ _ | with_reducible refine Below.setCell ?_ (by first | (simp; done) | (simp; omega)) _ | with_reducible refine Below.alloc ?_ (by first | omega | (simp; omega) | simp) _)
  | 3, _ =>
    show Calls Tryz.prog _ #[.agg #[.int .i64 x0, .int .i64 y0, .int .i64 x1, .int .i64 y1], .int .i64 3] w fun e w' => e = .returned (.agg #[.int .i64 x0, .int .i64 y1, .int .i64 x1, .int .i64 (y1 + 1)]) ∧ Below w.heap.size w w'
    go_enter Tryz.func117, Tryz.ntmps117
    go_wp2
    refine bodyPost_ret (v := .agg #[.int .i64 x0, .int .i64 y1, .int .i64 x1, .int .i64 (y1 + 1)]) (by simp [results, Tryz.results117, go_sem]) rfl ⟨rfl, ?_⟩
    repeat (first | with_reducible exact Below.refl _ _ | with_reducible refine Below.setCell ?_ (by first | (simp; done) | (simp; omega)) _ | with_reducible refine Below.alloc ?_ (by first | omega | (simp; omega) | simp) _)
/-- The bounds of a rectangle beside a valid one. -/
def midR (r : R4) : Prop := -1000001 ≤ r.x0 ∧ r.x0 ≤ 1000001 ∧ -1000001 ≤ r.y0 ∧ r.y0 ≤ 1000001 ∧ -1000001 ≤ r.x1 ∧ r.x1 ≤ 1000001 ∧ -1000001 ≤ r.y1 ∧ r.y1 ≤ 1000001 ∧ r.x1 - r.x0 ≤ 2000000 ∧ r.y1 - r.y0 ≤ 2000000
theorem bes_mid {r : R4} (h : okR r) (i : Nat) : midR (besF r i) := by
  unfold okR inR at h
  unfold besF midR
  split <;> (simp only; omega)
set_option maxHeartbeats 4000000 in
theorem onC_any (r q : R4) (hr : midR r) (hq : okR q) (s : Int) (b c : Nat) (w : World) (hs : 0 ≤ s ∧ s ≤ 4000000000000000) (hne : b ≠ c)
    (d0 : w.cell? ⟨b, 0, none⟩ = some (.int .i64 r.x0)) (d1 : w.cell? ⟨b, 1, none⟩ = some (.int .i64 r.y0)) (d2 : w.cell? ⟨b, 2, none⟩ = some (.int .i64 r.x1)) (d3 : w.cell? ⟨b, 3, none⟩ = some (.int .i64 r.y1))
    (e0 : w.cell? ⟨c, 0, none⟩ = some (.int .i64 s)) (f0 : w.frozen? ⟨c, 0, none⟩ = false) :
    Calls Tryz.prog 164 #[.agg (encR q).toArray, .pointer (some ⟨b, 0, none⟩), .pointer (some ⟨c, 0, none⟩)] w fun e w' => e = .returned (.tuple #[]) ∧
      w'.cell? ⟨c, 0, none⟩ = some (.int .i64 (s + onQ r q)) ∧ w'.frozen? ⟨c, 0, none⟩ = false ∧ Upd c none w w' := by
  have hbd := onQ_bd r q hr.2.2.2.2.2.2.2.2.1 hr.2.2.2.2.2.2.2.2.2
  have HQ := hide (show onQ r q = if 0 < min r.x1 q.x1 - max r.x0 q.x0 ∧ 0 < min r.y1 q.y1 - max r.y0 q.y0 then (min r.x1 q.x1 - max r.x0 q.x0) * (min r.y1 q.y1 - max r.y0 q.y0) else 0 from rfl)
  obtain ⟨x0, y0, x1, y1⟩ := r
  obtain ⟨u0, v0, u1, v1⟩ := q
  simp only [okR, inR] at hq
  simp only [midR] at hr
  obtain ⟨h1, h2, ⟨h3, h4⟩, ⟨h5, h6⟩, ⟨h7, h8⟩, ⟨h9, h10⟩⟩ := hq
  obtain ⟨g1, g2, g3, g4, g5, g6, g7, g8, g9, g10⟩ := hr
  obtain ⟨s1, s2⟩ := hs
  obtain ⟨k1, k2⟩ := hbd
  simp only at d0 d1 d2 d3
  have lb := lt_of_cell d0
  have lc := lt_of_cell e0
  have nb : b ≠ w.heap.size := by omega
  have nc : c ≠ w.heap.size := by omega
  generalize onQ (⟨x0, y0, x1, y1⟩ : R4) ⟨u0, v0, u1, v1⟩ = Q at *
  simp only at HQ
  show Calls Tryz.prog _ #[.agg #[.int .i64 u0, .int .i64 v0, .int .i64 u1, .int .i64 v1], .pointer (some ⟨b, 0, none⟩), .pointer (some ⟨c, 0, none⟩)] w _
  have fin : ∀ Z : Int, Q = Z → ∀ W : World, W.cell? ⟨c, 0, none⟩ = some (.int .i64 s) → True := fun _ _ _ _ => trivial
  clear fin
  by_cases t1 : 0 < min x1 u1 - max x0 u0
  · by_cases t2 : 0 < min y1 v1 - max y0 v0
    · have e : Q = (min x1 u1 - max x0 u0) * (min y1 v1 - max y0 v0) := by rw [HQ.out, if_pos ⟨t1, t2⟩]
      rw [e] at k1 k2 ⊢
      have z1 : IntKind.i64.wrap ((min x1 u1 - max x0 u0) * (min y1 v1 - max y0 v0)) = (min x1 u1 - max x0 u0) * (min y1 v1 - max y0 v0) := IntWalk.i64_in _ (by omega)
      have z2 : IntKind.i64.wrap (s + (min x1 u1 - max x0 u0) * (min y1 v1 - max y0 v0)) = s + (min x1 u1 - max x0 u0) * (min y1 v1 - max y0 v0) := IntWalk.i64_in _ (by omega)
      clear HQ e
      go_enter Tryz.func164, Tryz.ntmps164
      go_wp2
      refine wp_hab fun hab => ?_
      refine wp_region_above (by kernel_rfl) (by kernel_rfl) ?_
      repeat (go_big_quiet_step (fail))
      refine wpQuiet_nil ?_
      refine above_ends fun w3 hb3 => ?_
      clear hab
      have hbW : Below w.heap.size w w3 := ((Below.refl _ _).alloc (Nat.le_refl _) _).trans (hb3.mono (by first | omega | simp))
      have c3 := (hbW.cell (p := ⟨c, 0, none⟩) lc).trans e0
      have f3 := (hbW.frozen (p := ⟨c, 0, none⟩) lc).trans f0
      have K3 : Hid (Upd c none w w3) := hide (Upd.of_below hbW)
      clear hb3 hbW
      go_wp2_with (fail)
      refine bodyPost_end (results_none rfl _ _ _) rfl ?_
      exact ⟨rfl, by simp [go_sem, c3], by simp [go_sem, f3], K3.out.setCell _ _⟩
    · have e : Q = 0 := by rw [HQ.out, if_neg (fun h => t2 h.2)]
      rw [e, Int.add_zero]
      clear HQ e k1 k2
      go_enter Tryz.func164, Tryz.ntmps164
      go_wp2
      refine wp_hab fun hab => ?_
      refine wp_region_above (by kernel_rfl) (by kernel_rfl) ?_
      repeat (go_big_quiet_step (fail))
      refine wpQuiet_nil ?_
      refine above_ends fun w3 hb3 => ?_
      clear hab
      have hbW : Below w.heap.size w w3 := ((Below.refl _ _).alloc (Nat.le_refl _) _).trans (hb3.mono (by first | omega | simp))
      have c3 := (hbW.cell (p := ⟨c, 0, none⟩) lc).trans e0
      have f3 := (hbW.frozen (p := ⟨c, 0, none⟩) lc).trans f0
      have K3 : Hid (Upd c none w w3) := hide (Upd.of_below hbW)
      clear hb3 hbW
      go_wp2_with (fail)
      refine bodyPost_end (results_none rfl _ _ _) rfl ?_
      exact ⟨rfl, c3, f3, K3.out⟩
  · have e : Q = 0 := by rw [HQ.out, if_neg (fun h => t1 h.1)]
    rw [e, Int.add_zero]
    clear HQ e k1 k2
    go_enter Tryz.func164, Tryz.ntmps164
    go_wp2
    refine wp_hab fun hab => ?_
    refine wp_region_above (by kernel_rfl) (by kernel_rfl) ?_
    repeat (go_big_quiet_step (fail))
    refine wpQuiet_nil ?_
    refine above_ends fun w3 hb3 => ?_
    clear hab
    have hbW : Below w.heap.size w w3 := ((Below.refl _ _).alloc (Nat.le_refl _) _).trans (hb3.mono (by first | omega | simp))
    have c3 := (hbW.cell (p := ⟨c, 0, none⟩) lc).trans e0
    have f3 := (hbW.frozen (p := ⟨c, 0, none⟩) lc).trans f0
    have K3 : Hid (Upd c none w w3) := hide (Upd.of_below hbW)
    clear hb3 hbW
    go_wp2_with (fail)
    refine bodyPost_end (results_none rfl _ _ _) rfl ?_
    exact ⟨rfl, c3, f3, K3.out⟩
end Go.Proofs.YtdolpeljengpaaaGreat

/- The walk of lots' on. -/
namespace Go.Proofs.YtdolpeljengpaaaGreat
open Go.RowKit
set_option linter.unusedVariables false
set_option linter.unusedSimpArgs false

/-- The boxes of on: its rectangle, and its sum. -/
structure OnI (n : Nat) (w : World) (r : R4) (t : Int) (wr : World) : Prop where
  d0 : wr.cell? ⟨n, 0, none⟩ = some (.int .i64 r.x0)
  d1 : wr.cell? ⟨n, 1, none⟩ = some (.int .i64 r.y0)
  d2 : wr.cell? ⟨n, 2, none⟩ = some (.int .i64 r.x1)
  d3 : wr.cell? ⟨n, 3, none⟩ = some (.int .i64 r.y1)
  e0 : wr.cell? ⟨n + 1, 0, none⟩ = some (.int .i64 t)
  f0 : wr.frozen? ⟨n + 1, 0, none⟩ = false
  below : Below n w wr
  size : n + 2 ≤ wr.heap.size
theorem OnI.keep {n : Nat} {w wr w' : World} {r : R4} {t : Int} (h : OnI n w r t wr) (hb : Below wr.heap.size wr w') : OnI n w r t w' := by
  have := h.size
  exact ⟨(hb.cell (p := ⟨n, 0, none⟩) (by simp; omega)).trans h.d0, (hb.cell (p := ⟨n, 1, none⟩) (by simp; omega)).trans h.d1, (hb.cell (p := ⟨n, 2, none⟩) (by simp; omega)).trans h.d2, (hb.cell (p := ⟨n, 3, none⟩) (by simp; omega)).trans h.d3, (hb.cell (p := ⟨n + 1, 0, none⟩) (by simp; omega)).trans h.e0, (hb.frozen (p := ⟨n + 1, 0, none⟩) (by simp; omega)).trans h.f0, h.below.trans (hb.mono (by omega)), Nat.le_trans h.size hb.size⟩
theorem OnI.next {n : Nat} {w wr w' : World} {r : R4} {t u : Int} (h : OnI n w r t wr) (e0 : w'.cell? ⟨n + 1, 0, none⟩ = some (.int .i64 u)) (f0 : w'.frozen? ⟨n + 1, 0, none⟩ = false) (hu : Upd (n + 1) none wr w') : OnI n w r u w' := by
  have := h.size
  exact ⟨(hu.cell (by omega) (by omega) (by simp)).trans h.d0, (hu.cell (by omega) (by omega) (by simp)).trans h.d1, (hu.cell (by omega) (by omega) (by simp)).trans h.d2, (hu.cell (by omega) (by omega) (by simp)).trans h.d3, e0, f0, h.below.trans (hu.below (by omega) (by omega) (by simp)), Nat.le_trans h.size hu.size⟩
set_option maxHeartbeats 4000000 in
theorem on_any (r : R4) (hr : midR r) {w : World} {v : Value} {s : List R4} (hs : RdK encR 4 w w.heap.size v s) (hv : ∀ q ∈ s, okR q) (hl : s.length ≤ 400) :
    Calls Tryz.prog 118 #[.agg (encR r).toArray, v] w fun e w' => e = .returned (.int .i64 (onF r s)) ∧ Below w.heap.size w w' := by
  obtain ⟨A, c, hvv, hc⟩ := id hs
  subst hvv
  have HRC := hide hc
  have HV := hide hv
  have HM := hide hr
  have HBD : Hid (∀ m : Nat, 0 ≤ onF r (s.take m) ∧ onF r (s.take m) ≤ 4000000000000000) := hide (fun m => by
    have h1 := onF_bd (r := r) hr.2.2.2.2.2.2.2.2.1 hr.2.2.2.2.2.2.2.2.2 (s.take m)
    have h2 : (s.take m).length ≤ 400 := by rw [List.length_take]; omega
    omega)
  have HT : Hid (onF r (s.take s.length) = onF r s) := hide (by rw [List.take_length])
  clear hc hv hr hs
  show Calls Tryz.prog _ #[.agg #[.int .i64 r.x0, .int .i64 r.y0, .int .i64 r.x1, .int .i64 r.y1], .slice A s.length c] w _
  go_enter Tryz.func118, Tryz.ntmps118
  go_upto_region 3 with fail
  refine wp_name5 fun w2 hw2 => ?_
  have HI : Hid (OnI w.heap.size w r 0 w2) := hide (by
    rw [hw2]
    refine ⟨?_, ?_, ?_, ?_, ?_, ?_, ?_, ?_⟩
    all_goals first
      | (simp [go_sem]; done)
      | (repeat (first | with_reducible exact Below.refl _ _ | with_reducible refine Below.setCell ?_ (by first | (simp; done) | (simp; omega)) _ | with_reducible refine Below.alloc ?_ (by first | omega | (simp; omega) | simp) _))
      | (simp; omega))
  generalize hn : w.heap.size = n at *
  have HN := hide hn
  clear hw2 hn
  have lz : (s.length : Int) ≤ 400 := by omega
  go_wp2_with (fail)
  go_loopw [12] (fun i wr => ∃ m : Nat, m ≤ s.length ∧ i = .int .i64 m ∧ Hid (OnI n w r (onF r (s.take m)) wr)) (fun i _ => s.length - (intOf i).toNat)
  case atStart => exact ⟨0, Nat.zero_le _, rfl, HI⟩
  case round =>
    clear HI
    obtain ⟨m, hm, rfl, HI⟩ := hrel
    by_cases hlt : m < s.length
    · obtain ⟨q, hp⟩ : ∃ p, s[m]? = some p := ⟨_, List.getElem?_eq_getElem hlt⟩
      obtain ⟨b, o, rfl, hbl, k⟩ := HRC.out (by intro e; rw [e] at hlt; simp at hlt)
      have hb := HI.out.below
      have hsz := HI.out.size
      have d0 : wr.cell? ⟨b, o + m * 4, none⟩ = some (.int .i64 q.x0) := (hb.cell (p := ⟨b, _, none⟩) hbl).trans (k m _ hp 0 _ rfl)
      have d1 : wr.cell? ⟨b, o + m * 4 + 1, none⟩ = some (.int .i64 q.y0) := (hb.cell (p := ⟨b, _, none⟩) hbl).trans (k m _ hp 1 _ rfl)
      have d2 : wr.cell? ⟨b, o + m * 4 + 2, none⟩ = some (.int .i64 q.x1) := (hb.cell (p := ⟨b, _, none⟩) hbl).trans (k m _ hp 2 _ rfl)
      have d3 : wr.cell? ⟨b, o + m * 4 + 3, none⟩ = some (.int .i64 q.y1) := (hb.cell (p := ⟨b, _, none⟩) hbl).trans (k m _ hp 3 _ rfl)
      have hq := HV.out q (List.mem_of_getElem? hp)
      have HE := hide (onF_take (r := r) hp)
      have mz : (m : Int) < (s.length : Int) := by omega
      have HC : Hid (∀ W : World, OnI n w r (onF r (s.take m)) W → Calls Tryz.prog 164 #[.agg #[.int .i64 q.x0, .int .i64 q.y0, .int .i64 q.x1, .int .i64 q.y1], .pointer (some ⟨n, 0, none⟩), .pointer (some ⟨n + 1, 0, none⟩)] W fun e w' => e = .returned (.tuple #[]) ∧ OnI n w r (onF r (s.take (m + 1))) w') := hide (fun W hW => (onC_any r q HM.out hq _ n (n + 1) W (HBD.out m) (by omega) hW.d0 hW.d1 hW.d2 hW.d3 hW.e0 hW.f0).mono fun e w' ⟨he, e0, f0, hu⟩ => ⟨he, by rw [HE.out]; exact hW.next e0 f0 hu⟩)
      clear hb k hp hq HE
      go_wp2_with (fail)
      refine (HC.out _ (HI.out.keep ((Below.refl _ _).alloc (Nat.le_refl _) _))).mono ?_
      rintro e w3 ⟨rfl, h3⟩
      have HI3 := hide h3
      clear h3 HC HI d0 d1 d2 d3
      go_wp2_with (fail)
      go_roundw
      case rel => exact ⟨m + 1, by omega, by go_num, HI3⟩
      case measure => simp [intOf]; omega
    · obtain rfl : m = s.length := by omega
      obtain ⟨_, _, _, _, e0, _, hb, _⟩ := HI.out
      have HB := hide hb
      rw [HT.out] at e0
      clear hb
      go_wp2
      go_ret
      exact ⟨rfl, by rw [HN.out]; exact HB.out⟩
end Go.Proofs.YtdolpeljengpaaaGreat
