/- Texts laid together: MeshF, MeshG, TexO, TexD. Lemmas for the statements of this seat; no condition. -/
import Derived.Test.YtjlfdgoijalfaaaGreatPk9
import Derived.Test.YtjlfdgoijalfaaaGreatPk10
import Derived.Test.YtjlfdgoijalfaaaGreatPk7
import Derived.Laws.StructEq
import Derived.Deep.QuietTactic
import Derived.BigQuiet
import Derived.Test.YtjlfdgoijalfaaaGreatPk6

/- texture.Face and gambrelref41.Face: the tiling of a quad's rectangle. -/
namespace Go.Proofs.YtjlfdgoijalfaaaGreat
open Go.RowKit
set_option linter.unusedVariables false
set_option linter.unusedSimpArgs false
attribute [local go_sem] Oper.semAt_some

def faceF (W H S : Int) (q : Qd7) : List (Ky × List R4) × Int := if chkQ q = 0 then tileF W H S [flatR q] else ([], chkQ q)
theorem rdf_one (w : World) (a b c d : Int) (t : TypeId) : RdK encR 4 (w.alloc (.cells #[.int .i64 a, .int .i64 b, .int .i64 c, .int .i64 d] t)) (w.alloc (.cells #[.int .i64 a, .int .i64 b, .int .i64 c, .int .i64 d] t)).heap.size (.slice (some ⟨w.heap.size, 0, none⟩) 1 1) ([⟨a, b, c, d⟩] : List R4) := rd_lit w [⟨a, b, c, d⟩] t 1
theorem rdf_one_at {w : World} {B : Nat} (hB : w.heap.size = B) (a b c d : Int) (t : TypeId) : RdK encR 4 (w.alloc (.cells #[.int .i64 a, .int .i64 b, .int .i64 c, .int .i64 d] t)) (w.alloc (.cells #[.int .i64 a, .int .i64 b, .int .i64 c, .int .i64 d] t)).heap.size (.slice (some ⟨B, 0, none⟩) 1 1) ([⟨a, b, c, d⟩] : List R4) := by
  subst hB
  exact rdf_one w a b c d t
theorem rdf_one_dr (w : World) (a b c d : Int) (t : TypeId) : RdK encR 4 (w.alloc (.cells #[.int .i64 a, .int .i64 b, .int .i64 c, .int .i64 d] t)).drew (w.alloc (.cells #[.int .i64 a, .int .i64 b, .int .i64 c, .int .i64 d] t)).drew.heap.size (.slice (some ⟨w.heap.size, 0, none⟩) 1 1) ([⟨a, b, c, d⟩] : List R4) := (rdf_one w a b c d t).below (Below.refl _ _).drew
theorem pcs_base {B B0 : Nat} {x : List (Ky × List R4) × Int} {e : Ending} {w' : World} (h : PcsRet B x e w') (hB : B0 ≤ B) : PcsRet B0 x e w' := by
  obtain ⟨A, c, L, he, h0, h1, h2⟩ := h
  refine ⟨A, c, L, he, h0, own_base h1 hB, fun i k r hi => ?_⟩
  obtain ⟨u, q1, q2⟩ := h2 i k r hi
  exact ⟨u, q1, own_base q2 hB⟩
theorem pcs_err (B : Nat) (c : Int) (w' : World) : PcsRet B ([], c) (.returned (.tuple #[.slice none 0 0, .int .i64 c])) w' := ⟨none, 0, [], rfl, rfl, World.ownsRow_nil _ _ _ _, fun i k r h => by simp at h⟩
set_option maxRecDepth 100000 in
set_option maxHeartbeats 8000000 in
theorem tface0_any (lx ly lz hx hy hz W H S : Int) (w : World) :
    Calls Tryz.prog 6 #[.agg #[.int .u8 0, .int .i64 lx, .int .i64 ly, .int .i64 lz, .int .i64 hx, .int .i64 hy, .int .i64 hz], .agg #[.int .i64 W, .int .i64 H, .int .i64 S]] w fun e w' => PcsRet w.heap.size (faceF W H S ⟨0, lx, ly, lz, hx, hy, hz⟩) e w' ∧ Below w.heap.size w w' := by
  have hfl : flatR ⟨0, lx, ly, lz, hx, hy, hz⟩ = ⟨ly, lz, hy, hz⟩ := by unfold flatR; simp
  have HK := hide (fun (W' : World) (v : Value) (h : RdK encQd 7 W' W'.heap.size v [⟨0, lx, ly, lz, hx, hy, hz⟩]) => mcheck_any h (by decide))
  rcases chk_ok8 ⟨0, lx, ly, lz, hx, hy, hz⟩ with ⟨e1, -⟩ | ⟨e1, -⟩
  · have hF : faceF W H S ⟨0, lx, ly, lz, hx, hy, hz⟩ = tileF W H S [⟨ly, lz, hy, hz⟩] := by unfold faceF; rw [if_pos e1, hfl]
    rw [hF]
    rw [e1] at HK
    have HT := hide (fun (W' : World) (v : Value) (h : RdK encR 4 W' W'.heap.size v [⟨ly, lz, hy, hz⟩]) => tile_any h (by simp) W H S)
    generalize tileF W H S [⟨ly, lz, hy, hz⟩] = TF at *
    obtain ⟨R, E⟩ := TF
    clear hF e1 hfl
    go_enter Tryz.func6, Tryz.ntmps6
    go_upto_region 1 with fail
    refine wp_name fun w0 hw0 => ?_
    have hb0 : Below w.heap.size w w0 := by
      rw [hw0]
      repeat (first | with_reducible exact Below.refl _ _ | with_reducible refine Below.setCell ?_ (by first | (simp; done) | (simp; omega)) _ | with_reducible refine Below.alloc ?_ (by first | omega | (simp; omega) | simp) _)
    have d0 : w0.cell? ⟨w.heap.size, 0, none⟩ = some (.int .u8 0) := by rw [hw0]; simp [go_sem]
    have d1 : w0.cell? ⟨w.heap.size, 1, none⟩ = some (.int .i64 lx) := by rw [hw0]; simp [go_sem]
    have d2 : w0.cell? ⟨w.heap.size, 2, none⟩ = some (.int .i64 ly) := by rw [hw0]; simp [go_sem]
    have d3 : w0.cell? ⟨w.heap.size, 3, none⟩ = some (.int .i64 lz) := by rw [hw0]; simp [go_sem]
    have d4 : w0.cell? ⟨w.heap.size, 4, none⟩ = some (.int .i64 hx) := by rw [hw0]; simp [go_sem]
    have d5 : w0.cell? ⟨w.heap.size, 5, none⟩ = some (.int .i64 hy) := by rw [hw0]; simp [go_sem]
    have d6 : w0.cell? ⟨w.heap.size, 6, none⟩ = some (.int .i64 hz) := by rw [hw0]; simp [go_sem]
    have p0 : w0.cell? ⟨w.heap.size + 1, 0, none⟩ = some (.int .i64 W) := by rw [hw0]; simp [go_sem]
    have p1 : w0.cell? ⟨w.heap.size + 1, 1, none⟩ = some (.int .i64 H) := by rw [hw0]; simp [go_sem]
    have p2 : w0.cell? ⟨w.heap.size + 1, 2, none⟩ = some (.int .i64 S) := by rw [hw0]; simp [go_sem]
    have h0 : w.heap.size < w0.heap.size := by rw [hw0]; simp; omega
    have h1 : w.heap.size + 1 < w0.heap.size := by rw [hw0]; simp
    have HB0 := hide hb0
    clear hw0 hb0
    go_wp2_with (fail)
    refine (HK.out _ _ (rd_q _ _ _ _ _ _ _ _ _)).mono ?_
    rintro e w1 ⟨rfl, hbx⟩
    have hb : Below w0.heap.size w0 w1 := ((Below.refl _ _).alloc (Nat.le_refl _) _).trans (hbx.mono (by simp))
    have HB1 := hide (HB0.out.trans (hb.mono HB0.out.size))
    replace d0 := (hb.cell (p := ⟨w.heap.size, 0, none⟩) h0).trans d0
    replace d1 := (hb.cell (p := ⟨w.heap.size, 1, none⟩) h0).trans d1
    replace d2 := (hb.cell (p := ⟨w.heap.size, 2, none⟩) h0).trans d2
    replace d3 := (hb.cell (p := ⟨w.heap.size, 3, none⟩) h0).trans d3
    replace d4 := (hb.cell (p := ⟨w.heap.size, 4, none⟩) h0).trans d4
    replace d5 := (hb.cell (p := ⟨w.heap.size, 5, none⟩) h0).trans d5
    replace d6 := (hb.cell (p := ⟨w.heap.size, 6, none⟩) h0).trans d6
    replace p0 := (hb.cell (p := ⟨w.heap.size + 1, 0, none⟩) h1).trans p0
    replace p1 := (hb.cell (p := ⟨w.heap.size + 1, 1, none⟩) h1).trans p1
    replace p2 := (hb.cell (p := ⟨w.heap.size + 1, 2, none⟩) h1).trans p2
    replace h0 := Nat.lt_of_lt_of_le h0 hb.size
    replace h1 := Nat.lt_of_lt_of_le h1 hb.size
    clear hb hbx HB0
    go_upto_region 5 with fail
    refine wp_name fun w2 hw2 => ?_
    have hb : Below w1.heap.size w1 w2 := by
      rw [hw2]
      repeat (first | with_reducible exact Below.refl _ _ | with_reducible refine Below.setCell ?_ (by first | (simp; done) | (simp; omega)) _ | with_reducible refine Below.alloc ?_ (by first | omega | (simp; omega) | simp) _)
    obtain ⟨b2, hb2e⟩ : ∃ b, b = w1.heap.size := ⟨_, rfl⟩
    have r0 : w2.cell? ⟨b2, 0, none⟩ = some (.int .i64 ly) := by rw [hw2, hb2e]; simp [go_sem]
    have r1 : w2.cell? ⟨b2, 1, none⟩ = some (.int .i64 lz) := by rw [hw2, hb2e]; simp [go_sem]
    have r2 : w2.cell? ⟨b2, 2, none⟩ = some (.int .i64 hy) := by rw [hw2, hb2e]; simp [go_sem]
    have r3 : w2.cell? ⟨b2, 3, none⟩ = some (.int .i64 hz) := by rw [hw2, hb2e]; simp [go_sem]
    have hb2 : b2 < w2.heap.size := by rw [hw2, hb2e]; simp
    have HB2 := hide (HB1.out.trans (hb.mono HB1.out.size))
    replace d0 := (hb.cell (p := ⟨w.heap.size, 0, none⟩) h0).trans d0
    replace p0 := (hb.cell (p := ⟨w.heap.size + 1, 0, none⟩) h1).trans p0
    replace p1 := (hb.cell (p := ⟨w.heap.size + 1, 1, none⟩) h1).trans p1
    replace p2 := (hb.cell (p := ⟨w.heap.size + 1, 2, none⟩) h1).trans p2
    replace h0 := Nat.lt_of_lt_of_le h0 hb.size
    replace h1 := Nat.lt_of_lt_of_le h1 hb.size
    rw [← hb2e]
    clear hw2 hb hb2e HB1 d1 d2 d3 d4 d5 d6
    have HS : Hid (∀ w' : World, Below w2.heap.size w2 w' → w'.cell? ⟨w.heap.size, 0, none⟩ = some (.int .u8 0) ∧ (w'.cell? ⟨b2, 0, none⟩ = some (.int .i64 ly) ∧ w'.cell? ⟨b2, 1, none⟩ = some (.int .i64 lz) ∧ w'.cell? ⟨b2, 2, none⟩ = some (.int .i64 hy) ∧ w'.cell? ⟨b2, 3, none⟩ = some (.int .i64 hz)) ∧ w'.cell? ⟨w.heap.size + 1, 0, none⟩ = some (.int .i64 W) ∧ w'.cell? ⟨w.heap.size + 1, 1, none⟩ = some (.int .i64 H) ∧ w'.cell? ⟨w.heap.size + 1, 2, none⟩ = some (.int .i64 S)) := hide (fun w' h => ⟨(h.cell (p := ⟨w.heap.size, 0, none⟩) h0).trans d0, ⟨(h.cell (p := ⟨b2, 0, none⟩) hb2).trans r0, (h.cell (p := ⟨b2, 1, none⟩) hb2).trans r1, (h.cell (p := ⟨b2, 2, none⟩) hb2).trans r2, (h.cell (p := ⟨b2, 3, none⟩) hb2).trans r3⟩, (h.cell (p := ⟨w.heap.size + 1, 0, none⟩) h1).trans p0, (h.cell (p := ⟨w.heap.size + 1, 1, none⟩) h1).trans p1, (h.cell (p := ⟨w.heap.size + 1, 2, none⟩) h1).trans p2⟩)
    have hsz := HB2.out.size
    have hs0 : Below w2.heap.size w2 w2.drew := (Below.refl _ _).drew
    have hzu : IntKind.u8.wrap 0 = 0 := by decide
    refine wp_region_two [0, 1, 2, 3, 4, 6] [5, 7] [8, 9] [10, 11] (fun w' => w'.cell? ⟨w.heap.size, 0, none⟩ = some (.int .u8 0) ∧ (w'.cell? ⟨b2, 0, none⟩ = some (.int .i64 ly) ∧ w'.cell? ⟨b2, 1, none⟩ = some (.int .i64 lz) ∧ w'.cell? ⟨b2, 2, none⟩ = some (.int .i64 hy) ∧ w'.cell? ⟨b2, 3, none⟩ = some (.int .i64 hz)) ∧ w'.cell? ⟨w.heap.size + 1, 0, none⟩ = some (.int .i64 W) ∧ w'.cell? ⟨w.heap.size + 1, 1, none⟩ = some (.int .i64 H) ∧ w'.cell? ⟨w.heap.size + 1, 2, none⟩ = some (.int .i64 S)) (by kernel_rfl) (by kernel_rfl) (HS.out _ hs0) ?_
    simp only [List.map_cons, List.map_nil, opAt, List.getElem?_cons_succ, List.getElem?_cons_zero, Option.getD_some]
    iterate 6
      refine ⟨?_, Or.inl ⟨by rfl, ?_⟩, ?_⟩
      rotate_left 1
      · intro w' hSw
        obtain ⟨z0, ⟨z1, z2, z3, z4⟩, z5, z6, z7⟩ := hSw
        go_simp
        first | done | with_reducible rfl
      simp only [Act.put, List.setIfInBounds_toArray, List.set_cons_zero, List.set_cons_succ]
    simp only [wpReads, wpChain]
    intro K hK
    simp only [Act.put, List.setIfInBounds_toArray, List.set_cons_zero, List.set_cons_succ] at hK ⊢
    go_simp
    refine hK _ _ (HS.out _ ((Below.refl _ _).alloc (Nat.le_refl _) _).drew) ?_
    clear hK K
    intro K hK
    simp only [Act.put, List.setIfInBounds_toArray, List.set_cons_zero, List.set_cons_succ] at hK ⊢
    go_simp
    refine (HT.out _ _ (rdf_one_dr _ _ _ _ _ _)).mono ?_
    rintro e w7 ⟨hpc, hb7⟩
    have hpc2 := pcs_base (B0 := w.heap.size) hpc (by simp; omega)
    obtain ⟨A7, c7, L7, rfl, l0, l1, l2⟩ := hpc2
    have HL := hide (And.intro l0 (And.intro l1 l2))
    have HB7 : Hid (Below w2.heap.size w2 w7) := hide (Below.trans ((Below.refl _ _).alloc (Nat.le_refl _) _).drew (hb7.mono (by simp <;> omega)))
    clear hb7 hpc l0 l1 l2
    refine hK _ _ (HS.out _ HB7.out) ?_
    clear hK K
    iterate 2
      refine ⟨?_, Or.inl ⟨by rfl, ?_⟩, ?_⟩
      rotate_left 1
      · intro w' hSw
        obtain ⟨z0, ⟨z1, z2, z3, z4⟩, z5, z6, z7⟩ := hSw
        go_simp
        first | done | with_reducible rfl
      try simp only [Act.put, List.setIfInBounds_toArray, List.set_cons_zero, List.set_cons_succ]
    intro K hK
    simp only [Act.put, List.setIfInBounds_toArray, List.set_cons_zero, List.set_cons_succ] at hK ⊢
    go_simp
    refine hK _ _ (fun _ => HS.out _ HB7.out) ?_
    clear hK K
    intro K hK
    simp only [Act.put, List.setIfInBounds_toArray, List.set_cons_zero, List.set_cons_succ] at hK ⊢
    go_simp
    refine hK _ _ (fun h => absurd rfl h) ?_
    clear hK K
    refine NoPanic.normal ?_
    go_wp2_with (fail)
    go_ret2
    exact ⟨⟨A7, c7, L7, rfl, HL.out.1, HL.out.2.1, HL.out.2.2⟩, HB2.out.trans (HB7.out.mono HB2.out.size)⟩
  · have hF : faceF W H S ⟨0, lx, ly, lz, hx, hy, hz⟩ = ([], 8) := by unfold faceF; rw [if_neg (by rw [e1]; decide), e1]
    rw [hF]
    rw [e1] at HK
    clear hF e1 hfl
    go_enter Tryz.func6, Tryz.ntmps6
    go_upto_region 1 with fail
    refine wp_name fun w0 hw0 => ?_
    have hb0 : Below w.heap.size w w0 := by
      rw [hw0]
      repeat (first | with_reducible exact Below.refl _ _ | with_reducible refine Below.setCell ?_ (by first | (simp; done) | (simp; omega)) _ | with_reducible refine Below.alloc ?_ (by first | omega | (simp; omega) | simp) _)
    have d0 : w0.cell? ⟨w.heap.size, 0, none⟩ = some (.int .u8 0) := by rw [hw0]; simp [go_sem]
    have d1 : w0.cell? ⟨w.heap.size, 1, none⟩ = some (.int .i64 lx) := by rw [hw0]; simp [go_sem]
    have d2 : w0.cell? ⟨w.heap.size, 2, none⟩ = some (.int .i64 ly) := by rw [hw0]; simp [go_sem]
    have d3 : w0.cell? ⟨w.heap.size, 3, none⟩ = some (.int .i64 lz) := by rw [hw0]; simp [go_sem]
    have d4 : w0.cell? ⟨w.heap.size, 4, none⟩ = some (.int .i64 hx) := by rw [hw0]; simp [go_sem]
    have d5 : w0.cell? ⟨w.heap.size, 5, none⟩ = some (.int .i64 hy) := by rw [hw0]; simp [go_sem]
    have d6 : w0.cell? ⟨w.heap.size, 6, none⟩ = some (.int .i64 hz) := by rw [hw0]; simp [go_sem]
    have p0 : w0.cell? ⟨w.heap.size + 1, 0, none⟩ = some (.int .i64 W) := by rw [hw0]; simp [go_sem]
    have p1 : w0.cell? ⟨w.heap.size + 1, 1, none⟩ = some (.int .i64 H) := by rw [hw0]; simp [go_sem]
    have p2 : w0.cell? ⟨w.heap.size + 1, 2, none⟩ = some (.int .i64 S) := by rw [hw0]; simp [go_sem]
    have h0 : w.heap.size < w0.heap.size := by rw [hw0]; simp; omega
    have h1 : w.heap.size + 1 < w0.heap.size := by rw [hw0]; simp
    have HB0 := hide hb0
    clear hw0 hb0
    go_wp2_with (fail)
    refine (HK.out _ _ (rd_q _ _ _ _ _ _ _ _ _)).mono ?_
    rintro e w1 ⟨rfl, hbx⟩
    have hb : Below w0.heap.size w0 w1 := ((Below.refl _ _).alloc (Nat.le_refl _) _).trans (hbx.mono (by simp))
    have HB1 := hide (HB0.out.trans (hb.mono HB0.out.size))
    replace d0 := (hb.cell (p := ⟨w.heap.size, 0, none⟩) h0).trans d0
    replace d1 := (hb.cell (p := ⟨w.heap.size, 1, none⟩) h0).trans d1
    replace d2 := (hb.cell (p := ⟨w.heap.size, 2, none⟩) h0).trans d2
    replace d3 := (hb.cell (p := ⟨w.heap.size, 3, none⟩) h0).trans d3
    replace d4 := (hb.cell (p := ⟨w.heap.size, 4, none⟩) h0).trans d4
    replace d5 := (hb.cell (p := ⟨w.heap.size, 5, none⟩) h0).trans d5
    replace d6 := (hb.cell (p := ⟨w.heap.size, 6, none⟩) h0).trans d6
    replace p0 := (hb.cell (p := ⟨w.heap.size + 1, 0, none⟩) h1).trans p0
    replace p1 := (hb.cell (p := ⟨w.heap.size + 1, 1, none⟩) h1).trans p1
    replace p2 := (hb.cell (p := ⟨w.heap.size + 1, 2, none⟩) h1).trans p2
    replace h0 := Nat.lt_of_lt_of_le h0 hb.size
    replace h1 := Nat.lt_of_lt_of_le h1 hb.size
    clear hb hbx HB0
    go_wp2_with (fail)
    go_ret2
    exact ⟨pcs_err _ 8 _, HB1.out⟩
set_option maxRecDepth 100000 in
set_option maxHeartbeats 8000000 in
theorem tface1_any (lx ly lz hx hy hz W H S : Int) (w : World) :
    Calls Tryz.prog 6 #[.agg #[.int .u8 1, .int .i64 lx, .int .i64 ly, .int .i64 lz, .int .i64 hx, .int .i64 hy, .int .i64 hz], .agg #[.int .i64 W, .int .i64 H, .int .i64 S]] w fun e w' => PcsRet w.heap.size (faceF W H S ⟨1, lx, ly, lz, hx, hy, hz⟩) e w' ∧ Below w.heap.size w w' := by
  have hfl : flatR ⟨1, lx, ly, lz, hx, hy, hz⟩ = ⟨ly, lz, hy, hz⟩ := by unfold flatR; simp
  have HK := hide (fun (W' : World) (v : Value) (h : RdK encQd 7 W' W'.heap.size v [⟨1, lx, ly, lz, hx, hy, hz⟩]) => mcheck_any h (by decide))
  rcases chk_ok8 ⟨1, lx, ly, lz, hx, hy, hz⟩ with ⟨e1, -⟩ | ⟨e1, -⟩
  · have hF : faceF W H S ⟨1, lx, ly, lz, hx, hy, hz⟩ = tileF W H S [⟨ly, lz, hy, hz⟩] := by unfold faceF; rw [if_pos e1, hfl]
    rw [hF]
    rw [e1] at HK
    have HT := hide (fun (W' : World) (v : Value) (h : RdK encR 4 W' W'.heap.size v [⟨ly, lz, hy, hz⟩]) => tile_any h (by simp) W H S)
    generalize tileF W H S [⟨ly, lz, hy, hz⟩] = TF at *
    obtain ⟨R, E⟩ := TF
    clear hF e1 hfl
    go_enter Tryz.func6, Tryz.ntmps6
    go_upto_region 1 with fail
    refine wp_name fun w0 hw0 => ?_
    have hb0 : Below w.heap.size w w0 := by
      rw [hw0]
      repeat (first | with_reducible exact Below.refl _ _ | with_reducible refine Below.setCell ?_ (by first | (simp; done) | (simp; omega)) _ | with_reducible refine Below.alloc ?_ (by first | omega | (simp; omega) | simp) _)
    have d0 : w0.cell? ⟨w.heap.size, 0, none⟩ = some (.int .u8 1) := by rw [hw0]; simp [go_sem]
    have d1 : w0.cell? ⟨w.heap.size, 1, none⟩ = some (.int .i64 lx) := by rw [hw0]; simp [go_sem]
    have d2 : w0.cell? ⟨w.heap.size, 2, none⟩ = some (.int .i64 ly) := by rw [hw0]; simp [go_sem]
    have d3 : w0.cell? ⟨w.heap.size, 3, none⟩ = some (.int .i64 lz) := by rw [hw0]; simp [go_sem]
    have d4 : w0.cell? ⟨w.heap.size, 4, none⟩ = some (.int .i64 hx) := by rw [hw0]; simp [go_sem]
    have d5 : w0.cell? ⟨w.heap.size, 5, none⟩ = some (.int .i64 hy) := by rw [hw0]; simp [go_sem]
    have d6 : w0.cell? ⟨w.heap.size, 6, none⟩ = some (.int .i64 hz) := by rw [hw0]; simp [go_sem]
    have p0 : w0.cell? ⟨w.heap.size + 1, 0, none⟩ = some (.int .i64 W) := by rw [hw0]; simp [go_sem]
    have p1 : w0.cell? ⟨w.heap.size + 1, 1, none⟩ = some (.int .i64 H) := by rw [hw0]; simp [go_sem]
    have p2 : w0.cell? ⟨w.heap.size + 1, 2, none⟩ = some (.int .i64 S) := by rw [hw0]; simp [go_sem]
    have h0 : w.heap.size < w0.heap.size := by rw [hw0]; simp; omega
    have h1 : w.heap.size + 1 < w0.heap.size := by rw [hw0]; simp
    have HB0 := hide hb0
    clear hw0 hb0
    go_wp2_with (fail)
    refine (HK.out _ _ (rd_q _ _ _ _ _ _ _ _ _)).mono ?_
    rintro e w1 ⟨rfl, hbx⟩
    have hb : Below w0.heap.size w0 w1 := ((Below.refl _ _).alloc (Nat.le_refl _) _).trans (hbx.mono (by simp))
    have HB1 := hide (HB0.out.trans (hb.mono HB0.out.size))
    replace d0 := (hb.cell (p := ⟨w.heap.size, 0, none⟩) h0).trans d0
    replace d1 := (hb.cell (p := ⟨w.heap.size, 1, none⟩) h0).trans d1
    replace d2 := (hb.cell (p := ⟨w.heap.size, 2, none⟩) h0).trans d2
    replace d3 := (hb.cell (p := ⟨w.heap.size, 3, none⟩) h0).trans d3
    replace d4 := (hb.cell (p := ⟨w.heap.size, 4, none⟩) h0).trans d4
    replace d5 := (hb.cell (p := ⟨w.heap.size, 5, none⟩) h0).trans d5
    replace d6 := (hb.cell (p := ⟨w.heap.size, 6, none⟩) h0).trans d6
    replace p0 := (hb.cell (p := ⟨w.heap.size + 1, 0, none⟩) h1).trans p0
    replace p1 := (hb.cell (p := ⟨w.heap.size + 1, 1, none⟩) h1).trans p1
    replace p2 := (hb.cell (p := ⟨w.heap.size + 1, 2, none⟩) h1).trans p2
    replace h0 := Nat.lt_of_lt_of_le h0 hb.size
    replace h1 := Nat.lt_of_lt_of_le h1 hb.size
    clear hb hbx HB0
    go_upto_region 5 with fail
    refine wp_name fun w2 hw2 => ?_
    have hb : Below w1.heap.size w1 w2 := by
      rw [hw2]
      repeat (first | with_reducible exact Below.refl _ _ | with_reducible refine Below.setCell ?_ (by first | (simp; done) | (simp; omega)) _ | with_reducible refine Below.alloc ?_ (by first | omega | (simp; omega) | simp) _)
    obtain ⟨b2, hb2e⟩ : ∃ b, b = w1.heap.size := ⟨_, rfl⟩
    have r0 : w2.cell? ⟨b2, 0, none⟩ = some (.int .i64 ly) := by rw [hw2, hb2e]; simp [go_sem]
    have r1 : w2.cell? ⟨b2, 1, none⟩ = some (.int .i64 lz) := by rw [hw2, hb2e]; simp [go_sem]
    have r2 : w2.cell? ⟨b2, 2, none⟩ = some (.int .i64 hy) := by rw [hw2, hb2e]; simp [go_sem]
    have r3 : w2.cell? ⟨b2, 3, none⟩ = some (.int .i64 hz) := by rw [hw2, hb2e]; simp [go_sem]
    have hb2 : b2 < w2.heap.size := by rw [hw2, hb2e]; simp
    have HB2 := hide (HB1.out.trans (hb.mono HB1.out.size))
    replace d0 := (hb.cell (p := ⟨w.heap.size, 0, none⟩) h0).trans d0
    replace p0 := (hb.cell (p := ⟨w.heap.size + 1, 0, none⟩) h1).trans p0
    replace p1 := (hb.cell (p := ⟨w.heap.size + 1, 1, none⟩) h1).trans p1
    replace p2 := (hb.cell (p := ⟨w.heap.size + 1, 2, none⟩) h1).trans p2
    replace h0 := Nat.lt_of_lt_of_le h0 hb.size
    replace h1 := Nat.lt_of_lt_of_le h1 hb.size
    rw [← hb2e]
    clear hw2 hb hb2e HB1 d1 d2 d3 d4 d5 d6
    have HS : Hid (∀ w' : World, Below w2.heap.size w2 w' → w'.cell? ⟨w.heap.size, 0, none⟩ = some (.int .u8 1) ∧ (w'.cell? ⟨b2, 0, none⟩ = some (.int .i64 ly) ∧ w'.cell? ⟨b2, 1, none⟩ = some (.int .i64 lz) ∧ w'.cell? ⟨b2, 2, none⟩ = some (.int .i64 hy) ∧ w'.cell? ⟨b2, 3, none⟩ = some (.int .i64 hz)) ∧ w'.cell? ⟨w.heap.size + 1, 0, none⟩ = some (.int .i64 W) ∧ w'.cell? ⟨w.heap.size + 1, 1, none⟩ = some (.int .i64 H) ∧ w'.cell? ⟨w.heap.size + 1, 2, none⟩ = some (.int .i64 S)) := hide (fun w' h => ⟨(h.cell (p := ⟨w.heap.size, 0, none⟩) h0).trans d0, ⟨(h.cell (p := ⟨b2, 0, none⟩) hb2).trans r0, (h.cell (p := ⟨b2, 1, none⟩) hb2).trans r1, (h.cell (p := ⟨b2, 2, none⟩) hb2).trans r2, (h.cell (p := ⟨b2, 3, none⟩) hb2).trans r3⟩, (h.cell (p := ⟨w.heap.size + 1, 0, none⟩) h1).trans p0, (h.cell (p := ⟨w.heap.size + 1, 1, none⟩) h1).trans p1, (h.cell (p := ⟨w.heap.size + 1, 2, none⟩) h1).trans p2⟩)
    have hsz := HB2.out.size
    have hs0 : Below w2.heap.size w2 w2.drew := (Below.refl _ _).drew
    have hzu : IntKind.u8.wrap 0 = 0 := by decide
    refine wp_region_two [0, 1, 2, 3, 4, 6] [5, 7] [8, 9] [10, 11] (fun w' => w'.cell? ⟨w.heap.size, 0, none⟩ = some (.int .u8 1) ∧ (w'.cell? ⟨b2, 0, none⟩ = some (.int .i64 ly) ∧ w'.cell? ⟨b2, 1, none⟩ = some (.int .i64 lz) ∧ w'.cell? ⟨b2, 2, none⟩ = some (.int .i64 hy) ∧ w'.cell? ⟨b2, 3, none⟩ = some (.int .i64 hz)) ∧ w'.cell? ⟨w.heap.size + 1, 0, none⟩ = some (.int .i64 W) ∧ w'.cell? ⟨w.heap.size + 1, 1, none⟩ = some (.int .i64 H) ∧ w'.cell? ⟨w.heap.size + 1, 2, none⟩ = some (.int .i64 S)) (by kernel_rfl) (by kernel_rfl) (HS.out _ hs0) ?_
    simp only [List.map_cons, List.map_nil, opAt, List.getElem?_cons_succ, List.getElem?_cons_zero, Option.getD_some]
    iterate 6
      refine ⟨?_, Or.inl ⟨by rfl, ?_⟩, ?_⟩
      rotate_left 1
      · intro w' hSw
        obtain ⟨z0, ⟨z1, z2, z3, z4⟩, z5, z6, z7⟩ := hSw
        go_simp
        first | done | with_reducible rfl
      simp only [Act.put, List.setIfInBounds_toArray, List.set_cons_zero, List.set_cons_succ]
    simp only [wpReads, wpChain]
    intro K hK
    simp only [Act.put, List.setIfInBounds_toArray, List.set_cons_zero, List.set_cons_succ] at hK ⊢
    go_simp
    refine hK _ _ (HS.out _ ((Below.refl _ _).alloc (Nat.le_refl _) _).drew) ?_
    clear hK K
    intro K hK
    simp only [Act.put, List.setIfInBounds_toArray, List.set_cons_zero, List.set_cons_succ] at hK ⊢
    go_simp
    refine (HT.out _ _ (rdf_one_dr _ _ _ _ _ _)).mono ?_
    rintro e w7 ⟨hpc, hb7⟩
    have hpc2 := pcs_base (B0 := w.heap.size) hpc (by simp; omega)
    obtain ⟨A7, c7, L7, rfl, l0, l1, l2⟩ := hpc2
    have HL := hide (And.intro l0 (And.intro l1 l2))
    have HB7 : Hid (Below w2.heap.size w2 w7) := hide (Below.trans ((Below.refl _ _).alloc (Nat.le_refl _) _).drew (hb7.mono (by simp <;> omega)))
    clear hb7 hpc l0 l1 l2
    refine hK _ _ (HS.out _ HB7.out) ?_
    clear hK K
    iterate 2
      refine ⟨?_, Or.inl ⟨by rfl, ?_⟩, ?_⟩
      rotate_left 1
      · intro w' hSw
        obtain ⟨z0, ⟨z1, z2, z3, z4⟩, z5, z6, z7⟩ := hSw
        go_simp
        first | done | with_reducible rfl
      try simp only [Act.put, List.setIfInBounds_toArray, List.set_cons_zero, List.set_cons_succ]
    intro K hK
    simp only [Act.put, List.setIfInBounds_toArray, List.set_cons_zero, List.set_cons_succ] at hK ⊢
    go_simp
    refine hK _ _ (fun _ => HS.out _ HB7.out) ?_
    clear hK K
    intro K hK
    simp only [Act.put, List.setIfInBounds_toArray, List.set_cons_zero, List.set_cons_succ] at hK ⊢
    go_simp
    refine hK _ _ (fun h => absurd rfl h) ?_
    clear hK K
    refine NoPanic.normal ?_
    go_wp2_with (fail)
    go_ret2
    exact ⟨⟨A7, c7, L7, rfl, HL.out.1, HL.out.2.1, HL.out.2.2⟩, HB2.out.trans (HB7.out.mono HB2.out.size)⟩
  · have hF : faceF W H S ⟨1, lx, ly, lz, hx, hy, hz⟩ = ([], 8) := by unfold faceF; rw [if_neg (by rw [e1]; decide), e1]
    rw [hF]
    rw [e1] at HK
    clear hF e1 hfl
    go_enter Tryz.func6, Tryz.ntmps6
    go_upto_region 1 with fail
    refine wp_name fun w0 hw0 => ?_
    have hb0 : Below w.heap.size w w0 := by
      rw [hw0]
      repeat (first | with_reducible exact Below.refl _ _ | with_reducible refine Below.setCell ?_ (by first | (simp; done) | (simp; omega)) _ | with_reducible refine Below.alloc ?_ (by first | omega | (simp; omega) | simp) _)
    have d0 : w0.cell? ⟨w.heap.size, 0, none⟩ = some (.int .u8 1) := by rw [hw0]; simp [go_sem]
    have d1 : w0.cell? ⟨w.heap.size, 1, none⟩ = some (.int .i64 lx) := by rw [hw0]; simp [go_sem]
    have d2 : w0.cell? ⟨w.heap.size, 2, none⟩ = some (.int .i64 ly) := by rw [hw0]; simp [go_sem]
    have d3 : w0.cell? ⟨w.heap.size, 3, none⟩ = some (.int .i64 lz) := by rw [hw0]; simp [go_sem]
    have d4 : w0.cell? ⟨w.heap.size, 4, none⟩ = some (.int .i64 hx) := by rw [hw0]; simp [go_sem]
    have d5 : w0.cell? ⟨w.heap.size, 5, none⟩ = some (.int .i64 hy) := by rw [hw0]; simp [go_sem]
    have d6 : w0.cell? ⟨w.heap.size, 6, none⟩ = some (.int .i64 hz) := by rw [hw0]; simp [go_sem]
    have p0 : w0.cell? ⟨w.heap.size + 1, 0, none⟩ = some (.int .i64 W) := by rw [hw0]; simp [go_sem]
    have p1 : w0.cell? ⟨w.heap.size + 1, 1, none⟩ = some (.int .i64 H) := by rw [hw0]; simp [go_sem]
    have p2 : w0.cell? ⟨w.heap.size + 1, 2, none⟩ = some (.int .i64 S) := by rw [hw0]; simp [go_sem]
    have h0 : w.heap.size < w0.heap.size := by rw [hw0]; simp; omega
    have h1 : w.heap.size + 1 < w0.heap.size := by rw [hw0]; simp
    have HB0 := hide hb0
    clear hw0 hb0
    go_wp2_with (fail)
    refine (HK.out _ _ (rd_q _ _ _ _ _ _ _ _ _)).mono ?_
    rintro e w1 ⟨rfl, hbx⟩
    have hb : Below w0.heap.size w0 w1 := ((Below.refl _ _).alloc (Nat.le_refl _) _).trans (hbx.mono (by simp))
    have HB1 := hide (HB0.out.trans (hb.mono HB0.out.size))
    replace d0 := (hb.cell (p := ⟨w.heap.size, 0, none⟩) h0).trans d0
    replace d1 := (hb.cell (p := ⟨w.heap.size, 1, none⟩) h0).trans d1
    replace d2 := (hb.cell (p := ⟨w.heap.size, 2, none⟩) h0).trans d2
    replace d3 := (hb.cell (p := ⟨w.heap.size, 3, none⟩) h0).trans d3
    replace d4 := (hb.cell (p := ⟨w.heap.size, 4, none⟩) h0).trans d4
    replace d5 := (hb.cell (p := ⟨w.heap.size, 5, none⟩) h0).trans d5
    replace d6 := (hb.cell (p := ⟨w.heap.size, 6, none⟩) h0).trans d6
    replace p0 := (hb.cell (p := ⟨w.heap.size + 1, 0, none⟩) h1).trans p0
    replace p1 := (hb.cell (p := ⟨w.heap.size + 1, 1, none⟩) h1).trans p1
    replace p2 := (hb.cell (p := ⟨w.heap.size + 1, 2, none⟩) h1).trans p2
    replace h0 := Nat.lt_of_lt_of_le h0 hb.size
    replace h1 := Nat.lt_of_lt_of_le h1 hb.size
    clear hb hbx HB0
    go_wp2_with (fail)
    go_ret2
    exact ⟨pcs_err _ 8 _, HB1.out⟩
set_option maxRecDepth 100000 in
set_option maxHeartbeats 8000000 in
theorem tface2_any (lx ly lz hx hy hz W H S : Int) (w : World) :
    Calls Tryz.prog 6 #[.agg #[.int .u8 2, .int .i64 lx, .int .i64 ly, .int .i64 lz, .int .i64 hx, .int .i64 hy, .int .i64 hz], .agg #[.int .i64 W, .int .i64 H, .int .i64 S]] w fun e w' => PcsRet w.heap.size (faceF W H S ⟨2, lx, ly, lz, hx, hy, hz⟩) e w' ∧ Below w.heap.size w w' := by
  have hfl : flatR ⟨2, lx, ly, lz, hx, hy, hz⟩ = ⟨lx, lz, hx, hz⟩ := by unfold flatR; simp
  have HK := hide (fun (W' : World) (v : Value) (h : RdK encQd 7 W' W'.heap.size v [⟨2, lx, ly, lz, hx, hy, hz⟩]) => mcheck_any h (by decide))
  rcases chk_ok8 ⟨2, lx, ly, lz, hx, hy, hz⟩ with ⟨e1, -⟩ | ⟨e1, -⟩
  · have hF : faceF W H S ⟨2, lx, ly, lz, hx, hy, hz⟩ = tileF W H S [⟨lx, lz, hx, hz⟩] := by unfold faceF; rw [if_pos e1, hfl]
    rw [hF]
    rw [e1] at HK
    have HT := hide (fun (W' : World) (v : Value) (h : RdK encR 4 W' W'.heap.size v [⟨lx, lz, hx, hz⟩]) => tile_any h (by simp) W H S)
    generalize tileF W H S [⟨lx, lz, hx, hz⟩] = TF at *
    obtain ⟨R, E⟩ := TF
    clear hF e1 hfl
    go_enter Tryz.func6, Tryz.ntmps6
    go_upto_region 1 with fail
    refine wp_name fun w0 hw0 => ?_
    have hb0 : Below w.heap.size w w0 := by
      rw [hw0]
      repeat (first | with_reducible exact Below.refl _ _ | with_reducible refine Below.setCell ?_ (by first | (simp; done) | (simp; omega)) _ | with_reducible refine Below.alloc ?_ (by first | omega | (simp; omega) | simp) _)
    have d0 : w0.cell? ⟨w.heap.size, 0, none⟩ = some (.int .u8 2) := by rw [hw0]; simp [go_sem]
    have d1 : w0.cell? ⟨w.heap.size, 1, none⟩ = some (.int .i64 lx) := by rw [hw0]; simp [go_sem]
    have d2 : w0.cell? ⟨w.heap.size, 2, none⟩ = some (.int .i64 ly) := by rw [hw0]; simp [go_sem]
    have d3 : w0.cell? ⟨w.heap.size, 3, none⟩ = some (.int .i64 lz) := by rw [hw0]; simp [go_sem]
    have d4 : w0.cell? ⟨w.heap.size, 4, none⟩ = some (.int .i64 hx) := by rw [hw0]; simp [go_sem]
    have d5 : w0.cell? ⟨w.heap.size, 5, none⟩ = some (.int .i64 hy) := by rw [hw0]; simp [go_sem]
    have d6 : w0.cell? ⟨w.heap.size, 6, none⟩ = some (.int .i64 hz) := by rw [hw0]; simp [go_sem]
    have p0 : w0.cell? ⟨w.heap.size + 1, 0, none⟩ = some (.int .i64 W) := by rw [hw0]; simp [go_sem]
    have p1 : w0.cell? ⟨w.heap.size + 1, 1, none⟩ = some (.int .i64 H) := by rw [hw0]; simp [go_sem]
    have p2 : w0.cell? ⟨w.heap.size + 1, 2, none⟩ = some (.int .i64 S) := by rw [hw0]; simp [go_sem]
    have h0 : w.heap.size < w0.heap.size := by rw [hw0]; simp; omega
    have h1 : w.heap.size + 1 < w0.heap.size := by rw [hw0]; simp
    have HB0 := hide hb0
    clear hw0 hb0
    go_wp2_with (fail)
    refine (HK.out _ _ (rd_q _ _ _ _ _ _ _ _ _)).mono ?_
    rintro e w1 ⟨rfl, hbx⟩
    have hb : Below w0.heap.size w0 w1 := ((Below.refl _ _).alloc (Nat.le_refl _) _).trans (hbx.mono (by simp))
    have HB1 := hide (HB0.out.trans (hb.mono HB0.out.size))
    replace d0 := (hb.cell (p := ⟨w.heap.size, 0, none⟩) h0).trans d0
    replace d1 := (hb.cell (p := ⟨w.heap.size, 1, none⟩) h0).trans d1
    replace d2 := (hb.cell (p := ⟨w.heap.size, 2, none⟩) h0).trans d2
    replace d3 := (hb.cell (p := ⟨w.heap.size, 3, none⟩) h0).trans d3
    replace d4 := (hb.cell (p := ⟨w.heap.size, 4, none⟩) h0).trans d4
    replace d5 := (hb.cell (p := ⟨w.heap.size, 5, none⟩) h0).trans d5
    replace d6 := (hb.cell (p := ⟨w.heap.size, 6, none⟩) h0).trans d6
    replace p0 := (hb.cell (p := ⟨w.heap.size + 1, 0, none⟩) h1).trans p0
    replace p1 := (hb.cell (p := ⟨w.heap.size + 1, 1, none⟩) h1).trans p1
    replace p2 := (hb.cell (p := ⟨w.heap.size + 1, 2, none⟩) h1).trans p2
    replace h0 := Nat.lt_of_lt_of_le h0 hb.size
    replace h1 := Nat.lt_of_lt_of_le h1 hb.size
    clear hb hbx HB0
    go_upto_region 5 with fail
    refine wp_name fun w2 hw2 => ?_
    have hb : Below w1.heap.size w1 w2 := by
      rw [hw2]
      repeat (first | with_reducible exact Below.refl _ _ | with_reducible refine Below.setCell ?_ (by first | (simp; done) | (simp; omega)) _ | with_reducible refine Below.alloc ?_ (by first | omega | (simp; omega) | simp) _)
    obtain ⟨b2, hb2e⟩ : ∃ b, b = w1.heap.size := ⟨_, rfl⟩
    have r0 : w2.cell? ⟨b2, 4, none⟩ = some (.int .i64 lx) := by rw [hw2, hb2e]; simp [go_sem]
    have r1 : w2.cell? ⟨b2, 5, none⟩ = some (.int .i64 lz) := by rw [hw2, hb2e]; simp [go_sem]
    have r2 : w2.cell? ⟨b2, 6, none⟩ = some (.int .i64 hx) := by rw [hw2, hb2e]; simp [go_sem]
    have r3 : w2.cell? ⟨b2, 7, none⟩ = some (.int .i64 hz) := by rw [hw2, hb2e]; simp [go_sem]
    have hb2 : b2 < w2.heap.size := by rw [hw2, hb2e]; simp
    have HB2 := hide (HB1.out.trans (hb.mono HB1.out.size))
    replace d0 := (hb.cell (p := ⟨w.heap.size, 0, none⟩) h0).trans d0
    replace p0 := (hb.cell (p := ⟨w.heap.size + 1, 0, none⟩) h1).trans p0
    replace p1 := (hb.cell (p := ⟨w.heap.size + 1, 1, none⟩) h1).trans p1
    replace p2 := (hb.cell (p := ⟨w.heap.size + 1, 2, none⟩) h1).trans p2
    replace h0 := Nat.lt_of_lt_of_le h0 hb.size
    replace h1 := Nat.lt_of_lt_of_le h1 hb.size
    rw [← hb2e]
    clear hw2 hb hb2e HB1 d1 d2 d3 d4 d5 d6
    have HS : Hid (∀ w' : World, Below w2.heap.size w2 w' → w'.cell? ⟨w.heap.size, 0, none⟩ = some (.int .u8 2) ∧ (w'.cell? ⟨b2, 4, none⟩ = some (.int .i64 lx) ∧ w'.cell? ⟨b2, 5, none⟩ = some (.int .i64 lz) ∧ w'.cell? ⟨b2, 6, none⟩ = some (.int .i64 hx) ∧ w'.cell? ⟨b2, 7, none⟩ = some (.int .i64 hz)) ∧ w'.cell? ⟨w.heap.size + 1, 0, none⟩ = some (.int .i64 W) ∧ w'.cell? ⟨w.heap.size + 1, 1, none⟩ = some (.int .i64 H) ∧ w'.cell? ⟨w.heap.size + 1, 2, none⟩ = some (.int .i64 S)) := hide (fun w' h => ⟨(h.cell (p := ⟨w.heap.size, 0, none⟩) h0).trans d0, ⟨(h.cell (p := ⟨b2, 4, none⟩) hb2).trans r0, (h.cell (p := ⟨b2, 5, none⟩) hb2).trans r1, (h.cell (p := ⟨b2, 6, none⟩) hb2).trans r2, (h.cell (p := ⟨b2, 7, none⟩) hb2).trans r3⟩, (h.cell (p := ⟨w.heap.size + 1, 0, none⟩) h1).trans p0, (h.cell (p := ⟨w.heap.size + 1, 1, none⟩) h1).trans p1, (h.cell (p := ⟨w.heap.size + 1, 2, none⟩) h1).trans p2⟩)
    have hsz := HB2.out.size
    have hs0 : Below w2.heap.size w2 w2.drew := (Below.refl _ _).drew
    have hzu : IntKind.u8.wrap 1 = 1 := by decide
    refine wp_region_two [0, 1, 2, 3, 4, 6] [5, 7] [8, 9] [10, 11] (fun w' => w'.cell? ⟨w.heap.size, 0, none⟩ = some (.int .u8 2) ∧ (w'.cell? ⟨b2, 4, none⟩ = some (.int .i64 lx) ∧ w'.cell? ⟨b2, 5, none⟩ = some (.int .i64 lz) ∧ w'.cell? ⟨b2, 6, none⟩ = some (.int .i64 hx) ∧ w'.cell? ⟨b2, 7, none⟩ = some (.int .i64 hz)) ∧ w'.cell? ⟨w.heap.size + 1, 0, none⟩ = some (.int .i64 W) ∧ w'.cell? ⟨w.heap.size + 1, 1, none⟩ = some (.int .i64 H) ∧ w'.cell? ⟨w.heap.size + 1, 2, none⟩ = some (.int .i64 S)) (by kernel_rfl) (by kernel_rfl) (HS.out _ hs0) ?_
    simp only [List.map_cons, List.map_nil, opAt, List.getElem?_cons_succ, List.getElem?_cons_zero, Option.getD_some]
    iterate 6
      refine ⟨?_, Or.inl ⟨by rfl, ?_⟩, ?_⟩
      rotate_left 1
      · intro w' hSw
        obtain ⟨z0, ⟨z1, z2, z3, z4⟩, z5, z6, z7⟩ := hSw
        go_simp
        first | done | with_reducible rfl
      simp only [Act.put, List.setIfInBounds_toArray, List.set_cons_zero, List.set_cons_succ]
    simp only [wpReads, wpChain]
    intro K hK
    simp only [Act.put, List.setIfInBounds_toArray, List.set_cons_zero, List.set_cons_succ] at hK ⊢
    go_simp
    refine hK _ _ (HS.out _ ((Below.refl _ _).alloc (Nat.le_refl _) _).drew) ?_
    clear hK K
    intro K hK
    simp only [Act.put, List.setIfInBounds_toArray, List.set_cons_zero, List.set_cons_succ] at hK ⊢
    go_simp
    refine (HT.out _ _ (rdf_one_dr _ _ _ _ _ _)).mono ?_
    rintro e w7 ⟨hpc, hb7⟩
    have hpc2 := pcs_base (B0 := w.heap.size) hpc (by simp; omega)
    obtain ⟨A7, c7, L7, rfl, l0, l1, l2⟩ := hpc2
    have HL := hide (And.intro l0 (And.intro l1 l2))
    have HB7 : Hid (Below w2.heap.size w2 w7) := hide (Below.trans ((Below.refl _ _).alloc (Nat.le_refl _) _).drew (hb7.mono (by simp <;> omega)))
    clear hb7 hpc l0 l1 l2
    refine hK _ _ (HS.out _ HB7.out) ?_
    clear hK K
    iterate 2
      refine ⟨?_, Or.inl ⟨by rfl, ?_⟩, ?_⟩
      rotate_left 1
      · intro w' hSw
        obtain ⟨z0, ⟨z1, z2, z3, z4⟩, z5, z6, z7⟩ := hSw
        go_simp
        first | done | with_reducible rfl
      try simp only [Act.put, List.setIfInBounds_toArray, List.set_cons_zero, List.set_cons_succ]
    intro K hK
    simp only [Act.put, List.setIfInBounds_toArray, List.set_cons_zero, List.set_cons_succ] at hK ⊢
    go_simp
    refine hK _ _ (fun _ => HS.out _ HB7.out) ?_
    clear hK K
    intro K hK
    simp only [Act.put, List.setIfInBounds_toArray, List.set_cons_zero, List.set_cons_succ] at hK ⊢
    go_simp
    refine hK _ _ (fun h => absurd rfl h) ?_
    clear hK K
    refine NoPanic.normal ?_
    go_wp2_with (fail)
    go_ret2
    exact ⟨⟨A7, c7, L7, rfl, HL.out.1, HL.out.2.1, HL.out.2.2⟩, HB2.out.trans (HB7.out.mono HB2.out.size)⟩
  · have hF : faceF W H S ⟨2, lx, ly, lz, hx, hy, hz⟩ = ([], 8) := by unfold faceF; rw [if_neg (by rw [e1]; decide), e1]
    rw [hF]
    rw [e1] at HK
    clear hF e1 hfl
    go_enter Tryz.func6, Tryz.ntmps6
    go_upto_region 1 with fail
    refine wp_name fun w0 hw0 => ?_
    have hb0 : Below w.heap.size w w0 := by
      rw [hw0]
      repeat (first | with_reducible exact Below.refl _ _ | with_reducible refine Below.setCell ?_ (by first | (simp; done) | (simp; omega)) _ | with_reducible refine Below.alloc ?_ (by first | omega | (simp; omega) | simp) _)
    have d0 : w0.cell? ⟨w.heap.size, 0, none⟩ = some (.int .u8 2) := by rw [hw0]; simp [go_sem]
    have d1 : w0.cell? ⟨w.heap.size, 1, none⟩ = some (.int .i64 lx) := by rw [hw0]; simp [go_sem]
    have d2 : w0.cell? ⟨w.heap.size, 2, none⟩ = some (.int .i64 ly) := by rw [hw0]; simp [go_sem]
    have d3 : w0.cell? ⟨w.heap.size, 3, none⟩ = some (.int .i64 lz) := by rw [hw0]; simp [go_sem]
    have d4 : w0.cell? ⟨w.heap.size, 4, none⟩ = some (.int .i64 hx) := by rw [hw0]; simp [go_sem]
    have d5 : w0.cell? ⟨w.heap.size, 5, none⟩ = some (.int .i64 hy) := by rw [hw0]; simp [go_sem]
    have d6 : w0.cell? ⟨w.heap.size, 6, none⟩ = some (.int .i64 hz) := by rw [hw0]; simp [go_sem]
    have p0 : w0.cell? ⟨w.heap.size + 1, 0, none⟩ = some (.int .i64 W) := by rw [hw0]; simp [go_sem]
    have p1 : w0.cell? ⟨w.heap.size + 1, 1, none⟩ = some (.int .i64 H) := by rw [hw0]; simp [go_sem]
    have p2 : w0.cell? ⟨w.heap.size + 1, 2, none⟩ = some (.int .i64 S) := by rw [hw0]; simp [go_sem]
    have h0 : w.heap.size < w0.heap.size := by rw [hw0]; simp; omega
    have h1 : w.heap.size + 1 < w0.heap.size := by rw [hw0]; simp
    have HB0 := hide hb0
    clear hw0 hb0
    go_wp2_with (fail)
    refine (HK.out _ _ (rd_q _ _ _ _ _ _ _ _ _)).mono ?_
    rintro e w1 ⟨rfl, hbx⟩
    have hb : Below w0.heap.size w0 w1 := ((Below.refl _ _).alloc (Nat.le_refl _) _).trans (hbx.mono (by simp))
    have HB1 := hide (HB0.out.trans (hb.mono HB0.out.size))
    replace d0 := (hb.cell (p := ⟨w.heap.size, 0, none⟩) h0).trans d0
    replace d1 := (hb.cell (p := ⟨w.heap.size, 1, none⟩) h0).trans d1
    replace d2 := (hb.cell (p := ⟨w.heap.size, 2, none⟩) h0).trans d2
    replace d3 := (hb.cell (p := ⟨w.heap.size, 3, none⟩) h0).trans d3
    replace d4 := (hb.cell (p := ⟨w.heap.size, 4, none⟩) h0).trans d4
    replace d5 := (hb.cell (p := ⟨w.heap.size, 5, none⟩) h0).trans d5
    replace d6 := (hb.cell (p := ⟨w.heap.size, 6, none⟩) h0).trans d6
    replace p0 := (hb.cell (p := ⟨w.heap.size + 1, 0, none⟩) h1).trans p0
    replace p1 := (hb.cell (p := ⟨w.heap.size + 1, 1, none⟩) h1).trans p1
    replace p2 := (hb.cell (p := ⟨w.heap.size + 1, 2, none⟩) h1).trans p2
    replace h0 := Nat.lt_of_lt_of_le h0 hb.size
    replace h1 := Nat.lt_of_lt_of_le h1 hb.size
    clear hb hbx HB0
    go_wp2_with (fail)
    go_ret2
    exact ⟨pcs_err _ 8 _, HB1.out⟩
set_option maxRecDepth 100000 in
set_option maxHeartbeats 8000000 in
theorem tface3_any (lx ly lz hx hy hz W H S : Int) (w : World) :
    Calls Tryz.prog 6 #[.agg #[.int .u8 3, .int .i64 lx, .int .i64 ly, .int .i64 lz, .int .i64 hx, .int .i64 hy, .int .i64 hz], .agg #[.int .i64 W, .int .i64 H, .int .i64 S]] w fun e w' => PcsRet w.heap.size (faceF W H S ⟨3, lx, ly, lz, hx, hy, hz⟩) e w' ∧ Below w.heap.size w w' := by
  have hfl : flatR ⟨3, lx, ly, lz, hx, hy, hz⟩ = ⟨lx, lz, hx, hz⟩ := by unfold flatR; simp
  have HK := hide (fun (W' : World) (v : Value) (h : RdK encQd 7 W' W'.heap.size v [⟨3, lx, ly, lz, hx, hy, hz⟩]) => mcheck_any h (by decide))
  rcases chk_ok8 ⟨3, lx, ly, lz, hx, hy, hz⟩ with ⟨e1, -⟩ | ⟨e1, -⟩
  · have hF : faceF W H S ⟨3, lx, ly, lz, hx, hy, hz⟩ = tileF W H S [⟨lx, lz, hx, hz⟩] := by unfold faceF; rw [if_pos e1, hfl]
    rw [hF]
    rw [e1] at HK
    have HT := hide (fun (W' : World) (v : Value) (h : RdK encR 4 W' W'.heap.size v [⟨lx, lz, hx, hz⟩]) => tile_any h (by simp) W H S)
    generalize tileF W H S [⟨lx, lz, hx, hz⟩] = TF at *
    obtain ⟨R, E⟩ := TF
    clear hF e1 hfl
    go_enter Tryz.func6, Tryz.ntmps6
    go_upto_region 1 with fail
    refine wp_name fun w0 hw0 => ?_
    have hb0 : Below w.heap.size w w0 := by
      rw [hw0]
      repeat (first | with_reducible exact Below.refl _ _ | with_reducible refine Below.setCell ?_ (by first | (simp; done) | (simp; omega)) _ | with_reducible refine Below.alloc ?_ (by first | omega | (simp; omega) | simp) _)
    have d0 : w0.cell? ⟨w.heap.size, 0, none⟩ = some (.int .u8 3) := by rw [hw0]; simp [go_sem]
    have d1 : w0.cell? ⟨w.heap.size, 1, none⟩ = some (.int .i64 lx) := by rw [hw0]; simp [go_sem]
    have d2 : w0.cell? ⟨w.heap.size, 2, none⟩ = some (.int .i64 ly) := by rw [hw0]; simp [go_sem]
    have d3 : w0.cell? ⟨w.heap.size, 3, none⟩ = some (.int .i64 lz) := by rw [hw0]; simp [go_sem]
    have d4 : w0.cell? ⟨w.heap.size, 4, none⟩ = some (.int .i64 hx) := by rw [hw0]; simp [go_sem]
    have d5 : w0.cell? ⟨w.heap.size, 5, none⟩ = some (.int .i64 hy) := by rw [hw0]; simp [go_sem]
    have d6 : w0.cell? ⟨w.heap.size, 6, none⟩ = some (.int .i64 hz) := by rw [hw0]; simp [go_sem]
    have p0 : w0.cell? ⟨w.heap.size + 1, 0, none⟩ = some (.int .i64 W) := by rw [hw0]; simp [go_sem]
    have p1 : w0.cell? ⟨w.heap.size + 1, 1, none⟩ = some (.int .i64 H) := by rw [hw0]; simp [go_sem]
    have p2 : w0.cell? ⟨w.heap.size + 1, 2, none⟩ = some (.int .i64 S) := by rw [hw0]; simp [go_sem]
    have h0 : w.heap.size < w0.heap.size := by rw [hw0]; simp; omega
    have h1 : w.heap.size + 1 < w0.heap.size := by rw [hw0]; simp
    have HB0 := hide hb0
    clear hw0 hb0
    go_wp2_with (fail)
    refine (HK.out _ _ (rd_q _ _ _ _ _ _ _ _ _)).mono ?_
    rintro e w1 ⟨rfl, hbx⟩
    have hb : Below w0.heap.size w0 w1 := ((Below.refl _ _).alloc (Nat.le_refl _) _).trans (hbx.mono (by simp))
    have HB1 := hide (HB0.out.trans (hb.mono HB0.out.size))
    replace d0 := (hb.cell (p := ⟨w.heap.size, 0, none⟩) h0).trans d0
    replace d1 := (hb.cell (p := ⟨w.heap.size, 1, none⟩) h0).trans d1
    replace d2 := (hb.cell (p := ⟨w.heap.size, 2, none⟩) h0).trans d2
    replace d3 := (hb.cell (p := ⟨w.heap.size, 3, none⟩) h0).trans d3
    replace d4 := (hb.cell (p := ⟨w.heap.size, 4, none⟩) h0).trans d4
    replace d5 := (hb.cell (p := ⟨w.heap.size, 5, none⟩) h0).trans d5
    replace d6 := (hb.cell (p := ⟨w.heap.size, 6, none⟩) h0).trans d6
    replace p0 := (hb.cell (p := ⟨w.heap.size + 1, 0, none⟩) h1).trans p0
    replace p1 := (hb.cell (p := ⟨w.heap.size + 1, 1, none⟩) h1).trans p1
    replace p2 := (hb.cell (p := ⟨w.heap.size + 1, 2, none⟩) h1).trans p2
    replace h0 := Nat.lt_of_lt_of_le h0 hb.size
    replace h1 := Nat.lt_of_lt_of_le h1 hb.size
    clear hb hbx HB0
    go_upto_region 5 with fail
    refine wp_name fun w2 hw2 => ?_
    have hb : Below w1.heap.size w1 w2 := by
      rw [hw2]
      repeat (first | with_reducible exact Below.refl _ _ | with_reducible refine Below.setCell ?_ (by first | (simp; done) | (simp; omega)) _ | with_reducible refine Below.alloc ?_ (by first | omega | (simp; omega) | simp) _)
    obtain ⟨b2, hb2e⟩ : ∃ b, b = w1.heap.size := ⟨_, rfl⟩
    have r0 : w2.cell? ⟨b2, 4, none⟩ = some (.int .i64 lx) := by rw [hw2, hb2e]; simp [go_sem]
    have r1 : w2.cell? ⟨b2, 5, none⟩ = some (.int .i64 lz) := by rw [hw2, hb2e]; simp [go_sem]
    have r2 : w2.cell? ⟨b2, 6, none⟩ = some (.int .i64 hx) := by rw [hw2, hb2e]; simp [go_sem]
    have r3 : w2.cell? ⟨b2, 7, none⟩ = some (.int .i64 hz) := by rw [hw2, hb2e]; simp [go_sem]
    have hb2 : b2 < w2.heap.size := by rw [hw2, hb2e]; simp
    have HB2 := hide (HB1.out.trans (hb.mono HB1.out.size))
    replace d0 := (hb.cell (p := ⟨w.heap.size, 0, none⟩) h0).trans d0
    replace p0 := (hb.cell (p := ⟨w.heap.size + 1, 0, none⟩) h1).trans p0
    replace p1 := (hb.cell (p := ⟨w.heap.size + 1, 1, none⟩) h1).trans p1
    replace p2 := (hb.cell (p := ⟨w.heap.size + 1, 2, none⟩) h1).trans p2
    replace h0 := Nat.lt_of_lt_of_le h0 hb.size
    replace h1 := Nat.lt_of_lt_of_le h1 hb.size
    rw [← hb2e]
    clear hw2 hb hb2e HB1 d1 d2 d3 d4 d5 d6
    have HS : Hid (∀ w' : World, Below w2.heap.size w2 w' → w'.cell? ⟨w.heap.size, 0, none⟩ = some (.int .u8 3) ∧ (w'.cell? ⟨b2, 4, none⟩ = some (.int .i64 lx) ∧ w'.cell? ⟨b2, 5, none⟩ = some (.int .i64 lz) ∧ w'.cell? ⟨b2, 6, none⟩ = some (.int .i64 hx) ∧ w'.cell? ⟨b2, 7, none⟩ = some (.int .i64 hz)) ∧ w'.cell? ⟨w.heap.size + 1, 0, none⟩ = some (.int .i64 W) ∧ w'.cell? ⟨w.heap.size + 1, 1, none⟩ = some (.int .i64 H) ∧ w'.cell? ⟨w.heap.size + 1, 2, none⟩ = some (.int .i64 S)) := hide (fun w' h => ⟨(h.cell (p := ⟨w.heap.size, 0, none⟩) h0).trans d0, ⟨(h.cell (p := ⟨b2, 4, none⟩) hb2).trans r0, (h.cell (p := ⟨b2, 5, none⟩) hb2).trans r1, (h.cell (p := ⟨b2, 6, none⟩) hb2).trans r2, (h.cell (p := ⟨b2, 7, none⟩) hb2).trans r3⟩, (h.cell (p := ⟨w.heap.size + 1, 0, none⟩) h1).trans p0, (h.cell (p := ⟨w.heap.size + 1, 1, none⟩) h1).trans p1, (h.cell (p := ⟨w.heap.size + 1, 2, none⟩) h1).trans p2⟩)
    have hsz := HB2.out.size
    have hs0 : Below w2.heap.size w2 w2.drew := (Below.refl _ _).drew
    have hzu : IntKind.u8.wrap 1 = 1 := by decide
    refine wp_region_two [0, 1, 2, 3, 4, 6] [5, 7] [8, 9] [10, 11] (fun w' => w'.cell? ⟨w.heap.size, 0, none⟩ = some (.int .u8 3) ∧ (w'.cell? ⟨b2, 4, none⟩ = some (.int .i64 lx) ∧ w'.cell? ⟨b2, 5, none⟩ = some (.int .i64 lz) ∧ w'.cell? ⟨b2, 6, none⟩ = some (.int .i64 hx) ∧ w'.cell? ⟨b2, 7, none⟩ = some (.int .i64 hz)) ∧ w'.cell? ⟨w.heap.size + 1, 0, none⟩ = some (.int .i64 W) ∧ w'.cell? ⟨w.heap.size + 1, 1, none⟩ = some (.int .i64 H) ∧ w'.cell? ⟨w.heap.size + 1, 2, none⟩ = some (.int .i64 S)) (by kernel_rfl) (by kernel_rfl) (HS.out _ hs0) ?_
    simp only [List.map_cons, List.map_nil, opAt, List.getElem?_cons_succ, List.getElem?_cons_zero, Option.getD_some]
    iterate 6
      refine ⟨?_, Or.inl ⟨by rfl, ?_⟩, ?_⟩
      rotate_left 1
      · intro w' hSw
        obtain ⟨z0, ⟨z1, z2, z3, z4⟩, z5, z6, z7⟩ := hSw
        go_simp
        first | done | with_reducible rfl
      simp only [Act.put, List.setIfInBounds_toArray, List.set_cons_zero, List.set_cons_succ]
    simp only [wpReads, wpChain]
    intro K hK
    simp only [Act.put, List.setIfInBounds_toArray, List.set_cons_zero, List.set_cons_succ] at hK ⊢
    go_simp
    refine hK _ _ (HS.out _ ((Below.refl _ _).alloc (Nat.le_refl _) _).drew) ?_
    clear hK K
    intro K hK
    simp only [Act.put, List.setIfInBounds_toArray, List.set_cons_zero, List.set_cons_succ] at hK ⊢
    go_simp
    refine (HT.out _ _ (rdf_one_dr _ _ _ _ _ _)).mono ?_
    rintro e w7 ⟨hpc, hb7⟩
    have hpc2 := pcs_base (B0 := w.heap.size) hpc (by simp; omega)
    obtain ⟨A7, c7, L7, rfl, l0, l1, l2⟩ := hpc2
    have HL := hide (And.intro l0 (And.intro l1 l2))
    have HB7 : Hid (Below w2.heap.size w2 w7) := hide (Below.trans ((Below.refl _ _).alloc (Nat.le_refl _) _).drew (hb7.mono (by simp <;> omega)))
    clear hb7 hpc l0 l1 l2
    refine hK _ _ (HS.out _ HB7.out) ?_
    clear hK K
    iterate 2
      refine ⟨?_, Or.inl ⟨by rfl, ?_⟩, ?_⟩
      rotate_left 1
      · intro w' hSw
        obtain ⟨z0, ⟨z1, z2, z3, z4⟩, z5, z6, z7⟩ := hSw
        go_simp
        first | done | with_reducible rfl
      try simp only [Act.put, List.setIfInBounds_toArray, List.set_cons_zero, List.set_cons_succ]
    intro K hK
    simp only [Act.put, List.setIfInBounds_toArray, List.set_cons_zero, List.set_cons_succ] at hK ⊢
    go_simp
    refine hK _ _ (fun _ => HS.out _ HB7.out) ?_
    clear hK K
    intro K hK
    simp only [Act.put, List.setIfInBounds_toArray, List.set_cons_zero, List.set_cons_succ] at hK ⊢
    go_simp
    refine hK _ _ (fun h => absurd rfl h) ?_
    clear hK K
    refine NoPanic.normal ?_
    go_wp2_with (fail)
    go_ret2
    exact ⟨⟨A7, c7, L7, rfl, HL.out.1, HL.out.2.1, HL.out.2.2⟩, HB2.out.trans (HB7.out.mono HB2.out.size)⟩
  · have hF : faceF W H S ⟨3, lx, ly, lz, hx, hy, hz⟩ = ([], 8) := by unfold faceF; rw [if_neg (by rw [e1]; decide), e1]
    rw [hF]
    rw [e1] at HK
    clear hF e1 hfl
    go_enter Tryz.func6, Tryz.ntmps6
    go_upto_region 1 with fail
    refine wp_name fun w0 hw0 => ?_
    have hb0 : Below w.heap.size w w0 := by
      rw [hw0]
      repeat (first | with_reducible exact Below.refl _ _ | with_reducible refine Below.setCell ?_ (by first | (simp; done) | (simp; omega)) _ | with_reducible refine Below.alloc ?_ (by first | omega | (simp; omega) | simp) _)
    have d0 : w0.cell? ⟨w.heap.size, 0, none⟩ = some (.int .u8 3) := by rw [hw0]; simp [go_sem]
    have d1 : w0.cell? ⟨w.heap.size, 1, none⟩ = some (.int .i64 lx) := by rw [hw0]; simp [go_sem]
    have d2 : w0.cell? ⟨w.heap.size, 2, none⟩ = some (.int .i64 ly) := by rw [hw0]; simp [go_sem]
    have d3 : w0.cell? ⟨w.heap.size, 3, none⟩ = some (.int .i64 lz) := by rw [hw0]; simp [go_sem]
    have d4 : w0.cell? ⟨w.heap.size, 4, none⟩ = some (.int .i64 hx) := by rw [hw0]; simp [go_sem]
    have d5 : w0.cell? ⟨w.heap.size, 5, none⟩ = some (.int .i64 hy) := by rw [hw0]; simp [go_sem]
    have d6 : w0.cell? ⟨w.heap.size, 6, none⟩ = some (.int .i64 hz) := by rw [hw0]; simp [go_sem]
    have p0 : w0.cell? ⟨w.heap.size + 1, 0, none⟩ = some (.int .i64 W) := by rw [hw0]; simp [go_sem]
    have p1 : w0.cell? ⟨w.heap.size + 1, 1, none⟩ = some (.int .i64 H) := by rw [hw0]; simp [go_sem]
    have p2 : w0.cell? ⟨w.heap.size + 1, 2, none⟩ = some (.int .i64 S) := by rw [hw0]; simp [go_sem]
    have h0 : w.heap.size < w0.heap.size := by rw [hw0]; simp; omega
    have h1 : w.heap.size + 1 < w0.heap.size := by rw [hw0]; simp
    have HB0 := hide hb0
    clear hw0 hb0
    go_wp2_with (fail)
    refine (HK.out _ _ (rd_q _ _ _ _ _ _ _ _ _)).mono ?_
    rintro e w1 ⟨rfl, hbx⟩
    have hb : Below w0.heap.size w0 w1 := ((Below.refl _ _).alloc (Nat.le_refl _) _).trans (hbx.mono (by simp))
    have HB1 := hide (HB0.out.trans (hb.mono HB0.out.size))
    replace d0 := (hb.cell (p := ⟨w.heap.size, 0, none⟩) h0).trans d0
    replace d1 := (hb.cell (p := ⟨w.heap.size, 1, none⟩) h0).trans d1
    replace d2 := (hb.cell (p := ⟨w.heap.size, 2, none⟩) h0).trans d2
    replace d3 := (hb.cell (p := ⟨w.heap.size, 3, none⟩) h0).trans d3
    replace d4 := (hb.cell (p := ⟨w.heap.size, 4, none⟩) h0).trans d4
    replace d5 := (hb.cell (p := ⟨w.heap.size, 5, none⟩) h0).trans d5
    replace d6 := (hb.cell (p := ⟨w.heap.size, 6, none⟩) h0).trans d6
    replace p0 := (hb.cell (p := ⟨w.heap.size + 1, 0, none⟩) h1).trans p0
    replace p1 := (hb.cell (p := ⟨w.heap.size + 1, 1, none⟩) h1).trans p1
    replace p2 := (hb.cell (p := ⟨w.heap.size + 1, 2, none⟩) h1).trans p2
    replace h0 := Nat.lt_of_lt_of_le h0 hb.size
    replace h1 := Nat.lt_of_lt_of_le h1 hb.size
    clear hb hbx HB0
    go_wp2_with (fail)
    go_ret2
    exact ⟨pcs_err _ 8 _, HB1.out⟩
set_option maxRecDepth 100000 in
set_option maxHeartbeats 8000000 in
theorem tface4_any (lx ly lz hx hy hz W H S : Int) (w : World) :
    Calls Tryz.prog 6 #[.agg #[.int .u8 4, .int .i64 lx, .int .i64 ly, .int .i64 lz, .int .i64 hx, .int .i64 hy, .int .i64 hz], .agg #[.int .i64 W, .int .i64 H, .int .i64 S]] w fun e w' => PcsRet w.heap.size (faceF W H S ⟨4, lx, ly, lz, hx, hy, hz⟩) e w' ∧ Below w.heap.size w w' := by
  have hfl : flatR ⟨4, lx, ly, lz, hx, hy, hz⟩ = ⟨lx, ly, hx, hy⟩ := by unfold flatR; simp
  have HK := hide (fun (W' : World) (v : Value) (h : RdK encQd 7 W' W'.heap.size v [⟨4, lx, ly, lz, hx, hy, hz⟩]) => mcheck_any h (by decide))
  rcases chk_ok8 ⟨4, lx, ly, lz, hx, hy, hz⟩ with ⟨e1, -⟩ | ⟨e1, -⟩
  · have hF : faceF W H S ⟨4, lx, ly, lz, hx, hy, hz⟩ = tileF W H S [⟨lx, ly, hx, hy⟩] := by unfold faceF; rw [if_pos e1, hfl]
    rw [hF]
    rw [e1] at HK
    have HT := hide (fun (W' : World) (v : Value) (h : RdK encR 4 W' W'.heap.size v [⟨lx, ly, hx, hy⟩]) => tile_any h (by simp) W H S)
    generalize tileF W H S [⟨lx, ly, hx, hy⟩] = TF at *
    obtain ⟨R, E⟩ := TF
    clear hF e1 hfl
    go_enter Tryz.func6, Tryz.ntmps6
    go_upto_region 1 with fail
    refine wp_name fun w0 hw0 => ?_
    have hb0 : Below w.heap.size w w0 := by
      rw [hw0]
      repeat (first | with_reducible exact Below.refl _ _ | with_reducible refine Below.setCell ?_ (by first | (simp; done) | (simp; omega)) _ | with_reducible refine Below.alloc ?_ (by first | omega | (simp; omega) | simp) _)
    have d0 : w0.cell? ⟨w.heap.size, 0, none⟩ = some (.int .u8 4) := by rw [hw0]; simp [go_sem]
    have d1 : w0.cell? ⟨w.heap.size, 1, none⟩ = some (.int .i64 lx) := by rw [hw0]; simp [go_sem]
    have d2 : w0.cell? ⟨w.heap.size, 2, none⟩ = some (.int .i64 ly) := by rw [hw0]; simp [go_sem]
    have d3 : w0.cell? ⟨w.heap.size, 3, none⟩ = some (.int .i64 lz) := by rw [hw0]; simp [go_sem]
    have d4 : w0.cell? ⟨w.heap.size, 4, none⟩ = some (.int .i64 hx) := by rw [hw0]; simp [go_sem]
    have d5 : w0.cell? ⟨w.heap.size, 5, none⟩ = some (.int .i64 hy) := by rw [hw0]; simp [go_sem]
    have d6 : w0.cell? ⟨w.heap.size, 6, none⟩ = some (.int .i64 hz) := by rw [hw0]; simp [go_sem]
    have p0 : w0.cell? ⟨w.heap.size + 1, 0, none⟩ = some (.int .i64 W) := by rw [hw0]; simp [go_sem]
    have p1 : w0.cell? ⟨w.heap.size + 1, 1, none⟩ = some (.int .i64 H) := by rw [hw0]; simp [go_sem]
    have p2 : w0.cell? ⟨w.heap.size + 1, 2, none⟩ = some (.int .i64 S) := by rw [hw0]; simp [go_sem]
    have h0 : w.heap.size < w0.heap.size := by rw [hw0]; simp; omega
    have h1 : w.heap.size + 1 < w0.heap.size := by rw [hw0]; simp
    have HB0 := hide hb0
    clear hw0 hb0
    go_wp2_with (fail)
    refine (HK.out _ _ (rd_q _ _ _ _ _ _ _ _ _)).mono ?_
    rintro e w1 ⟨rfl, hbx⟩
    have hb : Below w0.heap.size w0 w1 := ((Below.refl _ _).alloc (Nat.le_refl _) _).trans (hbx.mono (by simp))
    have HB1 := hide (HB0.out.trans (hb.mono HB0.out.size))
    replace d0 := (hb.cell (p := ⟨w.heap.size, 0, none⟩) h0).trans d0
    replace d1 := (hb.cell (p := ⟨w.heap.size, 1, none⟩) h0).trans d1
    replace d2 := (hb.cell (p := ⟨w.heap.size, 2, none⟩) h0).trans d2
    replace d3 := (hb.cell (p := ⟨w.heap.size, 3, none⟩) h0).trans d3
    replace d4 := (hb.cell (p := ⟨w.heap.size, 4, none⟩) h0).trans d4
    replace d5 := (hb.cell (p := ⟨w.heap.size, 5, none⟩) h0).trans d5
    replace d6 := (hb.cell (p := ⟨w.heap.size, 6, none⟩) h0).trans d6
    replace p0 := (hb.cell (p := ⟨w.heap.size + 1, 0, none⟩) h1).trans p0
    replace p1 := (hb.cell (p := ⟨w.heap.size + 1, 1, none⟩) h1).trans p1
    replace p2 := (hb.cell (p := ⟨w.heap.size + 1, 2, none⟩) h1).trans p2
    replace h0 := Nat.lt_of_lt_of_le h0 hb.size
    replace h1 := Nat.lt_of_lt_of_le h1 hb.size
    clear hb hbx HB0
    go_upto_region 5 with fail
    refine wp_name fun w2 hw2 => ?_
    have hb : Below w1.heap.size w1 w2 := by
      rw [hw2]
      repeat (first | with_reducible exact Below.refl _ _ | with_reducible refine Below.setCell ?_ (by first | (simp; done) | (simp; omega)) _ | with_reducible refine Below.alloc ?_ (by first | omega | (simp; omega) | simp) _)
    obtain ⟨b2, hb2e⟩ : ∃ b, b = w1.heap.size := ⟨_, rfl⟩
    have r0 : w2.cell? ⟨b2, 8, none⟩ = some (.int .i64 lx) := by rw [hw2, hb2e]; simp [go_sem]
    have r1 : w2.cell? ⟨b2, 9, none⟩ = some (.int .i64 ly) := by rw [hw2, hb2e]; simp [go_sem]
    have r2 : w2.cell? ⟨b2, 10, none⟩ = some (.int .i64 hx) := by rw [hw2, hb2e]; simp [go_sem]
    have r3 : w2.cell? ⟨b2, 11, none⟩ = some (.int .i64 hy) := by rw [hw2, hb2e]; simp [go_sem]
    have hb2 : b2 < w2.heap.size := by rw [hw2, hb2e]; simp
    have HB2 := hide (HB1.out.trans (hb.mono HB1.out.size))
    replace d0 := (hb.cell (p := ⟨w.heap.size, 0, none⟩) h0).trans d0
    replace p0 := (hb.cell (p := ⟨w.heap.size + 1, 0, none⟩) h1).trans p0
    replace p1 := (hb.cell (p := ⟨w.heap.size + 1, 1, none⟩) h1).trans p1
    replace p2 := (hb.cell (p := ⟨w.heap.size + 1, 2, none⟩) h1).trans p2
    replace h0 := Nat.lt_of_lt_of_le h0 hb.size
    replace h1 := Nat.lt_of_lt_of_le h1 hb.size
    rw [← hb2e]
    clear hw2 hb hb2e HB1 d1 d2 d3 d4 d5 d6
    have HS : Hid (∀ w' : World, Below w2.heap.size w2 w' → w'.cell? ⟨w.heap.size, 0, none⟩ = some (.int .u8 4) ∧ (w'.cell? ⟨b2, 8, none⟩ = some (.int .i64 lx) ∧ w'.cell? ⟨b2, 9, none⟩ = some (.int .i64 ly) ∧ w'.cell? ⟨b2, 10, none⟩ = some (.int .i64 hx) ∧ w'.cell? ⟨b2, 11, none⟩ = some (.int .i64 hy)) ∧ w'.cell? ⟨w.heap.size + 1, 0, none⟩ = some (.int .i64 W) ∧ w'.cell? ⟨w.heap.size + 1, 1, none⟩ = some (.int .i64 H) ∧ w'.cell? ⟨w.heap.size + 1, 2, none⟩ = some (.int .i64 S)) := hide (fun w' h => ⟨(h.cell (p := ⟨w.heap.size, 0, none⟩) h0).trans d0, ⟨(h.cell (p := ⟨b2, 8, none⟩) hb2).trans r0, (h.cell (p := ⟨b2, 9, none⟩) hb2).trans r1, (h.cell (p := ⟨b2, 10, none⟩) hb2).trans r2, (h.cell (p := ⟨b2, 11, none⟩) hb2).trans r3⟩, (h.cell (p := ⟨w.heap.size + 1, 0, none⟩) h1).trans p0, (h.cell (p := ⟨w.heap.size + 1, 1, none⟩) h1).trans p1, (h.cell (p := ⟨w.heap.size + 1, 2, none⟩) h1).trans p2⟩)
    have hsz := HB2.out.size
    have hs0 : Below w2.heap.size w2 w2.drew := (Below.refl _ _).drew
    have hzu : IntKind.u8.wrap 2 = 2 := by decide
    refine wp_region_two [0, 1, 2, 3, 4, 6] [5, 7] [8, 9] [10, 11] (fun w' => w'.cell? ⟨w.heap.size, 0, none⟩ = some (.int .u8 4) ∧ (w'.cell? ⟨b2, 8, none⟩ = some (.int .i64 lx) ∧ w'.cell? ⟨b2, 9, none⟩ = some (.int .i64 ly) ∧ w'.cell? ⟨b2, 10, none⟩ = some (.int .i64 hx) ∧ w'.cell? ⟨b2, 11, none⟩ = some (.int .i64 hy)) ∧ w'.cell? ⟨w.heap.size + 1, 0, none⟩ = some (.int .i64 W) ∧ w'.cell? ⟨w.heap.size + 1, 1, none⟩ = some (.int .i64 H) ∧ w'.cell? ⟨w.heap.size + 1, 2, none⟩ = some (.int .i64 S)) (by kernel_rfl) (by kernel_rfl) (HS.out _ hs0) ?_
    simp only [List.map_cons, List.map_nil, opAt, List.getElem?_cons_succ, List.getElem?_cons_zero, Option.getD_some]
    iterate 6
      refine ⟨?_, Or.inl ⟨by rfl, ?_⟩, ?_⟩
      rotate_left 1
      · intro w' hSw
        obtain ⟨z0, ⟨z1, z2, z3, z4⟩, z5, z6, z7⟩ := hSw
        go_simp
        first | done | with_reducible rfl
      simp only [Act.put, List.setIfInBounds_toArray, List.set_cons_zero, List.set_cons_succ]
    simp only [wpReads, wpChain]
    intro K hK
    simp only [Act.put, List.setIfInBounds_toArray, List.set_cons_zero, List.set_cons_succ] at hK ⊢
    go_simp
    refine hK _ _ (HS.out _ ((Below.refl _ _).alloc (Nat.le_refl _) _).drew) ?_
    clear hK K
    intro K hK
    simp only [Act.put, List.setIfInBounds_toArray, List.set_cons_zero, List.set_cons_succ] at hK ⊢
    go_simp
    refine (HT.out _ _ (rdf_one_dr _ _ _ _ _ _)).mono ?_
    rintro e w7 ⟨hpc, hb7⟩
    have hpc2 := pcs_base (B0 := w.heap.size) hpc (by simp; omega)
    obtain ⟨A7, c7, L7, rfl, l0, l1, l2⟩ := hpc2
    have HL := hide (And.intro l0 (And.intro l1 l2))
    have HB7 : Hid (Below w2.heap.size w2 w7) := hide (Below.trans ((Below.refl _ _).alloc (Nat.le_refl _) _).drew (hb7.mono (by simp <;> omega)))
    clear hb7 hpc l0 l1 l2
    refine hK _ _ (HS.out _ HB7.out) ?_
    clear hK K
    iterate 2
      refine ⟨?_, Or.inl ⟨by rfl, ?_⟩, ?_⟩
      rotate_left 1
      · intro w' hSw
        obtain ⟨z0, ⟨z1, z2, z3, z4⟩, z5, z6, z7⟩ := hSw
        go_simp
        first | done | with_reducible rfl
      try simp only [Act.put, List.setIfInBounds_toArray, List.set_cons_zero, List.set_cons_succ]
    intro K hK
    simp only [Act.put, List.setIfInBounds_toArray, List.set_cons_zero, List.set_cons_succ] at hK ⊢
    go_simp
    refine hK _ _ (fun _ => HS.out _ HB7.out) ?_
    clear hK K
    intro K hK
    simp only [Act.put, List.setIfInBounds_toArray, List.set_cons_zero, List.set_cons_succ] at hK ⊢
    go_simp
    refine hK _ _ (fun h => absurd rfl h) ?_
    clear hK K
    refine NoPanic.normal ?_
    go_wp2_with (fail)
    go_ret2
    exact ⟨⟨A7, c7, L7, rfl, HL.out.1, HL.out.2.1, HL.out.2.2⟩, HB2.out.trans (HB7.out.mono HB2.out.size)⟩
  · have hF : faceF W H S ⟨4, lx, ly, lz, hx, hy, hz⟩ = ([], 8) := by unfold faceF; rw [if_neg (by rw [e1]; decide), e1]
    rw [hF]
    rw [e1] at HK
    clear hF e1 hfl
    go_enter Tryz.func6, Tryz.ntmps6
    go_upto_region 1 with fail
    refine wp_name fun w0 hw0 => ?_
    have hb0 : Below w.heap.size w w0 := by
      rw [hw0]
      repeat (first | with_reducible exact Below.refl _ _ | with_reducible refine Below.setCell ?_ (by first | (simp; done) | (simp; omega)) _ | with_reducible refine Below.alloc ?_ (by first | omega | (simp; omega) | simp) _)
    have d0 : w0.cell? ⟨w.heap.size, 0, none⟩ = some (.int .u8 4) := by rw [hw0]; simp [go_sem]
    have d1 : w0.cell? ⟨w.heap.size, 1, none⟩ = some (.int .i64 lx) := by rw [hw0]; simp [go_sem]
    have d2 : w0.cell? ⟨w.heap.size, 2, none⟩ = some (.int .i64 ly) := by rw [hw0]; simp [go_sem]
    have d3 : w0.cell? ⟨w.heap.size, 3, none⟩ = some (.int .i64 lz) := by rw [hw0]; simp [go_sem]
    have d4 : w0.cell? ⟨w.heap.size, 4, none⟩ = some (.int .i64 hx) := by rw [hw0]; simp [go_sem]
    have d5 : w0.cell? ⟨w.heap.size, 5, none⟩ = some (.int .i64 hy) := by rw [hw0]; simp [go_sem]
    have d6 : w0.cell? ⟨w.heap.size, 6, none⟩ = some (.int .i64 hz) := by rw [hw0]; simp [go_sem]
    have p0 : w0.cell? ⟨w.heap.size + 1, 0, none⟩ = some (.int .i64 W) := by rw [hw0]; simp [go_sem]
    have p1 : w0.cell? ⟨w.heap.size + 1, 1, none⟩ = some (.int .i64 H) := by rw [hw0]; simp [go_sem]
    have p2 : w0.cell? ⟨w.heap.size + 1, 2, none⟩ = some (.int .i64 S) := by rw [hw0]; simp [go_sem]
    have h0 : w.heap.size < w0.heap.size := by rw [hw0]; simp; omega
    have h1 : w.heap.size + 1 < w0.heap.size := by rw [hw0]; simp
    have HB0 := hide hb0
    clear hw0 hb0
    go_wp2_with (fail)
    refine (HK.out _ _ (rd_q _ _ _ _ _ _ _ _ _)).mono ?_
    rintro e w1 ⟨rfl, hbx⟩
    have hb : Below w0.heap.size w0 w1 := ((Below.refl _ _).alloc (Nat.le_refl _) _).trans (hbx.mono (by simp))
    have HB1 := hide (HB0.out.trans (hb.mono HB0.out.size))
    replace d0 := (hb.cell (p := ⟨w.heap.size, 0, none⟩) h0).trans d0
    replace d1 := (hb.cell (p := ⟨w.heap.size, 1, none⟩) h0).trans d1
    replace d2 := (hb.cell (p := ⟨w.heap.size, 2, none⟩) h0).trans d2
    replace d3 := (hb.cell (p := ⟨w.heap.size, 3, none⟩) h0).trans d3
    replace d4 := (hb.cell (p := ⟨w.heap.size, 4, none⟩) h0).trans d4
    replace d5 := (hb.cell (p := ⟨w.heap.size, 5, none⟩) h0).trans d5
    replace d6 := (hb.cell (p := ⟨w.heap.size, 6, none⟩) h0).trans d6
    replace p0 := (hb.cell (p := ⟨w.heap.size + 1, 0, none⟩) h1).trans p0
    replace p1 := (hb.cell (p := ⟨w.heap.size + 1, 1, none⟩) h1).trans p1
    replace p2 := (hb.cell (p := ⟨w.heap.size + 1, 2, none⟩) h1).trans p2
    replace h0 := Nat.lt_of_lt_of_le h0 hb.size
    replace h1 := Nat.lt_of_lt_of_le h1 hb.size
    clear hb hbx HB0
    go_wp2_with (fail)
    go_ret2
    exact ⟨pcs_err _ 8 _, HB1.out⟩
set_option maxRecDepth 100000 in
set_option maxHeartbeats 8000000 in
theorem tface5_any (lx ly lz hx hy hz W H S : Int) (w : World) :
    Calls Tryz.prog 6 #[.agg #[.int .u8 5, .int .i64 lx, .int .i64 ly, .int .i64 lz, .int .i64 hx, .int .i64 hy, .int .i64 hz], .agg #[.int .i64 W, .int .i64 H, .int .i64 S]] w fun e w' => PcsRet w.heap.size (faceF W H S ⟨5, lx, ly, lz, hx, hy, hz⟩) e w' ∧ Below w.heap.size w w' := by
  have hfl : flatR ⟨5, lx, ly, lz, hx, hy, hz⟩ = ⟨lx, ly, hx, hy⟩ := by unfold flatR; simp
  have HK := hide (fun (W' : World) (v : Value) (h : RdK encQd 7 W' W'.heap.size v [⟨5, lx, ly, lz, hx, hy, hz⟩]) => mcheck_any h (by decide))
  rcases chk_ok8 ⟨5, lx, ly, lz, hx, hy, hz⟩ with ⟨e1, -⟩ | ⟨e1, -⟩
  · have hF : faceF W H S ⟨5, lx, ly, lz, hx, hy, hz⟩ = tileF W H S [⟨lx, ly, hx, hy⟩] := by unfold faceF; rw [if_pos e1, hfl]
    rw [hF]
    rw [e1] at HK
    have HT := hide (fun (W' : World) (v : Value) (h : RdK encR 4 W' W'.heap.size v [⟨lx, ly, hx, hy⟩]) => tile_any h (by simp) W H S)
    generalize tileF W H S [⟨lx, ly, hx, hy⟩] = TF at *
    obtain ⟨R, E⟩ := TF
    clear hF e1 hfl
    go_enter Tryz.func6, Tryz.ntmps6
    go_upto_region 1 with fail
    refine wp_name fun w0 hw0 => ?_
    have hb0 : Below w.heap.size w w0 := by
      rw [hw0]
      repeat (first | with_reducible exact Below.refl _ _ | with_reducible refine Below.setCell ?_ (by first | (simp; done) | (simp; omega)) _ | with_reducible refine Below.alloc ?_ (by first | omega | (simp; omega) | simp) _)
    have d0 : w0.cell? ⟨w.heap.size, 0, none⟩ = some (.int .u8 5) := by rw [hw0]; simp [go_sem]
    have d1 : w0.cell? ⟨w.heap.size, 1, none⟩ = some (.int .i64 lx) := by rw [hw0]; simp [go_sem]
    have d2 : w0.cell? ⟨w.heap.size, 2, none⟩ = some (.int .i64 ly) := by rw [hw0]; simp [go_sem]
    have d3 : w0.cell? ⟨w.heap.size, 3, none⟩ = some (.int .i64 lz) := by rw [hw0]; simp [go_sem]
    have d4 : w0.cell? ⟨w.heap.size, 4, none⟩ = some (.int .i64 hx) := by rw [hw0]; simp [go_sem]
    have d5 : w0.cell? ⟨w.heap.size, 5, none⟩ = some (.int .i64 hy) := by rw [hw0]; simp [go_sem]
    have d6 : w0.cell? ⟨w.heap.size, 6, none⟩ = some (.int .i64 hz) := by rw [hw0]; simp [go_sem]
    have p0 : w0.cell? ⟨w.heap.size + 1, 0, none⟩ = some (.int .i64 W) := by rw [hw0]; simp [go_sem]
    have p1 : w0.cell? ⟨w.heap.size + 1, 1, none⟩ = some (.int .i64 H) := by rw [hw0]; simp [go_sem]
    have p2 : w0.cell? ⟨w.heap.size + 1, 2, none⟩ = some (.int .i64 S) := by rw [hw0]; simp [go_sem]
    have h0 : w.heap.size < w0.heap.size := by rw [hw0]; simp; omega
    have h1 : w.heap.size + 1 < w0.heap.size := by rw [hw0]; simp
    have HB0 := hide hb0
    clear hw0 hb0
    go_wp2_with (fail)
    refine (HK.out _ _ (rd_q _ _ _ _ _ _ _ _ _)).mono ?_
    rintro e w1 ⟨rfl, hbx⟩
    have hb : Below w0.heap.size w0 w1 := ((Below.refl _ _).alloc (Nat.le_refl _) _).trans (hbx.mono (by simp))
    have HB1 := hide (HB0.out.trans (hb.mono HB0.out.size))
    replace d0 := (hb.cell (p := ⟨w.heap.size, 0, none⟩) h0).trans d0
    replace d1 := (hb.cell (p := ⟨w.heap.size, 1, none⟩) h0).trans d1
    replace d2 := (hb.cell (p := ⟨w.heap.size, 2, none⟩) h0).trans d2
    replace d3 := (hb.cell (p := ⟨w.heap.size, 3, none⟩) h0).trans d3
    replace d4 := (hb.cell (p := ⟨w.heap.size, 4, none⟩) h0).trans d4
    replace d5 := (hb.cell (p := ⟨w.heap.size, 5, none⟩) h0).trans d5
    replace d6 := (hb.cell (p := ⟨w.heap.size, 6, none⟩) h0).trans d6
    replace p0 := (hb.cell (p := ⟨w.heap.size + 1, 0, none⟩) h1).trans p0
    replace p1 := (hb.cell (p := ⟨w.heap.size + 1, 1, none⟩) h1).trans p1
    replace p2 := (hb.cell (p := ⟨w.heap.size + 1, 2, none⟩) h1).trans p2
    replace h0 := Nat.lt_of_lt_of_le h0 hb.size
    replace h1 := Nat.lt_of_lt_of_le h1 hb.size
    clear hb hbx HB0
    go_upto_region 5 with fail
    refine wp_name fun w2 hw2 => ?_
    have hb : Below w1.heap.size w1 w2 := by
      rw [hw2]
      repeat (first | with_reducible exact Below.refl _ _ | with_reducible refine Below.setCell ?_ (by first | (simp; done) | (simp; omega)) _ | with_reducible refine Below.alloc ?_ (by first | omega | (simp; omega) | simp) _)
    obtain ⟨b2, hb2e⟩ : ∃ b, b = w1.heap.size := ⟨_, rfl⟩
    have r0 : w2.cell? ⟨b2, 8, none⟩ = some (.int .i64 lx) := by rw [hw2, hb2e]; simp [go_sem]
    have r1 : w2.cell? ⟨b2, 9, none⟩ = some (.int .i64 ly) := by rw [hw2, hb2e]; simp [go_sem]
    have r2 : w2.cell? ⟨b2, 10, none⟩ = some (.int .i64 hx) := by rw [hw2, hb2e]; simp [go_sem]
    have r3 : w2.cell? ⟨b2, 11, none⟩ = some (.int .i64 hy) := by rw [hw2, hb2e]; simp [go_sem]
    have hb2 : b2 < w2.heap.size := by rw [hw2, hb2e]; simp
    have HB2 := hide (HB1.out.trans (hb.mono HB1.out.size))
    replace d0 := (hb.cell (p := ⟨w.heap.size, 0, none⟩) h0).trans d0
    replace p0 := (hb.cell (p := ⟨w.heap.size + 1, 0, none⟩) h1).trans p0
    replace p1 := (hb.cell (p := ⟨w.heap.size + 1, 1, none⟩) h1).trans p1
    replace p2 := (hb.cell (p := ⟨w.heap.size + 1, 2, none⟩) h1).trans p2
    replace h0 := Nat.lt_of_lt_of_le h0 hb.size
    replace h1 := Nat.lt_of_lt_of_le h1 hb.size
    rw [← hb2e]
    clear hw2 hb hb2e HB1 d1 d2 d3 d4 d5 d6
    have HS : Hid (∀ w' : World, Below w2.heap.size w2 w' → w'.cell? ⟨w.heap.size, 0, none⟩ = some (.int .u8 5) ∧ (w'.cell? ⟨b2, 8, none⟩ = some (.int .i64 lx) ∧ w'.cell? ⟨b2, 9, none⟩ = some (.int .i64 ly) ∧ w'.cell? ⟨b2, 10, none⟩ = some (.int .i64 hx) ∧ w'.cell? ⟨b2, 11, none⟩ = some (.int .i64 hy)) ∧ w'.cell? ⟨w.heap.size + 1, 0, none⟩ = some (.int .i64 W) ∧ w'.cell? ⟨w.heap.size + 1, 1, none⟩ = some (.int .i64 H) ∧ w'.cell? ⟨w.heap.size + 1, 2, none⟩ = some (.int .i64 S)) := hide (fun w' h => ⟨(h.cell (p := ⟨w.heap.size, 0, none⟩) h0).trans d0, ⟨(h.cell (p := ⟨b2, 8, none⟩) hb2).trans r0, (h.cell (p := ⟨b2, 9, none⟩) hb2).trans r1, (h.cell (p := ⟨b2, 10, none⟩) hb2).trans r2, (h.cell (p := ⟨b2, 11, none⟩) hb2).trans r3⟩, (h.cell (p := ⟨w.heap.size + 1, 0, none⟩) h1).trans p0, (h.cell (p := ⟨w.heap.size + 1, 1, none⟩) h1).trans p1, (h.cell (p := ⟨w.heap.size + 1, 2, none⟩) h1).trans p2⟩)
    have hsz := HB2.out.size
    have hs0 : Below w2.heap.size w2 w2.drew := (Below.refl _ _).drew
    have hzu : IntKind.u8.wrap 2 = 2 := by decide
    refine wp_region_two [0, 1, 2, 3, 4, 6] [5, 7] [8, 9] [10, 11] (fun w' => w'.cell? ⟨w.heap.size, 0, none⟩ = some (.int .u8 5) ∧ (w'.cell? ⟨b2, 8, none⟩ = some (.int .i64 lx) ∧ w'.cell? ⟨b2, 9, none⟩ = some (.int .i64 ly) ∧ w'.cell? ⟨b2, 10, none⟩ = some (.int .i64 hx) ∧ w'.cell? ⟨b2, 11, none⟩ = some (.int .i64 hy)) ∧ w'.cell? ⟨w.heap.size + 1, 0, none⟩ = some (.int .i64 W) ∧ w'.cell? ⟨w.heap.size + 1, 1, none⟩ = some (.int .i64 H) ∧ w'.cell? ⟨w.heap.size + 1, 2, none⟩ = some (.int .i64 S)) (by kernel_rfl) (by kernel_rfl) (HS.out _ hs0) ?_
    simp only [List.map_cons, List.map_nil, opAt, List.getElem?_cons_succ, List.getElem?_cons_zero, Option.getD_some]
    iterate 6
      refine ⟨?_, Or.inl ⟨by rfl, ?_⟩, ?_⟩
      rotate_left 1
      · intro w' hSw
        obtain ⟨z0, ⟨z1, z2, z3, z4⟩, z5, z6, z7⟩ := hSw
        go_simp
        first | done | with_reducible rfl
      simp only [Act.put, List.setIfInBounds_toArray, List.set_cons_zero, List.set_cons_succ]
    simp only [wpReads, wpChain]
    intro K hK
    simp only [Act.put, List.setIfInBounds_toArray, List.set_cons_zero, List.set_cons_succ] at hK ⊢
    go_simp
    refine hK _ _ (HS.out _ ((Below.refl _ _).alloc (Nat.le_refl _) _).drew) ?_
    clear hK K
    intro K hK
    simp only [Act.put, List.setIfInBounds_toArray, List.set_cons_zero, List.set_cons_succ] at hK ⊢
    go_simp
    refine (HT.out _ _ (rdf_one_dr _ _ _ _ _ _)).mono ?_
    rintro e w7 ⟨hpc, hb7⟩
    have hpc2 := pcs_base (B0 := w.heap.size) hpc (by simp; omega)
    obtain ⟨A7, c7, L7, rfl, l0, l1, l2⟩ := hpc2
    have HL := hide (And.intro l0 (And.intro l1 l2))
    have HB7 : Hid (Below w2.heap.size w2 w7) := hide (Below.trans ((Below.refl _ _).alloc (Nat.le_refl _) _).drew (hb7.mono (by simp <;> omega)))
    clear hb7 hpc l0 l1 l2
    refine hK _ _ (HS.out _ HB7.out) ?_
    clear hK K
    iterate 2
      refine ⟨?_, Or.inl ⟨by rfl, ?_⟩, ?_⟩
      rotate_left 1
      · intro w' hSw
        obtain ⟨z0, ⟨z1, z2, z3, z4⟩, z5, z6, z7⟩ := hSw
        go_simp
        first | done | with_reducible rfl
      try simp only [Act.put, List.setIfInBounds_toArray, List.set_cons_zero, List.set_cons_succ]
    intro K hK
    simp only [Act.put, List.setIfInBounds_toArray, List.set_cons_zero, List.set_cons_succ] at hK ⊢
    go_simp
    refine hK _ _ (fun _ => HS.out _ HB7.out) ?_
    clear hK K
    intro K hK
    simp only [Act.put, List.setIfInBounds_toArray, List.set_cons_zero, List.set_cons_succ] at hK ⊢
    go_simp
    refine hK _ _ (fun h => absurd rfl h) ?_
    clear hK K
    refine NoPanic.normal ?_
    go_wp2_with (fail)
    go_ret2
    exact ⟨⟨A7, c7, L7, rfl, HL.out.1, HL.out.2.1, HL.out.2.2⟩, HB2.out.trans (HB7.out.mono HB2.out.size)⟩
  · have hF : faceF W H S ⟨5, lx, ly, lz, hx, hy, hz⟩ = ([], 8) := by unfold faceF; rw [if_neg (by rw [e1]; decide), e1]
    rw [hF]
    rw [e1] at HK
    clear hF e1 hfl
    go_enter Tryz.func6, Tryz.ntmps6
    go_upto_region 1 with fail
    refine wp_name fun w0 hw0 => ?_
    have hb0 : Below w.heap.size w w0 := by
      rw [hw0]
      repeat (first | with_reducible exact Below.refl _ _ | with_reducible refine Below.setCell ?_ (by first | (simp; done) | (simp; omega)) _ | with_reducible refine Below.alloc ?_ (by first | omega | (simp; omega) | simp) _)
    have d0 : w0.cell? ⟨w.heap.size, 0, none⟩ = some (.int .u8 5) := by rw [hw0]; simp [go_sem]
    have d1 : w0.cell? ⟨w.heap.size, 1, none⟩ = some (.int .i64 lx) := by rw [hw0]; simp [go_sem]
    have d2 : w0.cell? ⟨w.heap.size, 2, none⟩ = some (.int .i64 ly) := by rw [hw0]; simp [go_sem]
    have d3 : w0.cell? ⟨w.heap.size, 3, none⟩ = some (.int .i64 lz) := by rw [hw0]; simp [go_sem]
    have d4 : w0.cell? ⟨w.heap.size, 4, none⟩ = some (.int .i64 hx) := by rw [hw0]; simp [go_sem]
    have d5 : w0.cell? ⟨w.heap.size, 5, none⟩ = some (.int .i64 hy) := by rw [hw0]; simp [go_sem]
    have d6 : w0.cell? ⟨w.heap.size, 6, none⟩ = some (.int .i64 hz) := by rw [hw0]; simp [go_sem]
    have p0 : w0.cell? ⟨w.heap.size + 1, 0, none⟩ = some (.int .i64 W) := by rw [hw0]; simp [go_sem]
    have p1 : w0.cell? ⟨w.heap.size + 1, 1, none⟩ = some (.int .i64 H) := by rw [hw0]; simp [go_sem]
    have p2 : w0.cell? ⟨w.heap.size + 1, 2, none⟩ = some (.int .i64 S) := by rw [hw0]; simp [go_sem]
    have h0 : w.heap.size < w0.heap.size := by rw [hw0]; simp; omega
    have h1 : w.heap.size + 1 < w0.heap.size := by rw [hw0]; simp
    have HB0 := hide hb0
    clear hw0 hb0
    go_wp2_with (fail)
    refine (HK.out _ _ (rd_q _ _ _ _ _ _ _ _ _)).mono ?_
    rintro e w1 ⟨rfl, hbx⟩
    have hb : Below w0.heap.size w0 w1 := ((Below.refl _ _).alloc (Nat.le_refl _) _).trans (hbx.mono (by simp))
    have HB1 := hide (HB0.out.trans (hb.mono HB0.out.size))
    replace d0 := (hb.cell (p := ⟨w.heap.size, 0, none⟩) h0).trans d0
    replace d1 := (hb.cell (p := ⟨w.heap.size, 1, none⟩) h0).trans d1
    replace d2 := (hb.cell (p := ⟨w.heap.size, 2, none⟩) h0).trans d2
    replace d3 := (hb.cell (p := ⟨w.heap.size, 3, none⟩) h0).trans d3
    replace d4 := (hb.cell (p := ⟨w.heap.size, 4, none⟩) h0).trans d4
    replace d5 := (hb.cell (p := ⟨w.heap.size, 5, none⟩) h0).trans d5
    replace d6 := (hb.cell (p := ⟨w.heap.size, 6, none⟩) h0).trans d6
    replace p0 := (hb.cell (p := ⟨w.heap.size + 1, 0, none⟩) h1).trans p0
    replace p1 := (hb.cell (p := ⟨w.heap.size + 1, 1, none⟩) h1).trans p1
    replace p2 := (hb.cell (p := ⟨w.heap.size + 1, 2, none⟩) h1).trans p2
    replace h0 := Nat.lt_of_lt_of_le h0 hb.size
    replace h1 := Nat.lt_of_lt_of_le h1 hb.size
    clear hb hbx HB0
    go_wp2_with (fail)
    go_ret2
    exact ⟨pcs_err _ 8 _, HB1.out⟩
theorem tface_any (dd lx ly lz hx hy hz W H S : Int) (hd : 0 ≤ dd) (w : World) :
    Calls Tryz.prog 6 #[.agg #[.int .u8 dd, .int .i64 lx, .int .i64 ly, .int .i64 lz, .int .i64 hx, .int .i64 hy, .int .i64 hz], .agg #[.int .i64 W, .int .i64 H, .int .i64 S]] w fun e w' => PcsRet w.heap.size (faceF W H S ⟨dd, lx, ly, lz, hx, hy, hz⟩) e w' ∧ Below w.heap.size w w' := by
  rcases dir_cs hd with h | h | h | h
  · rcases h with rfl | rfl
    · exact tface0_any lx ly lz hx hy hz W H S w
    · exact tface1_any lx ly lz hx hy hz W H S w
  · rcases h with rfl | rfl
    · exact tface2_any lx ly lz hx hy hz W H S w
    · exact tface3_any lx ly lz hx hy hz W H S w
  · rcases h with rfl | rfl
    · exact tface4_any lx ly lz hx hy hz W H S w
    · exact tface5_any lx ly lz hx hy hz W H S w
  · have e : chkQ ⟨dd, lx, ly, lz, hx, hy, hz⟩ = 8 := by
      unfold chkQ okQ
      rw [if_neg]
      rw [decide_eq_false (by show ¬ dd ≤ 5; omega)]
      simp
    have hF : faceF W H S ⟨dd, lx, ly, lz, hx, hy, hz⟩ = ([], 8) := by unfold faceF; rw [if_neg (by rw [e]; decide), e]
    rw [hF]
    refine (face6_any dd lx ly lz hx hy hz W H S h w).mono fun e w' h => ?_
    obtain ⟨rfl, hb⟩ := h
    exact ⟨pcs_err _ 8 _, hb⟩
end Go.Proofs.YtjlfdgoijalfaaaGreat

/- gambrelref41.Face and NearQuad. -/
namespace Go.Proofs.YtjlfdgoijalfaaaGreat
open Go.RowKit
set_option linter.unusedVariables false
set_option linter.unusedSimpArgs false
attribute [local go_sem] Oper.semAt_some

theorem run_max6 {P : Program} (w : World) (ts : Array TypeId) (t : TypeId) (a b c d e f : Int) : (Builtin.max_ ts t #[.int .i64 a, .int .i64 b, .int .i64 c, .int .i64 d, .int .i64 e, .int .i64 f]).run P w = .ok (.int .i64 (max a (max b (max c (max d (max e f)))))) w := by
  have k : ∀ x y : Int, (if y > x then y else x) = max x y := fun x y => by
    by_cases h : y > x
    · rw [if_pos h]; omega
    · rw [if_neg h]; omega
  have k2 : ∀ (x y : Int) (v : World), Sem.run P (Builtin.max2 (.int .i64 x) (.int .i64 y)) v = .ok (.int .i64 (max x y)) v := fun x y v => by simp [Builtin.max2, k]
  simp only [Builtin.max_]
  simp [k2, Int.max_assoc]
theorem run_min6 {P : Program} (w : World) (ts : Array TypeId) (t : TypeId) (a b c d e f : Int) : (Builtin.min_ ts t #[.int .i64 a, .int .i64 b, .int .i64 c, .int .i64 d, .int .i64 e, .int .i64 f]).run P w = .ok (.int .i64 (min a (min b (min c (min d (min e f)))))) w := by
  have k : ∀ x y : Int, (if y < x then y else x) = min x y := fun x y => by
    by_cases h : y < x
    · rw [if_pos h]; omega
    · rw [if_neg h]; omega
  have k2 : ∀ (x y : Int) (v : World), Sem.run P (Builtin.min2 (.int .i64 x) (.int .i64 y)) v = .ok (.int .i64 (min x y)) v := fun x y v => by simp [Builtin.min2, k]
  simp only [Builtin.min_]
  simp [k2, Int.min_assoc]
set_option maxRecDepth 100000 in
set_option maxHeartbeats 4000000 in
theorem nearq_any (dd lx ly lz hx hy hz : Int) (w : World) : Calls Tryz.prog 5 #[.agg #[.int .u8 dd, .int .i64 lx, .int .i64 ly, .int .i64 lz, .int .i64 hx, .int .i64 hy, .int .i64 hz]] w fun e w' => (e = .returned (.bool false) ∨ (e = .returned (.bool true) ∧ -30 ≤ min lx (min ly (min lz (min hx (min hy hz)))) ∧ max lx (max ly (max lz (max hx (max hy hz)))) ≤ 30)) ∧ Below w.heap.size w w' := by
  have hmx := @run_max6 Tryz.prog
  have hmn := @run_min6 Tryz.prog
  by_cases h1 : -30 ≤ min lx (min ly (min lz (min hx (min hy hz))))
  · by_cases h2 : max lx (max ly (max lz (max hx (max hy hz)))) ≤ 30
    · have HH := hide (And.intro h1 h2)
      have z1 : decide (-30 ≤ min lx (min ly (min lz (min hx (min hy hz))))) = true := decide_eq_true h1
      have z2 : decide (max lx (max ly (max lz (max hx (max hy hz)))) ≤ 30) = true := decide_eq_true h2
      clear h1 h2
      go_enter Tryz.func5, Tryz.ntmps5
      go_wp2
      go_ret
      exact ⟨.inr ⟨rfl, HH.out⟩, (Below.refl _ _).alloc (Nat.le_refl _) _⟩
    · have z1 : decide (-30 ≤ min lx (min ly (min lz (min hx (min hy hz))))) = true := decide_eq_true h1
      have z2 : decide (max lx (max ly (max lz (max hx (max hy hz)))) ≤ 30) = false := decide_eq_false h2
      clear h1 h2
      go_enter Tryz.func5, Tryz.ntmps5
      go_wp2
      go_ret
      exact ⟨.inl rfl, (Below.refl _ _).alloc (Nat.le_refl _) _⟩
  · have z1 : decide (-30 ≤ min lx (min ly (min lz (min hx (min hy hz))))) = false := decide_eq_false h1
    clear h1
    go_enter Tryz.func5, Tryz.ntmps5
    go_wp2
    go_ret
    exact ⟨.inl rfl, (Below.refl _ _).alloc (Nat.le_refl _) _⟩
theorem near_flat (dd lx ly lz hx hy hz : Int) (h : -30 ≤ min lx (min ly (min lz (min hx (min hy hz)))) ∧ max lx (max ly (max lz (max hx (max hy hz)))) ≤ 30) : ∀ r ∈ [flatR ⟨dd, lx, ly, lz, hx, hy, hz⟩], near4 30 r := by
  intro r hr
  rw [List.mem_singleton] at hr
  subst hr
  unfold flatR near4
  simp only
  split
  · simp only; omega
  · split <;> (simp only; omega)
set_option maxRecDepth 100000 in
set_option maxHeartbeats 8000000 in
theorem rface_any (dd lx ly lz hx hy hz W H S : Int) (hd : 0 ≤ dd) (hn : ∀ r ∈ [flatR ⟨dd, lx, ly, lz, hx, hy, hz⟩], near4 30 r) (w : World) :
    Calls Tryz.prog 7 #[.agg #[.int .u8 dd, .int .i64 lx, .int .i64 ly, .int .i64 lz, .int .i64 hx, .int .i64 hy, .int .i64 hz], .agg #[.int .i64 W, .int .i64 H, .int .i64 S]] w fun e w' => PcsRet w.heap.size (faceF W H S ⟨dd, lx, ly, lz, hx, hy, hz⟩) e w' ∧ Below w.heap.size w w' := by
  have HK := hide (fun (W' : World) (v : Value) (h : RdK encQd 7 W' W'.heap.size v [⟨dd, lx, ly, lz, hx, hy, hz⟩]) => rcheck19_any h hd)
  have HFL := hide (fun W' => rflat_any dd lx ly lz hx hy hz W')
  clear hd
  rcases chk_ok8 ⟨dd, lx, ly, lz, hx, hy, hz⟩ with ⟨e1, -⟩ | ⟨e1, -⟩
  · have hF : faceF W H S ⟨dd, lx, ly, lz, hx, hy, hz⟩ = tileF W H S [flatR ⟨dd, lx, ly, lz, hx, hy, hz⟩] := by unfold faceF; rw [if_pos e1]
    rw [hF]
    rw [e1] at HK
    obtain ⟨⟨f0, f1, f2, f3⟩, hfl⟩ : ∃ f, flatR ⟨dd, lx, ly, lz, hx, hy, hz⟩ = f := ⟨_, rfl⟩
    rw [hfl] at HFL hn ⊢
    have HT := hide (fun (W' : World) (v : Value) (h : RdK encR 4 W' W'.heap.size v [⟨f0, f1, f2, f3⟩]) => rtile_any h (by simp) W H S (fun _ => hn))
    generalize tileF W H S [⟨f0, f1, f2, f3⟩] = TF at *
    obtain ⟨R, E⟩ := TF
    simp only at HFL
    clear hF e1 hfl hn
    go_enter Tryz.func7, Tryz.ntmps7
    go_upto_region 1 with fail
    refine wp_name fun w0 hw0 => ?_
    have hb0 : Below w.heap.size w w0 := by
      rw [hw0]
      repeat (first | with_reducible exact Below.refl _ _ | with_reducible refine Below.setCell ?_ (by first | (simp; done) | (simp; omega)) _ | with_reducible refine Below.alloc ?_ (by first | omega | (simp; omega) | simp) _)
    have d0 : w0.cell? ⟨w.heap.size, 0, none⟩ = some (.int .u8 dd) := by rw [hw0]; simp [go_sem]
    have d1 : w0.cell? ⟨w.heap.size, 1, none⟩ = some (.int .i64 lx) := by rw [hw0]; simp [go_sem]
    have d2 : w0.cell? ⟨w.heap.size, 2, none⟩ = some (.int .i64 ly) := by rw [hw0]; simp [go_sem]
    have d3 : w0.cell? ⟨w.heap.size, 3, none⟩ = some (.int .i64 lz) := by rw [hw0]; simp [go_sem]
    have d4 : w0.cell? ⟨w.heap.size, 4, none⟩ = some (.int .i64 hx) := by rw [hw0]; simp [go_sem]
    have d5 : w0.cell? ⟨w.heap.size, 5, none⟩ = some (.int .i64 hy) := by rw [hw0]; simp [go_sem]
    have d6 : w0.cell? ⟨w.heap.size, 6, none⟩ = some (.int .i64 hz) := by rw [hw0]; simp [go_sem]
    have p0 : w0.cell? ⟨w.heap.size + 1, 0, none⟩ = some (.int .i64 W) := by rw [hw0]; simp [go_sem]
    have p1 : w0.cell? ⟨w.heap.size + 1, 1, none⟩ = some (.int .i64 H) := by rw [hw0]; simp [go_sem]
    have p2 : w0.cell? ⟨w.heap.size + 1, 2, none⟩ = some (.int .i64 S) := by rw [hw0]; simp [go_sem]
    have h0 : w.heap.size < w0.heap.size := by rw [hw0]; simp; omega
    have h1 : w.heap.size + 1 < w0.heap.size := by rw [hw0]; simp
    have HB0 := hide hb0
    clear hw0 hb0
    go_wp2_with (fail)
    refine (HK.out _ _ (rd_q _ _ _ _ _ _ _ _ _)).mono ?_
    rintro e w1 ⟨rfl, hbx⟩
    have hb : Below w0.heap.size w0 w1 := ((Below.refl _ _).alloc (Nat.le_refl _) _).trans (hbx.mono (by simp))
    have HB1 := hide (HB0.out.trans (hb.mono HB0.out.size))
    replace d0 := (hb.cell (p := ⟨w.heap.size, 0, none⟩) h0).trans d0
    replace d1 := (hb.cell (p := ⟨w.heap.size, 1, none⟩) h0).trans d1
    replace d2 := (hb.cell (p := ⟨w.heap.size, 2, none⟩) h0).trans d2
    replace d3 := (hb.cell (p := ⟨w.heap.size, 3, none⟩) h0).trans d3
    replace d4 := (hb.cell (p := ⟨w.heap.size, 4, none⟩) h0).trans d4
    replace d5 := (hb.cell (p := ⟨w.heap.size, 5, none⟩) h0).trans d5
    replace d6 := (hb.cell (p := ⟨w.heap.size, 6, none⟩) h0).trans d6
    replace p0 := (hb.cell (p := ⟨w.heap.size + 1, 0, none⟩) h1).trans p0
    replace p1 := (hb.cell (p := ⟨w.heap.size + 1, 1, none⟩) h1).trans p1
    replace p2 := (hb.cell (p := ⟨w.heap.size + 1, 2, none⟩) h1).trans p2
    replace h0 := Nat.lt_of_lt_of_le h0 hb.size
    replace h1 := Nat.lt_of_lt_of_le h1 hb.size
    clear hb hbx HB0
    have HS : Hid (∀ w' : World, Below w1.heap.size w1 w' → (w'.cell? ⟨w.heap.size, 0, none⟩ = some (.int .u8 dd) ∧ w'.cell? ⟨w.heap.size, 1, none⟩ = some (.int .i64 lx) ∧ w'.cell? ⟨w.heap.size, 2, none⟩ = some (.int .i64 ly) ∧ w'.cell? ⟨w.heap.size, 3, none⟩ = some (.int .i64 lz) ∧ w'.cell? ⟨w.heap.size, 4, none⟩ = some (.int .i64 hx) ∧ w'.cell? ⟨w.heap.size, 5, none⟩ = some (.int .i64 hy) ∧ w'.cell? ⟨w.heap.size, 6, none⟩ = some (.int .i64 hz)) ∧ w'.cell? ⟨w.heap.size + 1, 0, none⟩ = some (.int .i64 W) ∧ w'.cell? ⟨w.heap.size + 1, 1, none⟩ = some (.int .i64 H) ∧ w'.cell? ⟨w.heap.size + 1, 2, none⟩ = some (.int .i64 S)) := hide (fun w' h => ⟨⟨(h.cell (p := ⟨w.heap.size, 0, none⟩) h0).trans d0, (h.cell (p := ⟨w.heap.size, 1, none⟩) h0).trans d1, (h.cell (p := ⟨w.heap.size, 2, none⟩) h0).trans d2, (h.cell (p := ⟨w.heap.size, 3, none⟩) h0).trans d3, (h.cell (p := ⟨w.heap.size, 4, none⟩) h0).trans d4, (h.cell (p := ⟨w.heap.size, 5, none⟩) h0).trans d5, (h.cell (p := ⟨w.heap.size, 6, none⟩) h0).trans d6⟩, (h.cell (p := ⟨w.heap.size + 1, 0, none⟩) h1).trans p0, (h.cell (p := ⟨w.heap.size + 1, 1, none⟩) h1).trans p1, (h.cell (p := ⟨w.heap.size + 1, 2, none⟩) h1).trans p2⟩)
    have hsz := HB1.out.size
    go_upto_region 3 with fail
    have hs0 : Below w1.heap.size w1 w1.drew := (Below.refl _ _).drew
    refine wp_region_two [0, 3] [1, 2, 4] [5, 6] [7, 8] (fun w' => (w'.cell? ⟨w.heap.size, 0, none⟩ = some (.int .u8 dd) ∧ w'.cell? ⟨w.heap.size, 1, none⟩ = some (.int .i64 lx) ∧ w'.cell? ⟨w.heap.size, 2, none⟩ = some (.int .i64 ly) ∧ w'.cell? ⟨w.heap.size, 3, none⟩ = some (.int .i64 lz) ∧ w'.cell? ⟨w.heap.size, 4, none⟩ = some (.int .i64 hx) ∧ w'.cell? ⟨w.heap.size, 5, none⟩ = some (.int .i64 hy) ∧ w'.cell? ⟨w.heap.size, 6, none⟩ = some (.int .i64 hz)) ∧ w'.cell? ⟨w.heap.size + 1, 0, none⟩ = some (.int .i64 W) ∧ w'.cell? ⟨w.heap.size + 1, 1, none⟩ = some (.int .i64 H) ∧ w'.cell? ⟨w.heap.size + 1, 2, none⟩ = some (.int .i64 S)) (by kernel_rfl) (by kernel_rfl) (HS.out _ hs0) ?_
    simp only [List.map_cons, List.map_nil, opAt, List.getElem?_cons_succ, List.getElem?_cons_zero, Option.getD_some]
    iterate 2
      refine ⟨?_, Or.inl ⟨by rfl, ?_⟩, ?_⟩
      rotate_left 1
      · intro w' hSw
        obtain ⟨⟨z0, z1, z2, z3, z4, z5, z6⟩, z7, z8, z9⟩ := hSw
        go_simp
        first | done | with_reducible rfl
      simp only [Act.put, List.setIfInBounds_toArray, List.set_cons_zero, List.set_cons_succ]
    simp only [wpReads, wpChain]
    intro K hK
    simp only [Act.put, List.setIfInBounds_toArray, List.set_cons_zero, List.set_cons_succ] at hK ⊢
    go_simp
    refine (HFL.out _).mono ?_
    rintro e w6 ⟨rfl, hb6⟩
    have HB6 : Hid (Below w1.heap.size w1 w6) := hide (hs0.trans (hb6.mono hs0.size))
    clear hb6
    refine hK _ _ (HS.out _ HB6.out) ?_
    clear hK K
    intro K hK
    simp only [Act.put, List.setIfInBounds_toArray, List.set_cons_zero, List.set_cons_succ] at hK ⊢
    go_simp
    refine hK _ _ (HS.out _ (HB6.out.alloc HB6.out.size _)) ?_
    clear hK K
    intro K hK
    simp only [Act.put, List.setIfInBounds_toArray, List.set_cons_zero, List.set_cons_succ] at hK ⊢
    go_simp
    refine (HT.out _ _ (rdf_one _ _ _ _ _ _)).mono ?_
    rintro e w7 ⟨hpc, hb7⟩
    have hs6 := HB6.out.size
    have hpc2 := pcs_base (B0 := w.heap.size) hpc (by simp; omega)
    obtain ⟨A7, c7, L7, rfl, l0, l1, l2⟩ := hpc2
    have HL := hide (And.intro l0 (And.intro l1 l2))
    have HB7 : Hid (Below w1.heap.size w1 w7) := hide (Below.trans (HB6.out.alloc HB6.out.size _) (hb7.mono (by simp <;> omega)))
    clear hb7 hpc l0 l1 l2 hs6
    refine hK _ _ (HS.out _ HB7.out) ?_
    clear hK K
    iterate 2
      refine ⟨?_, Or.inl ⟨by rfl, ?_⟩, ?_⟩
      rotate_left 1
      · intro w' hSw
        obtain ⟨⟨z0, z1, z2, z3, z4, z5, z6⟩, z7, z8, z9⟩ := hSw
        go_simp
        first | done | with_reducible rfl
      try simp only [Act.put, List.setIfInBounds_toArray, List.set_cons_zero, List.set_cons_succ]
    intro K hK
    simp only [Act.put, List.setIfInBounds_toArray, List.set_cons_zero, List.set_cons_succ] at hK ⊢
    go_simp
    refine hK _ _ (fun _ => HS.out _ HB7.out) ?_
    clear hK K
    intro K hK
    simp only [Act.put, List.setIfInBounds_toArray, List.set_cons_zero, List.set_cons_succ] at hK ⊢
    go_simp
    refine hK _ _ (fun h => absurd rfl h) ?_
    clear hK K
    refine NoPanic.normal ?_
    go_wp2_with (fail)
    go_ret2
    exact ⟨⟨A7, c7, L7, rfl, HL.out.1, HL.out.2.1, HL.out.2.2⟩, HB1.out.trans (HB7.out.mono HB1.out.size)⟩
  · have hF : faceF W H S ⟨dd, lx, ly, lz, hx, hy, hz⟩ = ([], 8) := by unfold faceF; rw [if_neg (by rw [e1]; decide), e1]
    rw [hF]
    rw [e1] at HK
    clear hF e1 hn HFL
    go_enter Tryz.func7, Tryz.ntmps7
    go_upto_region 1 with fail
    refine wp_name fun w0 hw0 => ?_
    have hb0 : Below w.heap.size w w0 := by
      rw [hw0]
      repeat (first | with_reducible exact Below.refl _ _ | with_reducible refine Below.setCell ?_ (by first | (simp; done) | (simp; omega)) _ | with_reducible refine Below.alloc ?_ (by first | omega | (simp; omega) | simp) _)
    have d0 : w0.cell? ⟨w.heap.size, 0, none⟩ = some (.int .u8 dd) := by rw [hw0]; simp [go_sem]
    have d1 : w0.cell? ⟨w.heap.size, 1, none⟩ = some (.int .i64 lx) := by rw [hw0]; simp [go_sem]
    have d2 : w0.cell? ⟨w.heap.size, 2, none⟩ = some (.int .i64 ly) := by rw [hw0]; simp [go_sem]
    have d3 : w0.cell? ⟨w.heap.size, 3, none⟩ = some (.int .i64 lz) := by rw [hw0]; simp [go_sem]
    have d4 : w0.cell? ⟨w.heap.size, 4, none⟩ = some (.int .i64 hx) := by rw [hw0]; simp [go_sem]
    have d5 : w0.cell? ⟨w.heap.size, 5, none⟩ = some (.int .i64 hy) := by rw [hw0]; simp [go_sem]
    have d6 : w0.cell? ⟨w.heap.size, 6, none⟩ = some (.int .i64 hz) := by rw [hw0]; simp [go_sem]
    have p0 : w0.cell? ⟨w.heap.size + 1, 0, none⟩ = some (.int .i64 W) := by rw [hw0]; simp [go_sem]
    have p1 : w0.cell? ⟨w.heap.size + 1, 1, none⟩ = some (.int .i64 H) := by rw [hw0]; simp [go_sem]
    have p2 : w0.cell? ⟨w.heap.size + 1, 2, none⟩ = some (.int .i64 S) := by rw [hw0]; simp [go_sem]
    have h0 : w.heap.size < w0.heap.size := by rw [hw0]; simp; omega
    have h1 : w.heap.size + 1 < w0.heap.size := by rw [hw0]; simp
    have HB0 := hide hb0
    clear hw0 hb0
    go_wp2_with (fail)
    refine (HK.out _ _ (rd_q _ _ _ _ _ _ _ _ _)).mono ?_
    rintro e w1 ⟨rfl, hbx⟩
    have hb : Below w0.heap.size w0 w1 := ((Below.refl _ _).alloc (Nat.le_refl _) _).trans (hbx.mono (by simp))
    have HB1 := hide (HB0.out.trans (hb.mono HB0.out.size))
    replace d0 := (hb.cell (p := ⟨w.heap.size, 0, none⟩) h0).trans d0
    replace d1 := (hb.cell (p := ⟨w.heap.size, 1, none⟩) h0).trans d1
    replace d2 := (hb.cell (p := ⟨w.heap.size, 2, none⟩) h0).trans d2
    replace d3 := (hb.cell (p := ⟨w.heap.size, 3, none⟩) h0).trans d3
    replace d4 := (hb.cell (p := ⟨w.heap.size, 4, none⟩) h0).trans d4
    replace d5 := (hb.cell (p := ⟨w.heap.size, 5, none⟩) h0).trans d5
    replace d6 := (hb.cell (p := ⟨w.heap.size, 6, none⟩) h0).trans d6
    replace p0 := (hb.cell (p := ⟨w.heap.size + 1, 0, none⟩) h1).trans p0
    replace p1 := (hb.cell (p := ⟨w.heap.size + 1, 1, none⟩) h1).trans p1
    replace p2 := (hb.cell (p := ⟨w.heap.size + 1, 2, none⟩) h1).trans p2
    replace h0 := Nat.lt_of_lt_of_le h0 hb.size
    replace h1 := Nat.lt_of_lt_of_le h1 hb.size
    clear hb hbx HB0
    go_wp2_with (fail)
    refine (HK.out _ _ (rd_q _ _ _ _ _ _ _ _ _)).mono ?_
    rintro e w2 ⟨rfl, hbx⟩
    have HB2 : Hid (Below w.heap.size w w2) := hide (HB1.out.trans ((((Below.refl _ _).alloc (Nat.le_refl _) _).trans (hbx.mono (by simp))).mono HB1.out.size))
    clear hbx
    go_wp2_with (fail)
    go_ret2
    exact ⟨pcs_err _ 8 _, HB2.out⟩
end Go.Proofs.YtjlfdgoijalfaaaGreat

/- texture.Count: how many pieces are whole bricks. -/
namespace Go.Proofs.YtjlfdgoijalfaaaGreat
open Go.RowKit
set_option linter.unusedVariables false
set_option linter.unusedSimpArgs false
attribute [local go_sem] Oper.semAt_some

theorem tileF_bd {W H S : Int} {l : List R4} {q : Ky × List R4} (h : q ∈ (tileF W H S l).1) : okPat W H S ∧ ((-1000000 ≤ q.1.1 ∧ q.1.1 ≤ 1000000) ∧ -1000000 ≤ q.1.2 ∧ q.1.2 ≤ 1000000) ∧ q.2.length ≤ 400 := by
  obtain ⟨h1, h2, h3, h4⟩ := tileF_mem h
  refine ⟨h2, ?_, by rw [h4]; exact piece_len h2 h1 _⟩
  have h5 := (srtK_ok (allK W H S l)).2 q.1
  obtain ⟨t, ht, hk⟩ := List.mem_flatMap.1 (h5.1 h3)
  exact kbd h2 ((checkF_ok h1).2.1 t ht) hk
theorem tileF_len {W H S : Int} {l : List R4} : (tileF W H S l).1.length ≤ 400 := by
  unfold tileF
  split
  · split
    · split
      · simp
      · rw [List.length_map]; omega
    · simp
  · simp
/-- How many of the first m pieces are whole. -/
def cntW (f : Ky × List R4 → Bool) (R : List (Ky × List R4)) (m : Nat) : Nat := ((R.take m).filter f).length
theorem cntW_next (f : Ky × List R4 → Bool) {R : List (Ky × List R4)} {m : Nat} {q : Ky × List R4} (h : R[m]? = some q) : cntW f R (m + 1) = cntW f R m + if f q = true then 1 else 0 := by
  unfold cntW
  rw [List.take_add_one, h, Option.toList_some, List.filter_append, List.length_append]
  congr 1
  by_cases hf : f q = true <;> simp [hf]
theorem cntW_le (f : Ky × List R4 → Bool) (R : List (Ky × List R4)) (m : Nat) : cntW f R m ≤ m := by
  unfold cntW
  have h1 := List.length_filter_le f (R.take m)
  have h2 := List.length_take_le m R
  omega
theorem countF_ok {W H S : Int} {l : List R4} {R : List (Ky × List R4)} (h : tileF W H S l = (R, 0)) : countF W H S l = ((cntW (wholeB W H S) R R.length : Int), (R.length : Int) - (cntW (wholeB W H S) R R.length : Int), 0) := by
  unfold countF cntW
  rw [h, if_pos rfl, List.take_length]
theorem countF_bad {W H S : Int} {l : List R4} {R : List (Ky × List R4)} {E : Int} (h : tileF W H S l = (R, E)) (hE : E ≠ 0) : countF W H S l = (0, 0, E) := by
  unfold countF
  rw [h, if_neg hE]
set_option maxRecDepth 100000 in
set_option maxHeartbeats 4000000 in
theorem tcount_any {w : World} {v : Value} {l : List R4} (hr : RdK encR 4 w w.heap.size v l) (hl : l.length ≤ 100000000) (W H S : Int) :
    Calls Tryz.prog 24 #[v, .agg #[.int .i64 W, .int .i64 H, .int .i64 S]] w fun e w' => e = .returned (.tuple #[.int .i64 (countF W H S l).1, .int .i64 (countF W H S l).2.1, .int .i64 (countF W H S l).2.2]) ∧ Below w.heap.size w w' := by
  obtain ⟨A0, c0, hv, hc⟩ := id hr
  subst hv
  have HR := hide hr
  clear hr hc
  have HTL := hide (fun (wi : World) (hb : Below w.heap.size w wi) => tile_any (w := wi) ((HR.out.below hb).mono hb.size) hl W H S)
  have hT0 := hide (T1.start w W H S)
  have HBD := hide (fun q => tileF_bd (W := W) (H := H) (S := S) (l := l) (q := q))
  have hRl := tileF_len (W := W) (H := H) (S := S) (l := l)
  obtain ⟨⟨R, E⟩, hT⟩ : ∃ x, tileF W H S l = x := ⟨_, rfl⟩
  rw [hT] at HTL HBD hRl
  simp only at hRl HBD
  by_cases hE : E = 0
  · subst hE
    have HF := hide (countF_ok hT)
    rw [HF.out]
    clear hT
    go_enter Tryz.func24, Tryz.ntmps24
    have p0 := hT0.out.p0
    have p1 := hT0.out.p1
    have p2 := hT0.out.p2
    go_wp2_with (fail)
    refine (HTL.out _ hT0.out.low).mono ?_
    rintro e w1 ⟨⟨A, c, L, rfl, l0, l1, l2⟩, hb1⟩
    simp only at l0 l1 l2
    have HT1 := hide (hT0.out.below hb1)
    have HP : Hid (Pcs w (.slice A R.length c) R w1) := hide ⟨HT1.out.low, L, l0, own_base l1 hT0.out.low.size, fun i k r h => by
      obtain ⟨u, h1, h2⟩ := l2 i k r h
      exact ⟨u, h1, own_base h2 hT0.out.low.size⟩⟩
    clear hb1 l0 l1 l2 p0 p1 p2
    have p0 := HT1.out.p0
    have p1 := HT1.out.p1
    have p2 := HT1.out.p2
    have hw1 := HT1.out.hb
    clear hT0 HTL
    go_wp2
    go_loopw [4, 5, 21] (fun a b i wr => ∃ m : Nat, m ≤ R.length ∧ a = .int .i64 (cntW (wholeB W H S) R m : Int) ∧ b = .int .i64 ((m : Int) - (cntW (wholeB W H S) R m : Int)) ∧ i = .int .i64 (m : Int) ∧ Hid (Below w1.heap.size w1 wr)) (fun _ _ i _ => R.length - (intOf i).toNat)
    case atStart => exact ⟨0, Nat.zero_le _, rfl, rfl, rfl, hide (Below.refl _ _)⟩
    case round =>
      obtain ⟨m, hm, rfl, rfl, rfl, HB⟩ := hrel
      have hcm := cntW_le (wholeB W H S) R m
      by_cases hlt : m < R.length
      · obtain ⟨⟨⟨row, col⟩, J⟩, hk⟩ : ∃ q, R[m]? = some q := ⟨_, List.getElem?_eq_getElem hlt⟩
        obtain ⟨hp, ⟨⟨ra, rb⟩, ca, cb⟩, hJl⟩ := HBD.out _ (List.mem_of_getElem? hk)
        simp only at ra rb ca cb hJl
        obtain ⟨g, rfl, hg1, hg2, hcl⟩ := HP.out.form (by omega)
        obtain ⟨d0, d1, u, d2, hu⟩ := hcl m _ _ hk
        obtain ⟨Aj, cj, rfl⟩ := own_form hu
        have hls := HB.out.size
        have d0 : wr.cell? ⟨g, m * 3, none⟩ = some (.int .i64 col) := (HB.out.cell (p := ⟨g, m * 3, none⟩) hg2).trans d0
        have d1 : wr.cell? ⟨g, m * 3 + 1, none⟩ = some (.int .i64 row) := (HB.out.cell (p := ⟨g, m * 3 + 1, none⟩) hg2).trans d1
        have d2 : wr.cell? ⟨g, m * 3 + 2, none⟩ = some (.slice Aj J.length cj) := (HB.out.cell (p := ⟨g, m * 3 + 2, none⟩) hg2).trans d2
        have HU := hide (own_below hu HB.out)
        have mz : (m : Int) < (R.length : Int) := by omega
        have HCN := hide (cntW_next (wholeB W H S) hk)
        generalize cntW (wholeB W H S) R m = cn at *
        have p0 := (HB.out.cell (p := ⟨w.heap.size, 0, none⟩) (by show w.heap.size < _; omega)).trans p0
        have p1 := (HB.out.cell (p := ⟨w.heap.size, 1, none⟩) (by show w.heap.size < _; omega)).trans p1
        have p2 := (HB.out.cell (p := ⟨w.heap.size, 2, none⟩) (by show w.heap.size < _; omega)).trans p2
        clear hcl hk hu
        go_upto_region 7 with fail
        refine wp_name fun w2 hw2 => ?_
        have hb2 : Below wr.heap.size wr w2 := by rw [hw2]; exact (Below.refl _ _).alloc (Nat.le_refl _) _
        have k0 : w2.cell? ⟨wr.heap.size, 0, none⟩ = some (.int .i64 col) := by rw [hw2]; simp [go_sem]
        have k1 : w2.cell? ⟨wr.heap.size, 1, none⟩ = some (.int .i64 row) := by rw [hw2]; simp [go_sem]
        have k2 : w2.cell? ⟨wr.heap.size, 2, none⟩ = some (.slice Aj J.length cj) := by rw [hw2]; simp [go_sem]
        have hs2 : wr.heap.size < w2.heap.size := by rw [hw2]; simp
        have HB2 := hide (HB.out.trans (hb2.mono hls))
        have hwp : w.heap.size < w2.heap.size := by omega
        have p0 := (hb2.cell (p := ⟨w.heap.size, 0, none⟩) (by show w.heap.size < _; omega)).trans p0
        have p1 := (hb2.cell (p := ⟨w.heap.size, 1, none⟩) (by show w.heap.size < _; omega)).trans p1
        have p2 := (hb2.cell (p := ⟨w.heap.size, 2, none⟩) (by show w.heap.size < _; omega)).trans p2
        have HU2 := hide (own_below HU.out hb2)
        clear hw2 hb2 d0 d1 d2 HU
        by_cases hJ : J.length = 1
        · obtain ⟨⟨j0, j1, j2, j3⟩, rfl⟩ : ∃ r, J = [r] := List.length_eq_one_iff.1 hJ
          obtain ⟨gj, cj', hvj, hgj1, hgj2⟩ := HU2.out.form (by simp)
          injection hvj with e1 _ e3
          subst e1; subst e3
          have jc : ∀ (i : Nat) (u : Value), (encR ⟨j0, j1, j2, j3⟩)[i]? = some u → w2.cell? ⟨gj, i, none⟩ = some u := fun i u hi => by
            have := (HU2.out.cells (g := gj) rfl) i u (by simpa using hi)
            rwa [addr_add] at this
          have x0 : w2.cell? ⟨gj, 0, none⟩ = some (.int .i64 j0) := jc 0 _ rfl
          have x1 : w2.cell? ⟨gj, 1, none⟩ = some (.int .i64 j1) := jc 1 _ rfl
          have x2 : w2.cell? ⟨gj, 2, none⟩ = some (.int .i64 j2) := jc 2 _ rfl
          have x3 : w2.cell? ⟨gj, 3, none⟩ = some (.int .i64 j3) := jc 3 _ rfl
          obtain ⟨q0, q1, q2, q3, hq⟩ : ∃ q0 q1 q2 q3, brR W H S (row, col) = ⟨q0, q1, q2, q3⟩ := ⟨_, _, _, _, rfl⟩
          have HBR := hide (fun wi => (by
            have h := brick_any W H S col row wi hp ca cb ra rb
            have hq' := hq
            unfold brR at hq'
            injection hq' with h1 h2 h3 h4
            simp only at h1 h2 h3 h4
            rw [h3, h1, h2, h4] at h
            exact h : Calls Tryz.prog 31 #[.agg #[.int .i64 W, .int .i64 H, .int .i64 S], .int .i64 col, .int .i64 row] wi fun e w' => e = .returned (.agg #[.int .i64 q0, .int .i64 q1, .int .i64 q2, .int .i64 q3]) ∧ Below wi.heap.size wi w'))
          have HWB : Hid (wholeB W H S ((row, col), [⟨j0, j1, j2, j3⟩]) = decide ((⟨j0, j1, j2, j3⟩ : R4) = ⟨q0, q1, q2, q3⟩)) := hide (by
            unfold wholeB
            rw [hq]
            exact decide_eq_decide.2 (by simp))
          have g : Tryz.prog.eqGuardType Tryz.prog.depth 41 = false := by kernel_rfl
          rw [HWB.out] at HCN
          clear jc hq hJl
          have hgs : ((⟨j0, j1, j2, j3⟩ : R4) = ⟨q0, q1, q2, q3⟩) ∨ (¬ ((⟨j0, j1, j2, j3⟩ : R4) = ⟨q0, q1, q2, q3⟩) ∧ ((j0 == q0) = false ∨ ((j0 == q0) = true ∧ (j1 == q1) = false) ∨ ((j0 == q0) = true ∧ (j1 == q1) = true ∧ (j2 == q2) = false) ∨ ((j0 == q0) = true ∧ (j1 == q1) = true ∧ (j2 == q2) = true ∧ (j3 == q3) = false))) := by
            by_cases h : (⟨j0, j1, j2, j3⟩ : R4) = ⟨q0, q1, q2, q3⟩
            · exact .inl h
            · refine .inr ⟨h, ?_⟩
              rw [R4.mk.injEq] at h
              simp only [beq_eq_false_iff_ne, beq_iff_eq, ne_eq]
              omega
          rcases hgs with hg | ⟨hg, h1 | ⟨h1, h2⟩ | ⟨h1, h2, h3⟩ | ⟨h1, h2, h3, h4⟩⟩
          · have HCY : Hid (cntW (wholeB W H S) R (m + 1) = cn + 1) := hide (by rw [HCN.out, decide_eq_true hg]; rfl)
            rw [R4.mk.injEq] at hg
            obtain ⟨rfl, rfl, rfl, rfl⟩ := hg
            refine wp_hab fun hab => ?_
            refine wp_region_above (by kernel_rfl) (by kernel_rfl) ?_
            repeat (go_big_quiet_step ((go_at_call 31; exact above_of (HBR.out _))))
            refine wpQuiet_nil ?_
            refine above_ends fun w3 hb3 => ?_
            clear hab
            have HB3 := hide (HB2.out.trans (hb3.mono HB2.out.size))
            clear hb3
            go_wp2
            go_roundw
            case rel => exact ⟨m + 1, by omega, by rw [HCY.out]; go_num, by rw [HCY.out]; go_num, by go_num, HB3⟩
            case measure => simp [intOf]; omega
          all_goals
            have HCY : Hid (cntW (wholeB W H S) R (m + 1) = cn) := hide (by rw [HCN.out, decide_eq_false hg]; rfl)
            clear hg
            refine wp_hab fun hab => ?_
            refine wp_region_above (by kernel_rfl) (by kernel_rfl) ?_
            repeat (go_big_quiet_step ((go_at_call 31; exact above_of (HBR.out _))))
            refine wpQuiet_nil ?_
            refine above_ends fun w3 hb3 => ?_
            clear hab
            have HB3 := hide (HB2.out.trans (hb3.mono HB2.out.size))
            clear hb3
            go_wp2
            go_roundw
            case rel => exact ⟨m + 1, by omega, by rw [HCY.out], by rw [HCY.out]; go_num, by go_num, HB3⟩
            case measure => simp [intOf]; omega
        · have hJz : ((J.length : Int) == 1) = false := by simp; omega
          have HCY : Hid (cntW (wholeB W H S) R (m + 1) = cn) := hide (by
            rw [HCN.out, show wholeB W H S ((row, col), J) = false from decide_eq_false fun e => hJ (by simp only at e; rw [e]; rfl)]; rfl)
          clear hJ HCN
          go_quiet (fail)
          refine name_exit fun w3 hw3 => ?_
          have HB3 : Hid (Below w1.heap.size w1 w3) := hide (by rw [hw3]; exact below_drewN HB2.out _)
          clear hw3
          go_wp2
          go_roundw
          case rel => exact ⟨m + 1, by omega, by rw [HCY.out], by rw [HCY.out]; go_num, by go_num, HB3⟩
          case measure => simp [intOf]; omega
      · obtain rfl : m = R.length := by omega
        have mz : ¬ (R.length : Int) < (R.length : Int) := by omega
        have HBW := hide (HT1.out.low.trans (HB.out.mono HT1.out.low.size))
        go_wp2
        refine bodyPost_ret (v := .tuple #[.int .i64 (cntW (wholeB W H S) R R.length : Int), .int .i64 ((R.length : Int) - (cntW (wholeB W H S) R R.length : Int)), .int .i64 0]) (by simp [results, Tryz.results24, go_sem]) rfl ⟨rfl, HBW.out⟩
  · have HF := hide (countF_bad hT hE)
    rw [HF.out]
    have hne : (E != 0) = true := by simpa using hE
    clear hT hE
    go_enter Tryz.func24, Tryz.ntmps24
    have p0 := hT0.out.p0
    have p1 := hT0.out.p1
    have p2 := hT0.out.p2
    go_wp2_with (fail)
    refine (HTL.out _ hT0.out.low).mono ?_
    rintro e w1 ⟨⟨A, c, L, rfl, l0, l1, l2⟩, hb1⟩
    have HT1 := hide (hT0.out.below hb1)
    simp only at l0 l1 l2
    clear hb1 l0 l1 l2 p0 p1 p2
    go_wp2
    refine bodyPost_ret (v := .tuple #[.int .i64 0, .int .i64 0, .int .i64 E]) (by simp [results, Tryz.results24, go_sem]) rfl ⟨rfl, HT1.out.low⟩
end Go.Proofs.YtjlfdgoijalfaaaGreat

/- texture.At and Brick, and their references, each whole: the results as functions of the input. -/
namespace Go.Proofs.YtjlfdgoijalfaaaGreat
open Go.RowKit
set_option linter.unusedVariables false
set_option linter.unusedSimpArgs false

/-- What At returns. -/
def atOK (W H S x y : Int) : Prop := okPat W H S ∧ (fineB x && fineB y) = true
instance (W H S x y : Int) : Decidable (atOK W H S x y) := by unfold atOK; infer_instance
def atC (W H S x y : Int) : Int := if atOK W H S x y then colI W H S x y else 0
def atR (W H S x y : Int) : Int := if atOK W H S x y then rowI H y else 0
def atE (W H S x y : Int) : Int := if okPat W H S then (if (fineB x && fineB y) = true then 0 else 2) else 8
theorem at_any (W H S x y : Int) (w : World) :
    Calls Tryz.prog 19 #[.agg #[.int .i64 W, .int .i64 H, .int .i64 S], .int .i64 x, .int .i64 y] w fun e w' => e = .returned (.tuple #[.int .i64 (atC W H S x y), .int .i64 (atR W H S x y), .int .i64 (atE W H S x y)]) ∧ Below w.heap.size w w' := by
  by_cases hp : okPat W H S
  · by_cases hf : (fineB x && fineB y) = true
    · have h1 : atOK W H S x y := ⟨hp, hf⟩
      simp only [atC, atR, atE, if_pos h1, if_pos hp, if_pos hf]
      simp only [Bool.and_eq_true] at hf
      exact at_ok W H S x y w hp hf.1 hf.2
    · have h1 : ¬ atOK W H S x y := fun h => hf h.2
      simp only [atC, atR, atE, if_neg h1, if_pos hp, if_neg hf]
      exact at_arg W H S x y w hp (by simpa using hf)
  · have h1 : ¬ atOK W H S x y := fun h => hp h.1
    simp only [atC, atR, atE, if_neg h1, if_neg hp]
    exact at_bad W H S x y w hp
/-- What Brick returns. -/
def brOK (W H S col row : Int) : Prop := atOK W H S col row ∧ (fineB (brX W H S col row) && fineB (brX W H S col row + W) && fineB (row * H) && fineB ((row + 1) * H)) = true
instance (W H S col row : Int) : Decidable (brOK W H S col row) := by unfold brOK; infer_instance
def br0 (W H S col row : Int) : Int := if brOK W H S col row then brX W H S col row else 0
def br1 (W H S col row : Int) : Int := if brOK W H S col row then row * H else 0
def br2 (W H S col row : Int) : Int := if brOK W H S col row then brX W H S col row + W else 0
def br3 (W H S col row : Int) : Int := if brOK W H S col row then (row + 1) * H else 0
def brE (W H S col row : Int) : Int := if atOK W H S col row then (if brOK W H S col row then 0 else 16) else atE W H S col row

end Go.Proofs.YtjlfdgoijalfaaaGreat
