/- Texts laid together: TexJ, TexS, TexT, TexN, TexL, RdLit. Lemmas for the statements of this seat; no condition. -/
import Derived.Test.YtjlfdgoijalfaaaGreatPk6
import Derived.Test.YtjlfdgoijalfaaaGreatPk1
import Derived.StillTactics
import Derived.Test.YtjlfdgoijalfaaaGreatPk4
import Derived.Deep.Cut
import Derived.Test.YtjlfdgoijalfaaaGreatPk5

/- texture.bricks: its iterator hands over the bricks of a rectangle, row by row. -/
namespace Go.Proofs.YtjlfdgoijalfaaaGreat
open Go.RowKit
set_option linter.unusedVariables false
set_option linter.unusedSimpArgs false
attribute [local go_sem] Oper.semAt_some

theorem irange_nil {a b : Int} (h : b < a) : irange a b = [] := by
  unfold irange
  rw [show (b + 1 - a).toNat = 0 by omega]
  rfl
theorem irange_snoc {a x : Int} (h : a ≤ x) : irange a x = irange a (x - 1) ++ [x] := by
  unfold irange
  rw [show (x + 1 - a).toNat = (x - 1 + 1 - a).toNat + 1 by omega, List.range_succ, List.map_append]
  congr 1
  simp only [List.map_cons, List.map_nil, List.cons.injEq, and_true]
  omega
theorem irange_at {a x b : Int} (h1 : a ≤ x) (h2 : x ≤ b) : ∃ post, irange a b = irange a (x - 1) ++ x :: post := by
  obtain ⟨n, hn⟩ : ∃ n : Nat, b = x + n := ⟨(b - x).toNat, by omega⟩
  subst hn
  clear h2
  induction n with
  | zero => exact ⟨[], by rw [show x + ((0 : Nat) : Int) = x by omega]; exact irange_snoc h1⟩
  | succ n ih =>
    obtain ⟨post, e⟩ := ih
    refine ⟨post ++ [x + ((n + 1 : Nat) : Int)], ?_⟩
    rw [irange_snoc (by omega), show x + ((n + 1 : Nat) : Int) - 1 = x + n by omega, e]
    simp
/-- What a round keeps for the iterator: the boxes from n0 up to n1. -/
def KpT (n0 n1 : Nat) (A B : World) : Prop := A.heap.size ≤ B.heap.size ∧ ∀ b, n0 ≤ b → b < n1 → B.heap[b]? = A.heap[b]?
theorem KpT.trans {n0 n1 : Nat} {A B C : World} (h : KpT n0 n1 A B) (k : KpT n0 n1 B C) : KpT n0 n1 A C := ⟨Nat.le_trans h.1 k.1, fun b h1 h2 => (k.2 b h1 h2).trans (h.2 b h1 h2)⟩
theorem KpT.below {n0 n1 : Nat} {A B : World} (hn : n1 ≤ A.heap.size) (hb : Below A.heap.size A B) : KpT n0 n1 A B := ⟨hb.size, fun b h1 h2 => hb.block b (by omega)⟩
def OkKey (k : Ky) (args : Array Value) (_ : World) : Prop := args = #[.int .i64 k.2, .int .i64 k.1]

/-- Rows done, columns done. -/
def preR (W H S : Int) (t : R4) (r : Int) : List Ky := (irange (t.y0 / H) (r - 1)).flatMap (colsR W H S t)
def preC (W S : Int) (t : R4) (r c : Int) : List Ky := (irange ((t.x0 - shiftI W S r) / W) (c - 1)).map fun col => (r, col)
theorem preR_next {W H S : Int} {t : R4} {r : Int} (h : t.y0 / H ≤ r) : preR W H S t (r + 1) = preR W H S t r ++ colsR W H S t r := by
  unfold preR
  rw [show r + 1 - 1 = r by omega, irange_snoc h]
  simp
theorem preC_next {W S : Int} {t : R4} {r c : Int} (h : (t.x0 - shiftI W S r) / W ≤ c) : preC W S t r (c + 1) = preC W S t r c ++ [(r, c)] := by
  unfold preC
  rw [show c + 1 - 1 = c by omega, irange_snoc h]
  simp
theorem pre_at {W H S : Int} {t : R4} {r c : Int} (h1 : t.y0 / H ≤ r) (h2 : r ≤ (t.y1 - 1) / H) (h3 : (t.x0 - shiftI W S r) / W ≤ c) (h4 : c ≤ (t.x1 - 1 - shiftI W S r) / W) :
    ∃ post, keysR W H S t = (preR W H S t r ++ preC W S t r c) ++ (r, c) :: post := by
  obtain ⟨p1, e1⟩ := irange_at h1 h2
  obtain ⟨p2, e2⟩ := irange_at h3 h4
  refine ⟨(p2.map fun col => (r, col)) ++ p1.flatMap (colsR W H S t), ?_⟩
  unfold keysR
  rw [e1]
  simp only [List.flatMap_append, List.flatMap_cons]
  rw [show colsR W H S t r = preC W S t r c ++ (r, c) :: p2.map fun col => (r, col) by unfold colsR preC; rw [e2]; simp]
  simp [preR]
theorem preC_all {W H S : Int} {t : R4} {r c : Int} (h : c = (t.x1 - 1 - shiftI W S r) / W + 1) : preC W S t r c = colsR W H S t r := by
  subst h
  unfold preC colsR
  rw [show (t.x1 - 1 - shiftI W S r) / W + 1 - 1 = (t.x1 - 1 - shiftI W S r) / W by omega]
theorem preR_all {W H S : Int} {t : R4} {r : Int} (h : r = (t.y1 - 1) / H + 1) : preR W H S t r = keysR W H S t := by
  subst h
  unfold preR keysR
  rw [show (t.y1 - 1) / H + 1 - 1 = (t.y1 - 1) / H by omega]

set_option maxRecDepth 100000 in
set_option maxHeartbeats 4000000 in
theorem bricksIt (W H S x0 y0 x1 y1 : Int) (bR bP n0 n1 : Nat) (w0 : World) (hp : okPat W H S) (hv : valid4 ⟨x0, y0, x1, y1⟩) (hR1 : n0 ≤ bR) (hR2 : bR < n1) (hP1 : n0 ≤ bP) (hP2 : bP < n1) (hn : n1 ≤ w0.heap.size)
    (r0 : w0.cell? ⟨bR, 0, none⟩ = some (.int .i64 x0)) (r1 : w0.cell? ⟨bR, 1, none⟩ = some (.int .i64 y0)) (r2 : w0.cell? ⟨bR, 2, none⟩ = some (.int .i64 x1)) (r3 : w0.cell? ⟨bR, 3, none⟩ = some (.int .i64 y1))
    (p0 : w0.cell? ⟨bP, 0, none⟩ = some (.int .i64 W)) (p1 : w0.cell? ⟨bP, 1, none⟩ = some (.int .i64 H)) (p2 : w0.cell? ⟨bP, 2, none⟩ = some (.int .i64 S)) :
    Iter Tryz.prog 52 #[.pointer (some ⟨bR, 0, none⟩), .pointer (some ⟨bP, 0, none⟩)] (keysR W H S ⟨x0, y0, x1, y1⟩) OkKey (KpT n0 n1) w0 := by
  intro l J Jx W1 hW hJ hY h0
  refine callsIn_of_wp Tryz.func52 rfl trivial ?_
  simp only [Tryz.ntmps52, List.size_toArray, List.length_cons, List.length_nil, Nat.reduceAdd, Nat.reduceSub, Array.replicate_succ, Array.replicate_zero, List.push_toArray, List.append_toArray, List.nil_append, List.cons_append]
  obtain ⟨v1, v2, v3, v4, v5, v6⟩ := hv
  unfold fineP at v3 v4 v5 v6
  simp only at v1 v2 v3 v4 v5 v6
  obtain ⟨q1, q2, q3, q4, q5, q6⟩ := id hp
  have HY := hide hY
  have HJ := hide hJ
  have hp' := hp
  have hw := hW.size
  have a0 := (hW.cell (p := ⟨bR, 0, none⟩) (by show bR < _; omega)).trans r0
  have a1 := (hW.cell (p := ⟨bR, 1, none⟩) (by show bR < _; omega)).trans r1
  have a3 := (hW.cell (p := ⟨bR, 3, none⟩) (by show bR < _; omega)).trans r3
  have b1 := (hW.cell (p := ⟨bP, 1, none⟩) (by show bP < _; omega)).trans p1
  have hlo := ediv_bd y0 H 1000000 q3 (by omega) (by omega) (by omega)
  have hhi := ediv_bd (y1 - 1) H 1000001 q3 (by omega) (by omega) (by omega)
  have hhi2 := ediv_bd y1 H 1000000 q3 (by omega) (by omega) (by omega)
  have hhi3 : (y1 - 1) / H ≤ y1 / H := Int.ediv_le_ediv (by omega) (by omega)
  have hlh : y0 / H ≤ (y1 - 1) / H := Int.ediv_le_ediv (by omega) (by omega)
  have hJ0 := hide h0
  have HW := hide hW
  clear hY hJ h0 hW
  gi_wp2_with (first
    | (refine ⟨trivial, rfl, ?_⟩)
    | (gi_at_call 44; refine (callsIn_wide.2 (split_any _ _ _ q3 q4 (by omega) (by omega))).mono ?_; rintro e w2 ⟨rfl, hb2⟩; first
        | (have hs2 := hb2.size; have a3' := (hb2.cell (p := ⟨bR, 3, none⟩) (by show bR < _; omega)).trans a3; have b1' := (hb2.cell (p := ⟨bP, 1, none⟩) (by show bP < _; omega)).trans b1; have HB2 := hide hb2; clear hb2 a0 a1 a3 b1)
        | (have hs3 := hb2.size; have HB3 := hide hb2; clear hb2)))
  rename_i wA
  have hbB : Below W1.heap.size W1 w2 := HB2.out.trans (HB3.out.mono hs2)
  have hC0 : Hid (∀ b, n0 ≤ b → b < n1 → w2.heap[b]? = w0.heap[b]?) := hide fun b _ h2 => ((hbB.block b (by omega)).trans (HW.out.block b (by omega)))
  have hJB := hide (HJ.out _ _ _ hJ0.out hbB)
  have hsB : n1 ≤ w2.heap.size := by omega
  have hcol : ∀ r : Int, y0 / H ≤ r → r ≤ (y1 - 1) / H → -1000000 ≤ r ∧ r ≤ 1000000 := fun r h1 h2 => by omega
  clear HB2 HB3 hbB hs2 hs3 hw HW hJ0
  gi_loopw [8] (fun p wr => ∃ r : Int, y0 / H ≤ r ∧ r ≤ (y1 - 1) / H + 1 ∧ p = .int .i64 r ∧ Hid (J (preR W H S ⟨x0, y0, x1, y1⟩ r) wr) ∧ Hid (∀ b, n0 ≤ b → b < n1 → wr.heap[b]? = w0.heap[b]?) ∧ n1 ≤ wr.heap.size)
    (fun p _ => ((y1 - 1) / H + 1 - intOf p).toNat)
  case atStart => exact ⟨y0 / H, Int.le_refl _, by omega, rfl, hide (by unfold preR; rw [irange_nil (show y0 / H - 1 < y0 / H by omega)]; exact hJB.out), hC0, hsB⟩
  case round =>
    clear hC0 hJB hsB
    obtain ⟨r, hr1, hr2, rfl, HJr, HC, hsz⟩ := hrel
    by_cases hlt : r ≤ (y1 - 1) / H
    · obtain ⟨rb1, rb2⟩ := hcol r hr1 hlt
      have cl : ∀ {b o u}, n0 ≤ b → b < n1 → w0.cell? ⟨b, o, none⟩ = some u → wr.cell? ⟨b, o, none⟩ = some u := fun {b o u} h1 h2 e => (World.cell?_of_block (w := w0) (HC.out b h1 h2)).trans e
      have a0 := cl hR1 hR2 r0
      have a2 := cl hR1 hR2 r2
      have b0 := cl hP1 hP2 p0
      have b1 := cl hP1 hP2 p1
      have b2 := cl hP1 hP2 p2
      have hsf := shiftI_bd hp' r
      have hfl : (x0 - shiftI W S r) / W ≤ (x1 - 1 - shiftI W S r) / W := Int.ediv_le_ediv (by omega) (by omega)
      have hf1 := ediv_bd (x0 - shiftI W S r) W 1001000 q1 (by omega) (by omega) (by omega)
      have hf2 := ediv_bd (x1 - 1 - shiftI W S r) W 1001000 q1 (by omega) (by omega) (by omega)
      clear cl
      gi_wp2
      refine wpIn_wide.2 ?_
      have h5 : bR < wr.heap.size := by omega
      have h6 : bP < wr.heap.size := by omega
      have sh := fun w => shift_any W H S r w hp' rb1 rb2
      have s1 := fun w => split_any (x0 - shiftI W S r) W w q1 q2 (by omega) (by omega)
      have s2 := fun w => split_any (x1 - 1 - shiftI W S r) W w q1 q2 (by omega) (by omega)
      obtain ⟨s, hsE⟩ : ∃ s, s = shiftI W S r := ⟨_, rfl⟩
      rw [← hsE] at hsf hfl hf1 hf2 sh s1 s2
      obtain ⟨f, hfE⟩ : ∃ f, f = (x0 - s) / W := ⟨_, rfl⟩
      obtain ⟨g, hgE⟩ : ∃ g, g = (x1 - 1 - s) / W := ⟨_, rfl⟩
      rw [← hfE] at hfl hf1 s1
      rw [← hgE] at hfl hf2 s2
      have HSE := hide hsE
      have HFE := hide hfE
      have HGE := hide hgE
      clear hsE hfE hgE
      refine wp_hab fun hab => ?_
      refine wp_region_above (by kernel_rfl) (by kernel_rfl) ?_
      repeat (go_big_quiet_step ((first | (go_at_call 45; exact above_of (sh _)) | (go_at_call 44; exact above_of (s1 _)))))
      refine wpQuiet_nil ?_
      refine above_ends fun w6 hb6 => ?_
      clear hab a0 b0 b1 b2 s1
      have hs6 := hb6.size
      have cl : ∀ {b o u}, n0 ≤ b → b < n1 → w0.cell? ⟨b, o, none⟩ = some u → w6.cell? ⟨b, o, none⟩ = some u := fun {b o u} h1 h2 e => (hb6.cell (p := ⟨b, o, none⟩) (by show b < _; omega)).trans ((World.cell?_of_block (w := w0) (HC.out b h1 h2)).trans e)
      have a2 := cl hR1 hR2 r2
      have b0 := cl hP1 hP2 p0
      have b1 := cl hP1 hP2 p1
      have b2 := cl hP1 hP2 p2
      have h7 : bR < w6.heap.size := by omega
      have h8 : bP < w6.heap.size := by omega
      have HB6 := hide hb6
      clear cl hb6
      gi_wp2
      refine wpIn_wide.2 ?_
      refine wp_hab fun hab => ?_
      refine wp_region_above (by kernel_rfl) (by kernel_rfl) ?_
      repeat (go_big_quiet_step ((first | (go_at_call 45; exact above_of (sh _)) | (go_at_call 44; exact above_of (s2 _)))))
      refine wpQuiet_nil ?_
      refine above_ends fun w7 hb7 => ?_
      have hs7 := hb7.size
      have hJ7 := hide (HJ.out _ _ _ HJr.out (HB6.out.trans (hb7.mono hs6)))
      have hC7 : Hid (∀ b, n0 ≤ b → b < n1 → w7.heap[b]? = w0.heap[b]?) := hide fun b h1 h2 => (hb7.block b (by omega)).trans ((HB6.out.block b (by omega)).trans (HC.out b h1 h2))
      clear hab a2 b0 b1 b2 sh s2 hb7 HB6 HJr HC h5 h6 h7 h8
      gi_wp2
      gi_loopw [13] (fun p wr => ∃ c : Int, f ≤ c ∧ c ≤ g + 1 ∧ p = .int .i64 c ∧ Hid (J (preR W H S ⟨x0, y0, x1, y1⟩ r ++ preC W S ⟨x0, y0, x1, y1⟩ r c) wr) ∧ Hid (∀ b, n0 ≤ b → b < n1 → wr.heap[b]? = w0.heap[b]?) ∧ n1 ≤ wr.heap.size)
        (fun p _ => (g + 1 - intOf p).toNat)
      case atStart => exact ⟨f, Int.le_refl _, by omega, rfl, hide (by unfold preC; rw [← HSE.out, ← HFE.out, irange_nil (show f - 1 < f by omega)]; simpa using hJ7.out), hC7, by omega⟩
      case round =>
        clear hC7 hJ7 hsz hs6 hs7
        obtain ⟨c, hc1, hc2, rfl, HJc, HC, hsz⟩ := hrel
        by_cases hcl : c ≤ g
        · have hpost := pre_at (W := W) (H := H) (S := S) (t := ⟨x0, y0, x1, y1⟩) (r := r) (c := c) hr1 hlt (by rw [← HSE.out, ← HFE.out]; exact hc1) (by rw [← HSE.out, ← HGE.out]; exact hcl)
          obtain ⟨fn, tmps, assign, body, hy, hR⟩ := HY.out _ (r, c) #[.int .i64 c, .int .i64 r] wr HJc.out hpost rfl
          have HNX := hide (preC_next (W := W) (S := S) (t := ⟨x0, y0, x1, y1⟩) (r := r) (c := c) (by rw [← HSE.out, ← HFE.out]; exact hc1))
          clear hpost HJc HY HJ hcol
          gi_wp2
          refine ⟨rfl, hR.mono ?_⟩
          rintro e W3 (⟨rfl, hJ3, hk3⟩ | ⟨rfl, hJx3⟩)
          · have HJ3 := hide hJ3
            have HK3 := hide hk3
            clear hJ3 hk3 hR
            gi_wp2
            go_roundw
            case rel =>
              refine ⟨c + 1, by omega, by omega, by go_num, hide (by rw [HNX.out, ← List.append_assoc]; exact HJ3.out), hide fun b h1 h2 => (HK3.out.2 b h1 h2).trans (HC.out b h1 h2), ?_⟩
              have := HK3.out.1
              omega
            case measure => simp [intOf]; omega
          · have HJx := hide hJx3
            clear hJx3 hR
            gi_wp2
            refine bodyPost_ret (results_none rfl _ _ _) rfl ?_
            exact ⟨⟨_, rfl⟩, .inr ⟨_, HJx.out⟩⟩
        · have hcl' : ¬ c ≤ g := hcl
          have hce : c = g + 1 := by omega
          have HAL := hide (preC_all (W := W) (H := H) (S := S) (t := ⟨x0, y0, x1, y1⟩) (r := r) (c := c) (by rw [← HSE.out, ← HGE.out]; exact hce))
          have HNR := hide (preR_next (W := W) (H := H) (S := S) (t := ⟨x0, y0, x1, y1⟩) (r := r) hr1)
          clear HY HJ hcol hce
          gi_wp2
          go_roundw
          case rel => exact ⟨r + 1, by omega, by omega, by go_num, hide (by rw [HNR.out, ← HAL.out]; exact HJc.out), HC, hsz⟩
          case measure => simp [intOf]; omega
    · have hre : r = (y1 - 1) / H + 1 := by omega
      have HAL := hide (preR_all (W := W) (H := H) (S := S) (t := ⟨x0, y0, x1, y1⟩) (r := r) hre)
      clear HY HJ hcol hre
      gi_wp2
      go_end0
      exact ⟨⟨_, rfl⟩, .inl (by have := HJr.out; rw [HAL.out] at this; exact this)⟩
/-- What bricks hands back: its iterator over two boxes of its own. -/
def BrickRet (W H S x0 y0 x1 y1 : Int) (w : World) (e : Ending) (w' : World) : Prop :=
  e = .returned (.func (.func 52) #[] #[.pointer (some ⟨w.heap.size + 1, 0, none⟩), .pointer (some ⟨w.heap.size, 0, none⟩)]) ∧ Below w.heap.size w w' ∧ w'.heap.size = w.heap.size + 2 ∧
    (w'.cell? ⟨w.heap.size + 1, 0, none⟩ = some (.int .i64 x0) ∧ w'.cell? ⟨w.heap.size + 1, 1, none⟩ = some (.int .i64 y0) ∧ w'.cell? ⟨w.heap.size + 1, 2, none⟩ = some (.int .i64 x1) ∧ w'.cell? ⟨w.heap.size + 1, 3, none⟩ = some (.int .i64 y1)) ∧
    w'.cell? ⟨w.heap.size, 0, none⟩ = some (.int .i64 W) ∧ w'.cell? ⟨w.heap.size, 1, none⟩ = some (.int .i64 H) ∧ w'.cell? ⟨w.heap.size, 2, none⟩ = some (.int .i64 S)
set_option maxHeartbeats 400000 in
theorem bricks_any (W H S x0 y0 x1 y1 : Int) (w : World) :
    Calls Tryz.prog 30 #[.agg #[.int .i64 W, .int .i64 H, .int .i64 S], .agg #[.int .i64 x0, .int .i64 y0, .int .i64 x1, .int .i64 y1]] w (BrickRet W H S x0 y0 x1 y1 w) := by
  go_enter Tryz.func30, Tryz.ntmps30
  go_wp2
  go_ret
  refine ⟨rfl, ((Below.refl _ _).alloc (Nat.le_refl _) _).alloc (by simp) _, by simp, ⟨?_, ?_, ?_, ?_⟩, ?_, ?_, ?_⟩ <;> simp [go_sem]
end Go.Proofs.YtjlfdgoijalfaaaGreat

/- What texture.Tile keeps from round to round: its boxes, keys, groups, marks; and the pieces that come back. -/
namespace Go.Proofs.YtjlfdgoijalfaaaGreat
open Go.RowKit
set_option linter.unusedVariables false
set_option linter.unusedSimpArgs false

theorem infoPc : (Tryz.prog.info? 48).map (fun i => (i.zero, i.size, i.bytes)) = some (some (.agg #[.int .i64 0, .int .i64 0, .slice none 0 0]), 3, 40) := by kernel_rfl
/-- The boxes. -/
structure TB (w : World) (W H S : Int) (bM : Nat) (wi : World) : Prop where
  low : Below w.heap.size w wi
  hb : w.heap.size + 3 ≤ bM
  p0 : wi.cell? ⟨w.heap.size, 0, none⟩ = some (.int .i64 W)
  p1 : wi.cell? ⟨w.heap.size, 1, none⟩ = some (.int .i64 H)
  p2 : wi.cell? ⟨w.heap.size, 2, none⟩ = some (.int .i64 S)
  c4 : ∃ u, wi.cell? ⟨w.heap.size + 1, 0, none⟩ = some u
  c5 : ∃ u, wi.cell? ⟨w.heap.size + 2, 0, none⟩ = some u
  f4 : wi.frozen? ⟨w.heap.size + 1, 0, none⟩ = false
  f5 : wi.frozen? ⟨w.heap.size + 2, 0, none⟩ = false
  c8 : wi.cell? ⟨bM + 1, 0, none⟩ = some (.map (some bM))
  f9 : wi.frozen? ⟨bM + 2, 0, none⟩ = false
  top : bM + 2 < wi.heap.size
theorem TB.step {w : World} {W H S : Int} {bM : Nat} {wi wj : World} (h : TB w W H S bM wi) {row : Option Nat} (hg : wi.grownBy wj row) (hr : ∀ q, row = some q → q = bM ∨ bM + 3 ≤ q) : TB w W H S bM wj := by
  have ht := h.top
  have hb := h.hb
  have bl : ∀ b, b < bM ∨ b = bM + 1 ∨ b = bM + 2 → wj.heap[b]? = wi.heap[b]? := fun b hlt => hg.block b (by omega) (fun e => by have := hr b e.symm; omega)
  have cl : ∀ b o, b < bM ∨ b = bM + 1 ∨ b = bM + 2 → wj.cell? ⟨b, o, none⟩ = wi.cell? ⟨b, o, none⟩ := fun b o hlt => World.cell?_of_block (bl b hlt)
  have fl : ∀ b o, b < bM ∨ b = bM + 1 ∨ b = bM + 2 → wj.frozen? ⟨b, o, none⟩ = wi.frozen? ⟨b, o, none⟩ := fun b o hlt => World.frozen?_of_block (bl b hlt)
  obtain ⟨u4, e4⟩ := h.c4
  obtain ⟨u5, e5⟩ := h.c5
  exact ⟨h.low.grown hg (by omega) (fun q hq => by have := hr q hq; omega), hb, (cl _ _ (by omega)).trans h.p0, (cl _ _ (by omega)).trans h.p1, (cl _ _ (by omega)).trans h.p2, ⟨u4, (cl _ _ (by omega)).trans e4⟩, ⟨u5, (cl _ _ (by omega)).trans e5⟩,
    (fl _ _ (by omega)).trans h.f4, (fl _ _ (by omega)).trans h.f5, (cl _ _ (by omega)).trans h.c8, (fl _ _ (by omega)).trans h.f9, Nat.lt_of_lt_of_le ht hg.size⟩
theorem grown_of_below {w w' : World} (hb : Below w.heap.size w w') : w.grownBy w' none := ⟨hb.os, hb.tape, hb.output, hb.size, fun k hk _ => hb.block k hk⟩
theorem TB.below {w : World} {W H S : Int} {bM : Nat} {wi wj : World} (h : TB w W H S bM wi) (hb : Below wi.heap.size wi wj) : TB w W H S bM wj := h.step (grown_of_below hb) (by simp)
theorem grown_setCell (w : World) (q o : Nat) (u : Value) : w.grownBy (w.setCell ⟨q, o, none⟩ u) (some q) := ⟨rfl, rfl, rfl, by simp, fun k _ hk => Below.heap_setCell _ _ _ _ (fun e => hk (by rw [e]))⟩
theorem TB.setKeys {w : World} {W H S : Int} {bM : Nat} {wi : World} (h : TB w W H S bM wi) (u : Value) : TB w W H S bM (wi.setCell ⟨bM + 2, 0, none⟩ u) := by
  have ht := h.top
  have hb := h.hb
  have hg := grown_setCell wi (bM + 2) 0 u
  have bl : ∀ b, b ≠ bM + 2 → b < wi.heap.size → (wi.setCell ⟨bM + 2, 0, none⟩ u).heap[b]? = wi.heap[b]? := fun b hlt hs => hg.block b hs (by simpa using hlt)
  have cl : ∀ b o, b ≠ bM + 2 → b < wi.heap.size → (wi.setCell ⟨bM + 2, 0, none⟩ u).cell? ⟨b, o, none⟩ = wi.cell? ⟨b, o, none⟩ := fun b o hlt hs => World.cell?_of_block (bl b hlt hs)
  have fl : ∀ b o, (wi.setCell ⟨bM + 2, 0, none⟩ u).frozen? ⟨b, o, none⟩ = wi.frozen? ⟨b, o, none⟩ := fun b o => World.frozen?_setCell _ _ _ _
  obtain ⟨u4, e4⟩ := h.c4
  obtain ⟨u5, e5⟩ := h.c5
  exact ⟨h.low.grown hg (by omega) (fun q hq => by injection hq; omega), hb, (cl _ _ (by omega) (by omega)).trans h.p0, (cl _ _ (by omega) (by omega)).trans h.p1, (cl _ _ (by omega) (by omega)).trans h.p2, ⟨u4, (cl _ _ (by omega) (by omega)).trans e4⟩, ⟨u5, (cl _ _ (by omega) (by omega)).trans e5⟩,
    (fl _ _).trans h.f4, (fl _ _).trans h.f5, (cl _ _ (by omega) (by omega)).trans h.c8, (fl _ _).trans h.f9, by simpa using ht⟩
/-- Keys and groups. -/
structure TK (bM n0 n1 : Nat) (KL K : List Ky) (p : Ky → List R4) (vals : Ky → Value) (Ak : Option Addr) (ck : Nat) (wi : World) : Prop where
  gs : Gs (bM + 3) bM n0 n1 K p vals wi
  cell : wi.cell? ⟨bM + 2, 0, none⟩ = some (.slice Ak KL.length ck)
  own : wi.ownsRow (bM + 3) 77 2 (.slice Ak KL.length ck) KL.length (KL.flatMap encK)
  gap : ∀ g, (Value.slice Ak KL.length ck).ownBlock = some g → (g < n0 ∨ n1 ≤ g)
  ap : ∀ g, (Value.slice Ak KL.length ck).ownBlock = some g → ∀ k ∈ K, (vals k).ownBlock ≠ some g
theorem TK.step {bM n0 n1 : Nat} {KL K : List Ky} {p : Ky → List R4} {vals : Ky → Value} {Ak : Option Addr} {ck : Nat} {wi wj : World} (h : TK bM n0 n1 KL K p vals Ak ck wi) {row : Option Nat} (hg : wi.grownBy wj row) (hr : ∀ q, row = some q → q ≠ bM ∧ q ≠ bM + 2 ∧ (∀ k ∈ K, (vals k).ownBlock ≠ some q) ∧ (Value.slice Ak KL.length ck).ownBlock ≠ some q) : TK bM n0 n1 KL K p vals Ak ck wj := by
  refine ⟨h.gs.grown hg (fun e => (hr bM e.symm).1 rfl) (fun k hk e => ?_), ?_, h.own.kept hg ?_, h.gap, h.ap⟩
  · cases row with
    | none => exact h.gs.someB hk e
    | some q => exact (hr q rfl).2.2.1 k hk e
  · exact hg.cell h.cell (fun e => (hr (bM + 2) e.symm).2.1 rfl)
  · cases row with
    | none =>
      cases hv : (Value.slice Ak KL.length ck).ownBlock with
      | none => exact .inl rfl
      | some g => exact .inr (by simp)
    | some q => exact .inr ((hr q rfl).2.2.2)
theorem TK.below {bM n0 n1 : Nat} {KL K : List Ky} {p : Ky → List R4} {vals : Ky → Value} {Ak : Option Addr} {ck : Nat} {wi wj : World} (h : TK bM n0 n1 KL K p vals Ak ck wi) (hb : Below wi.heap.size wi wj) : TK bM n0 n1 KL K p vals Ak ck wj := h.step (grown_of_below hb) (by simp)
theorem TK.regap {bM n0 n1 : Nat} {KL K : List Ky} {p : Ky → List R4} {vals : Ky → Value} {Ak : Option Addr} {ck : Nat} {wi : World} (h : TK bM n0 n1 KL K p vals Ak ck wi) {m0 m1 : Nat} (hm : wi.heap.size ≤ m0) : TK bM m0 m1 KL K p vals Ak ck wi :=
  ⟨h.gs.gap hm, h.cell, h.own, fun g hg => .inl (Nat.lt_of_lt_of_le (h.own.lt g hg).2 hm), h.ap⟩
theorem TK.same {bM n0 n1 : Nat} {KL K : List Ky} {p q : Ky → List R4} {vals : Ky → Value} {Ak : Option Addr} {ck : Nat} {wi : World} (h : TK bM n0 n1 KL K p vals Ak ck wi) (e : ∀ k, p k = q k) : TK bM n0 n1 KL K q vals Ak ck wi := by
  obtain rfl : p = q := funext e
  exact h
/-- A block that holds no cells, and is not the map, is none of theirs. -/
theorem TK.other {bM n0 n1 : Nat} {KL K : List Ky} {p : Ky → List R4} {vals : Ky → Value} {Ak : Option Addr} {ck : Nat} {wi wj : World} (h : TK bM n0 n1 KL K p vals Ak ck wi) {l : Nat} {o : Obj} (hg : wi.grownBy wj (some l)) (hl : wi.heap[l]? = some o) (ho : o.isCells = false) (hn : bM < l) : TK bM n0 n1 KL K p vals Ak ck wj := by
  refine h.step hg fun q hq => ?_
  injection hq with hq
  subst hq
  refine ⟨by omega, fun e => ?_, fun k hk e => ?_, fun e => ?_⟩
  · subst e
    obtain ⟨ob, h1, h2⟩ := cells_of_cell h.cell
    rw [hl] at h1
    injection h1 with h1
    subst h1
    rw [ho] at h2; cases h2
  · obtain ⟨_, _, _, _, hrow⟩ := h.gs.vs k hk
    have := own_cells hrow l o e hl
    rw [ho] at this; cases this
  · have := own_cells h.own l o e hl
    rw [ho] at this; cases this
/-- The marks of the loops over iterators that are done. -/
def mark (D : Nat) : Deferred := { target := .collected D, args := #[] }
def Mks (n : Nat) (ms : List Nat) (w : World) : Prop := ms.Nodup ∧ ∀ D ∈ ms, n ≤ D ∧ w.heap[D]? = some (.deferred (some []))
theorem Mks.step {n : Nat} {ms : List Nat} {w w' : World} (h : Mks n ms w) {row : Option Nat} (hg : w.grownBy w' row) (hr : ∀ q, row = some q → q < n ∨ ∃ o, w.heap[q]? = some o ∧ ∀ x, o ≠ .deferred x) : Mks n ms w' :=
  ⟨h.1, fun D hD => by
    obtain ⟨h1, h2⟩ := h.2 D hD
    refine ⟨h1, (hg.block D (Array.getElem?_eq_some_iff.1 h2).1 (fun e => ?_)).trans h2⟩
    rcases hr D e.symm with h3 | ⟨o, h3, h4⟩
    · omega
    · rw [h2] at h3
      injection h3 with h3
      exact h4 _ h3.symm⟩
theorem Mks.below {n : Nat} {ms : List Nat} {w w' : World} (h : Mks n ms w) (hb : Below w.heap.size w w') : Mks n ms w' := h.step (grown_of_below hb) (by simp)
theorem Mks.lt {n : Nat} {ms : List Nat} {w : World} (h : Mks n ms w) : ∀ D ∈ ms, D < w.heap.size := fun D hD => (Array.getElem?_eq_some_iff.1 (h.2 D hD).2).1
theorem Mks.putObj {n : Nat} {ms : List Nat} {w : World} (h : Mks n ms w) {l : Nat} (hl : ∀ D ∈ ms, D < l) (o : Obj) : Mks n ms (w.putObj l o) :=
  ⟨h.1, fun D hD => ⟨(h.2 D hD).1, (World.putObj_heap_other (by have := hl D hD; omega)).trans (h.2 D hD).2⟩⟩
theorem Mks.row {n : Nat} {ms : List Nat} {w w' : World} (h : Mks n ms w) {B : Nat} {t : TypeId} {s m : Nat} {v : Value} {xs : List Value} (ho : w.ownsRow B t s v m xs) (hg : w.grownBy w' v.ownBlock) : Mks n ms w' := by
  refine h.step hg fun q hq => .inr ?_
  rcases ho.2 with ⟨rfl, _⟩ | ⟨g, cap, cur, rfl, _, hh, _⟩
  · cases hq
  · have : g = q := by simpa [Value.ownBlock] using hq
    subst this
    exact ⟨_, hh, by simp⟩
/-- The marks taken off at the function's end. -/
structure Cleared (ms : List Nat) (w w' : World) : Prop where
  size : w'.heap.size = w.heap.size
  os : w'.os = w.os
  tape : w'.tape = w.tape
  output : w'.output = w.output
  block : ∀ b, b ∉ ms → w'.heap[b]? = w.heap[b]?
theorem leaves_marks {F : Fence} {n : Nat} {P : Program} {fn : Func} {tmps : Array Value} {R : Ending → World → Prop} : ∀ (ms : List Nat) (w : World), ms.Nodup → (∀ D ∈ ms, w.heap[D]? = some (.deferred (some []))) → (∀ w', Cleared ms w w' → LeavesIn F n P fn tmps R [] .returning w') → LeavesInM F n P fn tmps R (ms.map mark) .returning w
  | [], w, _, _, h => h w ⟨rfl, rfl, rfl, rfl, fun _ _ => rfl⟩
  | D :: ms, w, hn, hd, h => by
    obtain ⟨n1, n2⟩ := List.nodup_cons.1 hn
    refine ⟨by simp, .inl ⟨D, _, rfl, run_takeDeferred (hd D (by simp)), ?_⟩⟩
    refine leaves_marks ms _ n2 (fun D' hD' => (World.putObj_heap_other (fun e => n1 (by rw [← e]; exact hD'))).trans (hd D' (by simp [hD']))) fun w' hc => h w' ⟨by rw [hc.size]; simp, hc.os, hc.tape, hc.output, fun b hb => ?_⟩
    rw [hc.block b (fun h => hb (by simp [h]))]
    exact World.putObj_heap_other (fun e => hb (by simp [e]))
theorem Cleared.below {B n : Nat} {ms : List Nat} {w0 w w' : World} (h : Cleared ms w w') (hm : Mks n ms w) (hB : B ≤ n) (hb : Below B w0 w) : Below B w0 w' :=
  ⟨h.os.trans hb.os, h.tape.trans hb.tape, h.output.trans hb.output, by rw [h.size]; exact hb.size, fun k hk => (h.block k (fun hk2 => by have := (hm.2 k hk2).1; omega)).trans (hb.block k hk)⟩
theorem Cleared.cell {n : Nat} {ms : List Nat} {w w' : World} (h : Cleared ms w w') (hm : Mks n ms w) {b o : Nat} {u : Value} (hc : w.cell? ⟨b, o, none⟩ = some u) : w'.cell? ⟨b, o, none⟩ = some u := by
  refine (World.cell?_of_block (h.block b fun hk => ?_)).trans hc
  obtain ⟨ob, h1, h2⟩ := cells_of_cell hc
  rw [(hm.2 _ hk).2] at h1
  injection h1 with h1
  subst h1
  cases h2
theorem Cleared.own {n : Nat} {ms : List Nat} {w w' : World} (h : Cleared ms w w') (hm : Mks n ms w) {B : Nat} {t : TypeId} {s m : Nat} {v : Value} {xs : List Value} (ho : w.ownsRow B t s v m xs) : w'.ownsRow B t s v m xs := by
  refine ⟨ho.1, ?_⟩
  rcases ho.2 with hn | ⟨g, cap, cur, hv, hg, hh, r⟩
  · exact .inl hn
  · refine .inr ⟨g, cap, cur, hv, hg, (h.block g fun hk => ?_).trans hh, r⟩
    rw [(hm.2 _ hk).2] at hh
    cases hh
/-- The pieces. -/
def encP (q : Ky × Value) : List Value := [.int .i64 q.1.2, .int .i64 q.1.1, q.2]
structure Pcs (w : World) (vo : Value) (R : List (Ky × List R4)) (a : World) : Prop where
  low : Below w.heap.size w a
  o : ∃ L : List (Ky × Value), L.length = R.length ∧ a.ownsRow w.heap.size 48 3 vo R.length (L.flatMap encP) ∧ ∀ (i : Nat) (k : Ky) (r : List R4), R[i]? = some (k, r) → ∃ u, L[i]? = some (k, u) ∧ a.ownsRow w.heap.size 41 4 u r.length (r.flatMap encR)
def PcsRet (B : Nat) (x : List (Ky × List R4) × Int) (e : Ending) (w' : World) : Prop :=
  ∃ (A : Option Addr) (c : Nat) (L : List (Ky × Value)), e = .returned (.tuple #[.slice A x.1.length c, .int .i64 x.2]) ∧ L.length = x.1.length ∧ w'.ownsRow B 48 3 (.slice A x.1.length c) x.1.length (L.flatMap encP) ∧ ∀ (i : Nat) (k : Ky) (r : List R4), x.1[i]? = some (k, r) → ∃ u, L[i]? = some (k, u) ∧ w'.ownsRow B 41 4 u r.length (r.flatMap encR)
end Go.Proofs.YtjlfdgoijalfaaaGreat

/- texture.Tile: how its state goes through the operations of a round. -/
namespace Go.Proofs.YtjlfdgoijalfaaaGreat
open Go.RowKit
set_option linter.unusedVariables false
set_option linter.unusedSimpArgs false

theorem wpIn_name {c : Code} {F : Fence} {n : Nat} {P : Program} {Q : Exit → Act → World → Prop} {a : Act} {W : World} (h : ∀ w, w = W → c.wpIn F n P Q a w) : c.wpIn F n P Q a W := h W rfl
theorem results_cells2 {fn : Func} {p q : Tmp} (h : fn.results = #[.cell p 29, .cell q 30]) (tmps : Array Value) (w : World) (b4 b5 : Nat) (u v : Value) (hp : tmps.getD p undef = .pointer (some ⟨b4, 0, none⟩)) (hq : tmps.getD q undef = .pointer (some ⟨b5, 0, none⟩))
    (c4 : w.cell? ⟨b4, 0, none⟩ = some u) (c5 : w.cell? ⟨b5, 0, none⟩ = some v) : (results fn tmps).run Tryz.prog w = .ok (.tuple #[u, v]) w := by
  have hp' : tmps[p]?.getD undef = .pointer (some ⟨b4, 0, none⟩) := by simpa using hp
  have hq' : tmps[q]?.getD undef = .pointer (some ⟨b5, 0, none⟩) := by simpa using hq
  simp [results, h, hp', hq', asAddr, loadVar, Tryz.underlying29, Tryz.underlying30, go_sem, c4, c5]
theorem rects4_at {W wr : World} {l : List R4} {b o m : Nat} (hk : ∀ (j : Nat) (x : R4), l[j]? = some x → ∀ (i : Nat) (u : Value), (encR x)[i]? = some u → W.cell? ⟨b, o + j * 4 + i, none⟩ = some u) (hb : ∀ q, wr.cell? ⟨b, q, none⟩ = W.cell? ⟨b, q, none⟩) {p0 p1 p2 p3 : Int} (hp : l[m]? = some ⟨p0, p1, p2, p3⟩) :
    wr.cell? ⟨b, o + m * 4, none⟩ = some (.int .i64 p0) ∧ wr.cell? ⟨b, o + m * 4 + 1, none⟩ = some (.int .i64 p1) ∧ wr.cell? ⟨b, o + m * 4 + 2, none⟩ = some (.int .i64 p2) ∧ wr.cell? ⟨b, o + m * 4 + 3, none⟩ = some (.int .i64 p3) :=
  ⟨(hb _).trans (hk m _ hp 0 _ rfl), (hb _).trans (hk m _ hp 1 _ rfl), (hb _).trans (hk m _ hp 2 _ rfl), (hb _).trans (hk m _ hp 3 _ rfl)⟩
theorem nil_no (ad : Addr) (n c : Nat) (W : World) : Sem.run Tryz.prog (binOp BinOp.eql 43 (.slice (some ad) n c) (.slice none 0 0)) W = .ok (.bool false) W := by kernel_rfl
theorem nil_yes (W : World) : Sem.run Tryz.prog (binOp BinOp.eql 43 (.slice none 0 0) (.slice none 0 0)) W = .ok (.bool true) W := by kernel_rfl
/-- The boxes ahead of the map. -/
structure T0 (w : World) (W H S : Int) (wi : World) : Prop where
  low : Below w.heap.size w wi
  hb : w.heap.size + 3 ≤ wi.heap.size
  p0 : wi.cell? ⟨w.heap.size, 0, none⟩ = some (.int .i64 W)
  p1 : wi.cell? ⟨w.heap.size, 1, none⟩ = some (.int .i64 H)
  p2 : wi.cell? ⟨w.heap.size, 2, none⟩ = some (.int .i64 S)
  c4 : ∃ u, wi.cell? ⟨w.heap.size + 1, 0, none⟩ = some u
  c5 : ∃ u, wi.cell? ⟨w.heap.size + 2, 0, none⟩ = some u
  f4 : wi.frozen? ⟨w.heap.size + 1, 0, none⟩ = false
  f5 : wi.frozen? ⟨w.heap.size + 2, 0, none⟩ = false
theorem T0.start (w : World) (W H S : Int) : T0 w W H S (((w.alloc (.cells #[.int .i64 W, .int .i64 H, .int .i64 S] 27)).alloc (.cells #[.slice none 0 0] 29)).alloc (.cells #[.int .i64 0] 30)) := by
  refine ⟨(((Below.refl _ _).alloc (Nat.le_refl _) _).alloc (by simp) _).alloc (by simp; omega) _, by simp, ?_, ?_, ?_, ⟨.slice none 0 0, ?_⟩, ⟨.int .i64 0, ?_⟩, ?_, ?_⟩ <;> simp [go_sem]
theorem T0.below {w : World} {W H S : Int} {wi wj : World} (h : T0 w W H S wi) (hb : Below wi.heap.size wi wj) : T0 w W H S wj := by
  have h3 := h.hb
  obtain ⟨u4, e4⟩ := h.c4
  obtain ⟨u5, e5⟩ := h.c5
  have cl : ∀ b o u, b < wi.heap.size → wi.cell? ⟨b, o, none⟩ = some u → wj.cell? ⟨b, o, none⟩ = some u := fun b o u hlt e => (hb.cell (p := ⟨b, o, none⟩) hlt).trans e
  exact ⟨h.low.trans (hb.mono (by omega)), Nat.le_trans h3 hb.size, cl _ _ _ (by omega) h.p0, cl _ _ _ (by omega) h.p1, cl _ _ _ (by omega) h.p2, ⟨u4, cl _ _ _ (by omega) e4⟩, ⟨u5, cl _ _ _ (by omega) e5⟩,
    (hb.frozen (p := ⟨_, 0, none⟩) (by show w.heap.size + 1 < _; omega)).trans h.f4, (hb.frozen (p := ⟨_, 0, none⟩) (by show w.heap.size + 2 < _; omega)).trans h.f5⟩
/-- What is stored at the end. -/
theorem T0.ret {w : World} {W H S : Int} {wi : World} (h : T0 w W H S wi) (u v : Value) :
    ((wi.setCell ⟨w.heap.size + 1, 0, none⟩ u).setCell ⟨w.heap.size + 2, 0, none⟩ v).cell? ⟨w.heap.size + 1, 0, none⟩ = some u ∧ ((wi.setCell ⟨w.heap.size + 1, 0, none⟩ u).setCell ⟨w.heap.size + 2, 0, none⟩ v).cell? ⟨w.heap.size + 2, 0, none⟩ = some v ∧
    Below w.heap.size w ((wi.setCell ⟨w.heap.size + 1, 0, none⟩ u).setCell ⟨w.heap.size + 2, 0, none⟩ v) := by
  obtain ⟨u4, e4⟩ := h.c4
  obtain ⟨u5, e5⟩ := h.c5
  exact ⟨by simp [go_sem, e4], by simp [go_sem, e5], (h.low.setCell (p := ⟨_, 0, none⟩) (Nat.le_succ _) _).setCell (p := ⟨_, 0, none⟩) (by show w.heap.size ≤ w.heap.size + 2; omega) _⟩
theorem T0.map {w : World} {W H S : Int} {wi : World} (h : T0 w W H S wi) : TB w W H S wi.heap.size (((wi.alloc (.map #[] 0)).alloc (.cells #[.map (some wi.heap.size)] 72)).alloc (.cells #[.slice none 0 0] 73)) := by
  have hb : Below wi.heap.size wi (((wi.alloc (.map #[] 0)).alloc (.cells #[.map (some wi.heap.size)] 72)).alloc (.cells #[.slice none 0 0] 73)) := (((Below.refl _ _).alloc (Nat.le_refl _) _).alloc (by simp) _).alloc (by simp; omega) _
  have g := h.below hb
  exact ⟨g.low, h.hb, g.p0, g.p1, g.p2, g.c4, g.c5, g.f4, g.f5, by simp [go_sem], by simp [go_sem], by simp⟩
theorem TB.t0 {w : World} {W H S : Int} {bM : Nat} {wi : World} (h : TB w W H S bM wi) : T0 w W H S wi := ⟨h.low, by have := h.hb; have := h.top; omega, h.p0, h.p1, h.p2, h.c4, h.c5, h.f4, h.f5⟩
theorem TK.start (w : World) (n0 n1 : Nat) (p : Ky → List R4) (vals : Ky → Value) (t1 t2 : TypeId) : TK w.heap.size n0 n1 [] [] p vals none 0 (((w.alloc (.map #[] 0)).alloc (.cells #[.map (some w.heap.size)] t1)).alloc (.cells #[.slice none 0 0] t2)) :=
  ⟨((Gs.made w _ n0 n1 p vals).below ((Below.refl _ _).alloc (Nat.le_refl _) _)).below ((Below.refl _ _).alloc (Nat.le_refl _) _), by simp [go_sem], World.ownsRow_nil _ _ _ _, fun g hg => (by cases hg), fun g hg => (by cases hg)⟩
theorem TK.pushKey {bM n0 n1 : Nat} {KL K : List Ky} {p : Ky → List R4} {vals : Ky → Value} {Ak : Option Addr} {ck : Nat} {wi w9 : World} (h : TK bM n0 n1 KL K p vals Ak ck wi) {k : Ky} {g c : Nat} (hg : wi.grownBy w9 (Value.slice Ak KL.length ck).ownBlock) (hloc : (Value.slice Ak KL.length ck).ownBlock = some g ∨ wi.heap.size ≤ g)
    (hown : w9.ownsRow (bM + 3) 77 2 (.slice (some ⟨g, 0, none⟩) (KL.length + 1) c) (KL.length + 1) ((KL ++ [k]).flatMap encK)) (hn1 : n1 ≤ wi.heap.size) (hb : bM + 2 < wi.heap.size) :
    w9.cell? ⟨bM + 2, 0, none⟩ = some (.slice Ak KL.length ck) ∧ TK bM n0 n1 (KL ++ [k]) K p vals (some ⟨g, 0, none⟩) c (w9.setCell ⟨bM + 2, 0, none⟩ (.slice (some ⟨g, 0, none⟩) (KL.length + 1) c)) := by
  have hk9 : some (bM + 2) ≠ (Value.slice Ak KL.length ck).ownBlock := fun e => by have := (h.own.lt _ e.symm).1; omega
  have hkM : some bM ≠ (Value.slice Ak KL.length ck).ownBlock := fun e => by have := (h.own.lt _ e.symm).1; omega
  have c9 := hg.cell h.cell hk9
  have hv : ∀ q ∈ K, (vals q).ownBlock ≠ (Value.slice Ak KL.length ck).ownBlock := fun q hq e => by
    cases hv : (Value.slice Ak KL.length ck).ownBlock with
    | none => rw [hv] at e; exact h.gs.someB hq e
    | some x => rw [hv] at e; exact h.ap x hv q hq e
  have hle : (KL ++ [k]).length = KL.length + 1 := by simp
  have hg9 : (Value.slice (some ⟨g, 0, none⟩) (KL.length + 1) c).ownBlock ≠ some (bM + 2) := fun e => by
    have e2 : g = bM + 2 := by simpa [Value.ownBlock] using e
    have := (hown.lt g rfl).1
    omega
  refine ⟨c9, ⟨(h.gs.grown hg hkM hv).setCell 0 _ (by omega) (fun q hq e => by have := (h.gs.lt hq e).1; omega), by rw [hle]; simp [go_sem, c9], by rw [hle]; exact hown.kept (grown_setCell _ _ _ _) (.inr hg9), ?_, ?_⟩⟩
  · intro q hq
    have e2 : g = q := by simpa [Value.ownBlock] using hq
    subst e2
    rcases hloc with hl | hl
    · exact h.gap g hl
    · exact .inr (by omega)
  · intro q hq k' hk' e
    have e2 : g = q := by simpa [Value.ownBlock] using hq
    subst e2
    rcases hloc with hl | hl
    · exact h.ap g hl k' hk' e
    · have := (h.gs.lt hk' e).2; omega
theorem TK.gvne {bM n0 n1 : Nat} {KL K : List Ky} {p : Ky → List R4} {vals : Ky → Value} {Ak : Option Addr} {ck : Nat} {wi : World} (h : TK bM n0 n1 KL K p vals Ak ck wi) (k : Ky) {g : Nat} (hg : (gv K vals k).ownBlock = some g) : bM + 3 ≤ g ∧ g < wi.heap.size ∧ (g < n0 ∨ n1 ≤ g) ∧ (Value.slice Ak KL.length ck).ownBlock ≠ some g ∧ ∃ o, wi.heap[g]? = some o ∧ o.isCells = true := by
  unfold gv at hg
  split at hg
  · rename_i hk
    obtain ⟨g', c, e, hgap, hr⟩ := h.gs.vs k hk
    have e2 : g' = g := by rw [e] at hg; simpa [Value.ownBlock] using hg
    subst e2
    have hlt := hr.lt g' hg
    refine ⟨hlt.1, hlt.2, hgap, fun e => h.ap g' e k hk hg, ?_⟩
    rcases hr.2 with ⟨e0, _⟩ | ⟨q, cap, cur, e0, _, hh, _⟩
    · rw [e] at e0; cases e0
    · rw [e] at e0
      injection e0 with e1
      injection e1 with e1
      injection e1 with e1
      subst e1
      exact ⟨_, hh, rfl⟩
  · cases hg
theorem TK.stored {bM n0 n1 : Nat} {KL K : List Ky} {p p' : Ky → List R4} {vals vals' : Ky → Value} {Ak : Option Addr} {ck : Nat} {w w1 w2 w3 : World} {k : Ky} {g c n : Nat} (h : TK bM n0 n1 KL K p vals Ak ck w) (g1 : w.grownBy w1 (some bM)) (g2 : w1.grownBy w2 (gv K vals k).ownBlock) (g3 : w2.grownBy w3 (some bM)) (hs : w1.heap.size = w.heap.size)
    (hloc : (gv K vals k).ownBlock = some g ∨ w1.heap.size ≤ g) (hv : ∀ k', vals' k' = if k' = k then .slice (some ⟨g, 0, none⟩) n c else vals k') (hgs : Gs (bM + 3) bM n0 n1 (addK K k) p' vals' w3) : TK bM n0 n1 KL (addK K k) p' vals' Ak ck w3 := by
  have hkb : ∀ x, (Value.slice Ak KL.length ck).ownBlock = some x → bM + 3 ≤ x := fun x hx => (h.own.lt x hx).1
  have own1 : ∀ {wa wb : World} {q : Nat}, wa.ownsRow (bM + 3) 77 2 (.slice Ak KL.length ck) KL.length (KL.flatMap encK) → wa.grownBy wb (some q) → q < bM + 3 → wb.ownsRow (bM + 3) 77 2 (.slice Ak KL.length ck) KL.length (KL.flatMap encK) := fun {wa wb q} ho hg hq => ho.kept hg (.inr fun e => by have := hkb q e; omega)
  have o1 := own1 h.own g1 (by omega)
  have o2 : w2.ownsRow (bM + 3) 77 2 (.slice Ak KL.length ck) KL.length (KL.flatMap encK) := o1.kept g2 (by
    cases hv : (Value.slice Ak KL.length ck).ownBlock with
    | none => exact .inl rfl
    | some x =>
      right
      intro e
      exact (h.gvne k e.symm).2.2.2.1 hv)
  have o3 := own1 o2 g3 (by omega)
  have c1 := g1.cell h.cell (show some (bM + 2) ≠ some bM by simp)
  have c2 := g2.cell c1 (show some (bM + 2) ≠ _ from fun e => by have := (h.gvne k e.symm).1; omega)
  have c3 := g3.cell c2 (show some (bM + 2) ≠ some bM by simp)
  refine ⟨hgs, c3, o3, h.gap, fun x hx k' hk' => ?_⟩
  rw [hv]
  by_cases e : k' = k
  · subst e
    rw [if_pos rfl]
    intro e
    have e2 : g = x := by simpa [Value.ownBlock] using e
    subst e2
    rcases hloc with hl | hl
    · exact (h.gvne k' hl).2.2.2.1 hx
    · have := (h.own.lt g hx).2; omega
  · rw [if_neg e]
    unfold addK at hk'
    split at hk'
    · exact h.ap x hx k' hk'
    · rcases List.mem_append.1 hk' with h1 | h1
      · exact h.ap x hx k' h1
      · rw [List.mem_singleton] at h1; exact absurd h1 e
/-- What a round may change, for the iterator and for the records. -/
theorem KpT.step {n0 n1 : Nat} {A B : World} {row : Option Nat} (hn : n1 ≤ A.heap.size) (hg : A.grownBy B row) (hr : ∀ q, row = some q → q < n0 ∨ n1 ≤ q) : KpT n0 n1 A B :=
  ⟨hg.size, fun b h1 h2 => hg.block b (by omega) (fun e => by have := hr b e.symm; omega)⟩
theorem KeepsFrom.step {n : Nat} {A B : World} {row : Option Nat} (hg : A.grownBy B row) (hr : ∀ q, row = some q → q < n ∨ ∃ o, A.heap[q]? = some o ∧ o.isCells = true) : KeepsFrom n A B :=
  ⟨hg.size, fun k o hk ho hc => (hg.block k (Array.getElem?_eq_some_iff.1 ho).1 (fun e => by
    rcases hr k e.symm with h1 | ⟨o', h1, h2⟩
    · omega
    · rw [ho] at h1
      injection h1 with h1
      subst h1
      rw [hc] at h2; cases h2)).trans ho⟩
theorem row_cells {w : World} {B : Nat} {t : TypeId} {s m : Nat} {v : Value} {xs : List Value} (ho : w.ownsRow B t s v m xs) {q : Nat} (hq : v.ownBlock = some q) : ∃ o, w.heap[q]? = some o ∧ o.isCells = true := by
  rcases ho.2 with ⟨rfl, _⟩ | ⟨g, cap, cur, rfl, _, hh, _⟩
  · cases hq
  · have : g = q := by simpa [Value.ownBlock] using hq
    subst this
    exact ⟨_, hh, rfl⟩
theorem grownBy_put (w : World) (l : Nat) (o : Obj) : w.grownBy (w.putObj l o) (some l) := ⟨rfl, rfl, rfl, by simp, fun k _ hk => World.putObj_heap_other (fun e => hk (by rw [e]))⟩
/-- Between the bricks of rectangle m: pre are done. -/
structure TI (w : World) (W H S : Int) (bM n0 n1 : Nat) (l : List R4) (m : Nat) (t : R4) (ms : List Nat) (pre : List Ky) (wi : World) : Prop where
  tb : TB w W H S bM wi
  tk : ∃ vals Ak ck, TK bM n0 n1 (onceK (doneK W H S l m pre)) (onceK (doneK W H S l m pre)) (partK W H S l m t pre) vals Ak ck wi
  mks : Mks (bM + 3) ms wi
  ln : (onceK (doneK W H S l m pre)).length ≤ 400
  top : n1 ≤ wi.heap.size
  lt : ∀ D ∈ ms, D < n0
  bl : bM + 3 ≤ n0
  nn : n0 ≤ n1
theorem TI.below {w : World} {W H S : Int} {bM n0 n1 : Nat} {l : List R4} {m : Nat} {t : R4} {ms : List Nat} {pre : List Ky} {wi wj : World} (h : TI w W H S bM n0 n1 l m t ms pre wi) (hb : Below wi.heap.size wi wj) : TI w W H S bM n0 n1 l m t ms pre wj := by
  obtain ⟨vals, Ak, ck, hk⟩ := h.tk
  exact ⟨h.tb.below hb, ⟨vals, Ak, ck, hk.below hb⟩, h.mks.below hb, h.ln, Nat.le_trans h.top hb.size, h.lt, h.bl, h.nn⟩
theorem TI.grown {w : World} {W H S : Int} {bM n0 n1 : Nat} {l : List R4} {m : Nat} {t : R4} {ms : List Nat} {pre : List Ky} {wi wj : World} (h : TI w W H S bM n0 n1 l m t ms pre wi) {q : Nat} {o : Obj} (hg : wi.grownBy wj (some q)) (hq : n1 ≤ q) (hl : wi.heap[q]? = some o) (ho : o.isCells = false) : TI w W H S bM n0 n1 l m t ms pre wj := by
  obtain ⟨vals, Ak, ck, hk⟩ := h.tk
  have h1 := h.bl
  have h2 := h.nn
  refine ⟨h.tb.step hg (fun x hx => by injection hx; omega), ⟨vals, Ak, ck, hk.other hg hl ho (by omega)⟩, ?_, h.ln, Nat.le_trans h.top hg.size, h.lt, h.bl, h.nn⟩
  refine ⟨h.mks.1, fun D hD => ⟨(h.mks.2 D hD).1, (hg.block D (h.mks.lt D hD) (fun e => ?_)).trans (h.mks.2 D hD).2⟩⟩
  injection e with e
  have := h.lt D hD
  omega
theorem TI.putObj {w : World} {W H S : Int} {bM n0 n1 : Nat} {l : List R4} {m : Nat} {t : R4} {ms : List Nat} {pre : List Ky} {wi : World} (h : TI w W H S bM n0 n1 l m t ms pre wi) {q : Nat} {o o' : Obj} (hq : n1 ≤ q) (hl : wi.heap[q]? = some o) (ho : o.isCells = false) : TI w W H S bM n0 n1 l m t ms pre (wi.putObj q o') :=
  h.grown (grownBy_put wi q o') hq hl ho
/-- Behind the error 'too many'. -/
structure TX (w : World) (W H S : Int) (bM n0 n1 : Nat) (l : List R4) (m : Nat) (ms : List Nat) (pre : List Ky) (wi : World) : Prop where
  low : Below w.heap.size w wi
  hb : w.heap.size + 3 ≤ bM
  c4 : wi.cell? ⟨w.heap.size + 1, 0, none⟩ = some (.slice none 0 0)
  c5 : wi.cell? ⟨w.heap.size + 2, 0, none⟩ = some (.int .i64 4)
  mks : Mks (bM + 3) ms wi
  lt : ∀ D ∈ ms, D < n0
  bl : bM + 3 ≤ n0
  nn : n0 ≤ n1
  many : 400 < (keysT W H S l).length
theorem TX.putObj {w : World} {W H S : Int} {bM n0 n1 : Nat} {l : List R4} {m : Nat} {ms : List Nat} {pre : List Ky} {wi : World} (h : TX w W H S bM n0 n1 l m ms pre wi) {q : Nat} {o o' : Obj} (hq : n1 ≤ q) (hl : wi.heap[q]? = some o) (ho : o.isCells = false) : TX w W H S bM n0 n1 l m ms pre (wi.putObj q o') := by
  have h1 := h.bl
  have h2 := h.nn
  have h3 := h.hb
  have hg := grownBy_put wi q o'
  refine ⟨h.low.grown hg h.low.size (fun x hx => by injection hx; omega), h.hb, (World.cell?_of_block (World.putObj_heap_other (by show w.heap.size + 1 ≠ q; omega))).trans h.c4, (World.cell?_of_block (World.putObj_heap_other (by show w.heap.size + 2 ≠ q; omega))).trans h.c5, h.mks.putObj (fun D hD => by have := h.lt D hD; omega) _, h.lt, h.bl, h.nn, h.many⟩
theorem TK.free {bM n0 n1 : Nat} {KL K : List Ky} {p : Ky → List R4} {vals : Ky → Value} {Ak : Option Addr} {ck : Nat} {wi : World} (h : TK bM n0 n1 KL K p vals Ak ck wi) : TK bM 0 0 KL K p vals Ak ck wi :=
  ⟨⟨h.gs.map, fun k hk => by
    obtain ⟨g, c, e, _, hr⟩ := h.gs.vs k hk
    exact ⟨g, c, e, .inr (Nat.zero_le _), hr⟩, h.gs.apart, h.gs.rng, h.gs.nd⟩, h.cell, h.own, fun g _ => .inr (Nat.zero_le _), h.ap⟩
theorem TK.keys {bM n0 n1 : Nat} {KL KL' K : List Ky} {p : Ky → List R4} {vals : Ky → Value} {Ak : Option Addr} {ck : Nat} {wi : World} (h : TK bM n0 n1 KL K p vals Ak ck wi) (e : KL = KL') : TK bM n0 n1 KL' K p vals Ak ck wi := by
  subst e
  exact h
theorem Mks.cells {n : Nat} {ms : List Nat} {w w' : World} (h : Mks n ms w) {row : Option Nat} (hg : w.grownBy w' row) (hr : ∀ q, row = some q → q < n ∨ ∃ o, w.heap[q]? = some o ∧ o.isCells = true) : Mks n ms w' :=
  h.step hg fun q hq => by
    rcases hr q hq with h1 | ⟨o, h1, h2⟩
    · exact .inl h1
    · exact .inr ⟨o, h1, fun x e => by subst e; cases h2⟩
/-- A store into the groups: all that a round keeps. -/
theorem TI.store {w : World} {W H S : Int} {bM n0 n1 : Nat} {K KL : List Ky} {p p' : Ky → List R4} {vals vals' : Ky → Value} {Ak : Option Addr} {ck : Nat} {ms : List Nat} {A5 wA wE w9 w3 : World} {k : Ky} {g c n : Nat} (hTB : TB w W H S bM A5) (hTK : TK bM n0 n1 KL K p vals Ak ck A5) (hM : Mks (bM + 3) ms A5) (hbl : bM + 3 ≤ n0) (hnn : n0 ≤ n1) (htop : n1 ≤ A5.heap.size)
    (gA : Below A5.heap.size A5 wA) (gE : wA.grownBy wE (some bM)) (sE : wE.heap.size = wA.heap.size) (g9 : wE.grownBy w9 (gv K vals k).ownBlock) (g3 : w9.grownBy w3 (some bM)) (hloc : (gv K vals k).ownBlock = some g ∨ wE.heap.size ≤ g)
    (hv : ∀ k', vals' k' = if k' = k then .slice (some ⟨g, 0, none⟩) n c else vals k') (hgs : Gs (bM + 3) bM n0 n1 (addK K k) p' vals' w3) :
    TB w W H S bM w3 ∧ TK bM n0 n1 KL (addK K k) p' vals' Ak ck w3 ∧ Mks (bM + 3) ms w3 ∧ KpT n0 n1 A5 w3 ∧ KeepsFrom n1 A5 w3 ∧ n1 ≤ w3.heap.size := by
  have kA := hTK.below gA
  have hszA := gA.size
  have hrow : ∀ q, (gv K vals k).ownBlock = some q → bM + 3 ≤ q ∧ q < wE.heap.size ∧ (q < n0 ∨ n1 ≤ q) ∧ ∃ o, wE.heap[q]? = some o ∧ o.isCells = true := fun q hq => by
    obtain ⟨h1, h2, h3, _, o, h5, h6⟩ := kA.gvne k hq
    exact ⟨h1, by omega, h3, o, (gE.block q h2 (fun e => by injection e; omega)).trans h5, h6⟩
  have bMrow : ∀ q, (some bM : Option Nat) = some q → q = bM ∨ bM + 3 ≤ q := fun q hq => by injection hq; omega
  have s9 := g9.size
  have s3 := g3.size
  refine ⟨(((hTB.below gA).step gE bMrow).step g9 (fun q hq => .inr (hrow q hq).1)).step g3 bMrow, kA.stored gE g9 g3 sE hloc hv hgs, ?_, ?_, ?_, by omega⟩
  · exact (((hM.below gA).cells gE (fun q hq => .inl (by injection hq; omega))).cells g9 (fun q hq => .inr (hrow q hq).2.2.2)).cells g3 (fun q hq => .inl (by injection hq; omega))
  · exact (((KpT.below htop gA).trans (KpT.step (by omega) gE (fun q hq => by injection hq; omega))).trans (KpT.step (by omega) g9 (fun q hq => (hrow q hq).2.2.1))).trans (KpT.step (by omega) g3 (fun q hq => by injection hq; omega))
  · exact (((KeepsFrom.of_below' gA).trans (KeepsFrom.step gE (fun q hq => .inl (by injection hq; omega)))).trans (KeepsFrom.step g9 (fun q hq => .inr (hrow q hq).2.2.2))).trans (KeepsFrom.step g3 (fun q hq => .inl (by injection hq; omega)))
/-- Ahead of rectangle m. -/
structure TO (w : World) (W H S : Int) (bM : Nat) (l : List R4) (m : Nat) (ms : List Nat) (wi : World) : Prop where
  tb : TB w W H S bM wi
  tk : ∃ vals Ak ck, TK bM 0 0 (onceK (doneK W H S l m [])) (onceK (doneK W H S l m [])) (prt W H S (l.take m)) vals Ak ck wi
  mks : Mks (bM + 3) ms wi
  ln : (onceK (doneK W H S l m [])).length ≤ 400
theorem TO.begin {w : World} {W H S : Int} {bM : Nat} {l : List R4} {m : Nat} {ms : List Nat} {wr wb : World} (h : TO w W H S bM l m ms wr) (t : R4) (hb : Below wr.heap.size wr wb) (hs : wb.heap.size = wr.heap.size + 3) : TI w W H S bM wr.heap.size (wr.heap.size + 3) l m t ms [] wb := by
  obtain ⟨vals, Ak, ck, hk⟩ := h.tk
  have h1 := h.tb.top
  exact ⟨h.tb.below hb, ⟨vals, Ak, ck, ((hk.regap (m1 := wr.heap.size + 3) (Nat.le_refl _)).same (fun k => by simp [partK])).below hb⟩, h.mks.below hb, h.ln, by omega, h.mks.lt, by omega, by omega⟩
theorem TI.fin {w : World} {W H S : Int} {bM n0 n1 : Nat} {l : List R4} {m : Nat} {t : R4} {ms : List Nat} {wi : World} (h : TI w W H S bM n0 n1 l m t ms (keysR W H S t) wi) (ht : l[m]? = some t) {D : Nat} (hD : n1 ≤ D) (hd : wi.heap[D]? = some (.deferred (some []))) : TO w W H S bM l (m + 1) (D :: ms) wi := by
  obtain ⟨vals, Ak, ck, hk⟩ := h.tk
  have e := doneK_next W H S ht
  rw [e] at hk
  have h1 := h.bl
  have h2 := h.nn
  refine ⟨h.tb, ⟨vals, Ak, ck, hk.free.same (fun k => by rw [partK_next W H S ht k t]; simp [partK])⟩, ⟨List.nodup_cons.2 ⟨fun hm => by have := h.lt D hm; omega, h.mks.1⟩, fun D' hD' => ?_⟩, by rw [← e]; exact h.ln⟩
  rcases List.mem_cons.1 hD' with rfl | hD'
  · exact ⟨by omega, hd⟩
  · exact h.mks.2 D' hD'
theorem Pcs.push {w wr w2 : World} {vo v2 v : Value} {R : List (Ky × List R4)} {k : Ky} {r : List R4} {L : List (Ky × Value)} (low : Below w.heap.size w wr) (hL : L.length = R.length) (h1 : wr.ownsRow w.heap.size 48 3 vo R.length (L.flatMap encP))
    (h2 : ∀ (i : Nat) (k : Ky) (r : List R4), R[i]? = some (k, r) → ∃ u, L[i]? = some (k, u) ∧ wr.ownsRow w.heap.size 41 4 u r.length (r.flatMap encR)) (hv : wr.ownsRow w.heap.size 41 4 v r.length (r.flatMap encR))
    (hg : wr.grownBy w2 vo.ownBlock) (h3 : w2.ownsRow w.heap.size 48 3 v2 (R.length + 1) (L.flatMap encP ++ encP (k, v))) : Pcs w v2 (R ++ [(k, r)]) w2 := by
  refine ⟨low.grown hg low.size (fun q hq => (h1.lt q hq).1), L ++ [(k, v)], by simp [hL], by simpa using h3, fun i k' x hx => ?_⟩
  by_cases hi : i < R.length
  · rw [List.getElem?_append_left hi] at hx
    obtain ⟨u, h4, h5⟩ := h2 i k' x hx
    exact ⟨u, by rw [List.getElem?_append_left (by omega)]; exact h4, h5.kept hg (own_apart h5 h1 (by decide))⟩
  · rw [List.getElem?_append_right (by omega)] at hx
    have hi0 : i - R.length = 0 := by
      have := (List.getElem?_eq_some_iff.1 hx).1
      simp at this
      omega
    rw [hi0] at hx
    simp at hx
    obtain ⟨rfl, rfl⟩ := hx
    refine ⟨v, by rw [List.getElem?_append_right (by omega), hL, hi0]; rfl, hv.kept hg (own_apart hv h1 (by decide))⟩
theorem one3 (a b : Int) (A : Option Addr) (n c : Nat) : ∀ v ∈ ([.int .i64 a, .int .i64 b, .slice A n c] : List Value), v.oneCell' = true := by
  intro v hv
  simp only [List.mem_cons, List.not_mem_nil, or_false] at hv
  rcases hv with rfl | rfl | rfl <;> rfl
theorem Pcs.below {w wr w2 : World} {vo : Value} {R : List (Ky × List R4)} (h : Pcs w vo R wr) (hb : Below wr.heap.size wr w2) : Pcs w vo R w2 := by
  obtain ⟨L, h0, h1, h2⟩ := h.o
  refine ⟨h.low.trans (hb.mono h.low.size), L, h0, own_below h1 hb, fun i k r hr => ?_⟩
  obtain ⟨v, h3, h4⟩ := h2 i k r hr
  exact ⟨v, h3, own_below h4 hb⟩
theorem srtK_once (l : List Ky) : srtK (onceK l) = srtK l := ksort_ext (srtK_ok _).1 (srtK_ok _).1 fun k => by rw [(srtK_ok _).2, (srtK_ok _).2, (onceK_ok _).2]
/-- A bound on keys. -/
theorem kbd {W H S : Int} (hp : okPat W H S) {t : R4} (hv : valid4 t) {k : Ky} (hk : k ∈ keysR W H S t) : (-1000000 ≤ k.1 ∧ k.1 ≤ 1000000) ∧ -1000000 ≤ k.2 ∧ k.2 ≤ 1000000 := by
  obtain ⟨x, y, h1, h2⟩ := meet_wf.1 ((mem_keysR hp ⟨hv.1, hv.2.1⟩ k).1 hk)
  have e := (rin_brR hp k x y).1 h1
  obtain ⟨a1, a2, a3, a4⟩ := h2
  obtain ⟨_, _, b1, b2, b3, b4⟩ := hv
  unfold fineP at b1 b2 b3 b4
  have hs := Int.emod_lt_of_pos (rowI H y * S) (show 0 < W by have := hp.1; omega)
  have hs0 := Int.emod_nonneg (rowI H y * S) (show W ≠ 0 by have := hp.1; omega)
  have hW := hp.1
  rw [← e]
  unfold keyP
  simp only
  refine ⟨ediv_bd y H 1000000 hp.2.2.1 (by omega) (by omega) (by omega), ?_⟩
  unfold colI shiftI
  generalize rowI H y * S % W = s at *
  constructor
  · rw [Int.le_ediv_iff_mul_le (by omega)]
    omega
  · apply Int.le_of_lt_add_one
    rw [Int.ediv_lt_iff_lt_mul (by omega)]
    omega
end Go.Proofs.YtjlfdgoijalfaaaGreat

/- gambrelref12.Near: at most twelve rectangles near the origin, or a list that is too long. -/
namespace Go.Proofs.YtjlfdgoijalfaaaGreat
open Go.RowKit
set_option linter.unusedVariables false
set_option linter.unusedSimpArgs false

theorem run_max2 {P : Program} (w : World) (ts : Array TypeId) (t : TypeId) (a b : Int) : (Builtin.max_ ts t #[.int .i64 a, .int .i64 b]).run P w = .ok (.int .i64 (max a b)) w := by
  have k2 : ∀ (x y : Int) (v : World), Sem.run P (Builtin.max2 (.int .i64 x) (.int .i64 y)) v = .ok (.int .i64 (max x y)) v := fun x y v => by
    have k : (if y > x then y else x) = max x y := by
      by_cases h : y > x
      · rw [if_pos h]; omega
      · rw [if_neg h]; omega
    simp [Builtin.max2, k]
  simp only [Builtin.max_]
  simp [k2]
theorem run_min2 {P : Program} (w : World) (ts : Array TypeId) (t : TypeId) (a b : Int) : (Builtin.min_ ts t #[.int .i64 a, .int .i64 b]).run P w = .ok (.int .i64 (min a b)) w := by
  have k2 : ∀ (x y : Int) (v : World), Sem.run P (Builtin.min2 (.int .i64 x) (.int .i64 y)) v = .ok (.int .i64 (min x y)) v := fun x y v => by
    have k : (if y < x then y else x) = min x y := by
      by_cases h : y < x
      · rw [if_pos h]; omega
      · rw [if_neg h]; omega
    simp [Builtin.min2, k]
  simp only [Builtin.min_]
  simp [k2]
theorem run_max4 {P : Program} (w : World) (ts : Array TypeId) (t : TypeId) (a b c d : Int) : (Builtin.max_ ts t #[.int .i64 a, .int .i64 b, .int .i64 c, .int .i64 d]).run P w = .ok (.int .i64 (max (max (max a b) c) d)) w := by
  have k : ∀ x y : Int, (if y > x then y else x) = max x y := fun x y => by
    by_cases h : y > x
    · rw [if_pos h]; omega
    · rw [if_neg h]; omega
  have k2 : ∀ (x y : Int) (v : World), Sem.run P (Builtin.max2 (.int .i64 x) (.int .i64 y)) v = .ok (.int .i64 (max x y)) v := fun x y v => by simp [Builtin.max2, k]
  simp only [Builtin.max_]
  simp [k2, Int.max_assoc]
theorem run_min4 {P : Program} (w : World) (ts : Array TypeId) (t : TypeId) (a b c d : Int) : (Builtin.min_ ts t #[.int .i64 a, .int .i64 b, .int .i64 c, .int .i64 d]).run P w = .ok (.int .i64 (min (min (min a b) c) d)) w := by
  have k : ∀ x y : Int, (if y < x then y else x) = min x y := fun x y => by
    by_cases h : y < x
    · rw [if_pos h]; omega
    · rw [if_neg h]; omega
  have k2 : ∀ (x y : Int) (v : World), Sem.run P (Builtin.min2 (.int .i64 x) (.int .i64 y)) v = .ok (.int .i64 (min x y)) v := fun x y v => by simp [Builtin.min2, k]
  simp only [Builtin.min_]
  simp [k2, Int.min_assoc]
def near4 (n : Int) (r : R4) : Prop := (-n ≤ r.x0 ∧ r.x0 ≤ n) ∧ (-n ≤ r.y0 ∧ r.y0 ≤ n) ∧ (-n ≤ r.x1 ∧ r.x1 ≤ n) ∧ (-n ≤ r.y1 ∧ r.y1 ≤ n)
def NearOK (n : Int) (l : List R4) : Prop := (400 < l.length ∧ l.length ≤ 420) ∨ (l.length ≤ 12 ∧ ∀ r ∈ l, near4 n r)
end Go.Proofs.YtjlfdgoijalfaaaGreat

/- texture.Tile. -/
namespace Go.Proofs.YtjlfdgoijalfaaaGreat
open Go.RowKit
set_option linter.unusedVariables false
set_option linter.unusedSimpArgs false
attribute [local go_sem] Oper.semAt_some

/-- A frame's slots. -/
def frm (t : Array Value) (i : Nat) : Value := t.getD i undef
set_option maxRecDepth 100000 in
set_option maxHeartbeats 4000000 in
theorem tile_any {w : World} {v : Value} {l : List R4} (hr : RdK encR 4 w w.heap.size v l) (hl : l.length ≤ 100000000) (W H S : Int) :
    Calls Tryz.prog 12 #[v, .agg #[.int .i64 W, .int .i64 H, .int .i64 S]] w fun e w' => PcsRet w.heap.size (tileF W H S l) e w' ∧ Below w.heap.size w w' := by
  obtain ⟨A0, c0, hv, hc⟩ := id hr
  subst hv
  have HR := hide hr
  have HRC := hide hc
  clear hr hc
  have HCK := hide (fun (wi : World) (hb : Below w.heap.size w wi) => check_any (w := wi) ((HR.out.below hb).mono hb.size) hl)
  refine (callsIn_wide (n := 0)).1 ?_
  refine callsIn_of_wp_marks Tryz.func12 rfl trivial ?_
  simp only [Tryz.ntmps12, List.size_toArray, List.length_cons, List.length_nil, Nat.reduceAdd, Nat.reduceSub, Array.replicate_succ, Array.replicate_zero, List.push_toArray, List.append_toArray, List.nil_append, List.cons_append]
  refine wpIn_wide.2 ?_
  have hT0 := hide (T0.start w W H S)
  by_cases h0 : checkF l = 0
  · rw [h0] at HCK
    by_cases hp : okPat W H S
    · have hpc := fun wi => pat_any W H S wi
      rw [chk_ok hp] at hpc
      have HPC := hide hpc
      clear hpc
      have hF : Hid (tileF W H S l = if 400 < (keysT W H S l).length then ([], 4) else ((keysT W H S l).map fun k => (k, pieceR W H S l k), 0)) := hide (by unfold tileF; rw [if_pos h0, if_pos hp])
      have hmm := @run_makeMap Tryz.prog
      go_wp2_with (first
        | (go_at_call 28; refine (HCK.out _ hT0.out.low).mono ?_; rintro e w1 ⟨rfl, hb1⟩; have HT1 := hide (hT0.out.below hb1); have p0 := HT1.out.p0; have p1 := HT1.out.p1; have p2 := HT1.out.p2; clear hb1)
        | (go_at_call 29; refine (HPC.out _).mono ?_; rintro e w2 ⟨rfl, hb2⟩; have HT2 := hide (HT1.out.below hb2); clear hb2 p0 p1 p2))
      have HTB := hide HT2.out.map
      have HTK := hide (TK.start w2 0 0 (fun _ => []) (fun _ => .slice none 0 0) 72 73)
      obtain ⟨bM, hbM⟩ : ∃ bM, bM = w2.heap.size := ⟨_, rfl⟩
      rw [← hbM] at HTB HTK ⊢
      refine wp_name fun w3 hw3 => ?_
      rw [← hw3] at HTB HTK
      have HTO : Hid (TO w W H S bM l 0 [] w3) := hide ⟨HTB.out, ⟨_, _, _, HTK.out.same (fun k => by simp [prt])⟩, ⟨by simp, fun D hD => (List.not_mem_nil hD).elim⟩, by simp [doneK, allK, onceK]⟩
      have HV : Hid (∀ r ∈ l, valid4 r) := hide (checkF_ok h0).2.1
      have hn4 : l.length ≤ 400 := (checkF_ok h0).1
      have HC0 := hide h0
      clear hw3 hbM HTB HTK HT1 HT2 hT0 HCK HPC hmm h0
      refine (wpIn_wide (n := 0)).1 ?_
      refine wpIn_loop (fun a w' => ∃ (m : Nat) (ms : List Nat), a = { tmps := #[.slice A0 l.length c0, frm a.tmps 1, frm a.tmps 2, .pointer (some ⟨w.heap.size, 0, none⟩), .pointer (some ⟨w.heap.size + 1, 0, none⟩), .pointer (some ⟨w.heap.size + 2, 0, none⟩), frm a.tmps 6, frm a.tmps 7, .pointer (some ⟨bM + 1, 0, none⟩), .pointer (some ⟨bM + 2, 0, none⟩), frm a.tmps 10, frm a.tmps 11, frm a.tmps 12, frm a.tmps 13, frm a.tmps 14, frm a.tmps 15, frm a.tmps 16, frm a.tmps 17, frm a.tmps 18, frm a.tmps 19, frm a.tmps 20, frm a.tmps 21, frm a.tmps 22, frm a.tmps 23, frm a.tmps 24, frm a.tmps 25, frm a.tmps 26, frm a.tmps 27, frm a.tmps 28, frm a.tmps 29, frm a.tmps 30, frm a.tmps 31, .slice A0 l.length c0, .int .i64 (l.length : Int), .int .i64 (m : Int), frm a.tmps 35, frm a.tmps 36, frm a.tmps 37, frm a.tmps 38, frm a.tmps 39, frm a.tmps 40, frm a.tmps 41, frm a.tmps 42, frm a.tmps 43, frm a.tmps 44, frm a.tmps 45, frm a.tmps 46, frm a.tmps 47, frm a.tmps 48, frm a.tmps 49, frm a.tmps 50, frm a.tmps 51, frm a.tmps 52, frm a.tmps 53, frm a.tmps 54, frm a.tmps 55, frm a.tmps 56, frm a.tmps 57, frm a.tmps 58, frm a.tmps 59, frm a.tmps 60, frm a.tmps 61, frm a.tmps 62, frm a.tmps 63, frm a.tmps 64, frm a.tmps 65, frm a.tmps 66, frm a.tmps 67, frm a.tmps 68, frm a.tmps 69, frm a.tmps 70, frm a.tmps 71, frm a.tmps 72, frm a.tmps 73, frm a.tmps 74, frm a.tmps 75, frm a.tmps 76, frm a.tmps 77, frm a.tmps 78, frm a.tmps 79, frm a.tmps 80, frm a.tmps 81, frm a.tmps 82, frm a.tmps 83, frm a.tmps 84, frm a.tmps 85, frm a.tmps 86, frm a.tmps 87, frm a.tmps 88, frm a.tmps 89, frm a.tmps 90, frm a.tmps 91, frm a.tmps 92, frm a.tmps 93, frm a.tmps 94, frm a.tmps 95, frm a.tmps 96, frm a.tmps 97, frm a.tmps 98, frm a.tmps 99, frm a.tmps 100, frm a.tmps 101, frm a.tmps 102, frm a.tmps 103, frm a.tmps 104, frm a.tmps 105, frm a.tmps 106, frm a.tmps 107, frm a.tmps 108, frm a.tmps 109, frm a.tmps 110, frm a.tmps 111, frm a.tmps 112, frm a.tmps 113, frm a.tmps 114, frm a.tmps 115, frm a.tmps 116, frm a.tmps 117], defers := ms.map mark } ∧ m ≤ l.length ∧ Hid (TO w W H S bM l m ms w')) (fun a _ => l.length - (intOf (a.tmps.getD 34 undef)).toNat) ?_ ?_
      · exact ⟨0, [], rfl, Nat.zero_le _, HTO⟩
      rintro a wr ⟨m, ms, ha, hm, HTO2⟩
      generalize frm a.tmps = f at ha
      subst ha
      clear HTO
      by_cases hlt : m < l.length
      · have mz : (m : Int) < (l.length : Int) := by omega
        obtain ⟨⟨q0, q1, q2, q3⟩, hp4⟩ : ∃ p, l[m]? = some p := ⟨_, List.getElem?_eq_getElem hlt⟩
        obtain ⟨b, o, rfl, hbl, k⟩ := HRC.out (by intro e; rw [e] at hlt; simp at hlt)
        have HTB := hide HTO2.out.tb
        have hlow := HTB.out.low
        obtain ⟨d0, d1, d2, d3⟩ := rects4_at k (fun q => hlow.cell (p := ⟨b, q, none⟩) hbl) hp4
        have p0 := HTB.out.p0
        have p1 := HTB.out.p1
        have p2 := HTB.out.p2
        have htop := HTB.out.top
        have hbb := HTB.out.hb
        have hbw : b < wr.heap.size := by have := hlow.size; omega
        have hww : w.heap.size < wr.heap.size := by omega
        have HP4 := hide hp4
        clear k hlow hp4
        gi_wp2_with (first
          | (refine ⟨trivial, rfl, ?_⟩)
          | (gi_at_call 30; refine (callsIn_wide.2 (bricks_any W H S q0 q1 q2 q3 _)).mono ?_; rintro e wb ⟨rfl, hb1, hs1, hR1, hP1⟩))
        have hbx : Below wr.heap.size wr wb := ((Below.refl _ _).alloc (Nat.le_refl _) _).trans (hb1.mono (by simp))
        have hsx : wb.heap.size = wr.heap.size + 3 := by rw [hs1]; simp
        simp only [World.size_alloc] at hR1 hP1
        obtain ⟨rr0, rr1, rr2, rr3⟩ := hR1
        obtain ⟨pp0, pp1, pp2⟩ := hP1
        have hvq := HV.out _ (List.mem_of_getElem? HP4.out)
        have hit := bricksIt W H S q0 q1 q2 q3 (wr.heap.size + 1 + 1) (wr.heap.size + 1) wr.heap.size (wr.heap.size + 3) wb hp hvq (by omega) (by omega) (by omega) (by omega) (by omega) rr0 rr1 rr2 rr3 pp0 pp1 pp2
        have t0 : wb.cell? ⟨wr.heap.size, 0, none⟩ = some (.int .i64 q0) := (hb1.cell (p := ⟨wr.heap.size, 0, none⟩) (by simp)).trans (by simp [go_sem])
        have t1 : wb.cell? ⟨wr.heap.size, 1, none⟩ = some (.int .i64 q1) := (hb1.cell (p := ⟨wr.heap.size, 1, none⟩) (by simp)).trans (by simp [go_sem])
        have t2 : wb.cell? ⟨wr.heap.size, 2, none⟩ = some (.int .i64 q2) := (hb1.cell (p := ⟨wr.heap.size, 2, none⟩) (by simp)).trans (by simp [go_sem])
        have t3 : wb.cell? ⟨wr.heap.size, 3, none⟩ = some (.int .i64 q3) := (hb1.cell (p := ⟨wr.heap.size, 3, none⟩) (by simp)).trans (by simp [go_sem])
        have HTI := hide (HTO2.out.begin ⟨q0, q1, q2, q3⟩ hbx hsx)
        have HVQ := hide hvq
        have HT0 := hide t0
        have HT1 := hide t1
        have HT2 := hide t2
        have HT3 := hide t3
        clear hb1 hs1 rr0 rr1 rr2 rr3 pp0 pp1 pp2 hvq d0 d1 d2 d3 p0 p1 p2 t0 t1 t2 t3 hbx HTB
        refine wp_range rfl (enters_of Tryz.func52 (by kernel_rfl) rfl) hit (Below.refl _ _) (fun x args A hx => by rw [show args = _ from hx]; rfl) KpT.trans ?_
          (fun pre A => TI w W H S bM wr.heap.size (wr.heap.size + 3) l m ⟨q0, q1, q2, q3⟩ ms pre A ∧ KpT wr.heap.size (wr.heap.size + 3) wb A) (TX w W H S bM wr.heap.size (wr.heap.size + 3) l m ms)
          (fun pre A B h hb => ⟨h.1.below hb, h.2.trans (KpT.below h.1.top hb)⟩) (fun pre A l' o o' h hw hl ho ho' => ⟨h.1.putObj (by omega) hl ho, h.2.trans ⟨by simp, fun b h1 h2 => World.putObj_heap_other (by omega)⟩⟩)
          (fun pre A l' o o' h hw hl ho ho' => h.putObj (by omega) hl ho) ⟨HTI.out, Nat.le_refl _, fun _ _ _ => rfl⟩ ?_ ?_ ?_
        · intro A l' o o' hw h1 h2 h3
          exact ⟨by simp, fun b hb1 hb2 => World.putObj_heap_other (by omega)⟩
        · rintro l2 pre ⟨row, col⟩ args A ⟨hTI, hKA⟩ ⟨post, hpost⟩ hok hl1 ⟨ol, hl2, hl3⟩
          obtain rfl : args = #[.int .i64 col, .int .i64 row] := hok
          have hmem : (row, col) ∈ keysR W H S ⟨q0, q1, q2, q3⟩ := by rw [hpost]; simp
          obtain ⟨⟨k1, k2⟩, k3, k4⟩ := kbd hp HVQ.out hmem
          have HNK : Hid ((row, col) ∉ pre) := hide (fun h => by
            have hs := keysR_nodup W H S ⟨q0, q1, q2, q3⟩
            rw [hpost] at hs
            exact klt_irr _ ((List.pairwise_append.1 hs).2.2 _ h _ (by simp)))
          have HPO := hide hpost
          have hbr := fun wi => brick_any W H S col row wi hp k3 k4 k1 k2
          have HTA := hide hTI
          have HKA := hide hKA
          have HL2 := hide hl2
          clear hit hTI hKA hpost hmem hl2
          simp only at k1 k2 k3 k4
          gi_wp2
          refine ⟨KeepsFrom.of_below' (Below.refl _ _), KpT.below HTA.out.top (Below.refl _ _), ?_⟩
          intro A2 g2 s2 e2 f2
          have HT2' := hide (HTA.out.grown g2 (by omega) HL2.out hl3)
          have HK2 : Hid (KpT wr.heap.size (wr.heap.size + 3) wb A2) := hide (HKA.out.trans (KpT.step HTA.out.top g2 (fun q hq => by injection hq; omega)))
          have hA2 := HT2'.out.top
          have p0 := HT2'.out.tb.p0
          have p1 := HT2'.out.tb.p1
          have p2 := HT2'.out.tb.p2
          clear g2 s2 e2 f2 HTA HKA HL2
          gi_upto_region 17 with (first
            | (refine ⟨trivial, rfl, ?_⟩)
            | (gi_at_call 31; refine (CallsIn.inRound l2 (callsIn_wide.2 (hbr _))).mono ?_; rintro e' A3 ⟨rfl, hb3⟩))
          refine wpIn_name fun A5 hA5 => ?_
          have hs3 := hb3.size
          have hb5 : Below A2.heap.size A2 A5 := by rw [hA5]; exact ((hb3.alloc hb3.size _).alloc (by simp; omega) _)
          have hs5 : A5.heap.size = A3.heap.size + 2 := by rw [hA5]; simp
          have y0 : A5.cell? ⟨A3.heap.size, 0, none⟩ = some (.int .i64 (brX W H S col row)) := by rw [hA5]; simp [go_sem]
          have y1 : A5.cell? ⟨A3.heap.size, 1, none⟩ = some (.int .i64 (row * H)) := by rw [hA5]; simp [go_sem]
          have y2 : A5.cell? ⟨A3.heap.size, 2, none⟩ = some (.int .i64 (brX W H S col row + W)) := by rw [hA5]; simp [go_sem]
          have y3 : A5.cell? ⟨A3.heap.size, 3, none⟩ = some (.int .i64 ((row + 1) * H)) := by rw [hA5]; simp [go_sem]
          have z0 : A5.cell? ⟨A3.heap.size + 1, 0, none⟩ = some (.int .i64 row) := by rw [hA5]; simp [go_sem]
          have z1 : A5.cell? ⟨A3.heap.size + 1, 1, none⟩ = some (.int .i64 col) := by rw [hA5]; simp [go_sem]
          have HT5 := hide (HT2'.out.below hb5)
          have HK5 := hide (HK2.out.trans (KpT.below hA2 hb5))
          have HKF : Hid (KeepsFrom (wr.heap.size + 3) A2 A5 ∧ KpT wr.heap.size (wr.heap.size + 3) A2 A5) := hide ⟨KeepsFrom.of_below' hb5, KpT.below hA2 hb5⟩
          obtain ⟨vals, Ak, ck, hTK2⟩ := HT2'.out.tk
          have hTK := hTK2.below hb5
          have HKLT : Hid (∀ q, (Value.slice Ak (onceK (doneK W H S l m pre)).length ck).ownBlock = some q → q < A3.heap.size) := hide (fun q hq => Nat.lt_of_lt_of_le (hTK2.own.lt q hq).2 hs3)
          clear hA5 hb5 hb3 p0 p1 p2 hbr HT2' HK2 hTK2
          have HPN : Hid (∀ k', partK W H S l m ⟨q0, q1, q2, q3⟩ (pre ++ [(row, col)]) k' = partK W H S l m ⟨q0, q1, q2, q3⟩ pre k' ++ if k' = (row, col) then [meet4 (brR W H S (row, col)) ⟨q0, q1, q2, q3⟩] else []) := hide (partK_push W H S l m _ HNK.out)
          have HKN : Hid (onceK (doneK W H S l m (pre ++ [(row, col)])) = addK (onceK (doneK W H S l m pre)) (row, col)) := hide (doneK_snoc W H S l m pre _)
          have HP0 : Hid ((row, col) ∉ onceK (doneK W H S l m pre) → partK W H S l m ⟨q0, q1, q2, q3⟩ pre (row, col) = []) := hide (fun h => by
            by_cases e : partK W H S l m ⟨q0, q1, q2, q3⟩ pre (row, col) = []
            · exact e
            · exact absurd (((onceK_ok _).2 _).2 (mem_doneK.2 e)) h)
          have hpl := partK_len W H S l m ⟨q0, q1, q2, q3⟩ pre (row, col)
          have hkl := HT5.out.ln
          have HMY := hide (doneK_prefix W H S HP4.out HPO.out)
          rw [HKN.out] at HMY
          have c8 := HT5.out.tb.c8
          have htb5 := HT5.out.tb.top
          have hbl5 := HT5.out.bl
          have hkk : kin (row, col) := ⟨by simp only; omega, by simp only; omega, by simp only; omega, by simp only; omega⟩
          generalize onceK (doneK W H S l m pre) = K at *
          generalize partK W H S l m ⟨q0, q1, q2, q3⟩ pre = p at *
          have HTK := hide hTK
          have HMK := hide HT5.out.mks
          have HTB5 := hide HT5.out.tb
          clear hTK
          have hbM5 : bM + 1 < A5.heap.size := by omega
          by_cases hk : (row, col) ∈ K
          · obtain ⟨g, c, hvl, hgap, hrow⟩ := HTK.out.gs.vs _ hk
            have hgv : gv K vals (row, col) = .slice (some ⟨g, 0, none⟩) (p (row, col)).length c := by simp [gv, hk, hvl]
            have HGV := hide hgv
            rw [hvl] at hrow
            have HROW := hide hrow
            have HKE : Hid (K = addK K (row, col)) := hide (if_pos hk).symm
            have HLN : Hid ((addK K (row, col)).length ≤ 400) := hide (by rw [← HKE.out]; exact hkl)
            clear hvl hrow hgv hgap
            refine wpIn_region_plain_round (by kernel_rfl) (fun _ _ h => h) ?_
            have hno := nil_no
            go_wp2_with (refine wpList_look_grp rfl _ _ rfl rfl HTK.out.gs (row, col) rfl hkk _ HGV.out ?_)
            have c9 := HTK.out.cell
            have hkz : ¬ (400 : Int) < (K.length : Int) := by omega
            clear hno
            gi_upto_region 21 with fail
            have hn5 : wr.heap.size + 3 ≤ A5.heap.size := HT5.out.top
            have hz5 : A3.heap.size + 1 < A5.heap.size := by omega
            have HKW := HK5
            clear hs5
            have t0 : A5.cell? ⟨wr.heap.size, 0, none⟩ = some (.int .i64 q0) := (World.cell?_of_block (HKW.out.2 wr.heap.size (Nat.le_refl _) (Nat.lt_add_of_pos_right (by decide)))).trans HT0.out
            have t1 : A5.cell? ⟨wr.heap.size, 1, none⟩ = some (.int .i64 q1) := (World.cell?_of_block (HKW.out.2 wr.heap.size (Nat.le_refl _) (Nat.lt_add_of_pos_right (by decide)))).trans HT1.out
            have t2 : A5.cell? ⟨wr.heap.size, 2, none⟩ = some (.int .i64 q2) := (World.cell?_of_block (HKW.out.2 wr.heap.size (Nat.le_refl _) (Nat.lt_add_of_pos_right (by decide)))).trans HT2.out
            have t3 : A5.cell? ⟨wr.heap.size, 3, none⟩ = some (.int .i64 q3) := (World.cell?_of_block (HKW.out.2 wr.heap.size (Nat.le_refl _) (Nat.lt_add_of_pos_right (by decide)))).trans HT3.out
            have hmx := @run_max2 Tryz.prog
            have hmn := @run_min2 Tryz.prog
            obtain ⟨i3, ki, kz0, kz1, kz2⟩ := info_parts infoRc
            have HX9 : Hid ((p (row, col)).flatMap encR ++ [.int .i64 (max (brX W H S col row) q0), .int .i64 (max (row * H) q1), .int .i64 (min (brX W H S col row + W) q2), .int .i64 (min ((row + 1) * H) q3)] = (p (row, col) ++ [meet4 (brR W H S (row, col)) ⟨q0, q1, q2, q3⟩]).flatMap encR) := hide (by simp [encR, meet4, brR])
            have HGB : Hid (∀ q, (Value.slice (some ⟨g, 0, none⟩) (p (row, col)).length c).ownBlock = some q → bM + 3 ≤ q ∧ q < A5.heap.size ∧ (q < wr.heap.size ∨ wr.heap.size + 3 ≤ q)) := hide (fun q hq => by
              have h9 := HTK.out.gvne (row, col) (by rw [HGV.out]; exact hq)
              exact ⟨h9.1, h9.2.1, h9.2.2.1⟩)
            have HRF : Hid (∀ (o : Obj) (wE : World), (A5.alloc o).grownBy wE (some bM) → wE.ownsRow (bM + 3) 41 4 (Value.slice (some ⟨g, 0, none⟩) (p (row, col)).length c) (p (row, col)).length ((p (row, col)).flatMap encR)) := hide (fun o wE gE =>
              (World.ownsRow.alloc HROW.out o).kept gE (.inr (fun e => by
                have h9 := (HGB.out bM e).1
                omega)))
            have HNF : Hid (∀ (wE : World), (A5.alloc (.cells #[.int .i64 (max (brX W H S col row) q0), .int .i64 (max (row * H) q1), .int .i64 (min (brX W H S col row + W) q2), .int .i64 (min ((row + 1) * H) q3)] 41)).grownBy wE (some bM) → ∀ j u, ([.int .i64 (max (brX W H S col row) q0), .int .i64 (max (row * H) q1), .int .i64 (min (brX W H S col row + W) q2), .int .i64 (min ((row + 1) * H) q3)] : List Value)[j]? = some u → wE.cell? ((⟨A5.heap.size, 0, none⟩ : Addr).add j) = some u) := hide (fun wE gE j u hj => by
              have h9 := news_new A5 [.int .i64 (max (brX W H S col row) q0), .int .i64 (max (row * H) q1), .int .i64 (min (brX W H S col row + W) q2), .int .i64 (min ((row + 1) * H) q3)] 41 A5.heap.size rfl j u hj
              rw [addr_add] at h9 ⊢
              exact World.grownBy.cell gE (a := ⟨A5.heap.size, j, none⟩) h9 (fun e => by
                have e9 : A5.heap.size = bM := by injection e
                omega))
            have HSF : Hid (∀ (o : Obj) (wE : World), wE.heap.size = (A5.alloc o).heap.size → A5.heap.size < wE.heap.size) := hide (fun o wE sE => by rw [sE]; simp)
            refine wpIn_region_plain_round (by kernel_rfl) (fun _ _ h => h) ?_
            go_wp2_with (first
              | (refine wpList_entry_grp rfl _ _ rfl rfl (HTK.out.gs.below ((Below.refl _ _).alloc (Nat.le_refl _) _)) (row, col) rfl hkk (by unfold maxLen; omega) HP0.out (by simp; omega) _ HGV.out ?_
                 intro st wE gE sE mE
                 have HROWE := hide (HRF.out _ _ gE)
                 have HNWE := hide (HNF.out _ gE)
                 have hE5 : A5.heap.size < wE.heap.size := HSF.out _ _ sE
                 have HGE := hide gE
                 have HSE := hide sE
                 have HME := hide mE
                 clear gE sE mE)
              | (at_builtin; refine wpList_append_lies _ rfl (.tmp 63) (.tmp 85) 43 rfl (bM + 3) 41 i3 (.agg #[.int .i64 0, .int .i64 0, .int .i64 0, .int .i64 0]) 4 32 Tryz.underlying43 ki kz0 kz1 kz2 rfl (by decide) _ (p (row, col)).length _ rfl HROWE.out ⟨A5.heap.size, 0, none⟩ 1 1 [.int .i64 (max (brX W H S col row) q0), .int .i64 (max (row * H) q1), .int .i64 (min (brX W H S col row + W) q2), .int .i64 (min ((row + 1) * H) q3)] rfl rfl HNWE.out (ints_one rfl) (by omega) (by unfold maxLen; omega) (by omega) (by omega) _ rfl ?_
                 intro g9 cap9 w9 hown9 hgrow9 hor9 hlt9
                 rw [HX9.out] at hown9
                 have HO9 := hide hown9
                 have HGR9 : Hid (wE.grownBy w9 (gv K vals (row, col)).ownBlock) := hide (by rw [HGV.out]; exact hgrow9)
                 have HLOC : Hid ((gv K vals (row, col)).ownBlock = some g9 ∨ wE.heap.size ≤ g9) := hide (by rw [HGV.out]; rcases hor9 with h | h; exact .inl h; exact .inr (by omega))
                 have HGAP : Hid (g9 < wr.heap.size ∨ wr.heap.size + 3 ≤ g9) := hide (by
                   rcases hor9 with h | h
                   · exact (HGB.out g9 h).2.2
                   · exact .inr (by omega))
                 clear hown9 hgrow9 hor9 hlt9)
              | (refine wpList_store_grp rfl _ _ _ rfl HME.out rfl rfl (meet4 (brR W H S (row, col)) ⟨q0, q1, q2, q3⟩) g9 cap9 rfl HGR9.out HLOC.out HGAP.out HO9.out ?_
                 intro w3 g3 gs3))
            obtain ⟨b1, b2, b3, b4, b5, b6⟩ := TI.store HTB5.out HTK.out HMK.out hbl5 (by omega) hn5 ((Below.refl _ _).alloc (Nat.le_refl _) _) HGE.out HSE.out HGR9.out g3 HLOC.out (fun k' => rfl) gs3
            have b2' := (b2.keys HKE.out).same (q := partK W H S l m ⟨q0, q1, q2, q3⟩ (pre ++ [(row, col)])) (fun k' => (HPN.out k').symm)
            rw [← HKN.out] at b2'
            exact ⟨HKF.out.1.trans b5, HKF.out.2.trans b4, ⟨b1, ⟨_, _, _, b2'⟩, b3, by rw [HKN.out]; exact HLN.out, b6, HT5.out.lt, HT5.out.bl, HT5.out.nn⟩, HKW.out.trans b4⟩
          · have hgv : gv K vals (row, col) = .slice none 0 0 := by simp [gv, hk]
            have HGV := hide hgv
            have HROW0 : Hid (p (row, col) = []) := hide (HP0.out hk)
            have HKE : Hid (K ++ [(row, col)] = addK K (row, col)) := hide (if_neg hk).symm
            clear hgv
            refine wpIn_region_plain_round (by kernel_rfl) (fun _ _ h => h) ?_
            have hny := nil_yes
            go_wp2_with (refine wpList_look_grp rfl _ _ rfl rfl HTK.out.gs (row, col) rfl hkk _ HGV.out ?_)
            clear hny
            have c9 := HTK.out.cell
            have hz5 : A3.heap.size + 1 < A5.heap.size := by omega
            have hn50 : wr.heap.size + 3 ≤ A5.heap.size := HT5.out.top
            clear hs5
            gi_upto_region 18 with fail
            obtain ⟨i1, gi, gz0, gz1, gz2⟩ := info_parts infoKy
            have HTKa := hide (HTK.out.below ((Below.refl _ _).alloc (Nat.le_refl _) (.cells #[.int .i64 row, .int .i64 col] 77)))
            have HTBa := hide (HTB5.out.below ((Below.refl _ _).alloc (Nat.le_refl _) (.cells #[.int .i64 row, .int .i64 col] 77)))
            have HMKa := hide (HMK.out.below ((Below.refl _ _).alloc (Nat.le_refl _) (.cells #[.int .i64 row, .int .i64 col] 77)))
            refine wpIn_region_plain_round (by kernel_rfl) (fun _ _ h => h) ?_
            go_wp2_with (at_builtin; go_loud (refine wpList_append_lies _ rfl (.tmp 54) (.tmp 56) 73 rfl (bM + 3) 77 i1 (.agg #[.int .i64 0, .int .i64 0]) 2 16 Tryz.underlying73 gi gz0 gz1 gz2 rfl (by decide) _ K.length _ rfl HTKa.out.own ⟨A5.heap.size, 0, none⟩ 1 1 [.int .i64 row, .int .i64 col] rfl rfl (news_new A5 _ _ _ rfl) (ints_one rfl) (by omega) (by unfold maxLen; omega) (by omega) (by simp; omega) _ rfl ?_))
            intro g9 cap9 w9 hown9 hgrow9 hor9 hlt9
            have hx9 : K.flatMap encK ++ [.int .i64 row, .int .i64 col] = (K ++ [(row, col)]).flatMap encK := by simp [encK]
            rw [hx9] at hown9
            have hrw9 : ∀ q, (Value.slice Ak K.length ck).ownBlock = some q → bM + 3 ≤ q ∧ q < A3.heap.size ∧ (q < wr.heap.size ∨ wr.heap.size + 3 ≤ q) := fun q hq => ⟨(HTK.out.own.lt q hq).1, HKLT.out q hq, HTK.out.gap q hq⟩
            obtain ⟨c90, hTK8⟩ := HTKa.out.pushKey (k := (row, col)) (g := g9) (c := cap9) hgrow9 (by rcases hor9 with h | h; exact .inl h; exact .inr (by simp; omega)) hown9 (by simp; omega) (by simp; omega)
            have hTB9 := HTBa.out.step hgrow9 (fun q hq => .inr (hrw9 q hq).1)
            have f9 := hTB9.f9
            have hMK9 := HMKa.out.row HTKa.out.own hgrow9
            have hMK8 := hMK9.step (grown_setCell w9 (bM + 2) 0 (.slice (some ⟨g9, 0, none⟩) (K.length + 1) cap9)) (fun q hq => .inl (by injection hq; omega))
            have hTB8 := hTB9.setKeys (.slice (some ⟨g9, 0, none⟩) (K.length + 1) cap9)
            have hba : Below A5.heap.size A5 (A5.alloc (.cells #[.int .i64 row, .int .i64 col] 77)) := (Below.refl _ _).alloc (Nat.le_refl _) _
            have hK8 : KpT wr.heap.size (wr.heap.size + 3) A5 (w9.setCell ⟨bM + 2, 0, none⟩ (.slice (some ⟨g9, 0, none⟩) (K.length + 1) cap9)) := ((KpT.below hn50 hba).trans (KpT.step (by simp; omega) hgrow9 (fun q hq => (hrw9 q hq).2.2))).trans (KpT.step (by have := hgrow9.size; simp at this; omega) (grown_setCell _ _ _ _) (fun q hq => by injection hq; omega))
            have hF8 : KeepsFrom (wr.heap.size + 3) A5 (w9.setCell ⟨bM + 2, 0, none⟩ (.slice (some ⟨g9, 0, none⟩) (K.length + 1) cap9)) := ((KeepsFrom.of_below' hba).trans (KeepsFrom.step hgrow9 (fun q hq => .inr (row_cells HTKa.out.own hq)))).trans (KeepsFrom.step (grown_setCell _ _ _ _) (fun q hq => .inl (by injection hq; omega)))
            have hcl : ∀ X o u, X = A3.heap.size ∨ X = A3.heap.size + 1 → A5.cell? ⟨X, o, none⟩ = some u → (w9.setCell ⟨bM + 2, 0, none⟩ (.slice (some ⟨g9, 0, none⟩) (K.length + 1) cap9)).cell? ⟨X, o, none⟩ = some u := fun X o u hX e => by
              have h1 := World.grownBy.cell hgrow9 (a := ⟨X, o, none⟩) ((World.cell?_alloc_lt A5 _ ⟨X, o, none⟩ (by show X < _; omega)).trans e) (fun e9 => by
                have h9 : X < A3.heap.size := (hrw9 X e9.symm).2.1
                omega)
              exact World.grownBy.cell (grown_setCell w9 (bM + 2) 0 _) (a := ⟨X, o, none⟩) h1 (fun e9 => by
                have h9 : X = bM + 2 := by injection e9
                omega)
            have y0 := hcl _ _ _ (.inl rfl) y0
            have y1 := hcl _ _ _ (.inl rfl) y1
            have y2 := hcl _ _ _ (.inl rfl) y2
            have y3 := hcl _ _ _ (.inl rfl) y3
            have z0 := hcl _ _ _ (.inr rfl) z0
            have z1 := hcl _ _ _ (.inr rfl) z1
            clear hcl hba hown9 hgrow9 hor9 hx9 hrw9 hTB9 hMK9 HTKa HTBa HMKa
            go_wp2_with (fail)
            obtain ⟨A8, hA8⟩ : ∃ A8, A8 = w9.setCell ⟨bM + 2, 0, none⟩ (.slice (some ⟨g9, 0, none⟩) (K.length + 1) cap9) := ⟨_, rfl⟩
            rw [← hA8] at hTK8 hMK8 hTB8 hK8 hF8 y0 y1 y2 y3 z0 z1 ⊢
            have c9 : A8.cell? ⟨bM + 2, 0, none⟩ = some (.slice (some ⟨g9, 0, none⟩) (K.length + 1) cap9) := by have := hTK8.cell; simpa using this
            clear hA8 c90 f9 hlt9
            have HTK := hide hTK8
            have HTB5 := hide hTB8
            have HMK := hide hMK8
            have HKW := hide (HK5.out.trans hK8)
            have HKF := hide (And.intro (HKF.out.1.trans hF8) (HKF.out.2.trans hK8))
            have hn5 : wr.heap.size + 3 ≤ A8.heap.size := by have := hK8.1; omega
            have hz8 : A3.heap.size + 1 < A8.heap.size := by have := hK8.1; omega
            have c8 := HTB5.out.c8
            have hbM5 : bM + 1 < A8.heap.size := by omega
            clear hTK8 hTB8 hMK8 hK8 hF8
            by_cases h4 : 400 < K.length + 1
            · have hkz : (400 : Int) < (K.length : Int) + 1 := by omega
              obtain ⟨u4, e4⟩ := HTB5.out.c4
              obtain ⟨u5, e5⟩ := HTB5.out.c5
              have f4 := HTB5.out.f4
              have f5 := HTB5.out.f5
              have hb3 := HTB5.out.hb
              have hdis : w.heap.size + 1 ≠ w.heap.size + 2 := by omega
              gi_wp2
              obtain ⟨r1, r2, r3⟩ := HTB5.out.t0.ret (.slice none 0 0) (.int .i64 4)
              refine ⟨?_, r3, hb3, r1, r2, (HMK.out.step (grown_setCell A8 (w.heap.size + 1) 0 (.slice none 0 0)) (fun q hq => .inl (by injection hq; omega))).step (grown_setCell _ (w.heap.size + 2) 0 (.int .i64 4)) (fun q hq => .inl (by injection hq; omega)), HT5.out.lt, HT5.out.bl, HT5.out.nn, ?_⟩
              · rw [hsx]
                exact (HKF.out.1.trans (KeepsFrom.step (grown_setCell _ _ _ _) (fun q hq => .inl (by injection hq; omega)))).trans (KeepsFrom.step (grown_setCell _ _ _ _) (fun q hq => .inl (by injection hq; omega)))
              · have h9 := HMY.out
                rw [← HKE.out] at h9
                simp at h9
                omega
            · have hkz : ¬ (400 : Int) < (K.length : Int) + 1 := by omega
              have HLN : Hid ((addK K (row, col)).length ≤ 400) := hide (by rw [← HKE.out]; simp; omega)
              have HROW : Hid (A8.ownsRow (bM + 3) 41 4 (.slice none 0 0) (p (row, col)).length ((p (row, col)).flatMap encR)) := hide (by rw [HROW0.out]; exact World.ownsRow_nil _ _ _ _)
              gi_upto_region 21 with fail
              have t0 : A8.cell? ⟨wr.heap.size, 0, none⟩ = some (.int .i64 q0) := (World.cell?_of_block (HKW.out.2 wr.heap.size (Nat.le_refl _) (Nat.lt_add_of_pos_right (by decide)))).trans HT0.out
              have t1 : A8.cell? ⟨wr.heap.size, 1, none⟩ = some (.int .i64 q1) := (World.cell?_of_block (HKW.out.2 wr.heap.size (Nat.le_refl _) (Nat.lt_add_of_pos_right (by decide)))).trans HT1.out
              have t2 : A8.cell? ⟨wr.heap.size, 2, none⟩ = some (.int .i64 q2) := (World.cell?_of_block (HKW.out.2 wr.heap.size (Nat.le_refl _) (Nat.lt_add_of_pos_right (by decide)))).trans HT2.out
              have t3 : A8.cell? ⟨wr.heap.size, 3, none⟩ = some (.int .i64 q3) := (World.cell?_of_block (HKW.out.2 wr.heap.size (Nat.le_refl _) (Nat.lt_add_of_pos_right (by decide)))).trans HT3.out
              have hmx := @run_max2 Tryz.prog
              have hmn := @run_min2 Tryz.prog
              obtain ⟨i3, ki, kz0, kz1, kz2⟩ := info_parts infoRc
              have HX9 : Hid ((p (row, col)).flatMap encR ++ [.int .i64 (max (brX W H S col row) q0), .int .i64 (max (row * H) q1), .int .i64 (min (brX W H S col row + W) q2), .int .i64 (min ((row + 1) * H) q3)] = (p (row, col) ++ [meet4 (brR W H S (row, col)) ⟨q0, q1, q2, q3⟩]).flatMap encR) := hide (by simp [encR, meet4, brR])
              have HGB : Hid (∀ q, (Value.slice none 0 0).ownBlock = some q → bM + 3 ≤ q ∧ q < A8.heap.size ∧ (q < wr.heap.size ∨ wr.heap.size + 3 ≤ q)) := hide (fun q hq => by
                have h9 := HTK.out.gvne (row, col) (by rw [HGV.out]; exact hq)
                exact ⟨h9.1, h9.2.1, h9.2.2.1⟩)
              have HRF : Hid (∀ (o : Obj) (wE : World), (A8.alloc o).grownBy wE (some bM) → wE.ownsRow (bM + 3) 41 4 (Value.slice none 0 0) (p (row, col)).length ((p (row, col)).flatMap encR)) := hide (fun o wE gE =>
                (World.ownsRow.alloc HROW.out o).kept gE (.inr (fun e => by
                  have h9 := (HGB.out bM e).1
                  omega)))
              have HNF : Hid (∀ (wE : World), (A8.alloc (.cells #[.int .i64 (max (brX W H S col row) q0), .int .i64 (max (row * H) q1), .int .i64 (min (brX W H S col row + W) q2), .int .i64 (min ((row + 1) * H) q3)] 41)).grownBy wE (some bM) → ∀ j u, ([.int .i64 (max (brX W H S col row) q0), .int .i64 (max (row * H) q1), .int .i64 (min (brX W H S col row + W) q2), .int .i64 (min ((row + 1) * H) q3)] : List Value)[j]? = some u → wE.cell? ((⟨A8.heap.size, 0, none⟩ : Addr).add j) = some u) := hide (fun wE gE j u hj => by
                have h9 := news_new A8 [.int .i64 (max (brX W H S col row) q0), .int .i64 (max (row * H) q1), .int .i64 (min (brX W H S col row + W) q2), .int .i64 (min ((row + 1) * H) q3)] 41 A8.heap.size rfl j u hj
                rw [addr_add] at h9 ⊢
                exact World.grownBy.cell gE (a := ⟨A8.heap.size, j, none⟩) h9 (fun e => by
                  have e9 : A8.heap.size = bM := by injection e
                  omega))
              have HSF : Hid (∀ (o : Obj) (wE : World), wE.heap.size = (A8.alloc o).heap.size → A8.heap.size < wE.heap.size) := hide (fun o wE sE => by rw [sE]; simp)
              refine wpIn_region_plain_round (by kernel_rfl) (fun _ _ h => h) ?_
              go_wp2_with (first
                | (refine wpList_entry_grp rfl _ _ rfl rfl (HTK.out.gs.below ((Below.refl _ _).alloc (Nat.le_refl _) _)) (row, col) rfl hkk (by unfold maxLen; omega) HP0.out (by simp; omega) _ HGV.out ?_
                   intro st wE gE sE mE
                   have HROWE := hide (HRF.out _ _ gE)
                   have HNWE := hide (HNF.out _ gE)
                   have hE5 : A8.heap.size < wE.heap.size := HSF.out _ _ sE
                   have HGE := hide gE
                   have HSE := hide sE
                   have HME := hide mE
                   clear gE sE mE)
                | (at_builtin; refine wpList_append_lies _ rfl (.tmp 63) (.tmp 85) 43 rfl (bM + 3) 41 i3 (.agg #[.int .i64 0, .int .i64 0, .int .i64 0, .int .i64 0]) 4 32 Tryz.underlying43 ki kz0 kz1 kz2 rfl (by decide) _ (p (row, col)).length _ rfl HROWE.out ⟨A8.heap.size, 0, none⟩ 1 1 [.int .i64 (max (brX W H S col row) q0), .int .i64 (max (row * H) q1), .int .i64 (min (brX W H S col row + W) q2), .int .i64 (min ((row + 1) * H) q3)] rfl rfl HNWE.out (ints_one rfl) (by omega) (by unfold maxLen; omega) (by omega) (by omega) _ rfl ?_
                   intro g9 cap9 w9 hown9 hgrow9 hor9 hlt9
                   rw [HX9.out] at hown9
                   have HO9 := hide hown9
                   have HGR9 : Hid (wE.grownBy w9 (gv K vals (row, col)).ownBlock) := hide (by rw [HGV.out]; exact hgrow9)
                   have HLOC : Hid ((gv K vals (row, col)).ownBlock = some g9 ∨ wE.heap.size ≤ g9) := hide (by rw [HGV.out]; rcases hor9 with h | h; exact .inl h; exact .inr (by omega))
                   have HGAP : Hid (g9 < wr.heap.size ∨ wr.heap.size + 3 ≤ g9) := hide (by
                     rcases hor9 with h | h
                     · exact (HGB.out g9 h).2.2
                     · exact .inr (by omega))
                   clear hown9 hgrow9 hor9 hlt9)
                | (refine wpList_store_grp rfl _ _ _ rfl HME.out rfl rfl (meet4 (brR W H S (row, col)) ⟨q0, q1, q2, q3⟩) g9 cap9 rfl HGR9.out HLOC.out HGAP.out HO9.out ?_
                   intro w3 g3 gs3))
              obtain ⟨b1, b2, b3, b4, b5, b6⟩ := TI.store HTB5.out HTK.out HMK.out hbl5 (by omega) hn5 ((Below.refl _ _).alloc (Nat.le_refl _) _) HGE.out HSE.out HGR9.out g3 HLOC.out (fun k' => rfl) gs3
              have b2' := (b2.keys HKE.out).same (q := partK W H S l m ⟨q0, q1, q2, q3⟩ (pre ++ [(row, col)])) (fun k' => (HPN.out k').symm)
              rw [← HKN.out] at b2'
              exact ⟨HKF.out.1.trans b5, HKF.out.2.trans b4, ⟨b1, ⟨_, _, _, b2'⟩, b3, by rw [HKN.out]; exact HLN.out, b6, HT5.out.lt, HT5.out.bl, HT5.out.nn⟩, HKW.out.trans b4⟩
        · rintro D W9 hD ⟨hTI, _⟩ hK
          have HTO3 := hide (hTI.fin HP4.out (by omega) hK)
          have hlz : (m : Int) + 1 ≤ 401 := by omega
          clear hit hTI hK HTI
          simp only [Exit.inBlock, Exit.then]
          gi_wp2
          refine ⟨⟨m + 1, D :: ms, by rw [show ((m + 1 : Nat) : Int) = (m : Int) + 1 from by omega]; rfl, by omega, HTO3⟩, ?_⟩
          simp [intOf]
          omega
        · rintro D pre W9 hD hTX hK
          have hmk : Mks (bM + 3) (D :: ms) W9 := ⟨List.nodup_cons.2 ⟨fun h => by have := hTX.lt D h; have := hTX.nn; omega, hTX.mks.1⟩, fun D' hD' => by
            rcases List.mem_cons.1 hD' with rfl | h
            · exact ⟨by have := hTX.bl; have := hTX.nn; omega, hK⟩
            · exact hTX.mks.2 D' h⟩
          have hF4 : tileF W H S l = ([], 4) := by rw [hF.out, if_pos hTX.many]
          refine leaves_marks (D :: ms) W9 hmk.1 (fun D' hD' => (hmk.2 D' hD').2) fun w' hc => ?_
          exact ⟨_, results_cells2 rfl _ _ _ _ _ _ rfl rfl (hc.cell hmk hTX.c4) (hc.cell hmk hTX.c5), ⟨none, 0, [], by rw [hF4]; rfl, by rw [hF4]; rfl, by rw [hF4]; exact World.ownsRow_nil _ _ _ _, fun i k r h => by rw [hF4] at h; simp at h⟩, hc.below hmk (by have := hTX.hb; omega) hTX.low⟩
      · have hme : m = l.length := by omega
        subst hme
        have mz : ¬ (l.length : Int) < (l.length : Int) := by omega
        have hTO := HTO2.out
        obtain ⟨vals, Ak, ck, hTK⟩ := hTO.tk
        have hln := hTO.ln
        rw [doneK_all W H S (Nat.le_refl _)] at hTK hln
        rw [List.take_length] at hTK
        have HTB := hide hTO.tb
        have HMS := hide hTO.mks
        have HKS : Hid (srtK (onceK (allK W H S l)) = keysT W H S l) := hide (srtK_once _)
        have hsl := srtK_len (onceK_ok (allK W H S l)).1
        have hso := ksorted_any (own_rd (enc := encK) (k := 2) hTK.own (fun _ => rfl)) (Nat.le_refl _) (by omega) (onceK_ok (allK W H S l)).1
        rw [HKS.out] at hso hsl
        have hkm : ∀ k ∈ keysT W H S l, k ∈ onceK (allK W H S l) := fun k hk => by
          rw [(onceK_ok _).2]
          exact ((srtK_ok _).2 k).1 hk
        have HKM := hide hkm
        generalize onceK (allK W H S l) = K at *
        have HTK := hide hTK
        have HSO := hide hso
        have c9 := HTK.out.cell
        have HSL := hide hsl
        have hkl4 : (keysT W H S l).length ≤ 400 := by omega
        clear hTO hTK hso hkm HTO2 hsl
        gi_wp2
        go_wp2_with (go_at_call 32; refine HSO.out.mono ?_; rintro e wL ⟨vS, rfl, hoS, hbS⟩; obtain ⟨AS, cS, hvS⟩ := own_form hoS; subst hvS; have HOS := hide hoS; have HBS := hide hbS; clear hoS hbS)
        have hTBL := HTB.out.below HBS.out
        have HGL := hide ((HTK.out.gs.below HBS.out))
        have HTBL := hide hTBL
        have HML := hide (HMS.out.below HBS.out)
        obtain ⟨i2, fi, fz0, fz1, fz2⟩ := info_parts infoPc
        have HFT : Hid (tileF W H S l = ((keysT W H S l).map fun k => (k, pieceR W H S l k), 0)) := hide (by rw [hF.out, if_neg (by omega)])
        have HMKP : Hid (∀ k, k ∈ K → ∀ wx, Below wL.heap.size wL wx → ∃ g c, vals k = .slice (some ⟨g, 0, none⟩) (prt W H S l k).length c ∧ Calls Tryz.prog 33 #[vals k] wx fun e w' => RegRet wx.heap.size (pieceR W H S l k, 0) e w' ∧ Below wx.heap.size wx w') := hide (fun k hk wx hx => by
          obtain ⟨g, c, e, _, hr⟩ := HGL.out.vs k hk
          refine ⟨g, c, e, ?_⟩
          have h9 := make_any (w := wx) (own_rd (own_below hr hx) (fun _ => rfl)) (Nat.le_trans (prt_len W H S l k) hl)
          rw [prt_make hp HC0.out k] at h9
          exact h9)
        have hwL := HTBL.out.top
        have hbL := HTBL.out.hb
        have HPL : Hid (∀ k, (pieceR W H S l k).length ≤ 400) := hide (fun k => piece_len hp HC0.out k)
        clear hTBL HSL HSO HTB HTK HMS HBS
        generalize keysT W H S l = KT at *
        go_loopw [16, 93] (fun v i wi => ∃ (q : Nat) (Ao : Option Addr) (co : Nat), q ≤ KT.length ∧ i = .int .i64 (q : Int) ∧ v = .slice Ao q co ∧ Hid (Pcs wL (.slice Ao q co) ((KT.take q).map fun k => (k, pieceR W H S l k)) wi)) (fun _ i _ => KT.length - (intOf i).toNat)
        case atStart => exact ⟨0, none, 0, Nat.zero_le _, rfl, rfl, hide ⟨Below.refl _ _, [], rfl, World.ownsRow_nil _ _ _ _, fun i k r h => by simp at h⟩⟩
        case round =>
          obtain ⟨q, Ao, co, hq, rfl, rfl, HP⟩ := hrel
          by_cases hlt : q < KT.length
          · have mz : (q : Int) < (KT.length : Int) := by omega
            obtain ⟨⟨row, col⟩, hk⟩ : ∃ k, KT[q]? = some k := ⟨_, List.getElem?_eq_getElem hlt⟩
            obtain ⟨gS, cS', hvS, hgS, hgS2⟩ := HOS.out.form (by omega)
            injection hvS with e1 _ e3
            subst e1; subst e3
            have hlow := HP.out.low
            have hls := hlow.size
            have s0 : wr.cell? ⟨gS, q * 2, none⟩ = some (.int .i64 row) := by
              have := (HOS.out.cells (g := gS) rfl) _ _ (flat_get (k := 2) (fun _ => rfl) _ q _ 0 _ hk rfl)
              rw [addr_add] at this
              exact (hlow.cell (p := ⟨gS, q * 2, none⟩) hgS2).trans this
            have s1 : wr.cell? ⟨gS, q * 2 + 1, none⟩ = some (.int .i64 col) := by
              have := (HOS.out.cells (g := gS) rfl) _ _ (flat_get (k := 2) (fun _ => rfl) _ q _ 1 _ hk rfl)
              rw [addr_add] at this
              exact (hlow.cell (p := ⟨gS, q * 2 + 1, none⟩) hgS2).trans this
            have hmK := HKM.out _ (List.mem_of_getElem? hk)
            have hkk := HGL.out.rng _ hmK
            have c8 : wr.cell? ⟨bM + 1, 0, none⟩ = some (.map (some bM)) := (hlow.cell (p := ⟨bM + 1, 0, none⟩) (by show bM + 1 < _; omega)).trans HTBL.out.c8
            have hbw : bM + 1 < wr.heap.size := by omega
            have hgw : gS < wr.heap.size := by omega
            have HK := hide hk
            clear hk hlow
            go_upto_region 27 with fail
            refine wp_name fun w1 hw1 => ?_
            have hb1 : Below wr.heap.size wr w1 := by rw [hw1]; exact (Below.refl _ _).alloc (Nat.le_refl _) _
            have k0 : w1.cell? ⟨wr.heap.size, 0, none⟩ = some (.int .i64 row) := by rw [hw1]; simp [go_sem]
            have k1 : w1.cell? ⟨wr.heap.size, 1, none⟩ = some (.int .i64 col) := by rw [hw1]; simp [go_sem]
            have hs1 : wr.heap.size < w1.heap.size := by rw [hw1]; simp
            have c81 := (hb1.cell (p := ⟨bM + 1, 0, none⟩) (by show bM + 1 < _; omega)).trans c8
            have HP1 := hide (HP.out.below hb1)
            have HGS := hide (HGL.out.below HP1.out.low)
            obtain ⟨g, c, hvl, hmk⟩ := HMKP.out _ hmK w1 HP1.out.low
            have hgv : gv K vals (row, col) = .slice (some ⟨g, 0, none⟩) (prt W H S l (row, col)).length c := by simp [gv, hmK, hvl]
            have HGV := hide hgv
            rw [hvl] at hmk
            have HMAKE := hide hmk
            have hpl := HPL.out (row, col)
            clear hw1 c8 s0 s1 hgv hmk hvl hb1
            have HJE : Hid ((KT.take (q + 1)).map (fun k => (k, pieceR W H S l k)) = (KT.take q).map (fun k => (k, pieceR W H S l k)) ++ [((row, col), pieceR W H S l (row, col))]) := hide (by rw [List.take_add_one, HK.out]; simp)
            have HRL : Hid (((KT.take q).map (fun k => (k, pieceR W H S l k))).length = q) := hide (by rw [List.length_map, List.length_take]; omega)
            generalize pieceR W H S l (row, col) = J at *
            go_wp2_with (first
              | (refine wpList_look_grp rfl _ _ rfl rfl HGS.out (row, col) rfl hkk _ HGV.out ?_)
              | (go_at_call 33; refine HMAKE.out.mono ?_; rintro e w5 ⟨⟨Aj, cj, rfl, ho⟩, hb5⟩
                 have HJ := hide ho
                 have HP5 := hide (HP1.out.below hb5)
                 have k0 := (hb5.cell (p := ⟨wr.heap.size, 0, none⟩) hs1).trans k0
                 have k1 := (hb5.cell (p := ⟨wr.heap.size, 1, none⟩) hs1).trans k1
                 have hs5 : wr.heap.size < w5.heap.size := Nat.lt_of_lt_of_le hs1 hb5.size
                 have hl5 : wL.heap.size ≤ w1.heap.size := HP1.out.low.size
                 have hl6 : wL.heap.size ≤ w5.heap.size := HP5.out.low.size
                 obtain ⟨L, l0, l1, l2⟩ := HP5.out.o
                 have HL0 := hide l0
                 have HL1 := hide (own_n l1 HRL.out)
                 have HL1' := hide l1
                 have HL2 := hide l2
                 clear ho hb5 l0 l1 l2)
              | (at_builtin; go_loud (refine wpList_append_lies _ rfl (.tmp 107) (.tmp 114) 29 rfl wL.heap.size 48 i2 (.agg #[.int .i64 0, .int .i64 0, .slice none 0 0]) 3 40 Tryz.underlying29 fi fz0 fz1 fz2 rfl (by decide) _ q _ rfl (World.ownsRow.alloc HL1.out _) ⟨w5.heap.size, 0, none⟩ 1 1 [.int .i64 col, .int .i64 row, .slice Aj J.length cj] rfl rfl (news_new w5 _ _ _ rfl) (one3 _ _ _ _ _) (by omega) (by unfold maxLen; omega) (by omega) (by simp; omega) _ rfl ?_)))
            intro g9 cap9 w9 hown9 hgrow9 _ _
            have hpush := Pcs.push (k := (row, col)) (r := J) (HP5.out.low.alloc hl6 _) HL0.out (World.ownsRow.alloc HL1'.out _) (fun i k r hi => by
              obtain ⟨v, q1, q2⟩ := HL2.out i k r hi
              exact ⟨v, q1, World.ownsRow.alloc q2 _⟩) (World.ownsRow.alloc (own_base HJ.out hl5) _) hgrow9 (by rw [HRL.out]; exact hown9)
            rw [← HJE.out] at hpush
            have HPU := hide hpush
            clear hown9 hgrow9 hpush
            go_wp2
            go_roundw
            case rel => exact ⟨q + 1, _, cap9, by omega, by go_num, rfl, HPU⟩
            case measure => simp [intOf]; omega
          · have hqe : q = KT.length := by omega
            subst hqe
            have mz : ¬ (KT.length : Int) < (KT.length : Int) := by omega
            have hP := HP.out
            rw [List.take_length] at hP
            have HPF := hide hP
            have hls := hP.low.size
            have hTBw := HTBL.out.below hP.low
            have HMW := hide (HML.out.below hP.low)
            obtain ⟨u4, e4⟩ := hTBw.c4
            obtain ⟨u5, e5⟩ := hTBw.c5
            have f4 := hTBw.f4
            have f5 := hTBw.f5
            have hdis : w.heap.size + 1 ≠ w.heap.size + 2 := by omega
            have HT0w := hide hTBw.t0
            clear hP HP hTBw HTBL HML HGL HMKP HKM
            go_wp2
            obtain ⟨r1, r2, r3⟩ := HT0w.out.ret (.slice Ao KT.length co) (.int .i64 0)
            have hmk := (HMW.out.step (grown_setCell wr (w.heap.size + 1) 0 (.slice Ao KT.length co)) (fun q hq => .inl (by injection hq; omega))).step (grown_setCell _ (w.heap.size + 2) 0 (.int .i64 0)) (fun q hq => .inl (by injection hq; omega))
            refine leaves_marks ms _ hmk.1 (fun D' hD' => (hmk.2 D' hD').2) fun w' hc => ?_
            obtain ⟨L, l0, l1, l2⟩ := HPF.out.o
            have hml : (KT.map fun k => (k, pieceR W H S l k)).length = KT.length := by simp
            refine ⟨_, results_cells2 rfl _ _ _ _ _ _ rfl rfl (hc.cell hmk r1) (hc.cell hmk r2), ⟨Ao, co, L, by rw [HFT.out]; show Ending.returned (.tuple #[.slice Ao KT.length co, .int .i64 0]) = .returned (.tuple #[.slice Ao (KT.map fun k => (k, pieceR W H S l k)).length co, .int .i64 0]); rw [hml], by rw [HFT.out]; exact l0, ?_, ?_⟩, hc.below hmk (by omega) r3⟩
            · rw [HFT.out]
              have h : w'.ownsRow w.heap.size 48 3 _ _ _ := hc.own hmk (own_base (ownsRow_setCell_below (ownsRow_setCell_below l1 (by show w.heap.size + 1 < _; omega) _) (by show w.heap.size + 2 < _; omega) _) (by omega))
              show w'.ownsRow w.heap.size 48 3 (.slice Ao (KT.map fun k => (k, pieceR W H S l k)).length co) (KT.map fun k => (k, pieceR W H S l k)).length (L.flatMap encP)
              rw [hml] at h ⊢
              exact h
            · rw [HFT.out]
              intro i k r hi
              obtain ⟨u, q1, q2⟩ := l2 i k r hi
              exact ⟨u, q1, hc.own hmk (own_base (ownsRow_setCell_below (ownsRow_setCell_below q2 (by show w.heap.size + 1 < _; omega) _) (by show w.heap.size + 2 < _; omega) _) (by omega))⟩
    · have hpc := fun wi => pat_any W H S wi
      rw [chk_bad hp] at hpc
      have HPC := hide hpc
      clear hpc
      have hF : Hid (tileF W H S l = ([], 8)) := hide (by unfold tileF; rw [if_pos h0, if_neg hp])
      clear h0 hp
      go_wp2_with (first
        | (go_at_call 28; refine (HCK.out _ hT0.out.low).mono ?_; rintro e w1 ⟨rfl, hb1⟩; have HT1 := hide (hT0.out.below hb1); have p0 := HT1.out.p0; have p1 := HT1.out.p1; have p2 := HT1.out.p2; clear hb1)
        | (go_at_call 29; refine (HPC.out _).mono ?_; rintro e w2 ⟨rfl, hb2⟩; have HT2 := hide (HT1.out.below hb2); obtain ⟨u4, e4⟩ := HT2.out.c4; obtain ⟨u5, e5⟩ := HT2.out.c5; have f4 := HT2.out.f4; have f5 := HT2.out.f5; clear hb2 p0 p1 p2))
      obtain ⟨r1, r2, r3⟩ := HT2.out.ret (.slice none 0 0) (.int .i64 8)
      refine ⟨_, results_cells2 rfl _ _ _ _ _ _ rfl rfl r1 r2, ⟨none, 0, [], by rw [hF.out]; rfl, by rw [hF.out]; rfl, by rw [hF.out]; exact World.ownsRow_nil _ _ _ _, fun i k r h => by rw [hF.out] at h; simp at h⟩, r3⟩
  · have hF : Hid (tileF W H S l = ([], checkF l)) := hide (by unfold tileF; rw [if_neg h0])
    generalize checkF l = ck at *
    have hne : (ck != 0) = true := by simpa using h0
    clear h0
    go_wp2_with (first
      | (go_at_call 28; refine (HCK.out _ hT0.out.low).mono ?_; rintro e w1 ⟨rfl, hb1⟩; have HT1 := hide (hT0.out.below hb1); obtain ⟨u4, e4⟩ := HT1.out.c4; obtain ⟨u5, e5⟩ := HT1.out.c5; have f4 := HT1.out.f4; have f5 := HT1.out.f5; clear hb1))
    obtain ⟨r1, r2, r3⟩ := HT1.out.ret (.slice none 0 0) (.int .i64 ck)
    refine ⟨_, results_cells2 rfl _ _ _ _ _ _ rfl rfl r1 r2, ⟨none, 0, [], by rw [hF.out]; rfl, by rw [hF.out]; rfl, by rw [hF.out]; exact World.ownsRow_nil _ _ _ _, fun i k r h => by rw [hF.out] at h; simp at h⟩, r3⟩
end Go.Proofs.YtjlfdgoijalfaaaGreat

/- A list of rectangles that has just been written out is read as a list. -/
namespace Go.Proofs.YtjlfdgoijalfaaaGreat
open Go.RowKit
set_option linter.unusedVariables false
set_option linter.unusedSimpArgs false

theorem rd_lit (w : World) (l : List R4) (t : TypeId) (c : Nat) : RdK encR 4 (w.alloc (.cells (l.flatMap encR).toArray t)) (w.alloc (.cells (l.flatMap encR).toArray t)).heap.size (.slice (some ⟨w.heap.size, 0, none⟩) l.length c) l := by
  refine ⟨_, c, rfl, fun _ => ⟨w.heap.size, 0, rfl, by simp, fun j x hx i u hu => ?_⟩⟩
  have := news_new w (l.flatMap encR) t w.heap.size rfl _ _ (flat_get (k := 4) (fun _ => rfl) l j x i u hx hu)
  rw [addr_add] at this
  rwa [Nat.zero_add]
theorem rd_lit_at {w : World} {B : Nat} (hB : w.heap.size = B) (l : List R4) (t : TypeId) (c : Nat) : RdK encR 4 (w.alloc (.cells (l.flatMap encR).toArray t)) (w.alloc (.cells (l.flatMap encR).toArray t)).heap.size (.slice (some ⟨B, 0, none⟩) l.length c) l := by
  subst hB
  exact rd_lit w l t c
end Go.Proofs.YtjlfdgoijalfaaaGreat
