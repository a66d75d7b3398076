/- Outlines: the reference follows a loop. -/
import Derived.Test.YtdfpbhlnlkjjlaaGreatXtoK
import Derived.Test.YtdfpbhlnlkjjlaaGreatOujAK
import Derived.Deep.QuietTactic
import Derived.BigQuiet
import Derived.StillTactics
namespace Go.Proofs.YtdfpbhlnlkjjlaaGreat
open Go.RowKit
set_option linter.unusedVariables false
set_option linter.unusedSimpArgs false
structure BxF (W : World) (g : Nat) (a b : Int) : Prop where
 lt : g < W.heap.size
 c0 : W.cell? ⟨g, 0, none⟩ = some (.int .i64 a)
 c1 : W.cell? ⟨g, 1, none⟩ = some (.int .i64 b)
 f0 : W.frozen? ⟨g, 0, none⟩ = false
 f1 : W.frozen? ⟨g, 1, none⟩ = false
theorem BxF.kept {W V : World} {g : Nat} {a b : Int} {row : Option Nat} (h : BxF W g a b) (hg : W.grownBy V row) (hr : row ≠ some g) : BxF V g a b := by
 have hb := hg.block g h.lt (fun e => hr e.symm)
 exact ⟨Nat.lt_of_lt_of_le h.lt hg.size, (World.cell?_of_block (a := ⟨g, 0, none⟩) hb).trans h.c0, (World.cell?_of_block (a := ⟨g, 1, none⟩) hb).trans h.c1, (World.frozen?_of_block (a := ⟨g, 0, none⟩) hb).trans h.f0, (World.frozen?_of_block (a := ⟨g, 1, none⟩) hb).trans h.f1⟩
theorem BxF.set {W : World} {g : Nat} {a b : Int} (h : BxF W g a b) (c d : Int) : BxF ((W.setCell ⟨g, 0, none⟩ (.int .i64 c)).setCell ⟨g, 1, none⟩ (.int .i64 d)) g c d := by
 obtain ⟨h1, h2, h3, h4, h5⟩ := h
 exact ⟨by simpa using h1, by simp [go_sem, h2, h3, h1], by simp [go_sem, h2, h3, h1], by simpa [go_sem] using h4, by simpa [go_sem] using h5⟩
theorem grown_two {W : World} {g : Nat} (c d : Value) : W.grownBy ((W.setCell ⟨g, 0, none⟩ c).setCell ⟨g, 1, none⟩ d) (some g) := by
 have one : ∀ (W : World) (o : Nat) (c : Value), W.grownBy (W.setCell ⟨g, o, none⟩ c) (some g) := fun W o c =>
  ⟨rfl, rfl, rfl, by simp, fun k hk hne => by
   have : ¬ g = k := fun e => hne (by rw [e])
   simp [World.setCell, Array.getElem?_modify, this]⟩
 have h1 := one W 0 c
 have h2 := one (W.setCell ⟨g, 0, none⟩ c) 1 d
 exact ⟨h2.os.trans h1.os, h2.tape.trans h1.tape, h2.output.trans h1.output, Nat.le_trans h1.size h2.size, fun k hk hne => (h2.block k (Nat.lt_of_lt_of_le hk h1.size) hne).trans (h1.block k hk hne)⟩
theorem SnW.kept {W V : World} {g : Nat} {vr : Value} {sn : Nat → Nat → Nat → Bool} {row : Option Nat} (h : SnW W g vr sn) (hg : W.grownBy V row) (hr : row ≠ some g) : SnW V g vr sn := by
 have hb := hg.block g h.lt (fun e => hr e.symm)
 exact ⟨Nat.lt_of_lt_of_le h.lt hg.size, (World.cell?_of_block (a := ⟨g, 0, none⟩) hb).trans h.rects, fun d i j a b c => (World.cell?_of_block (a := ⟨g, _, none⟩) hb).trans (h.cell d i j a b c), fun d i j a b c => (World.frozen?_of_block (a := ⟨g, _, none⟩) hb).trans (h.froz d i j a b c)⟩
theorem rMarkU_any {w : World} {g : Nat} {vr : Value} {U : Un → Bool} (h : SnW w g vr (snU U)) (v : Un) (hv : inG v) :
  Calls Tryz.prog 81 #[.pointer (some ⟨g, 0, none⟩), .agg #[.int .i64 v.1.1, .int .i64 v.1.2], .int .i64 (wyN v.2)] w fun e w' => e = .returned (.bool (!(U v))) ∧ SnW w' g vr (snU (addU U v)) ∧ w.grownBy w' (some g) := by
 obtain ⟨⟨h1, h2⟩, h3, h4⟩ := hv
 obtain ⟨i, hi⟩ : ∃ i : Nat, v.1.1 = (i : Int) - 70 := ⟨(v.1.1 + 70).toNat, by omega⟩
 obtain ⟨j, hj⟩ : ∃ j : Nat, v.1.2 = (j : Int) - 70 := ⟨(v.1.2 + 70).toNat, by omega⟩
 have hm := rMark13_any h (wyK v.2) i j (wyK_lt v.2) (by omega) (by omega)
 rw [← hi, ← hj, ← wyK_N] at hm
 refine hm.mono ?_
 rintro e w' ⟨rfl, h5, h6⟩
 refine ⟨?_, SnW.add hi hj h5, h6⟩
 have : snU U (wyK v.2) i j = U v := by
  unfold snU
  rw [← hi, ← hj, wyOf_K]
 rw [this]
open Classical in
noncomputable def idxU (S : Cs) (u : Un) (n : Nat) (z : Un) : Nat := if h : ∃ k, k < n ∧ itU S u k = z then h.choose else n
theorem idxU_eq {S : Cs} {u : Un} {n k : Nat} (hc : Cyc S u n) (hk : k < n) : idxU S u n (itU S u k) = k := by
 have h : ∃ j, j < n ∧ itU S u j = itU S u k := ⟨k, hk, rfl⟩
 unfold idxU
 rw [dif_pos h]
 obtain ⟨h1, h2⟩ := h.choose_spec
 rcases Nat.lt_trichotomy h.choose k with h3 | h3 | h3
 ·exact absurd h2 (hc.apart _ _ h3 hk)
 ·exact h3
 ·exact absurd h2.symm (hc.apart _ _ h3 h1)
def intC (W : World) (g o : Nat) : Int := match W.cell? ⟨g, o, none⟩ with
 | some v => intOf v
 | none => 0
theorem grownO_trans {w a b : World} {row row2 : Option Nat} (h1 : w.grownBy a row) (h2 : a.grownBy b row2) (h : ∀ k, k < w.heap.size → some k ≠ row → some k ≠ row2) : w.grownBy b row :=
 ⟨h2.os.trans h1.os, h2.tape.trans h1.tape, h2.output.trans h1.output, Nat.le_trans h1.size h2.size, fun k hk hne => (h2.block k (Nat.lt_of_lt_of_le hk h1.size) (h k hk hne)).trans (h1.block k hk hne)⟩
theorem grownO_below {w a : World} (hb : Below w.heap.size w a) (row : Option Nat) : w.grownBy a row := ⟨hb.os, hb.tape, hb.output, hb.size, fun k hk _ => hb.block k hk⟩
structure LpI (w wr : World) (g : Nat) (vr : Value) (U : Un → Bool) (p : Pt) (vo : Value) (O : List Pt) : Prop where
 gr : w.grownBy wr (some g)
 sn : SnW wr g vr (snU U)
 bx : BxF wr w.heap.size p.1 p.2
 out : wr.ownsRow (w.heap.size + 1) 53 2 vo O.length (O.flatMap encS)
section
variable {w wr w2 : World} {g : Nat} {vr vo v2 : Value} {U U' : Un → Bool} {p q : Pt} {O O' : List Pt}
theorem LpI.size (h : LpI w wr g vr U p vo O) : w.heap.size + 1 ≤ wr.heap.size := h.bx.lt
theorem LpI.low (h : LpI w wr g vr U p vo O) (hgw : g < w.heap.size) : Below g w wr := ⟨h.gr.os, h.gr.tape, h.gr.output, h.gr.size, fun k hk => h.gr.block k (by omega) (fun e => by injection e with e; omega)⟩
theorem LpI.below (h : LpI w wr g vr U p vo O) (hb : Below wr.heap.size wr w2) : LpI w w2 g vr U p vo O :=
 ⟨grownO_trans h.gr (grownO_below hb none) (fun _ _ _ => by simp), h.sn.below hb, h.bx.kept (grownO_below hb none) (by simp), own_below h.out hb⟩
theorem LpI.mark (h : LpI w wr g vr U p vo O) (hgw : g < w.heap.size) (hs : SnW w2 g vr (snU U')) (hg : wr.grownBy w2 (some g)) : LpI w w2 g vr U' p vo O :=
 ⟨grownO_trans h.gr hg (fun _ _ h => h), hs, h.bx.kept hg (fun e => by injection e with e; omega), h.out.kept hg (.inr fun e => by have := (h.out.lt g e).1; omega)⟩
theorem LpI.point (h : LpI w wr g vr U p vo O) (hgw : g < w.heap.size) (a b : Int) : LpI w ((wr.setCell ⟨w.heap.size, 0, none⟩ (.int .i64 a)).setCell ⟨w.heap.size, 1, none⟩ (.int .i64 b)) g vr U (a, b) vo O :=
 have hg := grown_two (W := wr) (g := w.heap.size) (.int .i64 a) (.int .i64 b)
 ⟨grownO_trans h.gr hg (fun k hk _ e => by injection e with e; omega), h.sn.kept hg (fun e => by injection e with e; omega), h.bx.set a b, h.out.kept hg (.inr fun e => by have := (h.out.lt _ e).1; omega)⟩
theorem LpI.push (h : LpI w wr g vr U p vo O) (hgw : g < w.heap.size) {n : Nat} (hg : wr.grownBy w2 vo.ownBlock) (ho : w2.ownsRow (w.heap.size + 1) 53 2 v2 n (O'.flatMap encS)) : LpI w w2 g vr U p v2 O' := by
 have hn := own_len (k := 2) ho (fun _ => rfl) (by omega)
 subst hn
 exact ⟨grownO_trans h.gr hg (fun k hk _ e => by have := (h.out.lt k e.symm).1; omega), h.sn.kept hg (fun e => by have := (h.out.lt g e).1; omega), h.bx.kept hg (fun e => by have := (h.out.lt _ e).1; omega), ho⟩
theorem LpI.key (h : LpI w wr g vr U p vo O) : (intC wr w.heap.size 0, intC wr w.heap.size 1) = p := by
 unfold intC
 rw [h.bx.c0, h.bx.c1]
 rfl
end
end Go.Proofs.YtdfpbhlnlkjjlaaGreat
