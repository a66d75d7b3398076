/- Small words that every walk of this seat uses. -/
import Derived.Test.YtamnaojheecopaaRows
import Derived.WalkKit
import Derived.WalkSpells
import Derived.WalkLawsBesides
import Derived.Deep.QuietTactic
import Derived.BigQuiet
import Derived.IntWalk
import Derived.Lib.Hide
import Derived.Deep.RegionHeld3
import Derived.Outline
namespace Go.Proofs.Ytamnaojheecopaa
open Go.RowKit
set_option linter.unusedVariables false
set_option linter.unusedSimpArgs false

theorem bcell {W w1 : World} (hb : Below W.heap.size W w1) : (∀ b o, b < W.heap.size → w1.cell? ⟨b, o, none⟩ = W.cell? ⟨b, o, none⟩) ∧ (∀ b o, b < W.heap.size → w1.frozen? ⟨b, o, none⟩ = W.frozen? ⟨b, o, none⟩) :=
  ⟨fun b o h => hb.cell (p := ⟨b, o, none⟩) h, fun b o h => hb.frozen (p := ⟨b, o, none⟩) h⟩
theorem ret_eq {a b : Value} (h : a = b) : Ending.returned a = .returned b := by rw [h]
theorem ret2_eq {a b c d : Value} (h1 : a = c) (h2 : b = d) : Ending.returned (.tuple #[a, b]) = .returned (.tuple #[c, d]) := by rw [h1, h2]
theorem ret3_eq {a b c a' b' c' : Value} (h1 : a = a') (h2 : b = b') (h3 : c = c') : Ending.returned (.tuple #[a, b, c]) = .returned (.tuple #[a', b', c']) := by rw [h1, h2, h3]
theorem int_eq {k : IntKind} {a b : Int} (h : a = b) : Value.int k a = Value.int k b := by rw [h]
theorem bool_eq {a b : Bool} (h : a = b) : Value.bool a = Value.bool b := by rw [h]
theorem hide {p : Prop} (h : p) : Hid p := h

/-! A region that draws its order, whose operations read and call, and whose callees may make memory: one walk, over the class of all worlds that keep what lay in w. -/
structure Above (w : World) where
  get : World
  keeps : Below w.heap.size w get
instance {w : World} : Nonempty (Above w) := ⟨⟨w, Below.refl _ _⟩⟩
theorem above_cell {w : World} (x : Above w) {b : Nat} (o : Nat) (h : b < w.heap.size) : x.get.cell? ⟨b, o, none⟩ = w.cell? ⟨b, o, none⟩ := x.keeps.cell (p := ⟨b, o, none⟩) h
theorem wp_hab {P : Program} {c : Code} {Q : Exit → Act → World → Prop} {a : Act} {W : World} (h : (∀ (x : Above W) (b o : Nat), b < W.heap.size → x.get.cell? ⟨b, o, none⟩ = W.cell? ⟨b, o, none⟩) → c.wp P Q a W) : c.wp P Q a W :=
  h fun x _ o hb => above_cell x o hb
theorem wp_name {P : Program} {c : Code} {Q : Exit → Act → World → Prop} {a : Act} {W : World} (h : ∀ w, w = W → c.wp P Q a w) : c.wp P Q a W := h W rfl
theorem above_var {w : World} (x : Above w) : w.heap.size ≤ x.get.heap.size := x.keeps.size
theorem wp_region_above {P : Program} {id : Nat} {Q : Exit → Act → World → Prop} {a : Act} {w : World} {l : List Oper} (hm : P.follows .mixedOrders = true) (hB : Region.lexB .any l.toArray = true)
    (h : wpQuiet P l.toArray (fun w' => ∃ x : Above w, w' = x.get) (fun a' => ∀ w', (∃ x : Above w, w' = x.get) → Q .normal a' w') l a) : (Code.region id l.toArray true).wp P Q a w :=
  wp_region_quiet (C := fun w' => ∃ x : Above w, w' = x.get) hm hB ⟨⟨w.drew, (Below.refl _ _).drew⟩, rfl⟩ (by simpa using h)
theorem above_ends {w : World} {Q : World → Prop} (h : ∀ w', Below w.heap.size w w' → Q w') : ∀ w', (∃ x : Above w, w' = x.get) → Q w' := fun w' ⟨x, hx⟩ => h w' (hx ▸ x.keeps)
theorem above_of {P : Program} {f : FuncId} {args : Array Value} {w : World} {x : Above w} {v : Value}
    (h : Calls P f args x.get fun e w' => e = .returned v ∧ Below x.get.heap.size x.get w') : Calls P f args x.get fun e w'' => e = .returned v ∧ ∃ y : Above w, w'' = y.get :=
  h.mono fun _ w'' ⟨he, hb⟩ => ⟨he, ⟨w'', x.keeps.trans (hb.mono x.keeps.size)⟩, rfl⟩
theorem above_same {P : Program} {f : FuncId} {args : Array Value} {w : World} {x : Above w} {v : Value}
    (h : Calls P f args x.get fun e w' => e = .returned v ∧ x.get = w') : Calls P f args x.get fun e w'' => e = .returned v ∧ ∃ y : Above w, w'' = y.get :=
  h.mono fun _ _ ⟨he, hb⟩ => ⟨he, x, hb.symm⟩
end Go.Proofs.Ytamnaojheecopaa
