/- A slice that reads as a list of structs (or of integers), nil let in. -/
import Derived.Test.YtamnaojheecopaaKit
import Derived.Deep.AppendLies
import Derived.Laws.OwnMore
import Derived.Maps.AppendAt
namespace Go.Proofs.Ytamnaojheecopaa
open Go.RowKit
set_option linter.unusedVariables false
set_option linter.unusedSimpArgs false

/-- The first place at which p holds, or -1. -/
def idxI {α : Type} (p : α → Bool) (l : List α) : Int := if l.any p then ((l.findIdx p : Nat) : Int) else -1
/-- The slice v reads as the list l, each element being k cells; its cells lie below block B. -/
def RdK {α : Type} (enc : α → List Value) (k : Nat) (w : World) (B : Nat) (v : Value) (l : List α) : Prop :=
  ∃ A c, v = .slice A l.length c ∧ (l ≠ [] → ∃ b off, A = some ⟨b, off, none⟩ ∧ b < B ∧ ∀ j x, l[j]? = some x → ∀ i u, (enc x)[i]? = some u → w.cell? ⟨b, off + j * k + i, none⟩ = some u)
section
variable {α : Type} {enc : α → List Value} {k : Nat} {w w' : World} {B B' : Nat} {v : Value} {l : List α}
theorem RdK.keep (h : RdK enc k w B v l) (hk : ∀ b o, b < B → w'.cell? ⟨b, o, none⟩ = w.cell? ⟨b, o, none⟩) : RdK enc k w' B v l := by
  obtain ⟨A, c, hv, h⟩ := h
  refine ⟨A, c, hv, fun hl => ?_⟩
  obtain ⟨b, off, hA, hb, hc⟩ := h hl
  exact ⟨b, off, hA, hb, fun j x hx i u hu => (hk b _ hb).trans (hc j x hx i u hu)⟩
theorem RdK.mono (h : RdK enc k w B v l) (hB : B ≤ B') : RdK enc k w B' v l := by
  obtain ⟨A, c, hv, h⟩ := h
  refine ⟨A, c, hv, fun hl => ?_⟩
  obtain ⟨b, off, hA, hb, hc⟩ := h hl
  exact ⟨b, off, hA, by omega, hc⟩
theorem RdK.below (h : RdK enc k w B v l) (hb : Below B w w') : RdK enc k w' B v l := h.keep fun b o hlt => hb.cell (p := ⟨b, o, none⟩) hlt
theorem RdK.nil (A : Option Addr) (c : Nat) : RdK enc k w B (.slice A 0 c) ([] : List α) := ⟨A, c, rfl, fun h => absurd rfl h⟩
end
end Go.Proofs.Ytamnaojheecopaa
