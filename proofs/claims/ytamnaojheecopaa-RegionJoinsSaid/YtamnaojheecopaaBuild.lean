/- region's builder: its cells, and 'result'. -/
import Derived.Test.YtamnaojheecopaaSpanB
import Derived.Test.YtamnaojheecopaaMBuild
import Derived.Test.YtamnaojheecopaaEqS
namespace Go.Proofs.Ytamnaojheecopaa
open Go.RowKit
set_option linter.unusedVariables false
set_option linter.unusedSimpArgs false

/-- The builder in block bb has put the slabs S together; its rows lie at or above Bo. -/
structure BW (bb Bo : Nat) (S : List Slab) (last : List Sp) (first : Nat) (e : Int) (W : World) : Prop where
  low : bb < Bo
  size : Bo ≤ W.heap.size
  out : ∃ vo, W.cell? ⟨bb, 0, none⟩ = some vo ∧ W.ownsRow Bo 43 4 vo (flat S).length ((flat S).flatMap encR)
  la : ∃ vl, W.cell? ⟨bb, 1, none⟩ = some vl ∧ W.ownsRow Bo 78 2 vl last.length (last.flatMap encS)
  fi : W.cell? ⟨bb, 2, none⟩ = some (.int .i64 first)
  en : W.cell? ⟨bb, 3, none⟩ = some (.int .i64 e)
  fz : ∀ j, W.frozen? ⟨bb, j, none⟩ = false
  inv : BInv S last first e

set_option maxHeartbeats 1000000 in
theorem result_any {bb Bo : Nat} {S : List Slab} {last : List Sp} {first : Nat} {e : Int} {w : World} (h : BW bb Bo S last first e w) (hn : (flat S).length ≤ 1000000000) :
    Calls Try.prog 67 #[.pointer (some ⟨bb, 0, none⟩)] w fun r w' => w = w' ∧
      ((400 < (flat S).length ∧ r = .returned (.tuple #[.slice none 0 0, .int .i64 4])) ∨ ((flat S).length ≤ 400 ∧ ∃ A c, r = .returned (.tuple #[.slice A (flat S).length c, .int .i64 0]) ∧ w.ownsRow Bo 43 4 (.slice A (flat S).length c) (flat S).length ((flat S).flatMap encR))) := by
  obtain ⟨vo, h0, ho⟩ := h.out
  obtain ⟨A, c, hv, _⟩ := own_rd ho (fun _ => rfl)
  subst hv
  have HO := hide ho
  clear ho
  generalize (flat S).length = n at *
  by_cases h4 : 400 < n
  · have hz : (400 : Int) < (n : Int) := by omega
    go_enter Try.func67, Try.ntmps67
    go_wp2
    go_ret2
    exact ⟨rfl, .inl ⟨h4, rfl⟩⟩
  · have hz : (n : Int) ≤ 400 := by omega
    go_enter Try.func67, Try.ntmps67
    go_wp2
    go_ret2
    exact ⟨rfl, .inr ⟨by omega, A, c, rfl, HO.out⟩⟩
end Go.Proofs.Ytamnaojheecopaa
