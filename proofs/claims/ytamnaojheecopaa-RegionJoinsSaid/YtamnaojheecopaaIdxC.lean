/- slices.IndexFunc and slices.ContainsFunc at the program's structs. -/
import Derived.Test.YtamnaojheecopaaRegA
import Derived.Test.YtamnaojheecopaaRd
import Derived.Deep.LoopGhost
import Derived.Shelf.Abstract
namespace Go.Proofs.Ytamnaojheecopaa
open Go.RowKit Go.Shelf
set_option linter.unusedVariables false
set_option linter.unusedSimpArgs false

set_option maxHeartbeats 1000000 in
/-- slices.IndexFunc here: the first place at which p holds, or -1. -/
theorem cfSpan_idx {w : World} {v : Value} {l : List Sp} (h : RdK encS 2 w w.heap.size v l) (hl : l.length ≤ 1000000000) (g : Nat) (lb : Array Value) (p : Sp → Bool)
    (eg : ∀ args w, (callFunc g args).run Try.prog w = .ok (.enter g args) w)
    (hp : ∀ (W : World) (x : Sp), x ∈ l → Below w.heap.size w W → Calls Try.prog g (#[.agg (encS x).toArray] ++ lb) W fun e w' => e = .returned (.bool (p x)) ∧ Below W.heap.size W w') :
    Calls Try.prog 89 #[v, .func (.func g) #[] lb] w fun e w' => e = .returned (.int .i64 (idxI p l)) ∧ Below w.heap.size w w' := by
  obtain ⟨A, c, rfl, hc⟩ := h
  go_enter Try.func89, Try.ntmps89
  go_wp2
  go_loopg [5, 8] l.length (fun gg _ s8 wr => ∃ kk : Nat, kk ≤ l.length ∧ l.length - kk ≤ gg ∧ s8 = .int .i64 kk ∧ Hid (Below w.heap.size w wr) ∧ Hid (∀ x ∈ l.take kk, p x = false))
  case atStart => exact ⟨0, Nat.zero_le _, by omega, rfl, hide (Below.refl _ w), hide (by simp)⟩
  case round =>
    obtain ⟨kk, hkk, hg, rfl, BW, A'⟩ := hrel
    by_cases hlt : kk < l.length
    · have hltz : (kk : Int) < (l.length : Int) := by omega
      obtain ⟨b, off, rfl, hb, hcell⟩ := hc (by intro e; rw [e] at hlt; simp at hlt)
      have hx : l[kk]? = some l[kk] := List.getElem?_eq_getElem hlt
      have hcall := hp wr l[kk] (List.getElem_mem hlt) BW.out
      have hfi : l.take (kk + 1) = l.take kk ++ [l[kk]] := List.take_succ_eq_append_getElem hlt
      have c0 : wr.cell? ⟨b, off + kk * 2, none⟩ = some (.int .i64 l[kk].1) := (BW.out.cell (p := ⟨b, off + kk * 2, none⟩) hb).trans (hcell kk _ hx 0 _ rfl)
      have c1 : wr.cell? ⟨b, off + kk * 2 + 1, none⟩ = some (.int .i64 l[kk].2) := (BW.out.cell (p := ⟨b, off + kk * 2 + 1, none⟩) hb).trans (hcell kk _ hx 1 _ rfl)
      clear hc hcell hp
      obtain ⟨x, hxe⟩ : ∃ x, l[kk] = x := ⟨_, rfl⟩
      have XE := hide hxe
      have FI := hide hfi
      rw [hxe] at hcall c0 c1
      clear hx hxe hfi
      cases hq : p x with
      | true =>
        have HQ := hide hq
        rw [hq] at hcall
        clear hq
        go_wp2_with (go_at_fn g; refine hcall.mono ?_; rintro e w' ⟨rfl, hb'⟩)
        go_ret
        refine ⟨ret_eq (int_eq ?_), BW.out.trans (hb'.mono BW.out.size)⟩
        have hxl : p l[kk] = true := by rw [XE.out]; exact HQ.out
        unfold idxI
        rw [if_pos (List.any_eq_true.2 ⟨l[kk], List.getElem_mem hlt, hxl⟩)]
        have : l.findIdx p = kk := by
          rw [List.findIdx_eq hlt]
          refine ⟨hxl, fun j hj => ?_⟩
          have := A'.out l[j] (by rw [List.mem_take_iff_getElem]; exact ⟨j, by omega, rfl⟩)
          simpa using this
        rw [this]
      | false =>
        have HQ := hide hq
        rw [hq] at hcall
        clear hq
        go_wp2_with (go_at_fn g; refine hcall.mono ?_; rintro e w' ⟨rfl, hb'⟩)
        go_roundg (l.length - (kk + 1))
        case measure => omega
        case rel =>
          refine ⟨kk + 1, by omega, by omega, by go_num, hide (BW.out.trans (hb'.mono BW.out.size)), hide fun y hy => ?_⟩
          rw [FI.out, List.mem_append] at hy
          rcases hy with hy | hy
          · exact A'.out y hy
          · simp only [List.mem_singleton] at hy
            rw [hy, XE.out]; exact HQ.out
    · have hltz : ¬ (kk : Int) < (l.length : Int) := by omega
      have hk : kk = l.length := by omega
      go_wp2
      go_ret
      refine ⟨ret_eq (int_eq ?_), BW.out⟩
      have hA := A'.out
      rw [hk, List.take_length] at hA
      unfold idxI
      rw [if_neg (by rw [List.any_eq_true]; rintro ⟨y, hy, hpy⟩; rw [hA y hy] at hpy; cases hpy)]

set_option maxHeartbeats 400000 in
/-- slices.ContainsFunc here. -/
theorem cfSpan_any {w : World} {v : Value} {l : List Sp} (h : RdK encS 2 w w.heap.size v l) (hl : l.length ≤ 1000000000) (g : Nat) (lb : Array Value) (p : Sp → Bool)
    (eg : ∀ args w, (callFunc g args).run Try.prog w = .ok (.enter g args) w)
    (hp : ∀ (W : World) (x : Sp), x ∈ l → Below w.heap.size w W → Calls Try.prog g (#[.agg (encS x).toArray] ++ lb) W fun e w' => e = .returned (.bool (p x)) ∧ Below W.heap.size W w') :
    Calls Try.prog 79 #[v, .func (.func g) #[] lb] w fun e w' => e = .returned (.bool (l.any p)) ∧ Below w.heap.size w w' := by
  have hi := cfSpan_idx h hl g lb p eg hp
  obtain ⟨A, c, rfl, hc⟩ := h
  clear hp hc eg
  cases ha : l.any p with
  | true =>
    simp only [idxI, ha, if_true] at hi
    clear ha
    obtain ⟨n, hn⟩ : ∃ n, l.findIdx p = n := ⟨_, rfl⟩
    rw [hn] at hi
    clear hn
    have hn0 : decide ((0 : Int) ≤ (n : Int)) = true := by simp
    go_enter Try.func79, Try.ntmps79
    go_wp2_with (go_at_call 89; refine hi.mono ?_; rintro e w1 ⟨rfl, hb1⟩)
    go_ret
    exact ⟨rfl, hb1⟩
  | false =>
    simp only [idxI, ha, Bool.false_eq_true, if_false] at hi
    clear ha
    go_enter Try.func79, Try.ntmps79
    go_wp2_with (go_at_call 89; refine hi.mono ?_; rintro e w1 ⟨rfl, hb1⟩)
    go_ret
    exact ⟨rfl, hb1⟩
end Go.Proofs.Ytamnaojheecopaa
