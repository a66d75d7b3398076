/- slices.Values at span.end: the library's iterator over a slice, by its contract. -/
import Derived.Test.YtamnaojheecopaaRegA
import Derived.Test.YtamnaojheecopaaRd
import Derived.Test.YtamnaojheecopaaRange
namespace Go.Proofs.Ytamnaojheecopaa
open Go.RowKit
set_option linter.unusedVariables false
set_option linter.unusedSimpArgs false
attribute [local go_sem] Oper.semAt_some

/-- What a round keeps for an iterator that reads block b. -/
def KpB (b : Nat) (A B : World) : Prop := ∀ o, B.cell? ⟨b, o, none⟩ = A.cell? ⟨b, o, none⟩
theorem KpB.trans {b : Nat} {A B C : World} (h : KpB b A B) (k : KpB b B C) : KpB b A C := fun o => (k o).trans (h o)

set_option maxHeartbeats 1000000 in
theorem values1_iter (Bx b off c : Nat) (xs : List En) (w0 : World) (hn : xs.length ≤ 1000000000) (A : Option Addr) (hBx : Bx < w0.heap.size) (hbox : w0.cell? ⟨Bx, 0, none⟩ = some (.slice A xs.length c))
    (hA : xs ≠ [] → A = some ⟨b, off, none⟩ ∧ b < w0.heap.size ∧ ∀ j x, xs[j]? = some x → ∀ i u, (encE x)[i]? = some u → w0.cell? ⟨b, off + j * 3 + i, none⟩ = some u) :
    Iter Try.prog 113 #[.pointer (some ⟨Bx, 0, none⟩)] xs (fun x args _ => args = #[.agg (encE x).toArray]) (KpB b) w0 := by
  intro l J Jx W hW hJ hY h0
  have hboxW : W.cell? ⟨Bx, 0, none⟩ = some (.slice A xs.length c) := (hW.cell (p := ⟨Bx, 0, none⟩) hBx).trans hbox
  refine callsIn_of_wp Try.func113 rfl trivial ?_
  simp only [Try.ntmps113, List.size_toArray, List.length_cons, List.length_nil, Nat.reduceAdd, Nat.reduceSub, Array.replicate_succ, Array.replicate_zero, List.push_toArray, List.append_toArray, List.nil_append, List.cons_append]
  clear hbox
  gi_wp2
  gi_loopw [4, 7] (fun _ p wr => ∃ k : Nat, k ≤ xs.length ∧ p = .int .i64 k ∧ Hid (J (xs.take k) wr) ∧ Hid (xs ≠ [] → ∀ o, wr.cell? ⟨b, o, none⟩ = w0.cell? ⟨b, o, none⟩)) (fun _ p _ => xs.length - (intOf p).toNat)
  case atStart => exact ⟨0, Nat.zero_le _, rfl, hide (by simpa using h0), hide fun hx o => hW.cell (p := ⟨b, o, none⟩) (hA hx).2.1⟩
  case round =>
    obtain ⟨k, hk, rfl, HJ, HC⟩ := hrel
    by_cases hlt : k < xs.length
    · have hltz : (k : Int) < (xs.length : Int) := by omega
      have hne : xs ≠ [] := by intro e; rw [e] at hlt; simp at hlt
      obtain ⟨rfl, hb, hcell⟩ := hA hne
      have hx : xs[k]? = some xs[k] := List.getElem?_eq_getElem hlt
      obtain ⟨x, hxe⟩ : ∃ x, xs[k] = x := ⟨_, rfl⟩
      rw [hxe] at hx
      have c0 : wr.cell? ⟨b, off + k * 3, none⟩ = some (.int .i64 x.1) := (HC.out hne _).trans (hcell k x hx 0 _ rfl)
      have c1 : wr.cell? ⟨b, off + k * 3 + 1, none⟩ = some (.int .i64 x.2.1) := (HC.out hne _).trans (hcell k x hx 1 _ rfl)
      have c2 : wr.cell? ⟨b, off + k * 3 + 2, none⟩ = some (.int .i64 x.2.2) := (HC.out hne _).trans (hcell k x hx 2 _ rfl)
      have hfi : xs.take (k + 1) = xs.take k ++ [x] := by rw [List.take_succ_eq_append_getElem hlt, hxe]
      have hpost : ∃ post, xs = xs.take k ++ x :: post := ⟨xs.drop (k + 1), by rw [← hxe, ← List.drop_eq_getElem_cons hlt, List.take_append_drop]⟩
      have hJ2 := hJ _ _ (wr.alloc (.cells #[.int .i64 x.1, .int .i64 x.2.1, .int .i64 x.2.2] 123)) HJ.out ((Below.refl _ _).alloc (Nat.le_refl _) _)
      have hkp : ∀ o, (wr.alloc (.cells #[.int .i64 x.1, .int .i64 x.2.1, .int .i64 x.2.2] 123)).cell? ⟨b, o, none⟩ = wr.cell? ⟨b, o, none⟩ := fun o => World.cell?_alloc_lt wr _ ⟨b, o, none⟩ (lt_of_cell c0)
      obtain ⟨fn, tmps, assign, body, hy, hR⟩ := hY (xs.take k) x #[.agg #[.int .i64 x.1, .int .i64 x.2.1, .int .i64 x.2.2]] _ hJ2 hpost rfl
      have FI := hide hfi
      have HKP := hide hkp
      clear hx hxe hfi hcell hpost hJ hY h0 hA hkp
      gi_wp2
      refine ⟨rfl, hR.mono ?_⟩
      rintro e W3 (⟨rfl, hJ3, hk3⟩ | ⟨rfl, hJx3⟩)
      · gi_wp2
        go_roundw
        case rel =>
          exact ⟨k + 1, by omega, by go_num, hide (by rw [FI.out]; exact hJ3), hide fun hx o => ((hk3 o).trans (HKP.out o)).trans (HC.out hx o)⟩
        case measure => simp [intOf]; omega
      · gi_wp2
        refine bodyPost_ret (results_none rfl _ _ _) rfl ?_
        exact ⟨⟨_, rfl⟩, .inr ⟨_, hJx3⟩⟩
    · have hltz : ¬ (k : Int) < (xs.length : Int) := by omega
      have hk' : xs.take k = xs := List.take_of_length_le (by omega)
      have HK := hide hk'
      clear hk' hJ hY h0 hA
      gi_wp2
      go_end0
      exact ⟨⟨_, rfl⟩, .inl (by have := HJ.out; rw [HK.out] at this; exact this)⟩

set_option maxHeartbeats 400000 in
/-- slices.Values itself: it boxes the slice, and hands back the iterator. -/
theorem values_any (v : Value) (w : World) (hv : v.oneCell' = true) :
    Calls Try.prog 105 #[v] w fun e w' => e = .returned (.func (.func 113) #[] #[.pointer (some ⟨w.heap.size, 0, none⟩)]) ∧ w.alloc (.cells #[v] 137) = w' := by
  go_enter Try.func105, Try.ntmps105
  go_wp2
  go_ret
  exact ⟨rfl, rfl⟩
end Go.Proofs.Ytamnaojheecopaa
