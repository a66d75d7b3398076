/- The walk of the law LotsFronts. -/
import Derived.Test.YtabogapiecciiaaPk8
namespace Go.Proofs.Ytabogapiecciiaa
open Go.RowKit
set_option linter.unusedVariables false
set_option linter.unusedSimpArgs false

/-- A rectangle and a parcel, each in a box of its own. -/
structure BoxRQ (n : Nat) (w : World) (r : R4) (x : Par6) (wr : World) : Prop where
  d0 : wr.cell? ⟨n, 0, none⟩ = some (.int .i64 r.x0)
  d1 : wr.cell? ⟨n, 1, none⟩ = some (.int .i64 r.y0)
  d2 : wr.cell? ⟨n, 2, none⟩ = some (.int .i64 r.x1)
  d3 : wr.cell? ⟨n, 3, none⟩ = some (.int .i64 r.y1)
  e0 : wr.cell? ⟨n + 1, 0, none⟩ = some (.int .i64 x.b)
  e1 : wr.cell? ⟨n + 1, 1, none⟩ = some (.int .i64 x.l.r.x0)
  e2 : wr.cell? ⟨n + 1, 2, none⟩ = some (.int .i64 x.l.r.y0)
  e3 : wr.cell? ⟨n + 1, 3, none⟩ = some (.int .i64 x.l.r.x1)
  e4 : wr.cell? ⟨n + 1, 4, none⟩ = some (.int .i64 x.l.r.y1)
  e5 : wr.cell? ⟨n + 1, 5, none⟩ = some (.int .u8 x.l.f)
  below : Below n w wr
  size : n + 2 ≤ wr.heap.size
theorem BoxRQ.keep {n : Nat} {w wr w' : World} {r : R4} {x : Par6} (h : BoxRQ n w r x wr) (hb : Below wr.heap.size wr w') : BoxRQ n w r x w' := by
  have hs := h.size
  have k : ∀ b o, b < n + 2 → w'.cell? ⟨b, o, none⟩ = wr.cell? ⟨b, o, none⟩ := fun b o hlt => hb.cell (p := ⟨b, o, none⟩) (by show b < _; omega)
  exact ⟨(k _ _ (by omega)).trans h.d0, (k _ _ (by omega)).trans h.d1, (k _ _ (by omega)).trans h.d2, (k _ _ (by omega)).trans h.d3, (k _ _ (by omega)).trans h.e0, (k _ _ (by omega)).trans h.e1, (k _ _ (by omega)).trans h.e2, (k _ _ (by omega)).trans h.e3, (k _ _ (by omega)).trans h.e4, (k _ _ (by omega)).trans h.e5, h.below.trans (hb.mono (by omega)), Nat.le_trans hs hb.size⟩
set_option maxRecDepth 100000 in
set_option maxHeartbeats 4000000 in
theorem fronts36_walk {w : World} {v : Value} {s : List R4} (hs : RdK encR 4 w w.heap.size v s) (r : R4) (x : Par6) (hf : 0 ≤ x.l.f ∧ x.l.f ≤ 255) (hn : s.length ≤ maxLen) :
    Calls Try.prog 3 #[.agg (encR r).toArray, .agg (encQ x).toArray, v] w fun e w' => e = .returned (.bool true) ∧ Below w.heap.size w w' := by
  have HW : Hid (BoxRQ w.heap.size w r x ((w.alloc (.cells #[.int .i64 r.x0, .int .i64 r.y0, .int .i64 r.x1, .int .i64 r.y1] 23)).alloc (.cells #[.int .i64 x.b, .int .i64 x.l.r.x0, .int .i64 x.l.r.y0, .int .i64 x.l.r.x1, .int .i64 x.l.r.y1, .int .u8 x.l.f] 27))) := hide (by
    refine ⟨?_, ?_, ?_, ?_, ?_, ?_, ?_, ?_, ?_, ?_, ?_, ?_⟩
    all_goals first
      | (simp [go_sem]; done)
      | exact ((Below.refl _ _).alloc (Nat.le_refl _) _).alloc (by simp) _
      | (simp; omega))
  generalize hW : (w.alloc (.cells #[.int .i64 r.x0, .int .i64 r.y0, .int .i64 r.x1, .int .i64 r.y1] 23)).alloc (.cells #[.int .i64 x.b, .int .i64 x.l.r.x0, .int .i64 x.l.r.y0, .int .i64 x.l.r.x1, .int .i64 x.l.r.y1, .int .u8 x.l.f] 27) = W at *
  have HG : Hid (∀ W : World, Below w.heap.size w W → Calls Try.prog 5 #[.slice none 0 0, v] W fun e w' => GreatRet [] s.length e ∧ Below W.heap.size W w') := hide (fun W hW => by
    obtain ⟨A, c, rfl, _⟩ := hs
    exact rGreatB_any (bs := []) ⟨none, 0, rfl, fun h => absurd rfl h⟩ (Nat.zero_le _) (by simp) A s.length c hn)
  have HF1 : Hid (s.length ≤ 420 → ∀ W : World, Below w.heap.size w W → Calls Try.prog 6 #[.agg #[.int .i64 r.x0, .int .i64 r.y0, .int .i64 r.x1, .int .i64 r.y1], v] W fun e w' => e = .returned (.tuple #[.int .u8 (frontsF r s).1, .int .i64 (frontsF r s).2]) ∧ Below W.heap.size W w') := hide (fun h W hW => lFronts_any r ((hs.below hW).mono hW.size) (by omega))
  have HF2 : Hid (s.length ≤ 420 → ∀ W : World, Below w.heap.size w W → Calls Try.prog 7 #[.agg #[.int .i64 r.x0, .int .i64 r.y0, .int .i64 r.x1, .int .i64 r.y1], v] W fun e w' => e = .returned (.tuple #[.int .u8 (frontsF r s).1, .int .i64 (frontsF r s).2]) ∧ Below W.heap.size W w') := hide (fun h W hW => rFronts_any r ((hs.below hW).mono hW.size) (by omega))
  have HR1 : Hid (s.length ≤ 420 → ∀ W : World, Below w.heap.size w W → Calls Try.prog 8 #[.agg #[.int .i64 x.b, .int .i64 x.l.r.x0, .int .i64 x.l.r.y0, .int .i64 x.l.r.x1, .int .i64 x.l.r.y1, .int .u8 x.l.f], v] W fun e w' => e = .returned (.tuple #[.int .i64 (reachedF x.l s).1, .int .i64 (reachedF x.l s).2]) ∧ Below W.heap.size W w') := hide (fun h W hW => lReached_any x hf ((hs.below hW).mono hW.size) (by omega))
  have HR2 : Hid (s.length ≤ 420 → ∀ W : World, Below w.heap.size w W → Calls Try.prog 9 #[.agg #[.int .i64 x.b, .int .i64 x.l.r.x0, .int .i64 x.l.r.y0, .int .i64 x.l.r.x1, .int .i64 x.l.r.y1, .int .u8 x.l.f], v] W fun e w' => e = .returned (.tuple #[.int .i64 (reachedF x.l s).1, .int .i64 (reachedF x.l s).2]) ∧ Below W.heap.size W w') := hide (fun h W hW => rReached_any x hf ((hs.below hW).mono hW.size) (by omega))
  obtain ⟨As, cs, rfl, _⟩ := hs
  clear hf hn
  generalize frontsF r s = FF at *
  generalize reachedF x.l s = RR at *
  generalize hn : w.heap.size = n at *
  have HN := hide hn
  show Calls Try.prog _ #[.agg #[.int .i64 r.x0, .int .i64 r.y0, .int .i64 r.x1, .int .i64 r.y1], .agg #[.int .i64 x.b, .int .i64 x.l.r.x0, .int .i64 x.l.r.y0, .int .i64 x.l.r.x1, .int .i64 x.l.r.y1, .int .u8 x.l.f], .slice As s.length cs] w _
  go_enter Try.func3, Try.ntmps3
  go_wp2_with (fail)
  refine (HG.out _ HW.out.below).mono ?_
  rintro e w1 ⟨⟨g, rfl, hg⟩, hb⟩
  have H1 := hide (HW.out.keep hb)
  clear hb hW hn HW HG
  cases g with
  | true =>
    clear hg
    have HB := hide H1.out.below
    go_wp2_with (fail)
    go_ret
    exact ⟨rfl, HB.out⟩
  | false =>
    have h4 := (hg rfl).2.2
    have G1 := hide (HF1.out h4)
    have G2 := hide (HF2.out h4)
    have G3 := hide (HR1.out h4)
    have G4 := hide (HR2.out h4)
    clear hg h4 HF1 HF2 HR1 HR2
    obtain ⟨d0, d1, d2, d3, e0, e1, e2, e3, e4, e5, -, -⟩ := id H1.out
    go_wp2_with (fail)
    refine (G1.out _ H1.out.below).mono ?_
    rintro e w2 ⟨rfl, hb⟩
    have H2 := hide (H1.out.keep hb)
    clear hb H1 G1 d0 d1 d2 d3 e0 e1 e2 e3 e4 e5
    obtain ⟨d0, d1, d2, d3, e0, e1, e2, e3, e4, e5, -, -⟩ := id H2.out
    go_wp2_with (fail)
    refine (G2.out _ H2.out.below).mono ?_
    rintro e w3 ⟨rfl, hb⟩
    have H3 := hide (H2.out.keep hb)
    clear hb H2 G2 d0 d1 d2 d3 e0 e1 e2 e3 e4 e5
    obtain ⟨d0, d1, d2, d3, e0, e1, e2, e3, e4, e5, -, -⟩ := id H3.out
    go_wp2_with (fail)
    refine (G3.out _ H3.out.below).mono ?_
    rintro e w4 ⟨rfl, hb⟩
    have H4 := hide (H3.out.keep hb)
    clear hb H3 G3 d0 d1 d2 d3 e0 e1 e2 e3 e4 e5
    obtain ⟨d0, d1, d2, d3, e0, e1, e2, e3, e4, e5, -, -⟩ := id H4.out
    go_wp2_with (fail)
    refine (G4.out _ H4.out.below).mono ?_
    rintro e w5 ⟨rfl, hb⟩
    have HB := hide (H4.out.keep hb).below
    clear hb H4 G4 d0 d1 d2 d3 e0 e1 e2 e3 e4 e5
    go_wp2_with (fail)
    go_ret
    exact ⟨by simp, HB.out⟩
end Go.Proofs.Ytabogapiecciiaa
