/- The walk of TextureTiles. -/
import Derived.Test.YtlkaniojnaaocaaPk8
import Derived.Test.YtlkaniojnaaocaaPk10
import Derived.Test.YtlkaniojnaaocaaPk6
namespace Go.Proofs.Ytlkaniojnaaocaa
open Go.RowKit
set_option linter.unusedVariables false
set_option linter.unusedSimpArgs false

set_option maxRecDepth 100000 in
set_option maxHeartbeats 8000000 in
theorem tiles_walk {w : World} {v : Value} {l : List R4} (hr : RdK encR 4 w w.heap.size v l) (hl : l.length ≤ maxLen) (W H S : Int) :
    Calls Try.prog 4 #[v, .agg #[.int .i64 W, .int .i64 H, .int .i64 S]] w fun e w' => e = .returned (.bool true) ∧ Below w.heap.size w w' := by
  unfold maxLen at hl
  obtain ⟨A0, c0, rfl, _⟩ := id hr
  have HT := hide (T1.start w W H S)
  have HR := hide ((hr.below HT.out.low).mono HT.out.low.size)
  have K := hide HT.out.low
  clear hr
  go_enter Try.func4, Try.ntmps4
  obtain ⟨-, -, p0, p1, p2⟩ := HT.out
  go_wp2_with (fail)
  refine (near12_any HR.out (by unfold maxLen; exact hl)).mono ?_
  rintro e v1 (⟨rfl, hb⟩ | ⟨rfl, hN, hb⟩)
  · replace K := hide (K.out.trans (hb.mono K.out.size))
    replace HR := hide ((HR.out.below hb).mono hb.size)
    replace HT := hide (HT.out.keep hb)
    clear hb p0 p1 p2
    go_wp2_with (fail)
    go_ret
    exact ⟨rfl, K.out⟩
  · replace K := hide (K.out.trans (hb.mono K.out.size))
    replace HR := hide ((HR.out.below hb).mono hb.size)
    replace HT := hide (HT.out.keep hb)
    have hl2 : l.length ≤ 420 := by rcases hN with h | h; exact h.2; have := h.1; omega
    have hn : checkF l = 0 → ∀ r ∈ l, near4 30 r := fun h0 => by
      rcases hN with h | h
      · have := (checkF_ok h0).1; omega
      · exact h.2
    have HN := hide hn
    have hbd : ∀ q ∈ (tileF W H S l).1, q.2.length ≤ 400 := fun q hq => (tileF_bd hq).2.2
    have HBD := hide hbd
    have hTl := tileF_len (W := W) (H := H) (S := S) (l := l)
    have G1 := hide (fun (w : World) (v : Value) (h : RdK encR 4 w w.heap.size v l) => tile_any h (by omega) W H S)
    have G2 := hide (fun (w : World) (v : Value) (h : RdK encR 4 w w.heap.size v l) => rtile_any h hl2 W H S HN.out)
    have G3 := hide (fun (w : World) (v : Value) (h : RdK encR 4 w w.heap.size v l) => tcount_any h (by omega) W H S)
    have G4 := hide (fun (w : World) (v : Value) (h : RdK encR 4 w w.heap.size v l) => rtcount_any h hl2 W H S HN.out)
    obtain ⟨⟨R, E⟩, hT⟩ : ∃ x, tileF W H S l = x := ⟨_, rfl⟩
    obtain ⟨⟨n1, n2, n3⟩, hC⟩ : ∃ x, countF W H S l = x := ⟨_, rfl⟩
    rw [hT] at G1 G2 HBD hTl
    rw [hC] at G3 G4
    simp only at HBD hTl
    clear hb hn hN hbd hT hC HN p0 p1 p2
    obtain ⟨-, -, p0, p1, p2⟩ := HT.out
    go_wp2_with (fail)
    refine (rTwin_any HR.out (by omega)).mono ?_
    rintro e v2 ⟨vo, rfl, ho, hb⟩
    clear p0 p1 p2
    replace K := hide (K.out.trans (hb.mono K.out.size))
    replace HR := hide ((HR.out.below hb).mono hb.size)
    replace HT := hide (HT.out.keep hb)
    have HOW := hide (own_rd (l := l) ho (fun _ => rfl))
    clear ho
    clear hb
    obtain ⟨-, -, p0, p1, p2⟩ := HT.out
    go_wp2_with (fail)
    refine (G1.out _ _ HOW.out).mono ?_
    rintro e v3 ⟨hpc, hb⟩
    clear p0 p1 p2
    replace K := hide (K.out.trans (hb.mono K.out.size))
    replace HR := hide ((HR.out.below hb).mono hb.size)
    replace HOW := hide ((HOW.out.below hb).mono hb.size)
    replace HT := hide (HT.out.keep hb)
    obtain ⟨xA, rfl, hA⟩ := pcs_rd hpc
    have HA := hide hA
    clear hpc hA
    clear hb
    obtain ⟨-, -, p0, p1, p2⟩ := HT.out
    go_wp2_with (fail)
    refine (G2.out _ _ HR.out).mono ?_
    rintro e v4 ⟨hpc, hb⟩
    clear p0 p1 p2
    replace K := hide (K.out.trans (hb.mono K.out.size))
    replace HR := hide ((HR.out.below hb).mono hb.size)
    replace HOW := hide ((HOW.out.below hb).mono hb.size)
    replace HA := hide ((HA.out.below hb).mono hb.size)
    replace HT := hide (HT.out.keep hb)
    obtain ⟨xB, rfl, hB⟩ := pcs_rd hpc
    have HB := hide hB
    clear hpc hB
    clear hb
    obtain ⟨-, -, p0, p1, p2⟩ := HT.out
    go_wp2_with (fail)
    refine (G3.out _ _ HOW.out).mono ?_
    rintro e v5 ⟨rfl, hb⟩
    clear p0 p1 p2
    replace K := hide (K.out.trans (hb.mono K.out.size))
    replace HR := hide ((HR.out.below hb).mono hb.size)
    replace HOW := hide ((HOW.out.below hb).mono hb.size)
    replace HA := hide ((HA.out.below hb).mono hb.size)
    replace HB := hide ((HB.out.below hb).mono hb.size)
    replace HT := hide (HT.out.keep hb)
    clear hb
    obtain ⟨-, -, p0, p1, p2⟩ := HT.out
    go_wp2_with (fail)
    refine (G4.out _ _ HR.out).mono ?_
    rintro e v6 ⟨rfl, hb⟩
    clear p0 p1 p2
    replace K := hide (K.out.trans (hb.mono K.out.size))
    replace HR := hide ((HR.out.below hb).mono hb.size)
    replace HOW := hide ((HOW.out.below hb).mono hb.size)
    replace HA := hide ((HA.out.below hb).mono hb.size)
    replace HB := hide ((HB.out.below hb).mono hb.size)
    replace HT := hide (HT.out.keep hb)
    clear hb
    clear G1 G2 G3 G4
    obtain ⟨-, -, p0, p1, p2⟩ := HT.out
    go_wp2_with (fail)
    refine (rSameT HA.out HB.out hTl HBD.out).mono ?_
    rintro e v7 ⟨rfl, hb⟩
    clear p0 p1 p2
    replace K := hide (K.out.trans (hb.mono K.out.size))
    replace HR := hide ((HR.out.below hb).mono hb.size)
    replace HOW := hide ((HOW.out.below hb).mono hb.size)
    replace HA := hide ((HA.out.below hb).mono hb.size)
    replace HB := hide ((HB.out.below hb).mono hb.size)
    replace HT := hide (HT.out.keep hb)
    clear hb
    obtain ⟨-, -, p0, p1, p2⟩ := HT.out
    go_wp2_with (fail)
    refine (rSameSelf HOW.out HR.out (by omega)).mono ?_
    rintro e v8 ⟨rfl, hb⟩
    clear p0 p1 p2
    replace K := hide (K.out.trans (hb.mono K.out.size))
    replace HR := hide ((HR.out.below hb).mono hb.size)
    replace HOW := hide ((HOW.out.below hb).mono hb.size)
    replace HA := hide ((HA.out.below hb).mono hb.size)
    replace HB := hide ((HB.out.below hb).mono hb.size)
    replace HT := hide (HT.out.keep hb)
    clear hb
    go_wp2_with (fail)
    go_ret
    exact ⟨rfl, K.out⟩
end Go.Proofs.Ytlkaniojnaaocaa
