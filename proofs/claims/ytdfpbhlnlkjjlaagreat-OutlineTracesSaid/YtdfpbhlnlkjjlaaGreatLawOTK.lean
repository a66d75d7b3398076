/- OutlineTraces' walk. -/
import Derived.Test.YtdfpbhlnlkjjlaaGreatXtoK
import Derived.Test.YtdfpbhlnlkjjlaaGreatOujGK
import Derived.Test.YtdfpbhlnlkjjlaaGreatTexNK
namespace Go.Proofs.YtdfpbhlnlkjjlaaGreat
open Go.RowKit
set_option linter.unusedVariables false
set_option linter.unusedSimpArgs false
set_option maxRecDepth 100000 in
set_option maxHeartbeats 16000000 in
theorem otraces_walk {w : World} {v : Value} {l : List R4} (hr : RdK encR 4 w w.heap.size v l) (la : l.length ≤ maxLen) :
  Calls Tryz.prog 4 #[v] w fun e w' => e = .returned (.bool true) ∧ Below w.heap.size w w' := by
 have HNE := hide (near12_any hr la)
 obtain ⟨A0, c0, hv, _⟩ := id hr
 subst hv
 have HR := hide hr
 have K := hide (Below.refl w.heap.size w)
 clear hr la
 go_enter Tryz.func4, Tryz.ntmps4
 go_wp2_with (fail)
 refine HNE.out.mono ?_
 rintro e v1 (⟨rfl, hb⟩ | ⟨rfl, hn, hb⟩)
 ·replace K := hide (K.out.trans (hb.mono K.out.size))
  clear hb HNE HR
  go_wp2_with (fail)
  go_ret
  exact ⟨rfl, K.out⟩
 ·have hl4 : l.length ≤ 420 := by rcases hn with h | h <;> omega
  have HLL : Hid (l.length ≤ 100000000) := hide (by omega)
  have HN := hide hn
  replace K := hide (K.out.trans (hb.mono K.out.size))
  replace HR := hide ((HR.out.below hb).mono hb.size)
  clear hb HNE hn
  go_wp2_with (fail)
  refine (rTwin_any HR.out HLL.out).mono ?_
  rintro e v2 ⟨vt, rfl, ot, hb⟩
  obtain ⟨At, ct, hvt⟩ := own_form ot
  subst hvt
  have HT := hide (own_rd (l := l) ot (fun _ => rfl))
  replace K := hide (K.out.trans (hb.mono K.out.size))
  replace HR := hide ((HR.out.below hb).mono hb.size)
  clear hb ot
  by_cases hk : checkF l = 0
  ·have hl12 : l.length ≤ 60 ∧ ∀ r ∈ l, -30 ≤ r.x0 ∧ -30 ≤ r.y0 ∧ r.x1 ≤ 30 ∧ r.y1 ≤ 30 := by
    rcases HN.out with ⟨h1, _⟩ | ⟨h1, h2⟩
    ·have := (checkF_ok hk).1; omega
    ·exact ⟨by omega, fun r hr => by have := h2 r hr; unfold near4 at this; omega⟩
   obtain ⟨hl6, hb0⟩ := hl12
   have G1 := hide (fun (w : World) (v : Value) (h : RdK encR 4 w w.heap.size v l) => of_any h hl6 hk)
   have G2 := hide (fun (w : World) (v : Value) (h : RdK encR 4 w w.heap.size v l) => rOf13_any h hk hb0)
   have G3 := hide (fun (w : World) (v : Value) (h : RdK encR 4 w w.heap.size v l) => euler_any h hl6 hk)
   have G4 := hide (fun (w : World) (v : Value) (h : RdK encR 4 w w.heap.size v l) => rEuler13_any h hk hb0)
   have HCK := hide (fun L (hO : Outl (setR l) L) => And.intro (out_cnt hk hO).1 (out_chk hk hO))
   clear hk hb0
   go_wp2_with (fail)
   refine (G1.out _ _ HT.out).mono ?_
   rintro e v3 ⟨A1, c1, L, vs, rfl, ho, hw, hv, hb⟩
   have HP := hide (RdPs.of_own hw hv)
   have HO := hide ho
   replace K := hide (K.out.trans (hb.mono K.out.size))
   replace HT := hide ((HT.out.below hb).mono hb.size)
   replace HR := hide ((HR.out.below hb).mono hb.size)
   clear hb ho hw hv G1
   go_wp2_with (fail)
   refine (G2.out _ _ HR.out).mono ?_
   rintro e v4 ⟨A2, c2, K2, rfl, ho, hq, hb⟩
   have hk2 := ho.ext HO.out
   subst hk2
   have HQ := hide hq
   replace K := hide (K.out.trans (hb.mono K.out.size))
   replace HT := hide ((HT.out.below hb).mono hb.size)
   replace HR := hide ((HR.out.below hb).mono hb.size)
   replace HP := hide ((HP.out.below hb).mono hb.size)
   clear hb ho hq G2
   go_wp2_with (fail)
   refine (G3.out _ _ HT.out).mono ?_
   rintro e v5 ⟨⟨M, hM, rfl⟩, hb⟩
   have hm2 := hM.ext HO.out
   subst hm2
   replace K := hide (K.out.trans (hb.mono K.out.size))
   replace HT := hide ((HT.out.below hb).mono hb.size)
   replace HR := hide ((HR.out.below hb).mono hb.size)
   replace HP := hide ((HP.out.below hb).mono hb.size)
   replace HQ := hide ((HQ.out.below hb).mono hb.size)
   clear hb hM G3
   go_wp2_with (fail)
   refine (G4.out _ _ HR.out).mono ?_
   rintro e v6 ⟨⟨M2, hM, rfl⟩, hb⟩
   have hm2 := hM.ext HO.out
   subst hm2
   replace K := hide (K.out.trans (hb.mono K.out.size))
   replace HT := hide ((HT.out.below hb).mono hb.size)
   replace HR := hide ((HR.out.below hb).mono hb.size)
   replace HP := hide ((HP.out.below hb).mono hb.size)
   replace HQ := hide ((HQ.out.below hb).mono hb.size)
   clear hb hM G4
   have hcl := HCK.out _ HO.out
   go_wp2_with (fail)
   refine (rSame13_any HP.out HQ.out (by have := hcl.1; omega) (fun r hr => by have := (chkO_ok (hcl.2 r hr)).1; omega)).mono ?_
   rintro e v7 ⟨rfl, hb⟩
   rw [decide_eq_true rfl]
   replace K := hide (K.out.trans (hb.mono K.out.size))
   replace HT := hide ((HT.out.below hb).mono hb.size)
   replace HR := hide ((HR.out.below hb).mono hb.size)
   clear hb HP HQ hcl
   go_wp2_with (fail)
   refine (rSameRects_any HT.out HR.out HLL.out (Nat.le_refl _) (Nat.le_refl _)).mono ?_
   rintro e v8 ⟨rfl, hb⟩
   rw [decide_eq_true rfl]
   replace K := hide (K.out.trans (hb.mono K.out.size))
   clear hb HT HR
   go_wp2
   go_ret
   exact ⟨rfl, K.out⟩
  ·have G1 := hide (fun (w : World) (v : Value) (h : RdK encR 4 w w.heap.size v l) => of_err h HLL.out hk)
   have G2 := hide (fun (w : World) (v : Value) (h : RdK encR 4 w w.heap.size v l) => rOf13_err h HLL.out hk)
   have G3 := hide (fun (w : World) (v : Value) (h : RdK encR 4 w w.heap.size v l) => euler_err h HLL.out hk)
   have G4 := hide (fun (w : World) (v : Value) (h : RdK encR 4 w w.heap.size v l) => rEuler13_err h HLL.out hk)
   obtain ⟨k, hkk⟩ : ∃ k, checkF l = k := ⟨_, rfl⟩
   rw [hkk] at G1 G2 G3 G4
   clear hk hkk
   go_wp2_with (fail)
   refine (G1.out _ _ HT.out).mono ?_
   rintro e v3 ⟨rfl, hb⟩
   replace K := hide (K.out.trans (hb.mono K.out.size))
   replace HT := hide ((HT.out.below hb).mono hb.size)
   replace HR := hide ((HR.out.below hb).mono hb.size)
   clear hb G1
   go_wp2_with (fail)
   refine (G2.out _ _ HR.out).mono ?_
   rintro e v4 ⟨rfl, hb⟩
   replace K := hide (K.out.trans (hb.mono K.out.size))
   replace HT := hide ((HT.out.below hb).mono hb.size)
   replace HR := hide ((HR.out.below hb).mono hb.size)
   clear hb G2
   go_wp2_with (fail)
   refine (G3.out _ _ HT.out).mono ?_
   rintro e v5 ⟨rfl, hb⟩
   replace K := hide (K.out.trans (hb.mono K.out.size))
   replace HT := hide ((HT.out.below hb).mono hb.size)
   replace HR := hide ((HR.out.below hb).mono hb.size)
   clear hb G3
   go_wp2_with (fail)
   refine (G4.out _ _ HR.out).mono ?_
   rintro e v6 ⟨rfl, hb⟩
   replace K := hide (K.out.trans (hb.mono K.out.size))
   replace HT := hide ((HT.out.below hb).mono hb.size)
   replace HR := hide ((HR.out.below hb).mono hb.size)
   clear hb G4
   go_wp2_with (fail)
   refine (rSame13_any (L := []) (M := []) ⟨none, 0, rfl, fun h => absurd rfl h⟩ ⟨none, 0, rfl, fun h => absurd rfl h⟩ (by simp) (fun r hr => by cases hr)).mono ?_
   rintro e v7 ⟨rfl, hb⟩
   rw [decide_eq_true rfl]
   replace K := hide (K.out.trans (hb.mono K.out.size))
   replace HT := hide ((HT.out.below hb).mono hb.size)
   replace HR := hide ((HR.out.below hb).mono hb.size)
   clear hb
   go_wp2_with (fail)
   refine (rSameRects_any HT.out HR.out HLL.out (Nat.le_refl _) (Nat.le_refl _)).mono ?_
   rintro e v8 ⟨rfl, hb⟩
   rw [decide_eq_true rfl]
   replace K := hide (K.out.trans (hb.mono K.out.size))
   clear hb HT HR
   go_wp2
   go_ret
   exact ⟨rfl, K.out⟩
end Go.Proofs.YtdfpbhlnlkjjlaaGreat
