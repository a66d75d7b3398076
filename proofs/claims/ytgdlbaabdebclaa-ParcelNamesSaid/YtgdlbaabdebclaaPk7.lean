/- Texts laid together: ParV, ParX, ParI, ParLa, ParLb, ParLc, App. Lemmas for the statements of this seat; no condition. -/
import Derived.Test.YtgdlbaabdebclaaPk6
import Derived.Test.YtgdlbaabdebclaaPk1
import Derived.Test.YtgdlbaabdebclaaPk4
import Derived.Laws.StructEq
import Derived.Deep.QuietTactic
import Derived.BigQuiet
import Derived.Maps.AppendAt
import Derived.Laws.AppendOwnNone

/- The walk of the reference's Cut. -/
namespace Go.Proofs.Ytgdlbaabdebclaa
open Go.RowKit
set_option linter.unusedVariables false
set_option linter.unusedSimpArgs false

set_option maxRecDepth 100000 in
set_option maxHeartbeats 8000000 in
theorem rCut_any (l : Lot5) (p : Pl3) (hf : 0 ≤ l.f ∧ l.f ≤ 255) (w : World) : Calls Try.prog 24 #[.agg (encL l).toArray, .agg (encP p).toArray] w fun e w' => e = .returned (.tuple #[.agg (encL (cutE l p).1).toArray, .agg (encL (cutE l p).2.1).toArray, .int .i64 (cutE l p).2.2]) ∧ Below w.heap.size w w' := by
  have HCK := hide (fun W => rCheckL_any l p hf W)
  by_cases h0 : checkL l p = 0
  · have hv := checkL_valid h0
    have HCU := hide (fun W => rparts_any l p hv W)
    rw [h0] at HCK
    have HR := hide (cutE_ok h0)
    clear h0 hf hv
    generalize cutE l p = R at *
    generalize cutR l p = C at *
    obtain ⟨X, Y, ok⟩ := C
    obtain ⟨⟨u0, u1, u2, u3⟩, u4⟩ := X
    obtain ⟨⟨v0, v1, v2, v3⟩, v4⟩ := Y
    simp only at HR
    obtain ⟨⟨x0, y0, x1, y1⟩, f⟩ := l
    obtain ⟨mf, ms, ma⟩ := p
    show Calls Try.prog _ #[.agg #[.int .i64 x0, .int .i64 y0, .int .i64 x1, .int .i64 y1, .int .u8 f], .agg #[.int .i64 mf, .int .i64 ms, .int .i64 ma]] w fun e w' => e = .returned (.tuple #[.agg (encL R.1).toArray, .agg (encL R.2.1).toArray, .int .i64 R.2.2]) ∧ Below w.heap.size w w'
    simp only [encL, encP] at HCK HCU
    go_enter Try.func24, Try.ntmps24
    go_wp2_with (fail)
    obtain ⟨W, hW⟩ : ∃ x, x = (((w.alloc (.cells #[.int .i64 x0, .int .i64 y0, .int .i64 x1, .int .i64 y1, .int .u8 f] 25)).alloc (.cells #[.int .i64 mf, .int .i64 ms, .int .i64 ma] 27)).alloc (.cells #[.int .i64 0, .int .i64 0, .int .i64 0, .int .i64 0, .int .u8 0] 25)).alloc (.cells #[.int .i64 0, .int .i64 0, .int .i64 0, .int .i64 0, .int .u8 0] 25) := ⟨_, rfl⟩
    rw [← hW]
    have hb0 : Below w.heap.size w W := by rw [hW]; exact ((((Below.refl _ _).alloc (Nat.le_refl _) _).alloc (by simp) _).alloc (by simp; omega) _).alloc (by simp; omega) _
    have hs0 : w.heap.size + 3 < W.heap.size := by rw [hW]; simp
    have HL : Box5L W w.heap.size ⟨⟨x0, y0, x1, y1⟩, f⟩ := by rw [hW]; refine ⟨?_, ?_, ?_, ?_, ?_, ?_, ?_, ?_, ?_, ?_⟩ <;> simp [go_sem]
    have HP : Box3 W (w.heap.size + 1) (.int .i64 mf) (.int .i64 ms) (.int .i64 ma) := by rw [hW]; refine ⟨?_, ?_, ?_⟩ <;> simp [go_sem]
    have HA : Box5L W (w.heap.size + 1 + 1) zeroL := by rw [hW]; refine ⟨?_, ?_, ?_, ?_, ?_, ?_, ?_, ?_, ?_, ?_⟩ <;> simp [go_sem, zeroL]
    have HB : Box5L W (w.heap.size + 1 + 1 + 1) zeroL := by rw [hW]; refine ⟨?_, ?_, ?_, ?_, ?_, ?_, ?_, ?_, ?_, ?_⟩ <;> simp [go_sem, zeroL]
    obtain ⟨n, hn⟩ : ∃ n, w.heap.size = n := ⟨_, rfl⟩
    rw [hn] at hb0 hs0 HL HP HA HB ⊢
    have K0 := hide hb0
    have HN := hide hn
    clear hW hb0 hn
    refine (HCK.out _).mono ?_
    rintro e w1 ⟨rfl, hb⟩
    have hs1 : n + 3 < w1.heap.size := by have := hb.size; omega
    have HL1 := HL.below hb
    have HP1 := HP.below hb
    have HA1 := HA.below hb
    have HB1 := HB.below hb
    have K1 := hide (K0.out.trans (hb.mono (by omega)))
    clear hb hs0 HL HP HA HB
    obtain ⟨l0, l1, l2, l3, l4, -, -, -, -, -⟩ := id HL1
    obtain ⟨p0, p1, p2⟩ := id HP1
    go_wp2_with (fail)
    refine (HCU.out _).mono ?_
    rintro e w2 ⟨rfl, hb⟩
    have hs2 : n + 3 < w2.heap.size := by have := hb.size; omega
    have HL2 := HL1.below hb
    have HP2 := HP1.below hb
    have HA2 := HA1.below hb
    have HB2 := HB1.below hb
    have K2 := hide (K1.out.trans (hb.mono (by omega)))
    clear hb hs1 HL1 HP1 HA1 HB1
    clear l0 l1 l2 l3 l4 p0 p1 p2
    cases ok with
    | true =>
      go_upto_region 6 with fail
      refine wp_name5 fun Z hZ => ?_
      have hm : n + 3 < w2.heap.size := hs2
      have HX : Box5L Z w2.heap.size ⟨⟨u0, u1, u2, u3⟩, u4⟩ := by rw [hZ]; refine ⟨?_, ?_, ?_, ?_, ?_, ?_, ?_, ?_, ?_, ?_⟩ <;> simp [go_sem]
      have HY : Box5L Z (w2.heap.size + 1) ⟨⟨v0, v1, v2, v3⟩, v4⟩ := by rw [hZ]; refine ⟨?_, ?_, ?_, ?_, ?_, ?_, ?_, ?_, ?_, ?_⟩ <;> simp [go_sem]
      have hbz : Below w2.heap.size w2 Z := by
        rw [hZ]
        repeat (first | with_reducible exact Below.refl _ _ | with_reducible refine Below.setCell ?_ (by first | (simp; done) | (simp; omega)) _ | with_reducible refine Below.alloc ?_ (by first | omega | (simp; omega) | simp) _)
      have HAZ := HA2.below hbz
      have HBZ := HB2.below hbz
      have KZ := hide (K2.out.trans (hbz.mono (by omega)))
      have hsZ : w2.heap.size + 1 < Z.heap.size := lt_of_cell HY.c0
      generalize w2.heap.size = m at *
      clear hZ hbz HA2 HB2 HL2 HP2 hs2
      obtain ⟨q0, q1, q2, q3, q4, -, -, -, -, -⟩ := id HX
      obtain ⟨z0, z1, z2, z3, z4, -, -, -, -, -⟩ := id HY
      simp only at q0 q1 q2 q3 q4 z0 z1 z2 z3 z4
      obtain ⟨a0, a1, a2, a3, a4, af0, af1, af2, af3, af4⟩ := id HAZ
      obtain ⟨b0, b1, b2, b3, b4, bf0, bf1, bf2, bf3, bf4⟩ := id HBZ
      simp only [zeroL] at a0 a1 a2 a3 a4 b0 b1 b2 b3 b4
      go_region
      go_wp2_with (fail)
      refine exit_name fun V hV => ?_
      have HAV : Box5L V (n + 1 + 1) ⟨⟨u0, u1, u2, u3⟩, u4⟩ := by rw [hV]; refine ⟨?_, ?_, ?_, ?_, ?_, ?_, ?_, ?_, ?_, ?_⟩ <;> simp [go_sem, a0, a1, a2, a3, a4, af0, af1, af2, af3, af4]
      have HBV : Box5L V (n + 1 + 1 + 1) ⟨⟨v0, v1, v2, v3⟩, v4⟩ := by rw [hV]; refine ⟨?_, ?_, ?_, ?_, ?_, ?_, ?_, ?_, ?_, ?_⟩ <;> simp [go_sem, b0, b1, b2, b3, b4, bf0, bf1, bf2, bf3, bf4]
      have KV : Below n w V := by
        rw [hV]
        repeat (first | with_reducible exact KZ.out | with_reducible refine Below.setCell ?_ (by first | (simp; done) | (simp; omega)) _ | with_reducible refine Below.drew ?_ | with_reducible refine Below.alloc ?_ (by first | omega | (simp; omega)) _)
      clear hV a0 a1 a2 a3 a4 b0 b1 b2 b3 b4 af0 af1 af2 af3 af4 bf0 bf1 bf2 bf3 bf4
      obtain ⟨a0, a1, a2, a3, a4, -, -, -, -, -⟩ := HAV
      obtain ⟨b0, b1, b2, b3, b4, -, -, -, -, -⟩ := HBV
      refine bodyPost_ret (v := .tuple #[.agg (encL ⟨⟨u0, u1, u2, u3⟩, u4⟩).toArray, .agg (encL ⟨⟨v0, v1, v2, v3⟩, v4⟩).toArray, .int .i64 0]) (by simp [results, Try.results24, go_sem, a0, a1, a2, a3, a4, b0, b1, b2, b3, b4, encL]) rfl ⟨by first | (rw [HR.out]; rfl) | rw [HR.out], by rw [HN.out]; exact KV⟩
    | false =>
      have h2 : n + 1 + 1 < w2.heap.size := by omega
      have h3 : n + 1 + 1 + 1 < w2.heap.size := by omega
      have h4 : n + 1 + 1 < w2.heap.size + 1 := by omega
      have h5 : n + 1 + 1 + 1 < w2.heap.size + 1 := by omega
      obtain ⟨a0, a1, a2, a3, a4, af0, af1, af2, af3, af4⟩ := id HA2
      obtain ⟨b0, b1, b2, b3, b4, bf0, bf1, bf2, bf3, bf4⟩ := id HB2
      simp only [zeroL] at a0 a1 a2 a3 a4 b0 b1 b2 b3 b4
      go_wp2_with (fail)
      refine exit_name fun V hV => ?_
      have HAV : Box5L V (n + 1 + 1) zeroL := by rw [hV]; refine ⟨?_, ?_, ?_, ?_, ?_, ?_, ?_, ?_, ?_, ?_⟩ <;> simp [go_sem, a0, a1, a2, a3, a4, af0, af1, af2, af3, af4, h2, h3, h4, h5, zeroL]
      have HBV : Box5L V (n + 1 + 1 + 1) zeroL := by rw [hV]; refine ⟨?_, ?_, ?_, ?_, ?_, ?_, ?_, ?_, ?_, ?_⟩ <;> simp [go_sem, b0, b1, b2, b3, b4, bf0, bf1, bf2, bf3, bf4, h2, h3, h4, h5, zeroL]
      have KV : Below n w V := by
        rw [hV]
        repeat (first | with_reducible exact K2.out | with_reducible refine Below.setCell ?_ (by first | (simp; done) | (simp; omega)) _ | with_reducible refine Below.drew ?_ | with_reducible refine Below.alloc ?_ (by first | omega | (simp; omega)) _)
      clear hV a0 a1 a2 a3 a4 b0 b1 b2 b3 b4 af0 af1 af2 af3 af4 bf0 bf1 bf2 bf3 bf4
      obtain ⟨a0, a1, a2, a3, a4, -, -, -, -, -⟩ := HAV
      obtain ⟨b0, b1, b2, b3, b4, -, -, -, -, -⟩ := HBV
      refine bodyPost_ret (v := .tuple #[.agg (encL zeroL).toArray, .agg (encL zeroL).toArray, .int .i64 6]) (by simp [results, Try.results24, go_sem, a0, a1, a2, a3, a4, b0, b1, b2, b3, b4, encL]) rfl ⟨by first | (rw [HR.out]; rfl) | rw [HR.out], by rw [HN.out]; exact KV⟩
  · have HR := hide (cutE_bad h0)
    clear hf
    generalize cutE l p = R at *
    generalize checkL l p = ck at *
    have hne : (ck != 0) = true := by simpa using h0
    clear h0
    obtain ⟨⟨x0, y0, x1, y1⟩, f⟩ := l
    obtain ⟨mf, ms, ma⟩ := p
    show Calls Try.prog _ #[.agg #[.int .i64 x0, .int .i64 y0, .int .i64 x1, .int .i64 y1, .int .u8 f], .agg #[.int .i64 mf, .int .i64 ms, .int .i64 ma]] w fun e w' => e = .returned (.tuple #[.agg (encL R.1).toArray, .agg (encL R.2.1).toArray, .int .i64 R.2.2]) ∧ Below w.heap.size w w'
    simp only [encL, encP] at HCK
    go_enter Try.func24, Try.ntmps24
    go_wp2_with (fail)
    obtain ⟨W, hW⟩ : ∃ x, x = (((w.alloc (.cells #[.int .i64 x0, .int .i64 y0, .int .i64 x1, .int .i64 y1, .int .u8 f] 25)).alloc (.cells #[.int .i64 mf, .int .i64 ms, .int .i64 ma] 27)).alloc (.cells #[.int .i64 0, .int .i64 0, .int .i64 0, .int .i64 0, .int .u8 0] 25)).alloc (.cells #[.int .i64 0, .int .i64 0, .int .i64 0, .int .i64 0, .int .u8 0] 25) := ⟨_, rfl⟩
    rw [← hW]
    have hb0 : Below w.heap.size w W := by rw [hW]; exact ((((Below.refl _ _).alloc (Nat.le_refl _) _).alloc (by simp) _).alloc (by simp; omega) _).alloc (by simp; omega) _
    have hs0 : w.heap.size + 3 < W.heap.size := by rw [hW]; simp
    have HL : Box5L W w.heap.size ⟨⟨x0, y0, x1, y1⟩, f⟩ := by rw [hW]; refine ⟨?_, ?_, ?_, ?_, ?_, ?_, ?_, ?_, ?_, ?_⟩ <;> simp [go_sem]
    have HP : Box3 W (w.heap.size + 1) (.int .i64 mf) (.int .i64 ms) (.int .i64 ma) := by rw [hW]; refine ⟨?_, ?_, ?_⟩ <;> simp [go_sem]
    have HA : Box5L W (w.heap.size + 1 + 1) zeroL := by rw [hW]; refine ⟨?_, ?_, ?_, ?_, ?_, ?_, ?_, ?_, ?_, ?_⟩ <;> simp [go_sem, zeroL]
    have HB : Box5L W (w.heap.size + 1 + 1 + 1) zeroL := by rw [hW]; refine ⟨?_, ?_, ?_, ?_, ?_, ?_, ?_, ?_, ?_, ?_⟩ <;> simp [go_sem, zeroL]
    obtain ⟨n, hn⟩ : ∃ n, w.heap.size = n := ⟨_, rfl⟩
    rw [hn] at hb0 hs0 HL HP HA HB ⊢
    have K0 := hide hb0
    have HN := hide hn
    clear hW hb0 hn
    refine (HCK.out _).mono ?_
    rintro e w1 ⟨rfl, hb⟩
    have hs1 : n + 3 < w1.heap.size := by have := hb.size; omega
    have HL1 := HL.below hb
    have HP1 := HP.below hb
    have HA1 := HA.below hb
    have HB1 := HB.below hb
    have K1 := hide (K0.out.trans (hb.mono (by omega)))
    clear hb hs0 HL HP HA HB
    obtain ⟨l0, l1, l2, l3, l4, -, -, -, -, -⟩ := id HL1
    obtain ⟨p0, p1, p2⟩ := id HP1
    go_wp2_with (fail)
    refine (HCK.out _).mono ?_
    rintro e w2 ⟨rfl, hb⟩
    have hs2 : n + 3 < w2.heap.size := by have := hb.size; omega
    have HL2 := HL1.below hb
    have HP2 := HP1.below hb
    have HA2 := HA1.below hb
    have HB2 := HB1.below hb
    have K2 := hide (K1.out.trans (hb.mono (by omega)))
    clear hb hs1 HL1 HP1 HA1 HB1
    clear l0 l1 l2 l3 l4 p0 p1 p2
    obtain ⟨a0, a1, a2, a3, a4, af0, af1, af2, af3, af4⟩ := id HA2
    obtain ⟨b0, b1, b2, b3, b4, bf0, bf1, bf2, bf3, bf4⟩ := id HB2
    simp only [zeroL] at a0 a1 a2 a3 a4 b0 b1 b2 b3 b4
    go_wp2_with (fail)
    refine exit_name fun V hV => ?_
    have HAV : Box5L V (n + 1 + 1) zeroL := by rw [hV]; refine ⟨?_, ?_, ?_, ?_, ?_, ?_, ?_, ?_, ?_, ?_⟩ <;> simp [go_sem, a0, a1, a2, a3, a4, af0, af1, af2, af3, af4, zeroL]
    have HBV : Box5L V (n + 1 + 1 + 1) zeroL := by rw [hV]; refine ⟨?_, ?_, ?_, ?_, ?_, ?_, ?_, ?_, ?_, ?_⟩ <;> simp [go_sem, b0, b1, b2, b3, b4, bf0, bf1, bf2, bf3, bf4, zeroL]
    have KV : Below n w V := by
      rw [hV]
      repeat (first | with_reducible exact K2.out | with_reducible refine Below.setCell ?_ (by first | (simp; done) | (simp; omega)) _ | with_reducible refine Below.drew ?_ | with_reducible refine Below.alloc ?_ (by first | omega | (simp; omega)) _)
    clear hV a0 a1 a2 a3 a4 b0 b1 b2 b3 b4 af0 af1 af2 af3 af4 bf0 bf1 bf2 bf3 bf4
    obtain ⟨a0, a1, a2, a3, a4, -, -, -, -, -⟩ := HAV
    obtain ⟨b0, b1, b2, b3, b4, -, -, -, -, -⟩ := HBV
    refine bodyPost_ret (v := .tuple #[.agg (encL zeroL).toArray, .agg (encL zeroL).toArray, .int .i64 ck]) (by simp [results, Try.results24, go_sem, a0, a1, a2, a3, a4, b0, b1, b2, b3, b4, encL]) rfl ⟨by first | (rw [HR.out]; rfl) | rw [HR.out], by rw [HN.out]; exact KV⟩
end Go.Proofs.Ytgdlbaabdebclaa

/- The reference's Same of lots: two lists are one. -/
namespace Go.Proofs.Ytgdlbaabdebclaa
open Go.RowKit
set_option linter.unusedVariables false
set_option linter.unusedSimpArgs false

set_option maxHeartbeats 4000000 in
theorem rSameL_any {w : World} {vs vt : Value} {s t : List Lot5} {B C : Nat} (hs : RdK encL 5 w B vs s) (ht : RdK encL 5 w C vt t) (ns : s.length ≤ 100000000) (hB : B ≤ w.heap.size) (hC : C ≤ w.heap.size) :
    Calls Try.prog 13 #[vs, vt] w fun e w' => e = .returned (.bool (decide (s = t))) ∧ Below w.heap.size w w' := by
  obtain ⟨A1, c1, rfl, h1⟩ := hs
  obtain ⟨A2, c2, rfl, h2⟩ := ht
  have g : Try.prog.eqGuardType Try.prog.depth 25 = false := by kernel_rfl
  have H1 := hide h1
  have H2 := hide h2
  clear h1 h2
  go_enter Try.func13, Try.ntmps13
  by_cases hl : s.length = t.length
  · have hne : ((s.length : Int) != (t.length : Int)) = false := by rw [hl]; simp
    have HL := hide hl
    clear hl
    go_wp2
    go_loopw [5] (fun i wr => ∃ k : Nat, k ≤ s.length ∧ i = .int .i64 k ∧ Hid (s.take k = t.take k) ∧ Below w.heap.size w wr) (fun i _ => s.length - (intOf i).toNat)
    case atStart => exact ⟨0, Nat.zero_le _, rfl, hide rfl, Below.refl _ _⟩
    case round =>
      obtain ⟨k, hk, rfl, HT, hb⟩ := hrel
      by_cases hlt : k < s.length
      · obtain ⟨⟨⟨a0, a1, a2, a3⟩, a4⟩, hp⟩ : ∃ p, s[k]? = some p := ⟨_, List.getElem?_eq_getElem hlt⟩
        have hlt2 : k < t.length := by rw [← HL.out]; exact hlt
        obtain ⟨⟨⟨b0, b1, b2, b3⟩, b4⟩, hq⟩ : ∃ p, t[k]? = some p := ⟨_, List.getElem?_eq_getElem hlt2⟩
        obtain ⟨p1, o1, rfl, hp1, k1⟩ := H1.out (by intro e; rw [e] at hlt; simp at hlt)
        obtain ⟨p2, o2, rfl, hp2, k2⟩ := H2.out (by intro e; rw [e] at hlt2; simp at hlt2)
        have x0 : wr.cell? ⟨p1, o1 + k * 5, none⟩ = some (.int .i64 a0) := (hb.cell (p := ⟨p1, _, none⟩) (by show p1 < _; omega)).trans (k1 k _ hp 0 _ rfl)
        have y0 : wr.cell? ⟨p2, o2 + k * 5, none⟩ = some (.int .i64 b0) := (hb.cell (p := ⟨p2, _, none⟩) (by show p2 < _; omega)).trans (k2 k _ hq 0 _ rfl)
        have x1 : wr.cell? ⟨p1, o1 + k * 5 + 1, none⟩ = some (.int .i64 a1) := (hb.cell (p := ⟨p1, _, none⟩) (by show p1 < _; omega)).trans (k1 k _ hp 1 _ rfl)
        have y1 : wr.cell? ⟨p2, o2 + k * 5 + 1, none⟩ = some (.int .i64 b1) := (hb.cell (p := ⟨p2, _, none⟩) (by show p2 < _; omega)).trans (k2 k _ hq 1 _ rfl)
        have x2 : wr.cell? ⟨p1, o1 + k * 5 + 2, none⟩ = some (.int .i64 a2) := (hb.cell (p := ⟨p1, _, none⟩) (by show p1 < _; omega)).trans (k1 k _ hp 2 _ rfl)
        have y2 : wr.cell? ⟨p2, o2 + k * 5 + 2, none⟩ = some (.int .i64 b2) := (hb.cell (p := ⟨p2, _, none⟩) (by show p2 < _; omega)).trans (k2 k _ hq 2 _ rfl)
        have x3 : wr.cell? ⟨p1, o1 + k * 5 + 3, none⟩ = some (.int .i64 a3) := (hb.cell (p := ⟨p1, _, none⟩) (by show p1 < _; omega)).trans (k1 k _ hp 3 _ rfl)
        have y3 : wr.cell? ⟨p2, o2 + k * 5 + 3, none⟩ = some (.int .i64 b3) := (hb.cell (p := ⟨p2, _, none⟩) (by show p2 < _; omega)).trans (k2 k _ hq 3 _ rfl)
        have x4 : wr.cell? ⟨p1, o1 + k * 5 + 4, none⟩ = some (.int .u8 a4) := (hb.cell (p := ⟨p1, _, none⟩) (by show p1 < _; omega)).trans (k1 k _ hp 4 _ rfl)
        have y4 : wr.cell? ⟨p2, o2 + k * 5 + 4, none⟩ = some (.int .u8 b4) := (hb.cell (p := ⟨p2, _, none⟩) (by show p2 < _; omega)).trans (k2 k _ hq 4 _ rfl)
        have z1 : (k : Int) < (s.length : Int) := by omega
        have z2 : (k : Int) < (t.length : Int) := by omega
        have HP := hide hp
        have HQ := hide hq
        clear hp hq k1 k2
        by_cases e0 : a0 = b0
        rotate_left 1
        · have hd : decide (s = t) = false := decide_eq_false fun e => by
            subst e
            have := HP.out.symm.trans HQ.out
            simp only [Option.some.injEq, Lot5.mk.injEq, R4.mk.injEq] at this
            omega
          have HD := hide hd
          clear hd
          go_wp2
          go_region
          go_wp2
          go_ret
          exact ⟨ret_eq (bool_eq HD.out.symm), hb.drew⟩
        by_cases e1 : a1 = b1
        rotate_left 1
        · have hd : decide (s = t) = false := decide_eq_false fun e => by
            subst e
            have := HP.out.symm.trans HQ.out
            simp only [Option.some.injEq, Lot5.mk.injEq, R4.mk.injEq] at this
            omega
          have HD := hide hd
          clear hd
          subst e0
          go_wp2
          go_region
          go_wp2
          go_ret
          exact ⟨ret_eq (bool_eq HD.out.symm), hb.drew⟩
        by_cases e2 : a2 = b2
        rotate_left 1
        · have hd : decide (s = t) = false := decide_eq_false fun e => by
            subst e
            have := HP.out.symm.trans HQ.out
            simp only [Option.some.injEq, Lot5.mk.injEq, R4.mk.injEq] at this
            omega
          have HD := hide hd
          clear hd
          subst e0
          subst e1
          go_wp2
          go_region
          go_wp2
          go_ret
          exact ⟨ret_eq (bool_eq HD.out.symm), hb.drew⟩
        by_cases e3 : a3 = b3
        rotate_left 1
        · have hd : decide (s = t) = false := decide_eq_false fun e => by
            subst e
            have := HP.out.symm.trans HQ.out
            simp only [Option.some.injEq, Lot5.mk.injEq, R4.mk.injEq] at this
            omega
          have HD := hide hd
          clear hd
          subst e0
          subst e1
          subst e2
          go_wp2
          go_region
          go_wp2
          go_ret
          exact ⟨ret_eq (bool_eq HD.out.symm), hb.drew⟩
        by_cases e4 : a4 = b4
        rotate_left 1
        · have hd : decide (s = t) = false := decide_eq_false fun e => by
            subst e
            have := HP.out.symm.trans HQ.out
            simp only [Option.some.injEq, Lot5.mk.injEq, R4.mk.injEq] at this
            omega
          have HD := hide hd
          clear hd
          subst e0
          subst e1
          subst e2
          subst e3
          go_wp2
          go_region
          go_wp2
          go_ret
          exact ⟨ret_eq (bool_eq HD.out.symm), hb.drew⟩
        subst e0
        subst e1
        subst e2
        subst e3
        subst e4
        go_wp2
        go_region
        go_wp2
        go_roundw
        case rel =>
          refine ⟨k + 1, by omega, by go_num, hide ?_, hb.drew⟩
          obtain ⟨i1, e1⟩ := List.getElem?_eq_some_iff.1 HP.out
          obtain ⟨i2, e2⟩ := List.getElem?_eq_some_iff.1 HQ.out
          rw [List.take_succ_eq_append_getElem i1, List.take_succ_eq_append_getElem i2, HT.out, e1, e2]
        case measure => simp [intOf]; omega
      · have hlz : ¬ (k : Int) < (s.length : Int) := by omega
        have hd : decide (s = t) = true := decide_eq_true (by
          have := HT.out
          rw [List.take_of_length_le (by omega), List.take_of_length_le (by rw [← HL.out]; omega)] at this
          exact this)
        have HD := hide hd
        clear hd
        go_wp2
        go_ret
        exact ⟨ret_eq (bool_eq HD.out.symm), hb⟩
  · have hne : ((s.length : Int) != (t.length : Int)) = true := by simp; omega
    have hd : decide (s = t) = false := decide_eq_false fun e => hl (by rw [e])
    rw [hd]
    clear hl hd
    go_wp2
    go_ret
    exact ⟨rfl, Below.refl _ _⟩
end Go.Proofs.Ytgdlbaabdebclaa

/- The walk of parcel.Split. -/
namespace Go.Proofs.Ytgdlbaabdebclaa
open Go.RowKit
set_option linter.unusedVariables false
set_option linter.unusedSimpArgs false

set_option maxRecDepth 100000 in
set_option maxHeartbeats 8000000 in
theorem psplit_any (l : Lot5) (p : Pl3) (hf : 0 ≤ l.f ∧ l.f ≤ 255) (w : World) : Calls Try.prog 11 #[.agg (encL l).toArray, .agg (encP p).toArray] w (LotsRet w (splitR l p)) := by
  have HCK := hide (fun W => checkL_any l p hf W)
  obtain ⟨i1, gi, gz0, gz1, gz2⟩ := info_parts infoLot
  obtain ⟨i2, fi, fz0, fz1, fz2⟩ := info_parts infoLand
  by_cases h0 : checkL l p = 0
  · have hv := checkL_valid h0
    have hsz := sizeL_le hv
    have HST := hide (StackOk.start (p := p) hv)
    have hnd : nodesS p [l] = nodes p l := by simp [nodesS]
    have HND := hide hnd
    have HCU : Hid (∀ x, validL x → ∀ W, Calls Try.prog 35 #[.agg (encL x).toArray, .agg (encP p).toArray] W fun e w' => e = .returned (.tuple #[.agg (encL (cutR x p).1).toArray, .agg (encL (cutR x p).2.1).toArray, .bool (cutR x p).2.2]) ∧ Below W.heap.size W w') := hide (fun x hx W => cut_any x p hx W)
    have HR : Hid (splitR l p = if (leaves p l).length ≤ 400 then (leaves p l, 0) else ([], 4)) := hide (if_pos h0)
    have HTOP : Hid (sizeL l ≤ 4000000) := hide hsz
    rw [h0] at HCK
    clear h0 hv hf hsz hnd
    show Calls Try.prog _ #[.agg #[.int .i64 l.r.x0, .int .i64 l.r.y0, .int .i64 l.r.x1, .int .i64 l.r.y1, .int .u8 l.f], .agg #[.int .i64 p.mf, .int .i64 p.ms, .int .i64 p.ma]] w (LotsRet w (splitR l p))
    simp only [encL, encP] at HCK HCU
    go_enter Try.func11, Try.ntmps11
    go_wp2_with (fail)
    obtain ⟨W, hW⟩ : ∃ x, x = (w.alloc (.cells #[.int .i64 l.r.x0, .int .i64 l.r.y0, .int .i64 l.r.x1, .int .i64 l.r.y1, .int .u8 l.f] 25)).alloc (.cells #[.int .i64 p.mf, .int .i64 p.ms, .int .i64 p.ma] 27) := ⟨_, rfl⟩
    rw [← hW]
    have hb0 : Below w.heap.size w W := by rw [hW]; exact ((Below.refl _ _).alloc (Nat.le_refl _) _).alloc (by simp) _
    have hs0 : w.heap.size + 2 ≤ W.heap.size := by rw [hW]; simp
    have HL : Box5L W w.heap.size l := by rw [hW]; refine ⟨?_, ?_, ?_, ?_, ?_, ?_, ?_, ?_, ?_, ?_⟩ <;> simp [go_sem]
    have HP : Box3 W (w.heap.size + 1) (.int .i64 p.mf) (.int .i64 p.ms) (.int .i64 p.ma) := by rw [hW]; refine ⟨?_, ?_, ?_⟩ <;> simp [go_sem]
    obtain ⟨n, hn⟩ : ∃ n, w.heap.size = n := ⟨_, rfl⟩
    rw [hn] at hb0 hs0 HL HP ⊢
    have K0 := hide hb0
    have HN := hide hn
    clear hW hb0 hn
    refine (HCK.out _).mono ?_
    rintro e w1 ⟨rfl, hb⟩
    have HL1 := HL.below hb
    have HP1 := HP.below hb
    have K1 := hide (K0.out.trans (hb.mono (by omega)))
    have hs1 : n + 2 ≤ w1.heap.size := Nat.le_trans hs0 hb.size
    clear hb HL HP K0 hs0
    obtain ⟨l0, l1, l2, l3, l4, -, -, -, -, -⟩ := id HL1
    go_wp2_with (fail)
    refine wp_name5 fun w2 hw2 => ?_
    have HRW : Hid (Rows2 n w p [] [l] (.slice none 0 0) (.slice (some ⟨w1.heap.size, 0, none⟩) 1 1) 0 1 w2) := hide (by
      rw [hw2]
      exact ⟨World.ownsRow_nil _ _ _ _, World.ownsRow_lit (base := n + 2) (size := 5) w1 _ 1 hs1 (by simp [maxLen]) rfl, K1.out.alloc (by omega) _, by simp; omega, HP1.below ((Below.refl _ _).alloc (Nat.le_refl _) _)⟩)
    generalize w1.heap.size = g0 at *
    clear hw2 HL1 HP1 K1 hs1 l0 l1 l2 l3 l4 HCK
    go_loopg [7, 8] (nodes p l) (fun gg ov sv wr => ∃ (O S : List Lot5) (A : Option Addr) (c g cp no ns : Nat), ov = .slice A no c ∧ sv = .slice (some ⟨g, 0, none⟩) ns cp ∧ Hid (Rows2 n w p O S ov sv no ns wr) ∧ Hid (StackOk l p O S ∧ nodesS p S ≤ gg))
    case atStart => exact ⟨[], [l], none, 0, g0, 1, 0, 1, rfl, rfl, HRW, hide ⟨HST.out, by rw [HND.out]; exact Nat.le_refl _⟩⟩
    case round =>
      clear HRW HST HND
      obtain ⟨O, S, A, c, g, cp, no, ns, rfl, rfl, HRW, HS⟩ := hrel
      have hno : no = O.length := own_len HRW.out.rowO (fun _ => rfl) (by omega)
      have hns : ns = S.length := own_len HRW.out.rowS (fun _ => rfl) (by omega)
      have hno4 : no ≤ 400 := by rw [hno]; exact HS.out.1.lenO
      have HNO := hide hno
      have HNS := hide hns
      clear hno hns
      rcases List.eq_nil_or_concat S with hS | ⟨S', x, hS⟩
      · subst hS
        obtain rfl : ns = 0 := HNS.out
        have HE : Hid (O = leaves p l) := hide (by have := HS.out.1.eq; simpa [stackL] using this)
        have HB := hide HRW.out.below
        go_wp2
        go_ret2
        refine ⟨⟨A, c, ?_, ?_⟩, ?_⟩
        · rw [HR.out, if_pos (by rw [← HE.out, ← HNO.out]; exact hno4)]
          show _ = Ending.returned (.tuple #[.slice A (leaves p l).length c, .int .i64 0])
          rw [← HE.out, ← HNO.out]
          rfl
        · rw [HR.out, if_pos (by rw [← HE.out, ← HNO.out]; exact hno4)]
          show World.ownsRow _ _ _ _ (.slice A (leaves p l).length c) (leaves p l).length ((leaves p l).flatMap encL)
          rw [← HE.out, ← HNO.out, HN.out]
          exact own_base HRW.out.rowO (by omega)
        · rw [HN.out]; exact HB.out
      · rw [List.concat_eq_append] at hS
        subst hS
        obtain ⟨k, rfl⟩ : ∃ k, ns = k + 1 := ⟨S'.length, by rw [HNS.out]; simp⟩
        obtain ⟨hk, hcell⟩ := HRW.out.top
        obtain ⟨hvx, hkx⟩ := HS.out.1.top
        have hkz : k ≤ 4000000 := by have := HTOP.out; omega
        have c0 := hcell 0 _ rfl
        have c1 := hcell 1 _ rfl
        have c2 := hcell 2 _ rfl
        have c3 := hcell 3 _ rfl
        have c4 := hcell 4 _ rfl
        simp only [Nat.add_zero] at c0
        have HX := hide (HCU.out x hvx)
        obtain ⟨⟨X, Y, ok⟩, hC⟩ : ∃ C, cutR x p = C := ⟨_, rfl⟩
        rw [hC] at HX
        simp only at HX
        have HC := hide hC
        have HPOP := hide HRW.out.pop
        obtain ⟨p0, p1, p2⟩ := HRW.out.box
        have hn1 : n + 1 < wr.heap.size := by have := HRW.out.size; omega
        have hcp : k + 1 ≤ cp := row_cap HRW.out.rowS
        have hcp1 : k ≤ cp := by omega
        have hcp2 : ¬ cp = 0 := by omega
        have hcp3 : (k : Int) ≤ (cp : Int) := by omega
        clear hcell hvx hkx hk hC HRW HNS
        go_wp2_with (fail)
        refine calls_name fun w7 hw7 => ?_
        have hb7 : Below wr.heap.size wr w7 := by
          rw [hw7]
          repeat (first | with_reducible exact Below.refl _ _ | with_reducible refine Below.setCell ?_ (by simp) _ | with_reducible refine Below.alloc ?_ (by simp) _)
        have HBX : Box5L w7 wr.heap.size x := by rw [hw7]; refine ⟨?_, ?_, ?_, ?_, ?_, ?_, ?_, ?_, ?_, ?_⟩ <;> simp [go_sem]
        have HR7 := hide (HPOP.out.keep hb7)
        generalize wr.heap.size = m at *
        clear hw7 hb7 HPOP c0 c1 c2 c3 c4 p0 p1 p2 hn1
        refine (HX.out _).mono ?_
        rintro e w8 ⟨rfl, hb⟩
        have HBX8 := HBX.below hb
        have HR8 := hide (HR7.out.keep hb)
        clear hb HBX HR7 HX
        cases ok with
        | true =>
          have HCT := hide (cutR_true HC.out)
          go_upto_region 11 with fail
          refine wp_name5 fun Z hZ => ?_
          have HXZ : Box5L Z w8.heap.size X := by rw [hZ]; refine ⟨?_, ?_, ?_, ?_, ?_, ?_, ?_, ?_, ?_, ?_⟩ <;> simp [go_sem]
          have HYZ : Box5L Z (w8.heap.size + 1) Y := by rw [hZ]; refine ⟨?_, ?_, ?_, ?_, ?_, ?_, ?_, ?_, ?_, ?_⟩ <;> simp [go_sem]
          have hbz : Below w8.heap.size w8 Z := by
            rw [hZ]
            repeat (first | with_reducible exact Below.refl _ _ | with_reducible refine Below.setCell ?_ (by first | (simp; done) | (simp; omega)) _ | with_reducible refine Below.alloc ?_ (by first | omega | (simp; omega) | simp) _)
          have HRZ := hide (HR8.out.keep hbz)
          have hnz : n + 2 ≤ Z.heap.size := HRZ.out.size
          generalize w8.heap.size = q at *
          clear hZ hbz HR8 HBX8
          obtain ⟨a0, a1, a2, a3, a4, -, -, -, -, -⟩ := HXZ
          obtain ⟨b0, b1, b2, b3, b4, -, -, -, -, -⟩ := HYZ
          go_wp2_with (at_builtin; go_loud (refine wpList_append_lies _ rfl (.tmp 43) (.tmp 46) 66 rfl (n + 2) 65 i2 (.agg #[.int .i64 0, .int .i64 0, .int .i64 0, .int .i64 0, .int .u8 0]) 5 40 Try.underlying66 fi fz0 fz1 fz2 rfl (by decide) _ k _ rfl (World.ownsRow.alloc HRZ.out.rowS _) ⟨Z.heap.size, 0, none⟩ 2 2 [.int .i64 Y.r.x0, .int .i64 Y.r.y0, .int .i64 Y.r.x1, .int .i64 Y.r.y1, .int .u8 Y.f, .int .i64 X.r.x0, .int .i64 X.r.y0, .int .i64 X.r.x1, .int .i64 X.r.y1, .int .u8 X.f] rfl rfl (news_new Z _ _ _ rfl) (ints_one rfl) (by omega) (by unfold maxLen; omega) (by omega) (by simp; omega) _ rfl ?_))
          intro g2 cp2 w9 hown hgrow hg2 hlt
          have HR9 : Hid (Rows2 n w p O (S' ++ [Y, X]) (.slice A no c) (.slice (some ⟨g2, 0, none⟩) (k + 2) cp2) no (k + 2) w9) := hide ((HRZ.out.keep ((Below.refl _ _).alloc (Nat.le_refl _) _)).pushS hgrow (by rw [List.flatMap_append]; exact hown))
          clear hown hgrow hg2 hlt a0 a1 a2 a3 a4 b0 b1 b2 b3 b4
          go_wp2
          go_roundg (nodesS p (S' ++ [Y, X]))
          case measure => have h1 := nodes_cut (S := S') HCT.out; have h2 := HS.out.2; omega
          case rel => exact ⟨O, S' ++ [Y, X], A, c, g2, cp2, no, k + 2, rfl, rfl, HR9, hide ⟨HS.out.1.cut HCT.out, Nat.le_refl _⟩⟩
        | false =>
          have HCF := hide (cutR_false HC.out)
          go_upto_region 12 with fail
          refine wp_name5 fun Z hZ => ?_
          have hbz : Below w8.heap.size w8 Z := by
            rw [hZ]
            repeat (first | with_reducible exact Below.refl _ _ | with_reducible refine Below.setCell ?_ (by first | (simp; done) | (simp; omega)) _ | with_reducible refine Below.alloc ?_ (by first | omega | (simp; omega) | simp) _)
          have HBZ := HBX8.below hbz
          have HRZ := hide (HR8.out.keep hbz)
          have hnz : n + 2 ≤ Z.heap.size := HRZ.out.size
          clear hZ hbz HR8 HBX8
          obtain ⟨a0, a1, a2, a3, a4, -, -, -, -, -⟩ := HBZ
          by_cases hmany : no + 1 ≤ 400
          · go_wp2_with (at_builtin; go_loud (refine wpList_append_lies _ rfl (.tmp 48) (.tmp 50) 28 rfl (n + 2) 25 i1 (.agg #[.int .i64 0, .int .i64 0, .int .i64 0, .int .i64 0, .int .u8 0]) 5 40 Try.underlying28 gi gz0 gz1 gz2 rfl (by decide) _ no _ rfl (World.ownsRow.alloc HRZ.out.rowO _) ⟨Z.heap.size, 0, none⟩ 1 1 [.int .i64 x.r.x0, .int .i64 x.r.y0, .int .i64 x.r.x1, .int .i64 x.r.y1, .int .u8 x.f] rfl rfl (news_new Z _ _ _ rfl) (ints_one rfl) (by omega) (by unfold maxLen; omega) (by omega) (by simp; omega) _ rfl ?_))
            intro g2 cp2 w9 hown hgrow hg2 hlt
            have HR9 : Hid (Rows2 n w p (O ++ [x]) S' (.slice (some ⟨g2, 0, none⟩) (no + 1) cp2) (.slice (some ⟨g, 0, none⟩) k cp) (no + 1) k w9) := hide ((HRZ.out.keep ((Below.refl _ _).alloc (Nat.le_refl _) _)).pushO hgrow (by rw [List.flatMap_append]; exact hown))
            clear hown hgrow hg2 hlt a0 a1 a2 a3 a4
            go_wp2
            go_roundg (nodesS p S')
            case measure => have h1 := nodes_leaf (S := S') HCF.out; have h2 := HS.out.2; omega
            case rel => exact ⟨O ++ [x], S', _, cp2, g, cp, no + 1, k, rfl, rfl, HR9, hide ⟨HS.out.1.leaf HCF.out (by rw [← HNO.out]; exact hmany), Nat.le_refl _⟩⟩
          · have hmz : 400 < no + 1 := by omega
            have HM := hide (HS.out.1.many (by rw [← HNO.out]; exact hmz))
            go_wp2_with (at_builtin; go_loud (refine wpList_append_lies _ rfl (.tmp 48) (.tmp 50) 28 rfl (n + 2) 25 i1 (.agg #[.int .i64 0, .int .i64 0, .int .i64 0, .int .i64 0, .int .u8 0]) 5 40 Try.underlying28 gi gz0 gz1 gz2 rfl (by decide) _ no _ rfl (World.ownsRow.alloc HRZ.out.rowO _) ⟨Z.heap.size, 0, none⟩ 1 1 [.int .i64 x.r.x0, .int .i64 x.r.y0, .int .i64 x.r.x1, .int .i64 x.r.y1, .int .u8 x.f] rfl rfl (news_new Z _ _ _ rfl) (ints_one rfl) (by omega) (by unfold maxLen; omega) (by omega) (by simp; omega) _ rfl ?_))
            intro g2 cp2 w9 hown hgrow hg2 hlt
            have HR9 : Hid (Rows2 n w p (O ++ [x]) S' (.slice (some ⟨g2, 0, none⟩) (no + 1) cp2) (.slice (some ⟨g, 0, none⟩) k cp) (no + 1) k w9) := hide ((HRZ.out.keep ((Below.refl _ _).alloc (Nat.le_refl _) _)).pushO hgrow (by rw [List.flatMap_append]; exact hown))
            clear hown hgrow hg2 hlt a0 a1 a2 a3 a4
            go_wp2
            go_ret2
            have hr : splitR l p = ([], 4) := by rw [HR.out, if_neg (by have := HM.out; omega)]
            exact ⟨⟨none, 0, by rw [hr]; rfl, by rw [hr]; exact World.ownsRow_nil _ _ _ _⟩, by rw [HN.out]; exact HR9.out.below⟩
  · have HR : Hid (splitR l p = ([], checkL l p)) := hide (if_neg h0)
    clear hf
    generalize splitR l p = R at *
    generalize checkL l p = ck at *
    have hne : (ck != 0) = true := by simpa using h0
    clear h0
    obtain ⟨⟨x0, y0, x1, y1⟩, f⟩ := l
    obtain ⟨mf, ms, ma⟩ := p
    show Calls Try.prog _ #[.agg #[.int .i64 x0, .int .i64 y0, .int .i64 x1, .int .i64 y1, .int .u8 f], .agg #[.int .i64 mf, .int .i64 ms, .int .i64 ma]] w (LotsRet w R)
    simp only [encL, encP] at HCK
    go_enter Try.func11, Try.ntmps11
    go_wp2_with (fail)
    obtain ⟨W, hW⟩ : ∃ x, x = (w.alloc (.cells #[.int .i64 x0, .int .i64 y0, .int .i64 x1, .int .i64 y1, .int .u8 f] 25)).alloc (.cells #[.int .i64 mf, .int .i64 ms, .int .i64 ma] 27) := ⟨_, rfl⟩
    rw [← hW]
    have hb0 : Below w.heap.size w W := by rw [hW]; exact ((Below.refl _ _).alloc (Nat.le_refl _) _).alloc (by simp) _
    have hs0 : w.heap.size + 2 ≤ W.heap.size := by rw [hW]; simp
    have HL : Box5L W w.heap.size ⟨⟨x0, y0, x1, y1⟩, f⟩ := by rw [hW]; refine ⟨?_, ?_, ?_, ?_, ?_, ?_, ?_, ?_, ?_, ?_⟩ <;> simp [go_sem]
    have HP : Box3 W (w.heap.size + 1) (.int .i64 mf) (.int .i64 ms) (.int .i64 ma) := by rw [hW]; refine ⟨?_, ?_, ?_⟩ <;> simp [go_sem]
    obtain ⟨n, hn⟩ : ∃ n, w.heap.size = n := ⟨_, rfl⟩
    rw [hn] at hb0 hs0 HL HP
    have K0 := hide hb0
    clear hW hb0
    refine (HCK.out _).mono ?_
    rintro e w1 ⟨rfl, hb⟩
    have K1 := hide (K0.out.trans (hb.mono (by omega)))
    clear hb
    go_wp2_with (fail)
    go_ret2
    exact ⟨⟨none, 0, by rw [HR.out]; rfl, by rw [HR.out]; exact World.ownsRow_nil _ _ _ _⟩, by rw [hn]; exact K1.out⟩
end Go.Proofs.Ytgdlbaabdebclaa

/- ParcelSplits and ParcelLots: the walks of the two laws that compare with the reference. -/
namespace Go.Proofs.Ytgdlbaabdebclaa
open Go.RowKit
set_option linter.unusedVariables false
set_option linter.unusedSimpArgs false

theorem splitR_len (l : Lot5) (p : Pl3) : (splitR l p).1.length ≤ 400 := by
  unfold splitR
  split
  · split
    · assumption
    · simp
  · simp
set_option maxRecDepth 100000 in
set_option maxHeartbeats 4000000 in
theorem splits_walk (l : Lot5) (p : Pl3) (hf : 0 ≤ l.f ∧ l.f ≤ 255) (w : World) : Calls Try.prog 3 #[.agg (encL l).toArray, .agg (encP p).toArray] w fun e w' => e = .returned (.bool true) ∧ Below w.heap.size w w' := by
  have HA : Hid (∀ W : World, Calls Try.prog 11 #[.agg (encL l).toArray, .agg (encP p).toArray] W (LotsRet W (splitR l p))) := hide (fun W => psplit_any l p hf W)
  have HB : Hid (∀ W : World, Calls Try.prog 12 #[.agg (encL l).toArray, .agg (encP p).toArray] W (LotsRet W (splitR l p))) := hide (fun W => rSplit_any l p hf W)
  have hl4 := splitR_len l p
  generalize splitR l p = R at *
  obtain ⟨R, ck⟩ := R
  simp only [encL, encP] at HA HB
  simp only at hl4
  show Calls Try.prog _ #[.agg #[.int .i64 l.r.x0, .int .i64 l.r.y0, .int .i64 l.r.x1, .int .i64 l.r.y1, .int .u8 l.f], .agg #[.int .i64 p.mf, .int .i64 p.ms, .int .i64 p.ma]] w _
  clear hf
  go_enter Try.func3, Try.ntmps3
  go_wp2_with (fail)
  obtain ⟨W, hW⟩ : ∃ x, x = (w.alloc (.cells #[.int .i64 l.r.x0, .int .i64 l.r.y0, .int .i64 l.r.x1, .int .i64 l.r.y1, .int .u8 l.f] 25)).alloc (.cells #[.int .i64 p.mf, .int .i64 p.ms, .int .i64 p.ma] 27) := ⟨_, rfl⟩
  rw [← hW]
  have hb0 : Below w.heap.size w W := by rw [hW]; exact ((Below.refl _ _).alloc (Nat.le_refl _) _).alloc (by simp) _
  have hs0 : w.heap.size + 2 ≤ W.heap.size := by rw [hW]; simp
  have HL : Box5L W w.heap.size l := by rw [hW]; refine ⟨?_, ?_, ?_, ?_, ?_, ?_, ?_, ?_, ?_, ?_⟩ <;> simp [go_sem]
  have HP : Box3 W (w.heap.size + 1) (.int .i64 p.mf) (.int .i64 p.ms) (.int .i64 p.ma) := by rw [hW]; refine ⟨?_, ?_, ?_⟩ <;> simp [go_sem]
  obtain ⟨n, hn⟩ : ∃ n, w.heap.size = n := ⟨_, rfl⟩
  have HN := hide hn
  rw [hn] at hb0 hs0 HL HP ⊢
  have K0 := hide hb0
  clear hW hb0 hn
  refine (HA.out _).mono ?_
  rintro e w1 ⟨⟨A1, c1, rfl, ho⟩, hb⟩
  have HL1 := HL.below hb
  have HP1 := HP.below hb
  have hs1 : n + 2 ≤ w1.heap.size := Nat.le_trans hs0 hb.size
  have K1 := hide (K0.out.trans (hb.mono (by omega)))
  have HO1 : Hid (RdK encL 5 w1 w1.heap.size (.slice A1 R.length c1) R) := hide (own_rd ho (fun _ => rfl))
  clear ho
  clear hb HL HP K0 hs0
  try clear l0 l1 l2 l3 l4 p0 p1 p2
  obtain ⟨l0, l1, l2, l3, l4, -, -, -, -, -⟩ := id HL1
  obtain ⟨p0, p1, p2⟩ := id HP1
  go_wp2_with (fail)
  refine (HB.out _).mono ?_
  rintro e w2 ⟨⟨A2, c2, rfl, ho⟩, hb⟩
  have HL2 := HL1.below hb
  have HP2 := HP1.below hb
  have hs2 : n + 2 ≤ w2.heap.size := Nat.le_trans hs1 hb.size
  have K2 := hide (K1.out.trans (hb.mono (by omega)))
  have HO2 : Hid (RdK encL 5 w2 w2.heap.size (.slice A2 R.length c2) R) := hide (own_rd ho (fun _ => rfl))
  have HO1b := hide ((HO1.out.below hb).mono hb.size)
  clear ho HO1
  clear hb HL1 HP1 K1 hs1
  try clear l0 l1 l2 l3 l4 p0 p1 p2
  obtain ⟨l0, l1, l2, l3, l4, -, -, -, -, -⟩ := id HL2
  obtain ⟨p0, p1, p2⟩ := id HP2
  have HSA := hide (rSameL_any HO1b.out HO2.out (by omega) (Nat.le_refl _) (Nat.le_refl _))
  rw [decide_eq_true (rfl : R = R)] at HSA
  clear hl4
  go_wp2_with (fail)
  refine HSA.out.mono ?_
  rintro e w3 ⟨rfl, hb⟩
  have K3 := hide (K2.out.trans (hb.mono (by omega)))
  clear hb HO1b HO2 HSA l0 l1 l2 l3 l4 p0 p1 p2
  go_wp2_with (fail)
  go_ret
  exact ⟨rfl, by rw [HN.out]; exact K3.out⟩
set_option maxRecDepth 100000 in
set_option maxHeartbeats 8000000 in
theorem lots_walk (l : Lot5) (p : Pl3) (hf : 0 ≤ l.f ∧ l.f ≤ 255) (w : World) : Calls Try.prog 6 #[.agg (encL l).toArray, .agg (encP p).toArray] w fun e w' => e = .returned (.bool true) ∧ Below w.heap.size w w' := by
  have H1 := hide (fun W => pgood_any l p hf W)
  have H2 := hide (fun W => rGood24_any l p hf W)
  have H3 := hide (fun W => pfront_any l hf W)
  have H4 := hide (fun W => rFront24_any l hf W)
  have H5 := hide (fun W => pcut_any l p hf W)
  have H6 := hide (fun W => rCut_any l p hf W)
  have H7 := hide (fun W => checkL_any l p hf W)
  have H8 := hide (fun W => rCheckL_any l p hf W)
  clear hf
  generalize goodR l p = G at *
  generalize frontR l = FR at *
  generalize cutE l p = C at *
  generalize checkL l p = ck at *
  obtain ⟨G1, G2⟩ := G
  obtain ⟨F1, F2⟩ := FR
  obtain ⟨⟨⟨u0, u1, u2, u3⟩, u4⟩, ⟨⟨v0, v1, v2, v3⟩, v4⟩, C3⟩ := C
  simp only [encL, encP] at H1 H2 H3 H4 H5 H6 H7 H8
  show Calls Try.prog _ #[.agg #[.int .i64 l.r.x0, .int .i64 l.r.y0, .int .i64 l.r.x1, .int .i64 l.r.y1, .int .u8 l.f], .agg #[.int .i64 p.mf, .int .i64 p.ms, .int .i64 p.ma]] w _
  go_enter Try.func6, Try.ntmps6
  go_wp2_with (fail)
  obtain ⟨W, hW⟩ : ∃ x, x = (w.alloc (.cells #[.int .i64 l.r.x0, .int .i64 l.r.y0, .int .i64 l.r.x1, .int .i64 l.r.y1, .int .u8 l.f] 25)).alloc (.cells #[.int .i64 p.mf, .int .i64 p.ms, .int .i64 p.ma] 27) := ⟨_, rfl⟩
  rw [← hW]
  have hb0 : Below w.heap.size w W := by rw [hW]; exact ((Below.refl _ _).alloc (Nat.le_refl _) _).alloc (by simp) _
  have hs0 : w.heap.size + 2 ≤ W.heap.size := by rw [hW]; simp
  have HL : Box5L W w.heap.size l := by rw [hW]; refine ⟨?_, ?_, ?_, ?_, ?_, ?_, ?_, ?_, ?_, ?_⟩ <;> simp [go_sem]
  have HP : Box3 W (w.heap.size + 1) (.int .i64 p.mf) (.int .i64 p.ms) (.int .i64 p.ma) := by rw [hW]; refine ⟨?_, ?_, ?_⟩ <;> simp [go_sem]
  obtain ⟨n, hn⟩ : ∃ n, w.heap.size = n := ⟨_, rfl⟩
  have HN := hide hn
  rw [hn] at hb0 hs0 HL HP ⊢
  have K0 := hide hb0
  clear hW hb0 hn
  refine (H1.out _).mono ?_
  rintro e w1 ⟨rfl, hb⟩
  have HL1 := HL.below hb
  have HP1 := HP.below hb
  have hs1 : n + 2 ≤ w1.heap.size := Nat.le_trans hs0 hb.size
  have K1 := hide (K0.out.trans (hb.mono (by omega)))
  clear hb HL HP K0 hs0
  try clear l0 l1 l2 l3 l4 p0 p1 p2
  obtain ⟨l0, l1, l2, l3, l4, -, -, -, -, -⟩ := id HL1
  obtain ⟨p0, p1, p2⟩ := id HP1
  go_wp2_with (fail)
  refine (H2.out _).mono ?_
  rintro e w2 ⟨rfl, hb⟩
  have HL2 := HL1.below hb
  have HP2 := HP1.below hb
  have hs2 : n + 2 ≤ w2.heap.size := Nat.le_trans hs1 hb.size
  have K2 := hide (K1.out.trans (hb.mono (by omega)))
  clear hb HL1 HP1 K1 hs1
  try clear l0 l1 l2 l3 l4 p0 p1 p2
  obtain ⟨l0, l1, l2, l3, l4, -, -, -, -, -⟩ := id HL2
  obtain ⟨p0, p1, p2⟩ := id HP2
  go_wp2_with (fail)
  refine (H3.out _).mono ?_
  rintro e w3 ⟨rfl, hb⟩
  have HL3 := HL2.below hb
  have HP3 := HP2.below hb
  have hs3 : n + 2 ≤ w3.heap.size := Nat.le_trans hs2 hb.size
  have K3 := hide (K2.out.trans (hb.mono (by omega)))
  clear hb HL2 HP2 K2 hs2
  try clear l0 l1 l2 l3 l4 p0 p1 p2
  obtain ⟨l0, l1, l2, l3, l4, -, -, -, -, -⟩ := id HL3
  obtain ⟨p0, p1, p2⟩ := id HP3
  go_wp2_with (fail)
  refine (H4.out _).mono ?_
  rintro e w4 ⟨rfl, hb⟩
  have HL4 := HL3.below hb
  have HP4 := HP3.below hb
  have hs4 : n + 2 ≤ w4.heap.size := Nat.le_trans hs3 hb.size
  have K4 := hide (K3.out.trans (hb.mono (by omega)))
  clear hb HL3 HP3 K3 hs3
  try clear l0 l1 l2 l3 l4 p0 p1 p2
  obtain ⟨l0, l1, l2, l3, l4, -, -, -, -, -⟩ := id HL4
  obtain ⟨p0, p1, p2⟩ := id HP4
  go_wp2_with (fail)
  refine (H5.out _).mono ?_
  rintro e w5 ⟨rfl, hb⟩
  have HL5 := HL4.below hb
  have HP5 := HP4.below hb
  have hs5 : n + 2 ≤ w5.heap.size := Nat.le_trans hs4 hb.size
  have K5 := hide (K4.out.trans (hb.mono (by omega)))
  clear hb HL4 HP4 K4 hs4
  try clear l0 l1 l2 l3 l4 p0 p1 p2
  obtain ⟨l0, l1, l2, l3, l4, -, -, -, -, -⟩ := id HL5
  obtain ⟨p0, p1, p2⟩ := id HP5
  have q0 : n < w5.heap.size := by omega
  have q1 : n < w5.heap.size + 1 := by omega
  have q2 : n + 1 < w5.heap.size := by omega
  have q3 : n + 1 < w5.heap.size + 1 := by omega
  go_wp2_with (fail)
  refine calls_name fun Z hZ => ?_
  have hb : Below w5.heap.size w5 Z := by
    rw [hZ]
    repeat (first | with_reducible exact Below.refl _ _ | with_reducible refine Below.setCell ?_ (by first | (simp; done) | (simp; omega)) _ | with_reducible refine Below.alloc ?_ (by first | omega | (simp; omega) | simp) _)
  have HX : Box5L Z w5.heap.size ⟨⟨u0, u1, u2, u3⟩, u4⟩ := by rw [hZ]; refine ⟨?_, ?_, ?_, ?_, ?_, ?_, ?_, ?_, ?_, ?_⟩ <;> simp [go_sem]
  have HY : Box5L Z (w5.heap.size + 1) ⟨⟨v0, v1, v2, v3⟩, v4⟩ := by rw [hZ]; refine ⟨?_, ?_, ?_, ?_, ?_, ?_, ?_, ?_, ?_, ?_⟩ <;> simp [go_sem]
  have HL6 := HL5.below hb
  have HP6 := HP5.below hb
  have hs6 : n + 2 ≤ Z.heap.size := Nat.le_trans hs5 hb.size
  have K6 := hide (K5.out.trans (hb.mono (by omega)))
  obtain ⟨m, hm⟩ : ∃ m, w5.heap.size = m := ⟨_, rfl⟩
  have HNM := hide (show n + 2 ≤ m by omega)
  rw [hm] at HX HY ⊢
  clear hZ hb HL5 HP5 hs5 K5 hm q0 q1 q2 q3 l0 l1 l2 l3 l4 p0 p1 p2
  refine (H6.out _).mono ?_
  rintro e w7 ⟨rfl, hb⟩
  have HX7 := HX.below hb
  have HY7 := HY.below hb
  have HL7 := HL6.below hb
  have HP7 := HP6.below hb
  have hs7 : n + 2 ≤ w7.heap.size := Nat.le_trans hs6 hb.size
  have K7 := hide (K6.out.trans (hb.mono (by omega)))
  clear hb HL6 HP6 K6 hs6
  try clear l0 l1 l2 l3 l4 p0 p1 p2
  obtain ⟨l0, l1, l2, l3, l4, -, -, -, -, -⟩ := id HL7
  obtain ⟨p0, p1, p2⟩ := id HP7
  clear HX HY l0 l1 l2 l3 l4 p0 p1 p2
  go_upto_region 7 with fail
  refine wp_name5 fun Z hZ => ?_
  have hb : Below w7.heap.size w7 Z := by
    rw [hZ]
    repeat (first | with_reducible exact Below.refl _ _ | with_reducible refine Below.setCell ?_ (by first | (simp; done) | (simp; omega)) _ | with_reducible refine Below.alloc ?_ (by first | omega | (simp; omega) | simp) _)
  have HU : Box5L Z w7.heap.size ⟨⟨u0, u1, u2, u3⟩, u4⟩ := by rw [hZ]; refine ⟨?_, ?_, ?_, ?_, ?_, ?_, ?_, ?_, ?_, ?_⟩ <;> simp [go_sem]
  have HV : Box5L Z (w7.heap.size + 1) ⟨⟨v0, v1, v2, v3⟩, v4⟩ := by rw [hZ]; refine ⟨?_, ?_, ?_, ?_, ?_, ?_, ?_, ?_, ?_, ?_⟩ <;> simp [go_sem]
  have HX8 := HX7.below hb
  have HY8 := HY7.below hb
  have HL8 := HL7.below hb
  have HP8 := HP7.below hb
  have hs8 : n + 2 ≤ Z.heap.size := Nat.le_trans hs7 hb.size
  have K8 := hide (K7.out.trans (hb.mono (by omega)))
  have hk8 : w7.heap.size + 1 < Z.heap.size := lt_of_cell HV.c0
  have hm8 : m + 1 < w7.heap.size := lt_of_cell HY7.c0
  obtain ⟨k, hk⟩ : ∃ k, w7.heap.size = k := ⟨_, rfl⟩
  rw [hk] at HU HV hk8 hm8 ⊢
  clear hZ hb HL7 HP7 hs7 K7 hk HX7 HY7
  obtain ⟨l0, l1, l2, l3, l4, -, -, -, -, -⟩ := id HL8
  obtain ⟨p0, p1, p2⟩ := id HP8
  obtain ⟨a0, a1, a2, a3, a4, -, -, -, -, -⟩ := id HX8
  obtain ⟨b0, b1, b2, b3, b4, -, -, -, -, -⟩ := id HY8
  obtain ⟨c0, c1, c2, c3, c4, -, -, -, -, -⟩ := id HU
  obtain ⟨d0, d1, d2, d3, d4, -, -, -, -, -⟩ := id HV
  simp only at a0 a1 a2 a3 a4 b0 b1 b2 b3 b4 c0 c1 c2 c3 c4 d0 d1 d2 d3 d4
  have q0 : n < Z.heap.size := by omega
  have q1 : n + 1 < Z.heap.size := by omega
  have q2 : m < Z.heap.size := by omega
  have q3 : m + 1 < Z.heap.size := by omega
  have q4 : k < Z.heap.size := by omega
  have g : Try.prog.eqGuardType Try.prog.depth 25 = false := by kernel_rfl
  refine wp_hab fun hab => ?_
  refine wp_region_above (by kernel_rfl) (by kernel_rfl) ?_
  repeat (go_big_quiet_step (((first | (go_at_call 25; exact above_of (H7.out _)) | (go_at_call 26; exact above_of (H8.out _))))))
  refine wpQuiet_nil ?_
  refine above_ends fun w9 hb => ?_
  have K9 := hide (K8.out.trans (hb.mono (by omega)))
  clear hab hb
  go_wp2_with (fail)
  go_ret
  exact ⟨rfl, by rw [HN.out]; exact K9.out⟩
end Go.Proofs.Ytgdlbaabdebclaa

/- The laws' small helpers, and the chapter's examples. -/
namespace Go.Proofs.Ytgdlbaabdebclaa
open Go.RowKit
set_option linter.unusedVariables false
set_option linter.unusedSimpArgs false

theorem block_any (f : Int) (w : World) : Calls Try.prog 33 #[.int .u8 f] w fun e w' => e = .returned (.agg #[.int .i64 0, .int .i64 0, .int .i64 8, .int .i64 4, .int .u8 f]) ∧ Below w.heap.size w w' := by
  go_enter Try.func33, Try.ntmps33
  go_wp2
  exact bodyPost_ret (v := .agg #[.int .i64 0, .int .i64 0, .int .i64 8, .int .i64 4, .int .u8 f]) (by simp [results, Try.results33, go_sem]) rfl ⟨rfl, (Below.refl _ _).alloc (Nat.le_refl _) _⟩
theorem wishes_any (w : World) : Calls Try.prog 32 #[] w fun e w' => e = .returned (.agg #[.int .i64 2, .int .i64 2, .int .i64 8]) ∧ Below w.heap.size w w' := by
  go_enter Try.func32, Try.ntmps32
  go_wp2
  exact bodyPost_ret (v := .agg #[.int .i64 2, .int .i64 2, .int .i64 8]) (by simp [results, Try.results32, go_sem]) rfl ⟨rfl, (Below.refl _ _).alloc (Nat.le_refl _) _⟩
theorem strip_any (x f : Int) (h0 : 0 ≤ x) (h1 : x ≤ 100) (w : World) : Calls Try.prog 34 #[.int .i64 x, .int .u8 f] w fun e w' => e = .returned (.agg #[.int .i64 x, .int .i64 0, .int .i64 (x + 2), .int .i64 4, .int .u8 f]) ∧ Below w.heap.size w w' := by
  go_enter Try.func34, Try.ntmps34
  go_wp2
  exact bodyPost_ret (v := .agg #[.int .i64 x, .int .i64 0, .int .i64 (x + 2), .int .i64 4, .int .u8 f]) (by simp [results, Try.results34, go_sem]) rfl ⟨rfl, (Below.refl _ _).alloc (Nat.le_refl _) _⟩
set_option maxRecDepth 100000 in
set_option maxHeartbeats 4000000 in
theorem valid24_any (l : Lot5) (p : Pl3) (hf : 0 ≤ l.f ∧ l.f ≤ 255) (w : World) : Calls Try.prog 14 #[.agg (encL l).toArray, .agg (encP p).toArray] w fun e w' => e = .returned (.bool (checkL l p == 0)) ∧ Below w.heap.size w w' := by
  have H := hide (fun W => rCheckL_any l p hf W)
  clear hf
  generalize checkL l p = ck at *
  simp only [encL, encP] at H
  show Calls Try.prog _ #[.agg #[.int .i64 l.r.x0, .int .i64 l.r.y0, .int .i64 l.r.x1, .int .i64 l.r.y1, .int .u8 l.f], .agg #[.int .i64 p.mf, .int .i64 p.ms, .int .i64 p.ma]] w _
  go_enter Try.func14, Try.ntmps14
  go_wp2_with (fail)
  refine calls_name fun W hW => ?_
  have K0 : Hid (Below w.heap.size w W) := hide (by rw [hW]; exact ((Below.refl _ _).alloc (Nat.le_refl _) _).alloc (by simp) _)
  clear hW
  refine (H.out _).mono ?_
  rintro e w1 ⟨rfl, hb⟩
  have K1 := hide (K0.out.trans (hb.mono K0.out.size))
  clear hb
  go_wp2_with (fail)
  go_ret
  exact ⟨by first | rfl | (simp; done), K1.out⟩
def exA : List Lot5 := [⟨⟨0, 0, 2, 4⟩, 12⟩, ⟨⟨2, 0, 4, 4⟩, 12⟩, ⟨⟨4, 0, 6, 4⟩, 12⟩, ⟨⟨6, 0, 8, 4⟩, 12⟩]
def exB : List Lot5 := [⟨⟨0, 0, 2, 4⟩, 4⟩, ⟨⟨2, 0, 4, 4⟩, 4⟩, ⟨⟨4, 0, 6, 4⟩, 4⟩, ⟨⟨6, 0, 8, 4⟩, 4⟩]
def exC : List Lot5 := [⟨⟨0, 0, 8, 2⟩, 1⟩, ⟨⟨0, 2, 8, 4⟩, 1⟩]
theorem exA_split : splitR ⟨⟨0, 0, 8, 4⟩, 12⟩ ⟨2, 2, 8⟩ = (exA, 0) := by kernel_rfl
theorem exB_split : splitR ⟨⟨0, 0, 8, 4⟩, 4⟩ ⟨2, 2, 8⟩ = (exB, 0) := by kernel_rfl
theorem exC_split : splitR ⟨⟨0, 0, 8, 4⟩, 1⟩ ⟨2, 2, 8⟩ = (exC, 0) := by kernel_rfl
theorem rd_own {W : World} {R : List Lot5} {B : Nat} {A : Option Addr} {c : Nat} (h : W.ownsRow B 25 5 (.slice A R.length c) R.length (R.flatMap encL)) : RdK encL 5 W W.heap.size (.slice A R.length c) R := own_rd h (fun _ => rfl)
theorem rd_litL (w : World) (l : List Lot5) (t : TypeId) (c : Nat) : RdK encL 5 (w.alloc (.cells (l.flatMap encL).toArray t)) (w.alloc (.cells (l.flatMap encL).toArray t)).heap.size (.slice (some ⟨w.heap.size, 0, none⟩) l.length c) l := by
  refine ⟨_, c, rfl, fun _ => ⟨w.heap.size, 0, rfl, by simp, fun j x hx i u hu => ?_⟩⟩
  have := news_new w (l.flatMap encL) t w.heap.size rfl _ _ (flat_get (k := 5) (fun _ => rfl) l j x i u hx hu)
  rw [addr_add] at this
  rwa [Nat.zero_add]
set_option maxRecDepth 100000 in
set_option maxHeartbeats 8000000 in
theorem alive24_any (w : World) : Calls Try.prog 15 #[] w fun e w' => e = .returned (.bool true) ∧ Below w.heap.size w w' := by
  have HS1 : Hid (∀ W : World, Calls Try.prog 11 #[.agg #[.int .i64 0, .int .i64 0, .int .i64 8, .int .i64 4, .int .u8 12], .agg #[.int .i64 2, .int .i64 2, .int .i64 8]] W fun e w' => (∃ A c, e = .returned (.tuple #[.slice A 4 c, .int .i64 0]) ∧ RdK encL 5 w' w'.heap.size (.slice A 4 c) exA) ∧ Below W.heap.size W w') := hide (fun W => by
    refine (psplit_any ⟨⟨0, 0, 8, 4⟩, 12⟩ ⟨2, 2, 8⟩ (by decide) W).mono ?_
    rw [exA_split]
    rintro e w' ⟨⟨A, c, he, ho⟩, hb⟩
    exact ⟨⟨A, c, he, rd_own ho⟩, hb⟩)
  have HS2 : Hid (∀ W : World, Calls Try.prog 11 #[.agg #[.int .i64 0, .int .i64 0, .int .i64 8, .int .i64 4, .int .u8 4], .agg #[.int .i64 2, .int .i64 2, .int .i64 8]] W fun e w' => (∃ A c, e = .returned (.tuple #[.slice A 4 c, .int .i64 0]) ∧ RdK encL 5 w' w'.heap.size (.slice A 4 c) exB) ∧ Below W.heap.size W w') := hide (fun W => by
    refine (psplit_any ⟨⟨0, 0, 8, 4⟩, 4⟩ ⟨2, 2, 8⟩ (by decide) W).mono ?_
    rw [exB_split]
    rintro e w' ⟨⟨A, c, he, ho⟩, hb⟩
    exact ⟨⟨A, c, he, rd_own ho⟩, hb⟩)
  have HS3 : Hid (∀ W : World, Calls Try.prog 11 #[.agg #[.int .i64 0, .int .i64 0, .int .i64 8, .int .i64 4, .int .u8 1], .agg #[.int .i64 2, .int .i64 2, .int .i64 8]] W fun e w' => (∃ A c, e = .returned (.tuple #[.slice A 2 c, .int .i64 0]) ∧ RdK encL 5 w' w'.heap.size (.slice A 2 c) exC) ∧ Below W.heap.size W w') := hide (fun W => by
    refine (psplit_any ⟨⟨0, 0, 8, 4⟩, 1⟩ ⟨2, 2, 8⟩ (by decide) W).mono ?_
    rw [exC_split]
    rintro e w' ⟨⟨A, c, he, ho⟩, hb⟩
    exact ⟨⟨A, c, he, rd_own ho⟩, hb⟩)
  have K0 := hide (Below.refl w.heap.size w)
  go_enter Try.func15, Try.ntmps15
  go_wp2_with (fail)
  refine (block_any 12 _).mono ?_
  rintro e w1 ⟨rfl, hb⟩
  have K1 := hide (K0.out.trans (hb.mono K0.out.size))
  clear hb K0
  go_wp2_with (fail)
  refine (wishes_any _).mono ?_
  rintro e w2 ⟨rfl, hb⟩
  have K2 := hide (K1.out.trans (hb.mono K1.out.size))
  clear hb K1
  go_wp2_with (fail)
  refine (HS1.out _).mono ?_
  rintro e w3 ⟨⟨A1, c1, rfl, ho⟩, hb⟩
  have K3 := hide (K2.out.trans (hb.mono K2.out.size))
  have HO1 := hide ho
  clear ho
  clear hb K2
  go_wp2_with (fail)
  refine (block_any 4 _).mono ?_
  rintro e w4 ⟨rfl, hb⟩
  have K4 := hide (K3.out.trans (hb.mono K3.out.size))
  replace HO1 := hide ((HO1.out.below hb).mono hb.size)
  clear hb K3
  go_wp2_with (fail)
  refine (wishes_any _).mono ?_
  rintro e w5 ⟨rfl, hb⟩
  have K5 := hide (K4.out.trans (hb.mono K4.out.size))
  replace HO1 := hide ((HO1.out.below hb).mono hb.size)
  clear hb K4
  go_wp2_with (fail)
  refine (HS2.out _).mono ?_
  rintro e w6 ⟨⟨A2, c2, rfl, ho⟩, hb⟩
  have K6 := hide (K5.out.trans (hb.mono K5.out.size))
  replace HO1 := hide ((HO1.out.below hb).mono hb.size)
  have HO2 := hide ho
  clear ho
  clear hb K5
  go_wp2_with (fail)
  refine (block_any 1 _).mono ?_
  rintro e w7 ⟨rfl, hb⟩
  have K7 := hide (K6.out.trans (hb.mono K6.out.size))
  replace HO1 := hide ((HO1.out.below hb).mono hb.size)
  replace HO2 := hide ((HO2.out.below hb).mono hb.size)
  clear hb K6
  go_wp2_with (fail)
  refine (wishes_any _).mono ?_
  rintro e w8 ⟨rfl, hb⟩
  have K8 := hide (K7.out.trans (hb.mono K7.out.size))
  replace HO1 := hide ((HO1.out.below hb).mono hb.size)
  replace HO2 := hide ((HO2.out.below hb).mono hb.size)
  clear hb K7
  go_wp2_with (fail)
  refine (HS3.out _).mono ?_
  rintro e w9 ⟨⟨A3, c3, rfl, ho⟩, hb⟩
  have K9 := hide (K8.out.trans (hb.mono K8.out.size))
  replace HO1 := hide ((HO1.out.below hb).mono hb.size)
  replace HO2 := hide ((HO2.out.below hb).mono hb.size)
  have HO3 := hide ho
  clear ho
  clear hb K8
  have hw9 : True := trivial
  go_wp2_with (fail)
  refine calls_name fun Z hZ => ?_
  have hbz : Below w9.heap.size w9 Z := by
    rw [hZ]
    repeat (first | with_reducible exact Below.refl _ _ | with_reducible refine Below.alloc ?_ (by first | omega | (simp; omega) | simp) _)
  have HO4 : Hid (RdK encL 5 Z Z.heap.size (.slice (some ⟨w9.heap.size, 0, none⟩) 2 2) exC) := hide (by
    rw [hZ]
    exact rd_litL w9 exC 25 2)
  replace HO1 := hide ((HO1.out.below hbz).mono hbz.size)
  replace HO2 := hide ((HO2.out.below hbz).mono hbz.size)
  replace HO3 := hide ((HO3.out.below hbz).mono hbz.size)
  have KZ := hide (K9.out.trans (hbz.mono K9.out.size))
  clear hZ hbz K9
  generalize w9.heap.size = g4 at *
  refine (strip_any 0 12 (by omega) (by omega) _).mono ?_
  rintro e w10 ⟨rfl, hb⟩
  have K10 := hide (KZ.out.trans (hb.mono KZ.out.size))
  replace HO1 := hide ((HO1.out.below hb).mono hb.size)
  replace HO2 := hide ((HO2.out.below hb).mono hb.size)
  replace HO3 := hide ((HO3.out.below hb).mono hb.size)
  replace HO4 := hide ((HO4.out.below hb).mono hb.size)
  clear hb KZ
  go_wp2_with (fail)
  refine (strip_any 2 12 (by omega) (by omega) _).mono ?_
  rintro e w11 ⟨rfl, hb⟩
  have K11 := hide (K10.out.trans (hb.mono K10.out.size))
  replace HO1 := hide ((HO1.out.below hb).mono hb.size)
  replace HO2 := hide ((HO2.out.below hb).mono hb.size)
  replace HO3 := hide ((HO3.out.below hb).mono hb.size)
  replace HO4 := hide ((HO4.out.below hb).mono hb.size)
  clear hb K10
  go_wp2_with (fail)
  refine (strip_any 4 12 (by omega) (by omega) _).mono ?_
  rintro e w12 ⟨rfl, hb⟩
  have K12 := hide (K11.out.trans (hb.mono K11.out.size))
  replace HO1 := hide ((HO1.out.below hb).mono hb.size)
  replace HO2 := hide ((HO2.out.below hb).mono hb.size)
  replace HO3 := hide ((HO3.out.below hb).mono hb.size)
  replace HO4 := hide ((HO4.out.below hb).mono hb.size)
  clear hb K11
  go_wp2_with (fail)
  refine (strip_any 6 12 (by omega) (by omega) _).mono ?_
  rintro e w13 ⟨rfl, hb⟩
  have K13 := hide (K12.out.trans (hb.mono K12.out.size))
  replace HO1 := hide ((HO1.out.below hb).mono hb.size)
  replace HO2 := hide ((HO2.out.below hb).mono hb.size)
  replace HO3 := hide ((HO3.out.below hb).mono hb.size)
  replace HO4 := hide ((HO4.out.below hb).mono hb.size)
  clear hb K12
  go_wp2_with (fail)
  refine calls_name fun Z hZ => ?_
  have hbz : Below w13.heap.size w13 Z := by
    rw [hZ]
    repeat (first | with_reducible exact Below.refl _ _ | with_reducible refine Below.alloc ?_ (by first | omega | (simp; omega) | simp) _)
  have HO5 : Hid (RdK encL 5 Z Z.heap.size (.slice (some ⟨w13.heap.size, 0, none⟩) 4 4) exA) := hide (by
    rw [hZ]
    exact rd_litL w13 exA 25 4)
  replace HO1 := hide ((HO1.out.below hbz).mono hbz.size)
  replace HO2 := hide ((HO2.out.below hbz).mono hbz.size)
  replace HO3 := hide ((HO3.out.below hbz).mono hbz.size)
  replace HO4 := hide ((HO4.out.below hbz).mono hbz.size)
  have KZ := hide (K13.out.trans (hbz.mono K13.out.size))
  clear hZ hbz K13
  generalize w13.heap.size = g5 at *
  have HSA := hide (rSameL_any HO1.out HO5.out (by decide) (Nat.le_refl _) (Nat.le_refl _))
  rw [decide_eq_true (rfl : exA = exA)] at HSA
  refine HSA.out.mono ?_
  rintro e w14 ⟨rfl, hb⟩
  have K14 := hide (KZ.out.trans (hb.mono KZ.out.size))
  replace HO1 := hide ((HO1.out.below hb).mono hb.size)
  replace HO2 := hide ((HO2.out.below hb).mono hb.size)
  replace HO3 := hide ((HO3.out.below hb).mono hb.size)
  replace HO4 := hide ((HO4.out.below hb).mono hb.size)
  clear hb KZ HSA HO5
  go_wp2_with (fail)
  refine (strip_any 0 4 (by omega) (by omega) _).mono ?_
  rintro e w15 ⟨rfl, hb⟩
  have K15 := hide (K14.out.trans (hb.mono K14.out.size))
  replace HO1 := hide ((HO1.out.below hb).mono hb.size)
  replace HO2 := hide ((HO2.out.below hb).mono hb.size)
  replace HO3 := hide ((HO3.out.below hb).mono hb.size)
  replace HO4 := hide ((HO4.out.below hb).mono hb.size)
  clear hb K14
  go_wp2_with (fail)
  refine (strip_any 2 4 (by omega) (by omega) _).mono ?_
  rintro e w16 ⟨rfl, hb⟩
  have K16 := hide (K15.out.trans (hb.mono K15.out.size))
  replace HO1 := hide ((HO1.out.below hb).mono hb.size)
  replace HO2 := hide ((HO2.out.below hb).mono hb.size)
  replace HO3 := hide ((HO3.out.below hb).mono hb.size)
  replace HO4 := hide ((HO4.out.below hb).mono hb.size)
  clear hb K15
  go_wp2_with (fail)
  refine (strip_any 4 4 (by omega) (by omega) _).mono ?_
  rintro e w17 ⟨rfl, hb⟩
  have K17 := hide (K16.out.trans (hb.mono K16.out.size))
  replace HO1 := hide ((HO1.out.below hb).mono hb.size)
  replace HO2 := hide ((HO2.out.below hb).mono hb.size)
  replace HO3 := hide ((HO3.out.below hb).mono hb.size)
  replace HO4 := hide ((HO4.out.below hb).mono hb.size)
  clear hb K16
  go_wp2_with (fail)
  refine (strip_any 6 4 (by omega) (by omega) _).mono ?_
  rintro e w18 ⟨rfl, hb⟩
  have K18 := hide (K17.out.trans (hb.mono K17.out.size))
  replace HO1 := hide ((HO1.out.below hb).mono hb.size)
  replace HO2 := hide ((HO2.out.below hb).mono hb.size)
  replace HO3 := hide ((HO3.out.below hb).mono hb.size)
  replace HO4 := hide ((HO4.out.below hb).mono hb.size)
  clear hb K17
  go_wp2_with (fail)
  refine calls_name fun Z hZ => ?_
  have hbz : Below w18.heap.size w18 Z := by
    rw [hZ]
    repeat (first | with_reducible exact Below.refl _ _ | with_reducible refine Below.alloc ?_ (by first | omega | (simp; omega) | simp) _)
  have HO5 : Hid (RdK encL 5 Z Z.heap.size (.slice (some ⟨w18.heap.size, 0, none⟩) 4 4) exB) := hide (by
    rw [hZ]
    exact rd_litL w18 exB 25 4)
  replace HO1 := hide ((HO1.out.below hbz).mono hbz.size)
  replace HO2 := hide ((HO2.out.below hbz).mono hbz.size)
  replace HO3 := hide ((HO3.out.below hbz).mono hbz.size)
  replace HO4 := hide ((HO4.out.below hbz).mono hbz.size)
  have KZ := hide (K18.out.trans (hbz.mono K18.out.size))
  clear hZ hbz K18
  generalize w18.heap.size = g5 at *
  have HSA := hide (rSameL_any HO2.out HO5.out (by decide) (Nat.le_refl _) (Nat.le_refl _))
  rw [decide_eq_true (rfl : exB = exB)] at HSA
  refine HSA.out.mono ?_
  rintro e w19 ⟨rfl, hb⟩
  have K19 := hide (KZ.out.trans (hb.mono KZ.out.size))
  replace HO1 := hide ((HO1.out.below hb).mono hb.size)
  replace HO2 := hide ((HO2.out.below hb).mono hb.size)
  replace HO3 := hide ((HO3.out.below hb).mono hb.size)
  replace HO4 := hide ((HO4.out.below hb).mono hb.size)
  clear hb KZ HSA HO5
  have HSA := hide (rSameL_any HO3.out HO4.out (by decide) (Nat.le_refl _) (Nat.le_refl _))
  rw [decide_eq_true (rfl : exC = exC)] at HSA
  go_wp2_with (fail)
  refine HSA.out.mono ?_
  rintro e w20 ⟨rfl, hb⟩
  have K20 := hide (K19.out.trans (hb.mono K19.out.size))
  clear hb K19 HSA HO1 HO2 HO3 HO4
  go_wp2_with (fail)
  go_ret
  exact ⟨rfl, K20.out⟩
end Go.Proofs.Ytgdlbaabdebclaa

/- ParcelFills: the lots of a lot are disjoint and fill it: the walk. -/
namespace Go.Proofs.Ytgdlbaabdebclaa
open Go.RowKit
set_option linter.unusedVariables false
set_option linter.unusedSimpArgs false

/-- Made again of its lots, a lot is one rectangle. -/
theorem makeF_leaves {l : Lot5} {p : Pl3} (hv : validL l) (h4 : (leaves p l).length ≤ 400) : makeF ((leaves p l).map Lot5.r) = ([l.r], 0) := by
  have hl : ∀ s ∈ (leaves p l).map Lot5.r, valid4 s := fun s hs => by
    obtain ⟨x, hx, rfl⟩ := List.mem_map.1 hs
    exact (ok_valid x.r).1 (leaves_valid hv x hx).1
  have hr : valid4 l.r := (ok_valid l.r).1 hv.1
  have hw : ∀ s ∈ (leaves p l).map Lot5.r, wf4 s := fun s hs => ⟨(hl s hs).1, (hl s hs).2.1⟩
  have hc : RCan [l.r] := ⟨[⟨l.r.x0, l.r.x1, [(l.r.y0, l.r.y1)]⟩], ⟨hr.1, by simp, by simp [SCan]; exact hr.2.1⟩, by simp [flat, flat1]⟩
  have e : rjoin hFst ((leaves p l).map Lot5.r) [] = [l.r] := (rjoin_eq (h := hFst) rfl hw (by simp) hc fun x y => by
    have := leaves_cover p x y l
    simp only [hFst, decide_eq_true_eq]
    rw [this]
    simp [pmem]).symm
  have hall : ((leaves p l).map Lot5.r).any (fun r => !decide (valid4 r)) = false := by
    rw [List.any_eq_false]
    intro s hs
    simp [hl s hs]
  unfold makeF madeF
  rw [e, hall, List.length_map, if_neg (by omega)]
  simp
theorem area_take {l : Lot5} {p : Pl3} (hv : validL l) (m : Nat) : 0 ≤ (((leaves p l).map areaL).take m).sum ∧ (((leaves p l).map areaL).take m).sum ≤ 4000000000000 := by
  rw [← List.map_take]
  have key : ∀ L : List Lot5, (∀ x ∈ L, validL x) → 0 ≤ (L.map areaL).sum := by
    intro L
    induction L with
    | nil => intro _; simp
    | cons x L ih =>
      intro h
      have h1 := ih fun y hy => h y (by simp [hy])
      have h2 := valid_pos (h x (by simp))
      have h3 : 0 ≤ areaL x := Int.mul_nonneg (by omega) (by omega)
      rw [List.map_cons, List.sum_cons]
      omega
  have h1 := key ((leaves p l).take m) fun x hx => leaves_valid hv x (List.mem_of_mem_take hx)
  have h2 := key ((leaves p l).drop m) fun x hx => leaves_valid hv x (List.mem_of_mem_drop hx)
  have h3 := leaves_area p l
  rw [← List.take_append_drop m (leaves p l), List.map_append, List.sum_append] at h3
  have h4 := valid_pos hv
  have h5 : areaL l ≤ 2000000 * 2000000 := Int.mul_le_mul (by omega) (by omega) (by omega) (by omega)
  omega
theorem sum_take {Q : List Lot5} {m : Nat} {x : Lot5} (h : Q[m]? = some x) : ((Q.map areaL).take (m + 1)).sum = ((Q.map areaL).take m).sum + areaL x := by
  obtain ⟨hm, hp⟩ := List.getElem?_eq_some_iff.1 h
  rw [← List.map_take, ← List.map_take, List.take_succ_eq_append_getElem hm, hp]
  simp
theorem map_take_r {Q : List Lot5} {m : Nat} {x : Lot5} (h : Q[m]? = some x) : ((Q.map Lot5.r).take (m + 1)).flatMap encR = ((Q.map Lot5.r).take m).flatMap encR ++ encR x.r := by
  obtain ⟨hm, hp⟩ := List.getElem?_eq_some_iff.1 h
  rw [← List.map_take, ← List.map_take, List.take_succ_eq_append_getElem hm, hp]
  simp
theorem RdK.cells5 {W : World} {B n c : Nat} {A : Option Addr} {Q : List Lot5} (h : RdK encL 5 W B (.slice A n c) Q) (hq : Q ≠ []) : ∃ b off, A = some ⟨b, off, none⟩ ∧ b < B ∧ ∀ j x, Q[j]? = some x → ∀ i u, (encL x)[i]? = some u → W.cell? ⟨b, off + j * 5 + i, none⟩ = some u := by
  obtain ⟨A', c', hv, hc⟩ := h
  cases hv
  exact hc hq
theorem own_n_eq {w : World} {B : Nat} {e : TypeId} {size : Nat} {v v' : Value} {n n' : Nat} {xs xs' : List Value} (h : w.ownsRow B e size v n xs) (hv : v = v') (hn : n = n') (hx : xs = xs') : w.ownsRow B e size v' n' xs' := by subst hv hn hx; exact h
set_option maxRecDepth 100000 in
set_option maxHeartbeats 16000000 in
theorem fills_walk (l : Lot5) (p : Pl3) (hf : 0 ≤ l.f ∧ l.f ≤ 255) (w : World) : Calls Try.prog 4 #[.agg (encL l).toArray, .agg (encP p).toArray] w fun e w' => e = .returned (.bool true) ∧ Below w.heap.size w w' := by
  have HV := hide (fun W => valid24_any l p hf W)
  have HAL := hide (fun W => alive24_any W)
  by_cases h0 : checkL l p = 0
  · have hv := checkL_valid h0
    have hS := fun W => psplit_any l p hf W
    rw [h0] at HV
    have HV1 : Hid (∀ W : World, Calls Try.prog 14 #[.agg #[.int .i64 l.r.x0, .int .i64 l.r.y0, .int .i64 l.r.x1, .int .i64 l.r.y1, .int .u8 l.f], .agg #[.int .i64 p.mf, .int .i64 p.ms, .int .i64 p.ma]] W fun e w' => e = .returned (.bool true) ∧ Below W.heap.size W w') := hide HV.out
    clear HV
    by_cases h4 : (leaves p l).length ≤ 400
    · have hR : splitR l p = (leaves p l, 0) := by unfold splitR; rw [if_pos h0, if_pos h4]
      rw [hR] at hS
      have HMK := hide (makeF_leaves hv h4)
      have HSUM := hide (leaves_area p l)
      have HBD := hide (fun m => area_take (p := p) hv m)
      have HVL := hide (fun x hx => leaves_valid (p := p) hv x hx)
      have HARL : Hid (∀ W : World, Calls Try.prog 16 #[.agg #[.int .i64 l.r.x0, .int .i64 l.r.y0, .int .i64 l.r.x1, .int .i64 l.r.y1]] W fun e w' => e = .returned (.int .i64 (areaL l)) ∧ Below W.heap.size W w') := hide (fun W => rArea_box l.r hv.1 W)
      generalize leaves p l = Q at *
      have HS : Hid (∀ W : World, Calls Try.prog 11 #[.agg #[.int .i64 l.r.x0, .int .i64 l.r.y0, .int .i64 l.r.x1, .int .i64 l.r.y1, .int .u8 l.f], .agg #[.int .i64 p.mf, .int .i64 p.ms, .int .i64 p.ma]] W (LotsRet W (Q, 0))) := hide hS
      clear hS hR h0 hv hf
      show Calls Try.prog _ #[.agg #[.int .i64 l.r.x0, .int .i64 l.r.y0, .int .i64 l.r.x1, .int .i64 l.r.y1, .int .u8 l.f], .agg #[.int .i64 p.mf, .int .i64 p.ms, .int .i64 p.ma]] w _
      go_enter Try.func4, Try.ntmps4
      go_wp2_with (fail)
      obtain ⟨W, hW⟩ : ∃ x, x = (w.alloc (.cells #[.int .i64 l.r.x0, .int .i64 l.r.y0, .int .i64 l.r.x1, .int .i64 l.r.y1, .int .u8 l.f] 25)).alloc (.cells #[.int .i64 p.mf, .int .i64 p.ms, .int .i64 p.ma] 27) := ⟨_, rfl⟩
      rw [← hW]
      have hb0 : Below w.heap.size w W := by rw [hW]; exact ((Below.refl _ _).alloc (Nat.le_refl _) _).alloc (by simp) _
      have hs0 : w.heap.size + 2 ≤ W.heap.size := by rw [hW]; simp
      have HL : Box5L W w.heap.size l := by rw [hW]; refine ⟨?_, ?_, ?_, ?_, ?_, ?_, ?_, ?_, ?_, ?_⟩ <;> simp [go_sem]
      have HP : Box3 W (w.heap.size + 1) (.int .i64 p.mf) (.int .i64 p.ms) (.int .i64 p.ma) := by rw [hW]; refine ⟨?_, ?_, ?_⟩ <;> simp [go_sem]
      obtain ⟨n, hn⟩ : ∃ n, w.heap.size = n := ⟨_, rfl⟩
      have HN := hide hn
      rw [hn] at hb0 hs0 HL HP ⊢
      have K0 := hide hb0
      clear hW hb0 hn
      refine (HV1.out _).mono ?_
      rintro e w1 ⟨rfl, hb⟩
      have HL1 := HL.below hb
      have HP1 := HP.below hb
      have hs1 : n + 2 ≤ w1.heap.size := Nat.le_trans hs0 hb.size
      have K1 := hide (K0.out.trans (hb.mono (by omega)))
      clear hb HL HP K0 hs0
      try clear l0 l1 l2 l3 l4 p0 p1 p2
      obtain ⟨l0, l1, l2, l3, l4, -, -, -, -, -⟩ := id HL1
      obtain ⟨p0, p1, p2⟩ := id HP1
      go_wp2_with (fail)
      refine (HS.out _).mono ?_
      rintro e w2 ⟨⟨A1, c1, rfl, ho⟩, hb⟩
      have HL2 := HL1.below hb
      have HP2 := HP1.below hb
      have hs2 : n + 2 ≤ w2.heap.size := Nat.le_trans hs1 hb.size
      have K2 := hide (K1.out.trans (hb.mono (by omega)))
      have HO2 : Hid (RdK encL 5 w2 w2.heap.size (.slice A1 Q.length c1) Q) := hide (own_rd ho (fun _ => rfl))
      clear ho HV1 HS
      clear hb HL1 HP1 K1 hs1
      try clear l0 l1 l2 l3 l4 p0 p1 p2
      obtain ⟨l0, l1, l2, l3, l4, -, -, -, -, -⟩ := id HL2
      obtain ⟨p0, p1, p2⟩ := id HP2
      clear l0 l1 l2 l3 l4 p0 p1 p2
      go_wp2_with (fail)
      go_loopw [7, 8, 9] (fun s a i wr => ∃ (m : Nat) (A2 : Option Addr) (c2 : Nat), m ≤ Q.length ∧ s = .slice A2 m c2 ∧ a = .int .i64 ((Q.map areaL).take m).sum ∧ i = .int .i64 m ∧ Hid (wr.ownsRow w2.heap.size 23 4 (.slice A2 m c2) m (((Q.map Lot5.r).take m).flatMap encR)) ∧ Hid (Below w2.heap.size w2 wr)) (fun _ _ i _ => Q.length - (intOf i).toNat)
      case atStart => exact ⟨0, none, 0, Nat.zero_le _, rfl, by simp, rfl, hide (by simpa using World.ownsRow_nil _ _ _ _), hide (Below.refl _ _)⟩
      case round =>
        obtain ⟨m, A2, c2, hm, rfl, rfl, rfl, HR, HB⟩ := hrel
        obtain ⟨i1, gi, gz0, gz1, gz2⟩ := info_parts infoRc
        have hsw := HB.out.size
        by_cases hlt : m < Q.length
        · obtain ⟨x, hx⟩ : ∃ x, Q[m]? = some x := ⟨_, List.getElem?_eq_getElem hlt⟩
          obtain ⟨b, o, rfl, hbl, k⟩ := HO2.out.cells5 (by intro e; rw [e] at hlt; simp at hlt)
          have d0 : wr.cell? ⟨b, o + m * 5, none⟩ = some (.int .i64 x.r.x0) := (HB.out.cell (p := ⟨b, _, none⟩) hbl).trans (k m _ hx 0 _ rfl)
          have d1 : wr.cell? ⟨b, o + m * 5 + 1, none⟩ = some (.int .i64 x.r.y0) := (HB.out.cell (p := ⟨b, _, none⟩) hbl).trans (k m _ hx 1 _ rfl)
          have d2 : wr.cell? ⟨b, o + m * 5 + 2, none⟩ = some (.int .i64 x.r.x1) := (HB.out.cell (p := ⟨b, _, none⟩) hbl).trans (k m _ hx 2 _ rfl)
          have d3 : wr.cell? ⟨b, o + m * 5 + 3, none⟩ = some (.int .i64 x.r.y1) := (HB.out.cell (p := ⟨b, _, none⟩) hbl).trans (k m _ hx 3 _ rfl)
          have d4 : wr.cell? ⟨b, o + m * 5 + 4, none⟩ = some (.int .u8 x.f) := (HB.out.cell (p := ⟨b, _, none⟩) hbl).trans (k m _ hx 4 _ rfl)
          have mz : (m : Int) < (Q.length : Int) := by omega
          have HX := hide hx
          clear k hx
          have HAX : Hid (∀ W : World, Calls Try.prog 16 #[.agg #[.int .i64 x.r.x0, .int .i64 x.r.y0, .int .i64 x.r.x1, .int .i64 x.r.y1]] W fun e w' => e = .returned (.int .i64 (areaL x)) ∧ Below W.heap.size W w') := hide (fun W => rArea_box x.r (HVL.out x (List.mem_of_getElem? HX.out)).1 W)
          have hb1 := HBD.out m
          have hb2 := HBD.out (m + 1)
          have HST := hide (sum_take HX.out)
          have HMT := hide (map_take_r HX.out)
          rw [HST.out] at hb2
          obtain ⟨hb1, hb1'⟩ := hb1
          obtain ⟨hb2, hb2'⟩ := hb2
          generalize ((Q.map areaL).take m).sum = s at *
          generalize areaL x = ax at *
          go_wp2_with (at_builtin; go_loud (refine wpList_append_lies _ rfl (.tmp 36) (.tmp 42) 37 rfl w2.heap.size 23 i1 (.agg #[.int .i64 0, .int .i64 0, .int .i64 0, .int .i64 0]) 4 32 Try.underlying37 gi gz0 gz1 gz2 rfl (by decide) _ m _ rfl (World.ownsRow.alloc HR.out _) ⟨wr.heap.size, 0, none⟩ 1 1 [.int .i64 x.r.x0, .int .i64 x.r.y0, .int .i64 x.r.x1, .int .i64 x.r.y1] rfl rfl (news_new wr _ _ _ rfl) (ints_one rfl) (by omega) (by unfold maxLen; omega) (by omega) (by simp; omega) _ rfl ?_))
          intro g2 cp2 w9 hown hgrow hg2 hlt2
          have HB9 : Hid (Below w2.heap.size w2 w9) := hide ((HB.out.alloc hsw _).grown hgrow (by simp; omega) (fun q hq => (HR.out.lt q hq).1))
          have HR9 : Hid (w9.ownsRow w2.heap.size 23 4 (.slice (some ⟨g2, 0, none⟩) (m + 1) cp2) (m + 1) (((Q.map Lot5.r).take (m + 1)).flatMap encR)) := hide (by rw [HMT.out]; exact hown)
          have hs9 := HB9.out.size
          clear hown hgrow hg2 hlt2 d0 d1 d2 d3 d4
          have hx := HX.out
          obtain ⟨b', o', hbo, hbl', k⟩ := HO2.out.cells5 (by intro e; rw [e] at hlt; simp at hlt)
          have d0 : w9.cell? ⟨b, o + m * 5, none⟩ = some (.int .i64 x.r.x0) := (HB9.out.cell (p := ⟨b, _, none⟩) hbl).trans (by injection hbo with hbo; injection hbo with h1 h2; subst h1 h2; exact k m _ hx 0 _ rfl)
          have d1 : w9.cell? ⟨b, o + m * 5 + 1, none⟩ = some (.int .i64 x.r.y0) := (HB9.out.cell (p := ⟨b, _, none⟩) hbl).trans (by injection hbo with hbo; injection hbo with h1 h2; subst h1 h2; exact k m _ hx 1 _ rfl)
          have d2 : w9.cell? ⟨b, o + m * 5 + 2, none⟩ = some (.int .i64 x.r.x1) := (HB9.out.cell (p := ⟨b, _, none⟩) hbl).trans (by injection hbo with hbo; injection hbo with h1 h2; subst h1 h2; exact k m _ hx 2 _ rfl)
          have d3 : w9.cell? ⟨b, o + m * 5 + 3, none⟩ = some (.int .i64 x.r.y1) := (HB9.out.cell (p := ⟨b, _, none⟩) hbl).trans (by injection hbo with hbo; injection hbo with h1 h2; subst h1 h2; exact k m _ hx 3 _ rfl)
          clear hx k hbo
          go_wp2_with (fail)
          refine (HAX.out _).mono ?_
          rintro e w10 ⟨rfl, hb⟩
          have HB10 : Hid (Below w2.heap.size w2 w10) := hide (HB9.out.trans (hb.mono hs9))
          have HR10 := hide (own_below HR9.out hb)
          clear hb d0 d1 d2 d3
          go_wp2_with (fail)
          go_roundw
          case rel => exact ⟨m + 1, _, cp2, by omega, rfl, by rw [HST.out], by go_num, HR10, HB10⟩
          case measure => simp [intOf]; omega
        · obtain rfl : m = Q.length := by omega
          have mz : ¬ ((Q.length : Nat) : Int) < (Q.length : Int) := by omega
          have htake : (Q.map Lot5.r).take Q.length = Q.map Lot5.r := List.take_of_length_le (by simp)
          have htake2 : (Q.map areaL).take Q.length = Q.map areaL := List.take_of_length_le (by simp)
          have HMKC : Hid (∀ W, W.ownsRow w2.heap.size 23 4 (.slice A2 Q.length c2) Q.length ((Q.map Lot5.r).flatMap encR) → Calls Try.prog 17 #[.slice A2 Q.length c2] W fun e w' => RegRet W.heap.size ([l.r], 0) e w' ∧ Below W.heap.size W w') := hide (fun W h => by
            have hr : RdK encR 4 W W.heap.size (.slice A2 Q.length c2) (Q.map Lot5.r) := own_rd (own_n_eq h (by simp) (by simp) rfl) (fun _ => rfl)
            have := make_any hr (by simp; omega)
            rw [HMK.out] at this
            exact this)
          rw [htake] at HR
          rw [htake2, HSUM.out]
          have HL3 := HL2.below HB.out
          have KR := hide (K2.out.trans (HB.out.mono (by omega)))
          have hsr : n + 2 ≤ wr.heap.size := by omega
          clear htake htake2 HL2 HP2 K2 hs2 HO2 HSUM HMK HBD HVL
          go_wp2_with (fail)
          refine (HMKC.out _ HR.out).mono ?_
          rintro e w3 ⟨⟨A3, c3, rfl, ho⟩, hb⟩
          obtain ⟨g, cp, hgv, -, -⟩ := ho.form (by simp)
          cases hgv
          have x0 : w3.cell? ⟨g, 0, none⟩ = some (.int .i64 l.r.x0) := ho.cellAt 0 (show 0 < 1 * 4 by decide)
          have x1 : w3.cell? ⟨g, 1, none⟩ = some (.int .i64 l.r.y0) := ho.cellAt 1 (show 1 < 1 * 4 by decide)
          have x2 : w3.cell? ⟨g, 2, none⟩ = some (.int .i64 l.r.x1) := ho.cellAt 2 (show 2 < 1 * 4 by decide)
          have x3 : w3.cell? ⟨g, 3, none⟩ = some (.int .i64 l.r.y1) := ho.cellAt 3 (show 3 < 1 * 4 by decide)
          have HL4 := HL3.below hb
          have K4 := hide (KR.out.trans (hb.mono (by omega)))
          have q0 : n < w3.heap.size := by have := hb.size; omega
          have q1 : g < w3.heap.size := lt_of_cell x0
          clear ho hb HL3 KR hsr HMKC HR HB hsw
          obtain ⟨l0, l1, l2, l3, l4, -, -, -, -, -⟩ := id HL4
          have gq : Try.prog.eqGuardType Try.prog.depth 23 = false := by kernel_rfl
          generalize areaL l = al at *
          go_upto_region 14 with fail
          refine wp_hab fun hab => ?_
          refine wp_region_above (by kernel_rfl) (by kernel_rfl) ?_
          repeat (go_big_quiet_step (((first | (go_at_call 16; exact above_of (HARL.out _)) | (go_at_call 15; exact above_of (HAL.out _))))))
          refine wpQuiet_nil ?_
          refine above_ends fun w9 hb => ?_
          have K9 := hide (K4.out.trans (hb.mono (by omega)))
          clear hab hb
          go_wp2_with (fail)
          go_ret
          exact ⟨rfl, by rw [HN.out]; exact K9.out⟩
    · have hR : splitR l p = ([], 4) := by unfold splitR; rw [if_pos h0, if_neg h4]
      rw [hR] at hS
      have HS : Hid (∀ W : World, Calls Try.prog 11 #[.agg #[.int .i64 l.r.x0, .int .i64 l.r.y0, .int .i64 l.r.x1, .int .i64 l.r.y1, .int .u8 l.f], .agg #[.int .i64 p.mf, .int .i64 p.ms, .int .i64 p.ma]] W (LotsRet W ([], 4))) := hide hS
      clear hS hR h0 hv h4 hf
      show Calls Try.prog _ #[.agg #[.int .i64 l.r.x0, .int .i64 l.r.y0, .int .i64 l.r.x1, .int .i64 l.r.y1, .int .u8 l.f], .agg #[.int .i64 p.mf, .int .i64 p.ms, .int .i64 p.ma]] w _
      go_enter Try.func4, Try.ntmps4
      go_wp2_with (fail)
      obtain ⟨W, hW⟩ : ∃ x, x = (w.alloc (.cells #[.int .i64 l.r.x0, .int .i64 l.r.y0, .int .i64 l.r.x1, .int .i64 l.r.y1, .int .u8 l.f] 25)).alloc (.cells #[.int .i64 p.mf, .int .i64 p.ms, .int .i64 p.ma] 27) := ⟨_, rfl⟩
      rw [← hW]
      have hb0 : Below w.heap.size w W := by rw [hW]; exact ((Below.refl _ _).alloc (Nat.le_refl _) _).alloc (by simp) _
      have hs0 : w.heap.size + 2 ≤ W.heap.size := by rw [hW]; simp
      have HL : Box5L W w.heap.size l := by rw [hW]; refine ⟨?_, ?_, ?_, ?_, ?_, ?_, ?_, ?_, ?_, ?_⟩ <;> simp [go_sem]
      have HP : Box3 W (w.heap.size + 1) (.int .i64 p.mf) (.int .i64 p.ms) (.int .i64 p.ma) := by rw [hW]; refine ⟨?_, ?_, ?_⟩ <;> simp [go_sem]
      obtain ⟨n, hn⟩ : ∃ n, w.heap.size = n := ⟨_, rfl⟩
      have HN := hide hn
      rw [hn] at hb0 hs0 HL HP ⊢
      have K0 := hide hb0
      clear hW hb0 hn
      refine (HV1.out _).mono ?_
      rintro e w1 ⟨rfl, hb⟩
      have HL1 := HL.below hb
      have HP1 := HP.below hb
      have hs1 : n + 2 ≤ w1.heap.size := Nat.le_trans hs0 hb.size
      have K1 := hide (K0.out.trans (hb.mono (by omega)))
      clear hb HL HP K0 hs0
      try clear l0 l1 l2 l3 l4 p0 p1 p2
      obtain ⟨l0, l1, l2, l3, l4, -, -, -, -, -⟩ := id HL1
      obtain ⟨p0, p1, p2⟩ := id HP1
      go_wp2_with (fail)
      refine (HS.out _).mono ?_
      rintro e w2 ⟨⟨A1, c1, rfl, ho⟩, hb⟩
      clear ho
      have HL2 := HL1.below hb
      have HP2 := HP1.below hb
      have hs2 : n + 2 ≤ w2.heap.size := Nat.le_trans hs1 hb.size
      have K2 := hide (K1.out.trans (hb.mono (by omega)))
      clear hb HL1 HP1 K1 hs1
      try clear l0 l1 l2 l3 l4 p0 p1 p2
      go_wp2_with (fail)
      refine (HAL.out _).mono ?_
      rintro e w3 ⟨rfl, hb⟩
      have K3 := hide (K2.out.trans (hb.mono (by omega)))
      clear hb HL2 HP2
      go_wp2_with (fail)
      go_ret
      exact ⟨rfl, by rw [HN.out]; exact K3.out⟩
  · have hck : (checkL l p == 0) = false := by simpa using h0
    rw [hck] at HV
    have HV1 : Hid (∀ W : World, Calls Try.prog 14 #[.agg #[.int .i64 l.r.x0, .int .i64 l.r.y0, .int .i64 l.r.x1, .int .i64 l.r.y1, .int .u8 l.f], .agg #[.int .i64 p.mf, .int .i64 p.ms, .int .i64 p.ma]] W fun e w' => e = .returned (.bool false) ∧ Below W.heap.size W w') := hide HV.out
    clear HV hck h0 hf
    show Calls Try.prog _ #[.agg #[.int .i64 l.r.x0, .int .i64 l.r.y0, .int .i64 l.r.x1, .int .i64 l.r.y1, .int .u8 l.f], .agg #[.int .i64 p.mf, .int .i64 p.ms, .int .i64 p.ma]] w _
    go_enter Try.func4, Try.ntmps4
    go_wp2_with (fail)
    obtain ⟨W, hW⟩ : ∃ x, x = (w.alloc (.cells #[.int .i64 l.r.x0, .int .i64 l.r.y0, .int .i64 l.r.x1, .int .i64 l.r.y1, .int .u8 l.f] 25)).alloc (.cells #[.int .i64 p.mf, .int .i64 p.ms, .int .i64 p.ma] 27) := ⟨_, rfl⟩
    rw [← hW]
    have hb0 : Below w.heap.size w W := by rw [hW]; exact ((Below.refl _ _).alloc (Nat.le_refl _) _).alloc (by simp) _
    have hs0 : w.heap.size + 2 ≤ W.heap.size := by rw [hW]; simp
    have HL : Box5L W w.heap.size l := by rw [hW]; refine ⟨?_, ?_, ?_, ?_, ?_, ?_, ?_, ?_, ?_, ?_⟩ <;> simp [go_sem]
    have HP : Box3 W (w.heap.size + 1) (.int .i64 p.mf) (.int .i64 p.ms) (.int .i64 p.ma) := by rw [hW]; refine ⟨?_, ?_, ?_⟩ <;> simp [go_sem]
    obtain ⟨n, hn⟩ : ∃ n, w.heap.size = n := ⟨_, rfl⟩
    have HN := hide hn
    rw [hn] at hb0 hs0 HL HP ⊢
    have K0 := hide hb0
    clear hW hb0 hn
    refine (HV1.out _).mono ?_
    rintro e w1 ⟨rfl, hb⟩
    have HL1 := HL.below hb
    have HP1 := HP.below hb
    have hs1 : n + 2 ≤ w1.heap.size := Nat.le_trans hs0 hb.size
    have K1 := hide (K0.out.trans (hb.mono (by omega)))
    clear hb HL HP K0 hs0
    try clear l0 l1 l2 l3 l4 p0 p1 p2
    go_wp2_with (fail)
    refine (HAL.out _).mono ?_
    rintro e w2 ⟨rfl, hb⟩
    have K2 := hide (K1.out.trans (hb.mono (by omega)))
    clear hb HL1 HP1
    go_wp2_with (fail)
    go_ret
    exact ⟨rfl, by rw [HN.out]; exact K2.out⟩
end Go.Proofs.Ytgdlbaabdebclaa

/- append(x, y...) where y reads as a list, empty or nil let in; and the reference's Twin. -/
namespace Go.Proofs.Ytgdlbaabdebclaa
open Go.RowKit
set_option linter.unusedVariables false
set_option linter.unusedSimpArgs false

section
variable {P : Program} {α : Type} {enc : α → List Value} {k : Nat}
theorem run_app_rd (w : World) (henc : ∀ x, (enc x).length = k) (hint : ∀ (l : List α), ∀ u ∈ l.flatMap enc, u.oneCell' = true) (base : Nat) (t ty e : TypeId) (i : TypeInfo) (z : Value) (bytes : Nat)
    (ht : P.underlying t = some (.slice e)) (hi : P.info? e = some i) (hz : i.zero = some z) (hsize : i.size = k) (hby : i.bytes = bytes) (hzs : z.cells.size = k) (hsz : 0 < k)
    (v : Value) (n : Nat) (xs : List Value) (hown : w.ownsRow base e k v n xs) (B : Nat) (x : Value) (l : List α) (hr : RdK enc k w B x l) (h63 : n + l.length ≤ maxLen) (hbytes : (n + l.length) * bytes ≤ 140737488355328) (hbase : base ≤ w.heap.size) :
    ∃ v' w', (Builtin.append_ #[t, t] ty #[v, x]).run P w = .ok v' w' ∧ w'.ownsRow base e k v' (n + l.length) (xs ++ l.flatMap enc) ∧ w.grownBy w' v.ownBlock := by
  obtain ⟨A, c, rfl, hc⟩ := hr
  have key : ∀ ad : Addr, (∀ j u, (l.flatMap enc)[j]? = some u → w.cell? (ad.add j) = some u) → ∃ v' w', (Builtin.append_ #[t, t] ty #[v, .slice (some ad) l.length c]).run P w = .ok v' w' ∧ w'.ownsRow base e k v' (n + l.length) (xs ++ l.flatMap enc) ∧ w.grownBy w' v.ownBlock := by
    intro ad had
    obtain ⟨v', w', h1, h2, h3, _, _⟩ := run_append_own_at (P := P) w base t ty e i z k bytes ht hi hz hsize hby hzs hsz v n xs hown ad l.length c (l.flatMap enc) (by rw [flat_len henc]) had (hint l) h63 hbytes hbase
    exact ⟨v', w', h1, h2, h3⟩
  by_cases hl : l = []
  · subst hl
    cases A with
    | some ad => exact key ad (by simp)
    | none =>
      refine ⟨v, w, ?_, by simpa using hown, grown_refl _ _⟩
      rcases hown.2 with ⟨rfl, rfl⟩ | ⟨g, cap, cur, rfl, _, _, hnc, _⟩
      · simp [Builtin.append_, run_underlying ht, sizeOf, typeInfo, hi, Builtin.lenOf, Builtin.firstCells]
      · simp [Builtin.append_, run_underlying ht, sizeOf, typeInfo, hi, Builtin.lenOf, Builtin.firstCells, hnc, storeCells]
  · obtain ⟨b, off, rfl, hb, hcell⟩ := hc hl
    refine key _ fun j u hu => ?_
    have hj : j < (l.flatMap enc).length := (List.getElem?_eq_some_iff.1 hu).1
    rw [flat_len henc] at hj
    have hq : j / k < l.length := (Nat.div_lt_iff_lt_mul hsz).2 hj
    have e1 : j / k * k + j % k = j := by rw [Nat.mul_comm]; exact Nat.div_add_mod j k
    have hu2 : (enc l[j / k])[j % k]? = some u := by
      have h1 := List.getElem?_eq_getElem (l := enc l[j / k]) (i := j % k) (by rw [henc]; exact Nat.mod_lt _ hsz)
      have h2 := flat_get henc l (j / k) _ (j % k) _ (List.getElem?_eq_getElem hq) h1
      rw [e1, hu] at h2
      rw [h1]; exact h2.symm
    have := hcell (j / k) _ (List.getElem?_eq_getElem hq) (j % k) u hu2
    rw [Nat.add_assoc, e1] at this
    have e2 : (⟨b, off, none⟩ : Addr).add j = ⟨b, off + j, none⟩ := by unfold Addr.add; split <;> simp_all
    rw [e2]; exact this

theorem wp_app_rd (w : World) {o : Oper} {a : Act} {K : Act → World → Prop} {Q : Exit → Act → World → Prop} (henc : ∀ x, (enc x).length = k) (hint : ∀ (l : List α), ∀ u ∈ l.flatMap enc, u.oneCell' = true) (s x : Operand) (t : TypeId)
    (ho : o.op = .call { callee := .builtin .append, args := #[s, x], argTypes := #[t, t] }) (base : Nat) (e : TypeId) (i : TypeInfo) (z : Value) (bytes : Nat)
    (ht : P.underlying t = some (.slice e)) (hi : P.info? e = some i) (hz : i.zero = some z) (hsize : i.size = k) (hby : i.bytes = bytes) (hzs : z.cells.size = k) (hsz : 0 < k)
    (v : Value) (n : Nat) (xs : List Value) (hs : a.eval s = v) (hown : w.ownsRow base e k v n xs) (B : Nat) (l : List α) (hr : RdK enc k w B (a.eval x) l) (h63 : n + l.length ≤ maxLen) (hbytes : (n + l.length) * bytes ≤ 140737488355328) (hbase : base ≤ w.heap.size)
    (h : ∀ v' w', w'.ownsRow base e k v' (n + l.length) (xs ++ l.flatMap enc) → w.grownBy w' v.ownBlock → K (a.put o.dst v') w') : o.wp P a w K Q := by
  obtain ⟨v', w', hrun, h2, h3⟩ := run_app_rd (P := P) w henc hint base t o.type e i z bytes ht hi hz hsize hby hzs hsz v n xs hown B _ l hr h63 hbytes hbase
  unfold Oper.wp execOp
  simp only [ho, resolve, invoke, builtin, Sem.run_bind, Sem.run_pure, Result.andThen_ok, List.map_toArray, List.map_cons, List.map_nil, hs, hrun]
  exact h v' w' h2 h3
theorem wpList_app_rd {w : World} {ops : Array Oper} {rest : List Oper} {o : Oper} {a : Act} {Q : Exit → Act → World → Prop} (hgd : o.guard = none) (henc : ∀ x, (enc x).length = k) (hint : ∀ (l : List α), ∀ u ∈ l.flatMap enc, u.oneCell' = true) (s x : Operand) (t : TypeId)
    (ho : o.op = .call { callee := .builtin .append, args := #[s, x], argTypes := #[t, t] }) (base : Nat) (e : TypeId) (i : TypeInfo) (z : Value) (bytes : Nat)
    (ht : P.underlying t = some (.slice e)) (hi : P.info? e = some i) (hz : i.zero = some z) (hsize : i.size = k) (hby : i.bytes = bytes) (hzs : z.cells.size = k) (hsz : 0 < k)
    (v : Value) (n : Nat) (xs : List Value) (hs : a.eval s = v) (hown : w.ownsRow base e k v n xs) (B : Nat) (l : List α) (hr : RdK enc k w B (a.eval x) l) (h63 : n + l.length ≤ maxLen) (hbytes : (n + l.length) * bytes ≤ 140737488355328) (hbase : base ≤ w.heap.size)
    (h : ∀ v' w', w'.ownsRow base e k v' (n + l.length) (xs ++ l.flatMap enc) → w.grownBy w' v.ownBlock → wpList P ops Q rest (a.put o.dst v') w') : wpList P ops Q (o :: rest) a w :=
  wpList_plain hgd fun _ hK => wp_app_rd w henc hint s x t ho base e i z bytes ht hi hz hsize hby hzs hsz v n xs hs hown B l hr h63 hbytes hbase fun v' w' h2 h3 => hK _ _ (h v' w' h2 h3)
end
theorem one_encR (l : List R4) : ∀ u ∈ l.flatMap encR, u.oneCell' = true := by
  intro u hu
  obtain ⟨r, _, hr⟩ := List.mem_flatMap.1 hu
  simp only [encR, List.mem_cons, List.not_mem_nil, or_false] at hr
  rcases hr with rfl | rfl | rfl | rfl <;> rfl

end Go.Proofs.Ytgdlbaabdebclaa
