/- Texts laid together: TexP, MixTwo. Lemmas for the statements of this seat; no condition. -/
import Derived.Test.YtjlfdgoijalfaaaGreatPk9
import Derived.Test.YtjlfdgoijalfaaaGreatPk6
import Derived.Test.YtjlfdgoijalfaaaGreatPk4
import Derived.Test.YtjlfdgoijalfaaaGreatPk5
import Derived.Test.YtjlfdgoijalfaaaGreatPk7
import Derived.Deep.DeepCutAuto
import Derived.Test.YtjlfdgoijalfaaaGreatPk2
import Derived.Test.YtjlfdgoijalfaaaGreatPk1

/- gambrelref41.Tile for regions near the origin: the pieces come out in order, one by one, as their points are met. -/
namespace Go.Proofs.YtjlfdgoijalfaaaGreat
open Go.RowKit
set_option linter.unusedVariables false
set_option linter.unusedSimpArgs false
attribute [local go_sem] Oper.semAt_some

theorem rd_block {W W' : World} {B B' bb n c : Nat} {l : List R4} (h : RdK encR 4 W B (.slice (some ⟨bb, 0, none⟩) n c) l) (hb : W'.heap[bb]? = W.heap[bb]?) (hlt : bb < B') : RdK encR 4 W' B' (.slice (some ⟨bb, 0, none⟩) n c) l := by
  obtain ⟨A, c', e, h⟩ := h
  refine ⟨A, c', e, fun hne => ?_⟩
  obtain ⟨b, o, e2, hl2, k⟩ := h hne
  injection e with e1 _ _
  rw [e2] at e1
  injection e1 with e1
  injection e1 with e1 e3
  subst e1; subst e3
  exact ⟨bb, 0, e2, hlt, fun j x hx i u hu => (World.cell?_of_block hb).trans (k j x hx i u hu)⟩
theorem keyP_bd {W H S x y : Int} (hp : okPat W H S) (h1 : -30 ≤ x ∧ x ≤ 30) (h2 : -30 ≤ y ∧ y ≤ 30) : (-1000000 ≤ rowI H y ∧ rowI H y ≤ 1000000) ∧ (-2000000 ≤ colI W H S x y ∧ colI W H S x y ≤ 2000000) := by
  have hsb := shiftI_bd hp (y / H)
  have hp' := hp
  unfold okPat at hp'
  have q1 := ediv_bd y H 1000000 (by omega) (by omega) (by omega) (by omega)
  have q2 := ediv_bd (x - shiftI W S (y / H)) W 2000000 (by omega) (by omega) (by omega) (by omega)
  exact ⟨q1, q2⟩
theorem own_row3 {w wy : World} {b n m g c : Nat} {v : Value} {xs ys : List Value} (h : w.ownsRow b 41 4 v n xs) (h' : w.ownsRow b 48 3 (.slice (some ⟨g, 0, none⟩) m c) m ys) (hg : w.grownBy wy (some g)) : wy.ownsRow b 41 4 v n xs := h.kept hg (own_apart h h' (by decide))
theorem Pcs.ones {wr : World} {b : Nat} {R : List (Ky × List R4)} {L : List (Ky × Value)} (l0 : L.length = R.length) (l2 : ∀ (i : Nat) (k : Ky) (r : List R4), R[i]? = some (k, r) → ∃ u, L[i]? = some (k, u) ∧ wr.ownsRow b 41 4 u r.length (r.flatMap encR)) : ∀ q ∈ L, q.2.oneCell' = true := by
  intro q hq
  obtain ⟨i, hi⟩ := List.getElem?_of_mem hq
  have h1 := (List.getElem?_eq_some_iff.1 hi).1
  obtain ⟨⟨k, r⟩, hr⟩ : ∃ x, R[i]? = some x := ⟨_, List.getElem?_eq_getElem (by omega)⟩
  obtain ⟨u, h2, h3⟩ := l2 i k r hr
  rw [hi] at h2
  injection h2 with h2
  subst h2
  exact ids h3
set_option maxRecDepth 100000 in
set_option maxHeartbeats 4000000 in
theorem rtile_any {w : World} {v : Value} {l : List R4} (hr : RdK encR 4 w w.heap.size v l) (hl : l.length ≤ 420) (W H S : Int) (hn : checkF l = 0 → ∀ r ∈ l, near4 30 r) :
    Calls Tryz.prog 17 #[v, .agg #[.int .i64 W, .int .i64 H, .int .i64 S]] w fun e w' => PcsRet w.heap.size (tileF W H S l) e w' ∧ Below w.heap.size w w' := by
  obtain ⟨A0, c0, hv, hc⟩ := id hr
  subst hv
  have HR := hide hr
  clear hr hc
  have HCK := hide (fun (wi : World) (hb : Below w.heap.size w wi) => rCheck_any (w := wi) ((HR.out.below hb).mono hb.size) (by omega))
  have hT0 := hide (T1.start w W H S)
  by_cases h0 : checkF l = 0
  · rw [h0] at HCK
    by_cases hp : okPat W H S
    · have hpc := fun wi => rcheck_any W H S wi
      rw [chk_ok hp] at hpc
      have HPC := hide hpc
      clear hpc
      have hF : Hid (tileF W H S l = if 400 < (keysT W H S l).length then ([], 4) else ((keysT W H S l).map fun k => (k, pieceR W H S l k), 0)) := hide (by unfold tileF; rw [if_pos h0, if_pos hp])
      have HWF := hide (check_wfs h0)
      have HPL : Hid (∀ k, (pieceR W H S l k).length ≤ 400) := hide (fun k => piece_len hp h0 k)
      obtain ⟨i2, fi, fz0, fz1, fz2⟩ := info_parts infoPc
      obtain ⟨x0, y0, x1, y1, ee, hhu, hhc, hx0, hy0, hx1, hy1, hxx, hyy⟩ := hull_near h0 (hn h0)
      have HHU := hide (fun (wi : World) (hb : Below w.heap.size w wi) => (by
        have h := rHull_any (w := wi) ((HR.out.below hb).mono hb.size) (by omega)
        rw [hhu] at h
        exact h : Calls Tryz.prog 38 #[.slice A0 l.length c0] wi fun e w' => e = .returned (.tuple #[.agg #[.int .i64 x0, .int .i64 y0, .int .i64 x1, .int .i64 y1], .int .i64 ee]) ∧ Below wi.heap.size wi w'))
      have hez : y0 < y1 → (ee == 0) = true := fun h => by
        rcases hhc with ⟨_, _, q1, _, q2⟩ | ⟨_, _, q⟩
        · omega
        · simp [q]
      have HHC := hide hhc
      have HEZ := hide hez
      clear hhu hhc hez h0 hn
      go_enter Tryz.func17, Tryz.ntmps17
      go_wp2_with (first
        | (go_at_call 37; refine (HCK.out _ hT0.out.low).mono ?_; rintro e w1 ⟨rfl, hb1⟩; have HT1 := hide (hT0.out.below hb1); have p0 := HT1.out.p0; have p1 := HT1.out.p1; have p2 := HT1.out.p2; clear hb1)
        | (go_at_call 11; refine (HPC.out _).mono ?_; rintro e w2 ⟨rfl, hb2⟩; have HT2 := hide (HT1.out.below hb2); clear hb2 p0 p1 p2)
        | (go_at_call 38; refine (HHU.out _ HT2.out.low).mono ?_; rintro e w3 ⟨rfl, hb3⟩; have HT3 := hide (HT2.out.below hb3); clear hb3))
      obtain ⟨bH, hbH⟩ : ∃ bH, bH = w3.heap.size := ⟨_, rfl⟩
      rw [← hbH]
      refine wp_name fun wb hwb => ?_
      have HTb : Hid (T1 w W H S wb) := hide (by rw [hwb]; exact HT3.out.below ((Below.refl _ _).alloc (Nat.le_refl _) _))
      have b0 : wb.cell? ⟨bH, 0, none⟩ = some (.int .i64 x0) := by rw [hwb, hbH]; simp [go_sem]
      have b1 : wb.cell? ⟨bH, 1, none⟩ = some (.int .i64 y0) := by rw [hwb, hbH]; simp [go_sem]
      have b2 : wb.cell? ⟨bH, 2, none⟩ = some (.int .i64 x1) := by rw [hwb, hbH]; simp [go_sem]
      have b3 : wb.cell? ⟨bH, 3, none⟩ = some (.int .i64 y1) := by rw [hwb, hbH]; simp [go_sem]
      have hbw : bH < wb.heap.size := by rw [hwb, hbH]; simp
      have HRb : Hid (RdK encR 4 wb wb.heap.size (.slice A0 l.length c0) l) := hide ((HR.out.below HTb.out.low).mono HTb.out.low.size)
      clear hwb hbH HT1 HT2 HT3 HCK HPC HHU hT0
      go_loopw [6, 9] (fun v i wr => ∃ (y : Int) (L : List Ky) (Ao : Option Addr) (co : Nat), y0 ≤ y ∧ y ≤ y1 ∧ i = .int .i64 y ∧ v = .slice Ao L.length co ∧ Hid (SK W H S l ⟨x0, y0, x1, y1⟩ y x0 L) ∧ (L.length : Int) ≤ 60 * (y - y0) ∧ Hid (Pcs wb (.slice Ao L.length co) (L.map fun k => (k, pieceR W H S l k)) wr)) (fun _ i _ => (y1 - intOf i).toNat)
      case atStart => exact ⟨y0, [], none, 0, by omega, hyy, rfl, rfl, hide (SK.start W H S l ⟨x0, y0, x1, y1⟩), by simp, hide ⟨Below.refl _ _, [], rfl, World.ownsRow_nil _ _ _ _, fun i k r h => by simp at h⟩⟩
      case round =>
        obtain ⟨y, L, Ao, co, hya, hyb, rfl, rfl, HS, hLl, HP⟩ := hrel
        have hlow := HP.out.low
        have hls := hlow.size
        have e0 : wr.cell? ⟨bH, 0, none⟩ = some (.int .i64 x0) := (hlow.cell (p := ⟨bH, 0, none⟩) hbw).trans b0
        have e2 : wr.cell? ⟨bH, 2, none⟩ = some (.int .i64 x1) := (hlow.cell (p := ⟨bH, 2, none⟩) hbw).trans b2
        have e3 : wr.cell? ⟨bH, 3, none⟩ = some (.int .i64 y1) := (hlow.cell (p := ⟨bH, 3, none⟩) hbw).trans b3
        clear hlow
        by_cases hlt : y < y1
        · have hee := HEZ.out (by omega)
          go_wp2
          go_loopw [6, 10] (fun v i wr => ∃ (x : Int) (L : List Ky) (Ao : Option Addr) (co : Nat), x0 ≤ x ∧ x ≤ x1 ∧ i = .int .i64 x ∧ v = .slice Ao L.length co ∧ Hid (SK W H S l ⟨x0, y0, x1, y1⟩ y x L) ∧ (L.length : Int) ≤ 60 * (y - y0) + (x - x0) ∧ Hid (Pcs wb (.slice Ao L.length co) (L.map fun k => (k, pieceR W H S l k)) wr)) (fun _ i _ => (x1 - intOf i).toNat)
          case atStart => exact ⟨x0, L, Ao, co, by omega, hxx, rfl, rfl, HS, by omega, HP⟩
          case round =>
            clear HS HP hLl e0 e2 e3 hls
            obtain ⟨x, L, Ao, co, hxa, hxb, rfl, rfl, HS, hLl, HP⟩ := hrel
            have hlow := HP.out.low
            have hls := hlow.size
            have e2 : wr.cell? ⟨bH, 2, none⟩ = some (.int .i64 x1) := (hlow.cell (p := ⟨bH, 2, none⟩) hbw).trans b2
            by_cases hlx : x < x1
            · have hRr := (HRb.out.below hlow).mono hlow.size
              have HRr := hide hRr
              by_cases hm : pmem l x y
              · have hha := rHas_any (w := wr) hRr (by omega) x y
                rw [decide_eq_true hm] at hha
                have HHA := hide hha
                have HM := hide hm
                have HTr := hide (HTb.out.below hlow)
                have p0 := HTr.out.p0
                have p1 := HTr.out.p1
                have p2 := HTr.out.p2
                have hkb := keyP_bd (x := x) (y := y) hp ⟨by omega, by omega⟩ ⟨by omega, by omega⟩
                have HWH := hide (fun wi => where_any W H S x y wi hp (by omega) (by omega) (by omega) (by omega))
                obtain ⟨row, col, hk⟩ : ∃ row col, keyP W H S x y = (row, col) := ⟨_, _, rfl⟩
                have HK := hide hk
                have hk' := hk
                unfold keyP at hk'
                injection hk' with hk1 hk2
                rw [hk1, hk2] at hkb HWH
                obtain ⟨⟨ka, kb⟩, kc, kd⟩ := hkb
                clear hk hk1 hk2 hha hm hRr hlow
                go_wp2_with (first
                  | (go_at_call 39; refine HHA.out.mono ?_; rintro e w' ⟨rfl, rfl⟩)
                  | (go_at_call 40; refine (HWH.out _).mono ?_; rintro e w1 ⟨rfl, hb1⟩; have HP1 := hide (HP.out.below hb1); clear hb1 p0 p1 p2 e2 HTr))
                have hL1 := HP1.out.low.size
                have HTr := hide (HTb.out.below HP1.out.low)
                have p0 := HTr.out.p0
                have p1 := HTr.out.p1
                have p2 := HTr.out.p2
                have HRL : Hid ((L.map fun k => (k, pieceR W H S l k)).length = L.length) := hide (by simp)
                have HRN : Hid (∀ (j : Nat) (k : Ky), L[j]? = some k → (L.map fun k => (k, pieceR W H S l k))[j]? = some (k, pieceR W H S l k)) := hide (fun j k h => by rw [List.getElem?_map, h]; rfl)
                have hL36 : L.length ≤ 3600 := by omega
                go_loopw [13] (fun at_ wx => ∃ k : Nat, k ≤ L.length ∧ at_ = .int .i64 (k : Int) ∧ wx = w1 ∧ Hid (∀ (j : Nat) (q : Ky), k ≤ j → L[j]? = some q → ¬ klt q (row, col))) (fun at_ _ => (intOf at_).toNat)
                case atStart => exact ⟨L.length, Nat.le_refl _, rfl, rfl, hide (fun j q h1 h2 => by rw [List.getElem?_eq_none h1] at h2; cases h2)⟩
                case round =>
                  obtain ⟨k, hk, rfl, rfl, HG⟩ := hrel
                  go_upto_region 16 with fail
                  go_cut [95] (fun c wx => ∃ b : Bool, c = .bool b ∧ wx = wr ∧ Hid (b = true → 0 < k ∧ ∀ q, L[k - 1]? = some q → ¬ klt q (row, col)) ∧ Hid (b = false → ∀ q, k ≠ 0 → L[k - 1]? = some q → klt q (row, col)))
                  case first =>
                    rcases Nat.eq_zero_or_pos k with rfl | hkp
                    · rw [show ((0 : Nat) : Int) = 0 from rfl]
                      go_wp2
                      go_meet
                      exact ⟨false, rfl, rfl, hide (fun h => by cases h), hide (fun _ q h => absurd rfl h)⟩
                    · obtain ⟨j, rfl⟩ : ∃ j, k = j + 1 := ⟨k - 1, by omega⟩
                      obtain ⟨⟨r2, c2⟩, hy⟩ : ∃ q, L[j]? = some q := ⟨_, List.getElem?_eq_getElem (by omega)⟩
                      obtain ⟨g, rfl, hg1, hg2, hcl⟩ := HP1.out.form (by rw [HRL.out]; omega)
                      obtain ⟨d0, d1, _⟩ := hcl j _ _ (HRN.out j _ hy)
                      have q1 : (0 : Int) < (j : Int) + 1 := by omega
                      have q2 : (j : Int) < (L.length : Int) := by omega
                      have q3 : IntKind.i64.wrap ((j : Int) + 1 - 1) = j := by simp [IntKind.wrap, IntKind.bits, IntKind.signed]; omega
                      have q4 : (0 : Int) ≤ (j : Int) := by omega
                      have HY := hide hy
                      clear hy hkp hcl
                      rw [show ((j + 1 : Nat) : Int) = (j : Int) + 1 from rfl]
                      by_cases hgt : klt (r2, c2) (row, col)
                      · have hgs : (decide (row < r2) = false ∧ (r2 == row) = false) ∨ (decide (row < r2) = false ∧ (r2 == row) = true ∧ decide (col ≤ c2) = false) := by
                          unfold klt at hgt
                          simp only at hgt
                          by_cases h : r2 = row
                          · exact .inr ⟨decide_eq_false (by omega), by simp [h], decide_eq_false (by omega)⟩
                          · exact .inl ⟨decide_eq_false (by omega), by simpa using h⟩
                        have HG2 := hide hgt
                        clear hgt
                        rcases hgs with ⟨h1, h2⟩ | ⟨h1, h2, h3⟩
                        all_goals
                          go_wp2
                          go_meet
                          exact ⟨false, rfl, rfl, hide (fun h => by cases h), hide (fun _ q _ h => by
                            rw [Nat.add_sub_cancel, HY.out] at h
                            injection h with h
                            subst h
                            exact HG2.out)⟩
                      · have hgs : row < r2 ∨ (decide (row < r2) = false ∧ (r2 == row) = true ∧ col ≤ c2) := by
                          unfold klt at hgt
                          simp only at hgt
                          by_cases h : row < r2
                          · exact .inl h
                          · exact .inr ⟨decide_eq_false h, by simp; omega, by omega⟩
                        have HG2 := hide hgt
                        clear hgt
                        rcases hgs with h1 | ⟨h1, h2, h3⟩
                        all_goals
                          go_wp2
                          go_meet
                          exact ⟨true, rfl, rfl, hide (fun _ => ⟨by omega, fun q h => by
                            rw [Nat.add_sub_cancel, HY.out] at h
                            injection h with h
                            subst h
                            exact HG2.out⟩), hide (fun h => by cases h)⟩
                  case rest =>
                    obtain ⟨b, rfl, rfl, HT, HFL⟩ := hcut
                    cases b with
                    | true =>
                      obtain ⟨hkp, hkq⟩ := HT.out rfl
                      obtain ⟨j, rfl⟩ : ∃ j, k = j + 1 := ⟨k - 1, by omega⟩
                      have HKQ := hide hkq
                      clear hkq hkp
                      rw [show ((j + 1 : Nat) : Int) = (j : Int) + 1 from rfl]
                      go_wp2
                      go_roundw
                      case rel =>
                        exact ⟨j, by omega, by go_num, trivial, hide (fun i q h1 h2 => by
                          by_cases hij : i = j
                          · subst hij; exact HKQ.out q (by simpa using h2)
                          · exact HG.out i q (by omega) h2)⟩
                      case measure => first | (simp [intOf]; done) | (simp [intOf]; omega)
                    | false =>
                      have HLE := hide (HFL.out rfl)
                      clear HFL HT
                      go_upto_region 18 with fail
                      go_cut [119] (fun c wx => ∃ b : Bool, c = .bool b ∧ wx = wc ∧ Hid (b = true → L[k]? = some (row, col)) ∧ Hid (b = false → L[k]? ≠ some (row, col)))
                      case first =>
                        by_cases hkl : k < L.length
                        · obtain ⟨⟨r2, c2⟩, hy⟩ : ∃ q, L[k]? = some q := ⟨_, List.getElem?_eq_getElem hkl⟩
                          obtain ⟨g, rfl, hg1, hg2, hcl⟩ := HP1.out.form (by rw [HRL.out]; omega)
                          obtain ⟨d0, d1, _⟩ := hcl k _ _ (HRN.out k _ hy)
                          have q2 : (k : Int) < (L.length : Int) := by omega
                          have HY := hide hy
                          clear hy hcl
                          have hgs : (r2 == row) = false ∨ ((r2 == row) = true ∧ (c2 == col) = false) ∨ ((r2 == row) = true ∧ (c2 == col) = true) := by
                            by_cases h1 : r2 = row
                            · by_cases h2 : c2 = col
                              · exact .inr (.inr ⟨by simp [h1], by simp [h2]⟩)
                              · exact .inr (.inl ⟨by simp [h1], by simp [h2]⟩)
                            · exact .inl (by simp [h1])
                          rcases hgs with h1 | ⟨h1, h2⟩ | ⟨h1, h2⟩
                          · go_wp2
                            go_meet
                            exact ⟨false, rfl, rfl, hide (fun h => by cases h), hide (fun _ h => by
                              rw [HY.out] at h
                              injection h with h
                              injection h with e1 e2
                              simp [e1] at h1)⟩
                          · go_wp2
                            go_meet
                            exact ⟨false, rfl, rfl, hide (fun h => by cases h), hide (fun _ h => by
                              rw [HY.out] at h
                              injection h with h
                              injection h with e1 e2
                              simp [e2] at h2)⟩
                          · go_wp2
                            go_meet
                            exact ⟨true, rfl, rfl, hide (fun _ => by
                              rw [HY.out]
                              simp at h1 h2
                              rw [h1, h2]), hide (fun h => by cases h)⟩
                        · have q2 : ¬ (k : Int) < (L.length : Int) := by omega
                          go_wp2
                          go_meet
                          exact ⟨false, rfl, rfl, hide (fun h => by cases h), hide (fun _ h => by rw [List.getElem?_eq_none (by omega)] at h; cases h)⟩
                      case rest =>
                        obtain ⟨b, rfl, rfl, HT, HFL⟩ := hcut
                        cases b with
                        | true =>
                          have hin : insK (row, col) L = L := insK_there _ L HS.out.srt (List.mem_of_getElem? (HT.out rfl))
                          have hS2 := HS.out.on hxa HM.out
                          rw [HK.out, hin] at hS2
                          have HS3 := hide hS2
                          clear HT HFL hin hS2
                          go_wp2
                          go_roundw
                          case rel =>
                            exact ⟨x + 1, L, Ao, co, by omega, by omega, by go_num, rfl, HS3, by omega, HP1⟩
                          case measure => first | (simp [intOf]; done) | (simp [intOf]; omega)
                        | false =>
                          have hgt : ∀ (j : Nat) (q : Ky), k ≤ j → L[j]? = some q → klt (row, col) q := fun j q h1 h2 => by
                            have hne := HFL.out rfl
                            have hkk : k < L.length := by
                              have := (List.getElem?_eq_some_iff.1 h2).1
                              omega
                            obtain ⟨p, hpk⟩ : ∃ q, L[k]? = some q := ⟨_, List.getElem?_eq_getElem hkk⟩
                            have hp1 : klt (row, col) p := klt_of (HG.out k p (Nat.le_refl _) hpk) (fun e => hne (by rw [hpk, e]))
                            by_cases e : j = k
                            · subst e
                              rw [hpk] at h2
                              injection h2 with h2
                              subst h2
                              exact hp1
                            · exact klt_trans hp1 (klt_lt HS.out.srt hpk h2 (by omega))
                          have HIN : Hid (insK (row, col) L = L.take k ++ (row, col) :: L.drop k) := hide (insK_at (row, col) L k HS.out.srt hk hgt HLE.out)
                          have hS2 := HS.out.on hxa HM.out
                          rw [HK.out, HIN.out] at hS2
                          have HS3 := hide hS2
                          have HIL : Hid ((L.take k ++ (row, col) :: L.drop k).length = L.length + 1) := hide (by simp; omega)
                          obtain ⟨q0, q1, q2, q3, hq⟩ : ∃ q0 q1 q2 q3, brR W H S (row, col) = ⟨q0, q1, q2, q3⟩ := ⟨_, _, _, _, rfl⟩
                          have HBR := hide (fun wi => (by
                            have h := brect_any W H S col row wi hp kc kd ka kb
                            unfold brR at hq
                            injection hq with h1 h2 h3 h4
                            simp only at h1 h2 h3 h4
                            rw [h3, h1, h2, h4] at h
                            exact h : Calls Tryz.prog 41 #[.agg #[.int .i64 W, .int .i64 H, .int .i64 S], .int .i64 col, .int .i64 row] wi fun e w' => e = .returned (.agg #[.int .i64 q0, .int .i64 q1, .int .i64 q2, .int .i64 q3]) ∧ Below wi.heap.size wi w'))
                          have HBW : Hid (wf4 ⟨q0, q1, q2, q3⟩) := hide (by rw [← hq]; exact brR_wf hp _)
                          have HPC : Hid (pieceR W H S l (row, col) = rjoin hAnd l [⟨q0, q1, q2, q3⟩]) := hide (by unfold pieceR; rw [hq])
                          clear HT HFL hgt hS2 HLE HG HWH hq
                          go_upto_region 20 with (go_at_call 41; refine (HBR.out _).mono ?_; rintro e w2 ⟨rfl, hb2⟩; have HP2 := hide (HP1.out.below hb2); clear hb2 p0 p1 p2)
                          obtain ⟨bb, hbb⟩ : ∃ bb, bb = w2.heap.size := ⟨_, rfl⟩
                          rw [← hbb]
                          refine wp_name fun w3 hw3 => ?_
                          have hb3 : Below w2.heap.size w2 w3 := by rw [hw3]; exact (Below.refl _ _).alloc (Nat.le_refl _) _
                          have hs3 : bb < w3.heap.size := by rw [hw3, hbb]; simp
                          have HBL : Hid (RdK encR 4 w3 w3.heap.size (.slice (some ⟨bb, 0, none⟩) 1 1) [⟨q0, q1, q2, q3⟩]) := hide (by rw [hw3, hbb]; exact rd_lit w2 [⟨q0, q1, q2, q3⟩] 41 1)
                          have HP3 := hide (HP2.out.below hb3)
                          obtain ⟨L0, m0, m1, _⟩ := HP2.out.o
                          have HVO : Hid (∀ q, (Value.slice Ao L.length co).ownBlock = some q → q < bb) := hide (fun q hq => by rw [hbb]; exact (m1.lt q hq).2)
                          obtain ⟨LL, l0, l1, l2⟩ := HP3.out.o
                          have HL0 := hide (l0.trans HRL.out)
                          have HL1 := hide (own_n l1 HRL.out)
                          have HL2 := hide l2
                          have HLN : Hid (∀ q ∈ LL, q.2.oneCell' = true) := hide (Pcs.ones l0 l2)
                          have hL3 := HP3.out.low.size
                          clear hw3 hb3 hbb m0 m1 l0 l1 l2 HP1 HP2 HBR
                          go_wp2_with (at_builtin; go_loud (refine wpList_append_lies _ rfl (.tmp 125) (.tmp 127) 29 rfl wb.heap.size 48 i2 (.agg #[.int .i64 0, .int .i64 0, .slice none 0 0]) 3 40 Tryz.underlying29 fi fz0 fz1 fz2 rfl (by decide) _ L.length _ rfl (World.ownsRow.alloc HL1.out _) ⟨w3.heap.size, 0, none⟩ 1 1 [.int .i64 0, .int .i64 0, .slice none 0 0] rfl rfl (news_new w3 _ _ _ rfl) (one3 _ _ _ _ _) (by omega) (by unfold maxLen; omega) (by omega) (by simp; omega) _ rfl ?_))
                          intro g9 cap9 w9 hown9 hgrow9 hg9 _
                          have hx2 : LL.flatMap encP ++ [.int .i64 0, .int .i64 0, .slice none 0 0] = (LL ++ [((0, 0), Value.slice none 0 0)]).flatMap encP := by simp [encP]
                          rw [hx2] at hown9
                          have hvb : (Value.slice Ao L.length co).ownBlock ≠ some bb := fun e => by have := HVO.out bb e; omega
                          have hgb : g9 ≠ bb := by
                            rintro rfl
                            rcases hg9 with h | h
                            · exact hvb h
                            · (try simp at h); omega
                          have hblk9 : w9.heap[bb]? = w3.heap[bb]? := (hgrow9.block bb (by simp; omega) (fun e => hvb e.symm)).trans (((Below.refl _ w3).alloc (Nat.le_refl _) _).block bb hs3)
                          have hs9 : w3.heap.size < w9.heap.size := Nat.lt_of_lt_of_le (by simp) hgrow9.size
                          have HBL9 := hide (rd_block (B' := w9.heap.size) HBL.out hblk9 (by omega))
                          have HKP9 : Hid (∀ (v : Value) (m : Nat) (xs : List Value), w3.ownsRow wb.heap.size 41 4 v m xs → w9.ownsRow wb.heap.size 41 4 v m xs) := hide (by
                            obtain ⟨wA, hA, hgA⟩ : ∃ wA, wA = w3.alloc _ ∧ World.grownBy wA w9 _ := ⟨_, rfl, hgrow9⟩
                            intro v m xs h
                            have h1 : wA.ownsRow wb.heap.size 41 4 v m xs := by rw [hA]; exact World.ownsRow.alloc h _
                            have h2 : wA.ownsRow wb.heap.size 48 3 (.slice Ao L.length co) L.length (LL.flatMap encP) := by rw [hA]; exact World.ownsRow.alloc HL1.out _
                            exact h1.kept hgA (own_apart h1 h2 (by decide)))
                          have hb9 : Below wb.heap.size wb w9 := (HP3.out.low.alloc hL3 _).grown hgrow9 (by simp; omega) (fun q hq => (HL1.out.lt q hq).1)
                          obtain ⟨_, cap9', cur9, e9, hbg9, hh9, hn9, hm9, hs9', ht9⟩ : ∃ (g' cap' : Nat) (cur : Array Value), Value.slice (some ⟨g9, 0, none⟩) (L.length + 1) cap9 = .slice (some ⟨g', 0, none⟩) (L.length + 1) cap' ∧ wb.heap.size ≤ g' ∧ w9.heap[g']? = some (.cells cur 48 (0, 0)) ∧ L.length + 1 ≤ cap' ∧ cap' ≤ maxLen ∧ cur.size = cap' * 3 ∧ cur.toList.take ((L.length + 1) * 3) = (LL ++ [((0, 0), Value.slice none 0 0)]).flatMap encP := by
                            rcases hown9.2 with ⟨e0, _⟩ | q
                            · cases e0
                            · exact q
                          injection e9 with e1 _ e3
                          injection e1 with e1
                          injection e1 with e1
                          subst e1; subst e3
                          have HX9 := hide hown9
                          have HB9 := hide hb9
                          have HH9 := hide hh9
                          have HS9 := hide hs9'
                          unfold maxLen at hm9
                          clear hown9 hgrow9 hb9 hx2 hg9 hh9 hs9' ht9 hvb hblk9
                          go_wp2
                          have r1 : IntKind.i64.wrap ((k : Int) + 1) = (k : Int) + 1 := by simp [IntKind.wrap, IntKind.bits, IntKind.signed]; omega
                          have r2 : (0 : Int) ≤ (k : Int) + 1 := by omega
                          have r3 : (k : Int) + 1 ≤ (L.length : Int) + 1 := by omega
                          have r4 : ((k : Int) + 1).toNat = k + 1 := by omega
                          have r5 : (0 : Int) ≤ (k : Int) := by omega
                          have r6 : (k : Int) ≤ (L.length : Int) + 1 := by omega
                          have r7 : ((k : Int)).toNat = k := by omega
                          refine wp_region_reads0 7 (by kernel_rfl) (by kernel_rfl) ?_
                          simp only [List.take_succ_cons, List.take_zero, List.drop_succ_cons, List.drop_zero]
                          iterate 7
                            refine ⟨?_, Or.inl ⟨by rfl, ?_⟩, ?_⟩
                            rotate_left 1
                            · intro w' _
                              go_simp
                              first | done | with_reducible rfl
                            simp only [Act.put, List.setIfInBounds_toArray, List.set_cons_zero, List.set_cons_succ]
                          clear r1 r2 r3 r4 r5 r6 r7
                          simp only [wpReads]
                          intro K hK
                          have hcur : w9.drew.heap[g9]? = some (.cells cur9.toList.toArray 48 (0, 0)) := by show w9.heap[g9]? = _; simpa using HH9.out
                          have hcl : cur9.toList.length = cap9 * 3 := by simpa using HS9.out
                          have hfl : ((LL.drop k).flatMap encP).length = (L.length - k) * 3 := by rw [flatN_len (k := 3) (fun _ => rfl), List.length_drop, HL0.out]
                          refine step_copy_n rfl (.tmp 132) (.tmp 135) 29 29 rfl 48 Tryz.underlying29 3 (by kernel_rfl) _ _ _ _ _ _ rfl rfl g9 ((k + 1) * 3) cur9.toList 48 hcur ((LL.drop k).flatMap encP) (L.length - k) (by show _ = min _ _; omega) hfl ?_ (by omega) (encP_one fun q hq => HLN.out q (List.mem_of_mem_drop hq)) wb.heap.size wb (HB9.out.drew) hbg9 ?_
                          · intro hpos
                            refine ⟨by first | rfl | rw [if_neg (by omega)], ⟨g9, k * 3, none⟩, by first | rfl | rw [if_neg (by omega)], fun i u hi => ?_⟩
                            have hi2 : ((LL ++ [((0, 0), Value.slice none 0 0)]).flatMap encP)[k * 3 + i]? = some u := by
                              have e0 : (LL ++ [((0, 0), Value.slice none 0 0)]).flatMap encP = (LL.take k).flatMap encP ++ ((LL.drop k).flatMap encP ++ encP ((0, 0), Value.slice none 0 0)) := by
                                rw [← List.append_assoc, ← List.flatMap_append, List.take_append_drop, List.flatMap_append]
                                rw [List.flatMap_cons, List.flatMap_nil, List.append_nil]
                              have e1 : ((LL.take k).flatMap encP).length = k * 3 := by rw [flatN_len (k := 3) (fun _ => rfl), List.length_take, HL0.out]; omega
                              rw [e0, List.getElem?_append_right (by omega), e1, Nat.add_sub_cancel_left, List.getElem?_append_left (List.getElem?_eq_some_iff.1 hi).1]
                              exact hi
                            have := (HX9.out.cells (g := g9) rfl) _ _ hi2
                            rw [addr_add] at this
                            rw [addr_add']
                            exact this
                          · intro w10 hsp hb10 hgr10
                            have hx10 := own_copied_n HX9.out (by simpa using HH9.out) hsp.out (by omega)
                            have HKP10 : Hid (∀ (v : Value) (m : Nat) (xs : List Value), w9.ownsRow wb.heap.size 41 4 v m xs → w10.ownsRow wb.heap.size 41 4 v m xs) := hide (fun v m xs h => own_row3 (w := w9.drew) h HX9.out hgr10)
                            have hs10 := hgr10.size
                            have hblk10 : w10.heap[bb]? = w9.heap[bb]? := hgr10.block bb (by show bb < w9.heap.size; omega) (fun e => hgb (by injection e with e; exact e.symm))
                            have hbl10 := rd_block (B' := w10.heap.size) HBL9.out hblk10 (by have : w9.heap.size ≤ w10.heap.size := hs10; omega)
                            have hrl10 : RdK encR 4 w10 w10.heap.size (.slice A0 l.length c0) l := (HRb.out.below hb10).mono hb10.size
                            have hj := rJoined_any 1 (.inl rfl) hrl10 hbl10 (Nat.le_refl _) (by omega) (by simp)
                            rw [ref_join (h := Proofs.YtjlfdgoijalfaaaGreat.hk 1) rfl HWF.out (fun r hr => by rw [List.mem_singleton] at hr; subst hr; exact HBW.out), show Proofs.YtjlfdgoijalfaaaGreat.hk 1 = hAnd from by funext a b; simp [Proofs.YtjlfdgoijalfaaaGreat.hk, hAnd], ← HPC.out] at hj
                            have HJN := hide hj
                            have HX10 := hide hx10
                            have HB10 := hide hb10
                            refine hK _ _ (fun _ => trivial) ?_
                            clear hK K hj hx10 hb10 hsp hgr10 hs10 hblk10 hbl10 hrl10 hcur hcl hfl
                            refine NoPanic.normal ?_
                            have hlJ : (pieceR W H S l (row, col)).length ≤ 400 := HPL.out _
                            generalize hJ : pieceR W H S l (row, col) = J at *
                            go_wp2_with (go_at_call 42; refine HJN.out.mono ?_; rintro e w11 ⟨vj, rfl, hoj, hb11⟩
                                         obtain ⟨Aj, cj, hvj⟩ := own_form hoj
                                         subst hvj
                                         have hx11 := own_below HX10.out hb11
                                         have hlen11 := hx11.1
                                         have hfl2 := flatN_len (enc := encP) (k := 3) (fun _ => rfl) (LL ++ [((0, 0), Value.slice none 0 0)])
                                         obtain ⟨u0, c30⟩ : ∃ u, w11.cell? ⟨g9, k * 3, none⟩ = some u := by
                                           have := (hx11.cells (g := g9) rfl) (k * 3) _ (List.getElem?_eq_getElem (by omega))
                                           rw [addr_add] at this
                                           exact ⟨_, this⟩
                                         obtain ⟨u1, c31⟩ : ∃ u, w11.cell? ⟨g9, k * 3 + 1, none⟩ = some u := by
                                           have := (hx11.cells (g := g9) rfl) (k * 3 + 1) _ (List.getElem?_eq_getElem (by omega))
                                           rw [addr_add] at this
                                           exact ⟨_, this⟩
                                         obtain ⟨u2, c32⟩ : ∃ u, w11.cell? ⟨g9, k * 3 + 2, none⟩ = some u := by
                                           have := (hx11.cells (g := g9) rfl) (k * 3 + 2) _ (List.getElem?_eq_getElem (by omega))
                                           rw [addr_add] at this
                                           exact ⟨_, this⟩
                                         have f30 : w11.frozen? ⟨g9, k * 3, none⟩ = false := hx11.frozenAt _
                                         have f31 : w11.frozen? ⟨g9, k * 3 + 1, none⟩ = false := hx11.frozenAt _
                                         have f32 : w11.frozen? ⟨g9, k * 3 + 2, none⟩ = false := hx11.frozenAt _
                                         have HX11 := hide hx11
                                         have HOJ := hide hoj
                                         have HB11 := hide hb11
                                         clear hx11 hoj hb11 hlen11 hfl2)
                            have s1 := (HX11.out.stored (k * 3) (.int .i64 col)).1
                            have s2 := (s1.stored (k * 3 + 1) (.int .i64 row)).1
                            have s3 := (s2.stored (k * 3 + 2) (.slice Aj J.length cj)).1
                            rw [set_three _ _ _ _ _ (by have := HX11.out.1; omega)] at s3
                            have hsp2 := ins_splice_n (enc := encP) (k := 3) (fun _ => rfl) LL ((0, 0), Value.slice none 0 0) ((row, col), .slice Aj J.length cj) k (by rw [HL0.out]; exact hk)
                            rw [show ([.int .i64 col, .int .i64 row, .slice Aj J.length cj] : List Value) = encP ((row, col), .slice Aj J.length cj) from rfl, hsp2] at s3
                            have low12 : Below wb.heap.size wb (((w11.setCell ⟨g9, k * 3, none⟩ (.int .i64 col)).setCell ⟨g9, k * 3 + 1, none⟩ (.int .i64 row)).setCell ⟨g9, k * 3 + 2, none⟩ (.slice Aj J.length cj)) := ((((HB10.out.trans (HB11.out.mono HB10.out.size)).setCell (p := ⟨g9, _, none⟩) hbg9 _).setCell (p := ⟨g9, _, none⟩) hbg9 _).setCell (p := ⟨g9, _, none⟩) hbg9 _)
                            have kp : ∀ (v : Value) (m : Nat) (xs : List Value), w11.ownsRow wb.heap.size 41 4 v m xs → (((w11.setCell ⟨g9, k * 3, none⟩ (.int .i64 col)).setCell ⟨g9, k * 3 + 1, none⟩ (.int .i64 row)).setCell ⟨g9, k * 3 + 2, none⟩ (.slice Aj J.length cj)).ownsRow wb.heap.size 41 4 v m xs := fun v m xs h =>
                              own_row3 (own_row3 (own_row3 h HX11.out (grown_setCell _ _ _ _)) s1 (grown_setCell _ _ _ _)) s2 (grown_setCell _ _ _ _)
                            have hins := Pcs.ins (R := L.map fun k => (k, pieceR W H S l k)) (L := LL) (n := k) (k := (row, col)) (r := J) (u := .slice Aj J.length cj) low12 (HL0.out.trans HRL.out.symm) (by rw [HRL.out]; exact hk) HL2.out (fun v m xs h => kp v m xs (own_below (HKP10.out v m xs (HKP9.out v m xs h)) HB11.out)) (kp _ _ _ (own_base HOJ.out HB10.out.size)) (by rw [HRL.out]; exact s3)
                            have hRj : (L.map fun k => (k, pieceR W H S l k)).take k ++ ((row, col), J) :: (L.map fun k => (k, pieceR W H S l k)).drop k = (L.take k ++ (row, col) :: L.drop k).map fun k => (k, pieceR W H S l k) := by rw [List.map_append, List.map_cons, List.map_take, List.map_drop, hJ]
                            rw [hRj] at hins
                            have HNS := hide hins
                            clear s1 s2 s3 hsp2 low12 kp hins hRj
                            go_wp2
                            go_roundw
                            case rel =>
                              exact ⟨x + 1, L.take k ++ (row, col) :: L.drop k, some ⟨g9, 0, none⟩, cap9, by omega, by omega, by go_num, by rw [HIL.out], HS3, by rw [HIL.out]; omega, hide (by rw [HIL.out]; exact HNS.out)⟩
                            case measure => first | (simp [intOf]; done) | (simp [intOf]; omega)
              · have hha := rHas_any (w := wr) hRr (by omega) x y
                rw [decide_eq_false hm] at hha
                have HHA := hide hha
                have HM := hide hm
                clear hha hm hRr hlow
                go_wp2_with (go_at_call 39; refine HHA.out.mono ?_; rintro e w' ⟨rfl, rfl⟩)
                go_roundw
                case rel => exact ⟨x + 1, L, Ao, co, by omega, by omega, by go_num, rfl, hide (HS.out.off hxa HM.out), by omega, HP⟩
                case measure => first | (simp [intOf]; done) | (simp [intOf]; omega)
            · obtain rfl : x = x1 := by omega
              clear hlow
              go_wp2
              go_roundw
              case rel => exact ⟨y + 1, L, Ao, co, by omega, by omega, by go_num, rfl, hide (HS.out.line hya), by omega, HP⟩
              case measure => first | (simp [intOf]; done) | (simp [intOf]; omega)
        · have hLK : L = keysT W H S l := HS.out.fin hp HWF.out HHC.out (by simp only; omega)
          have HFT : Hid (tileF W H S l = if 400 < L.length then ([], 4) else (L.map fun k => (k, pieceR W H S l k), 0)) := hide (by rw [hF.out, ← hLK])
          have hL36 : L.length ≤ 3600 := by omega
          have HLW := hide (HTb.out.low.size)
          clear hLK HS
          by_cases hmany : 400 < L.length
          · have HF4 : Hid (tileF W H S l = ([], 4)) := hide (by rw [HFT.out, if_pos hmany])
            have mz : (400 : Int) < (L.length : Int) := by omega
            clear hmany
            go_wp2
            go_ret2
            exact ⟨⟨none, 0, [], by rw [HF4.out]; rfl, by rw [HF4.out]; rfl, by rw [HF4.out]; exact World.ownsRow_nil _ _ _ _, fun i k r h => by rw [HF4.out] at h; simp at h⟩, HTb.out.low.trans (HP.out.low.mono HTb.out.low.size)⟩
          · have HF0 : Hid (tileF W H S l = (L.map fun k => (k, pieceR W H S l k), 0)) := hide (by rw [HFT.out, if_neg hmany])
            have mz : ¬ (400 : Int) < (L.length : Int) := by omega
            clear hmany
            go_wp2
            go_ret2
            obtain ⟨LL, l0, l1, l2⟩ := HP.out.o
            have hml : (L.map fun k => (k, pieceR W H S l k)).length = L.length := by simp
            refine ⟨⟨Ao, co, LL, by rw [HF0.out]; show Ending.returned (.tuple #[.slice Ao L.length co, .int .i64 0]) = .returned (.tuple #[.slice Ao (L.map fun k => (k, pieceR W H S l k)).length co, .int .i64 0]); rw [hml], by rw [HF0.out]; exact l0, ?_, ?_⟩, HTb.out.low.trans (HP.out.low.mono HTb.out.low.size)⟩
            · rw [HF0.out]
              show wr.ownsRow w.heap.size 48 3 (.slice Ao (L.map fun k => (k, pieceR W H S l k)).length co) (L.map fun k => (k, pieceR W H S l k)).length (LL.flatMap encP)
              have l1' := own_base l1 HTb.out.low.size
              rw [hml] at l1' ⊢
              exact l1'
            · rw [HF0.out]
              intro i k r hi
              obtain ⟨u, q1, q2⟩ := l2 i k r hi
              exact ⟨u, q1, own_base q2 HTb.out.low.size⟩
    · have hpc := fun wi => rcheck_any W H S wi
      rw [chk_bad hp] at hpc
      have HPC := hide hpc
      clear hpc
      have hF : Hid (tileF W H S l = ([], 8)) := hide (by unfold tileF; rw [if_pos h0, if_neg hp])
      clear h0 hp hn
      go_enter Tryz.func17, Tryz.ntmps17
      go_wp2_with (go_at_call 37; refine (HCK.out _ hT0.out.low).mono ?_; rintro e w1 ⟨rfl, hb1⟩; have HT1 := hide (hT0.out.below hb1); have p0 := HT1.out.p0; have p1 := HT1.out.p1; have p2 := HT1.out.p2; clear hb1)
      refine (HPC.out _).mono ?_
      rintro e w2 ⟨rfl, hb2⟩
      have HT2 := hide (HT1.out.below hb2)
      clear hb2 p0 p1 p2
      have p0 := HT2.out.p0
      have p1 := HT2.out.p1
      have p2 := HT2.out.p2
      go_wp2_with (fail)
      refine (HPC.out _).mono ?_
      rintro e w3 ⟨rfl, hb3⟩
      have HT3 := hide (HT2.out.below hb3)
      clear hb3 p0 p1 p2
      go_wp2
      go_ret2
      exact ⟨⟨none, 0, [], by rw [hF.out]; rfl, by rw [hF.out]; rfl, by rw [hF.out]; exact World.ownsRow_nil _ _ _ _, fun i k r h => by rw [hF.out] at h; simp at h⟩, HT3.out.low⟩
  · have hF : Hid (tileF W H S l = ([], checkF l)) := hide (by unfold tileF; rw [if_neg h0])
    generalize checkF l = ck at *
    have hne : (ck != 0) = true := by simpa using h0
    clear h0 hn
    go_enter Tryz.func17, Tryz.ntmps17
    go_wp2_with (fail)
    refine (HCK.out _ hT0.out.low).mono ?_
    rintro e w1 ⟨rfl, hb1⟩
    have HT1 := hide (hT0.out.below hb1)
    clear hb1
    go_wp2_with (fail)
    refine (HCK.out _ HT1.out.low).mono ?_
    rintro e w2 ⟨rfl, hb2⟩
    have HT2 := hide (HT1.out.below hb2)
    clear hb2
    go_wp2
    go_ret2
    exact ⟨⟨none, 0, [], by rw [hF.out]; rfl, by rw [hF.out]; rfl, by rw [hF.out]; exact World.ownsRow_nil _ _ _ _, fun i k r h => by rw [hF.out] at h; simp at h⟩, HT2.out.low⟩
end Go.Proofs.YtjlfdgoijalfaaaGreat

/- A region that draws its order: reads, a chain (a call) that keeps their condition, reads of slots in any order, and a last operation. The law, in a round and outside of one. -/
namespace Go.Proofs.YtjlfdgoijalfaaaGreat
open Go.RowKit
set_option linter.unusedVariables false
set_option linter.unusedSimpArgs false

section
variable {P : Program} {Q : Exit → Act → World → Prop} {md : Region.Mode} {S : World → Prop}

def mixCB (md : Region.Mode) (ops : Array Oper) (R2 T2 : List Nat) : List Nat → Array Bool → Bool
  | [], l => mixRB md ops T2 R2 l
  | t :: r, l => (Region.ready md ops l == [t]) && mixCB md ops R2 T2 r (l.setIfInBounds t true)
def mixHB (md : Region.Mode) (ops : Array Oper) (T R2 T2 : List Nat) : List Nat → Array Bool → Bool
  | [], l => mixCB md ops R2 T2 T l
  | i :: r, l => Region.free md ops l i && (Region.ready md ops l).contains i && waitsFor md ops (ops.size - 1) i && mixHB md ops T R2 T2 r (l.setIfInBounds i true)
def mixTwoB (md : Region.Mode) (ops : Array Oper) (R T R2 T2 : List Nat) : Bool := Region.noSelect ops && decide (R.length + (T.length + (R2.length + T2.length)) = ops.size) && (T2.getLast? == some (ops.size - 1)) && mixHB md ops T R2 T2 R (Array.replicate ops.size false)

/-- One operation behind the other; behind each, S is shown anew. -/
def wpChain (P : Program) (ops : Array Oper) (S : World → Prop) (Q : Exit → Act → World → Prop) (K : Act → World → Prop) : List Oper → Act → World → Prop
  | [], a, w => K a w
  | o :: r, a, w => ∀ K' : Act → World → Prop, (∀ a' w', S w' → wpChain P ops S Q K r a' w' → K' a' w') → if Region.wanted o (yielded ops a.tmps) = true then o.wp P a w K' Q else K' (a.put o.dst undef) w

theorem wpChain_mix {l : List Oper} {R2 T2 : List Nat} (hsel : ∀ (j : Nat) (o : Oper) cs b, l.toArray[j]? = some o → o.op ≠ .select cs b) (hQ : ∀ c a a' w, Q (.panic c) a w → Q (.panic c) a' w) (hL : ∀ t, T2.getLast? = some t → t = l.length - 1) :
    ∀ (T : List Nat) (listed : Array Bool) (a : Act) (w : World), S w → mixCB md l.toArray R2 T2 T listed = true →
      wpChain P l.toArray S Q (fun a w => wpReads P l.toArray S (fun a' => wpTail P l.toArray S Q (T2.map (opAt l)) a' w) (R2.map (opAt l)) a) (T.map (opAt l)) a w →
      wpAnyE P md l.toArray Q S (l.length - 1) (T.length + (R2.length + T2.length)) listed a w
  | [], listed, a, w, hS, hT, h => by
    rw [List.length_nil, Nat.zero_add]
    exact wpReads_mix hsel hQ hL hS R2 listed a hT h
  | t :: r, listed, a, w, hS, hT, h => by
    simp only [mixCB, Bool.and_eq_true, beq_iff_eq] at hT
    rw [List.length_cons, Nat.add_right_comm]
    refine ⟨fun h0 => (by rw [hT.1] at h0; cases h0), fun i hi => ?_⟩
    obtain ⟨_, o, ho, _⟩ := mem_ready.1 hi
    rw [hT.1] at hi
    obtain rfl : i = t := by simpa using hi
    have ho' : l[i]? = some o := by simpa using ho
    simp only [List.map_cons, opAt_some ho'] at h
    refine wpOp_step ho fun K' hK => h K' fun a' w' hS' hT' => hK a' w' ⟨fun _ => hS', ?_⟩
    exact wpChain_mix hsel hQ hL r _ a' w' hS' hT.2 hT'
theorem wpHead_mix {l : List Oper} {T R2 T2 : List Nat} (hsel : ∀ (j : Nat) (o : Oper) cs b, l.toArray[j]? = some o → o.op ≠ .select cs b) (hQ : ∀ c a a' w, Q (.panic c) a w → Q (.panic c) a' w) (hL : ∀ t, T2.getLast? = some t → t = l.length - 1)
    {w : World} (hS : S w) : ∀ (R : List Nat) (listed : Array Bool) (a : Act), mixHB md l.toArray T R2 T2 R listed = true →
      wpReads P l.toArray S (fun a' => wpChain P l.toArray S Q (fun a w => wpReads P l.toArray S (fun a' => wpTail P l.toArray S Q (T2.map (opAt l)) a' w) (R2.map (opAt l)) a) (T.map (opAt l)) a' w) (R.map (opAt l)) a →
      wpAnyE P md l.toArray Q S (l.length - 1) (R.length + (T.length + (R2.length + T2.length))) listed a w
  | [], listed, a, hR, h => by
    rw [List.length_nil, Nat.zero_add]
    exact wpChain_mix hsel hQ hL T listed a w hS hR h
  | i :: r, listed, a, hR, h => by
    simp only [mixHB, Bool.and_eq_true, List.contains_iff_mem] at hR
    obtain ⟨⟨⟨f1, f2⟩, f3⟩, f4⟩ := hR
    obtain ⟨_, o, ho, _⟩ := mem_ready.1 f2
    have ho' : l[i]? = some o := by simpa using ho
    simp only [List.map_cons, opAt_some ho'] at h
    obtain ⟨v, hy, h⟩ := h
    have ih := wpHead_mix hsel hQ hL hS r _ _ f4 h
    rw [List.length_cons, Nat.add_right_comm]
    refine wpAnyE_first ho hsel (fun c a w h => hQ c _ _ w h) ?_ _ _ _ _ (Region.free_spec ho f1) f2 hy hS ih
    intro oL hoL
    unfold waitsFor at f3
    simp only [List.size_toArray] at f3
    rw [hoL] at f3
    obtain ⟨e, he, h2⟩ := Array.any_eq_true'.1 f3
    simp only [Bool.and_eq_true, beq_iff_eq] at h2
    exact ⟨e, he, h2.1, h2.2⟩
theorem wpAny_two {a : Act} {w : World} {l : List Oper} (R T R2 T2 : List Nat) (hB : mixTwoB .any l.toArray R T R2 T2 = true) (hS : S w)
    (h : wpReads P l.toArray S (fun a' => wpChain P l.toArray S (NoPanic Q) (fun a w => wpReads P l.toArray S (fun a' => wpTail P l.toArray S (NoPanic Q) (T2.map (opAt l)) a' w) (R2.map (opAt l)) a) (T.map (opAt l)) a' w) (R.map (opAt l)) a) :
    wpAny P .any l.toArray (NoPanic Q) l.toArray.size (Array.replicate l.toArray.size false) a w := by
  refine wpAny_of_E (S := S) (L := l.length - 1) _ _ _ _ ?_
  simp only [mixTwoB, Bool.and_eq_true, decide_eq_true_eq, beq_iff_eq, List.size_toArray] at hB
  obtain ⟨⟨⟨b1, b2⟩, b3⟩, b4⟩ := hB
  have := wpHead_mix (Q := NoPanic Q) (S := S) (l := l) (T := T) (R2 := R2) (T2 := T2) (w := w) (Region.noSelect_spec b1) (fun _ _ _ _ h => h) (fun t ht => by rw [b3] at ht; injection ht with ht; exact ht.symm) hS R _ a b4 h
  rw [b2] at this
  exact this
theorem wp_region_two {id : Nat} {a : Act} {w : World} {l : List Oper} (R T R2 T2 : List Nat) (S : World → Prop) (hm : P.follows .mixedOrders = true) (hB : mixTwoB .any l.toArray R T R2 T2 = true) (hS : S w.drew)
    (h : wpReads P l.toArray S (fun a' => wpChain P l.toArray S (NoPanic Q) (fun a w => wpReads P l.toArray S (fun a' => wpTail P l.toArray S (NoPanic Q) (T2.map (opAt l)) a' w) (R2.map (opAt l)) a) (T.map (opAt l)) a' w.drew) (R.map (opAt l)) a) :
    (Code.region id l.toArray true).wp P Q a w :=
  wp_region_noPanic (wp_region_any hm (wpAny_two R T R2 T2 hB hS h))
theorem wpIn_region_two {id r m : Nat} {a : Act} {w : World} {l : List Oper} (R T R2 T2 : List Nat) (S : World → Prop) (hm : P.follows .mixedOrders = true) (hB : mixTwoB .any l.toArray R T R2 T2 = true) (hnd : noDefer l = true) (hout : ∀ a w, ¬ Q .outgrown a w) (hS : S w.drew)
    (h : wpReads P l.toArray S (fun a' => wpChain P l.toArray S (NoPanic Q) (fun a w => wpReads P l.toArray S (fun a' => wpTail P l.toArray S (NoPanic Q) (T2.map (opAt l)) a' w) (R2.map (opAt l)) a) (T.map (opAt l)) a' w.drew) (R.map (opAt l)) a) :
    (Code.region id l.toArray true).wpIn (Fence.wide.inRound r) m P Q a w :=
  Code.wpIn_mono NoPanic.imp (wpIn_region_any hm (wpAny_round (noDefer_spec hnd) (fun a w h => hout a w (NoPanic.imp _ _ _ h)) _ _ _ _ (wpAny_two R T R2 T2 hB hS h)))
end
end Go.Proofs.YtjlfdgoijalfaaaGreat
