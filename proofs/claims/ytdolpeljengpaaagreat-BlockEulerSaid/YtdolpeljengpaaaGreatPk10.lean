/- Texts laid together: StrR, BlkU, TexN, MAlong, BlkA, MAlg, BlkB, Row, Open, Regs, RegsB, Alive35, MBlkP. Lemmas for the statements of this seat; no condition. -/
import Derived.Test.YtdolpeljengpaaaGreatPk4
import Derived.Test.YtdolpeljengpaaaGreatPk3
import Derived.Test.YtdolpeljengpaaaGreatPk1
import Derived.Test.YtdolpeljengpaaaGreatPk8
import Derived.Deep.Cut
import Derived.Test.YtdolpeljengpaaaGreatPk9
import Derived.Test.YtdolpeljengpaaaGreatPk5
import Derived.ProofKit
import Derived.Lib.SmallJoins
import Derived.Deep.Slices
import Derived.Deep.Fields
import Derived.ChangeSame
import Derived.Test.YtdolpeljengpaaaGreatPk7

/- The reference's In (33) and Valid (34): what is a segment. -/
namespace Go.Proofs.YtdolpeljengpaaaGreat
open Go.RowKit
set_option linter.unusedVariables false
set_option linter.unusedSimpArgs false

set_option maxHeartbeats 4000000 in
theorem rIn33_any (x y : Int) (w : World) :
    Calls Tryz.prog 49 #[.agg #[.int .i64 x, .int .i64 y]] w fun e w' => e = .returned (.bool (decide (finS x) && decide (finS y))) ∧ Below w.heap.size w w' := by
  have hb : Below w.heap.size w (w.alloc (.cells #[.int .i64 x, .int .i64 y] 51)) := (Below.refl _ _).alloc (Nat.le_refl _) _
  have HB := hide hb
  clear hb
  by_cases t0 : -1000000 ≤ x
  · by_cases t1 : x ≤ 1000000
    · by_cases t2 : -1000000 ≤ y
      · by_cases t3 : y ≤ 1000000
        · have b0 : decide (-1000000 ≤ x) = true := decide_eq_true t0
          have b1 : decide (x ≤ 1000000) = true := decide_eq_true t1
          have b2 : decide (-1000000 ≤ y) = true := decide_eq_true t2
          have b3 : decide (y ≤ 1000000) = true := decide_eq_true t3
          have HT := hide (((⟨t0, t1, t2, t3⟩ : (-1000000 ≤ x) ∧ (x ≤ 1000000) ∧ (-1000000 ≤ y) ∧ (y ≤ 1000000))))
          clear t0 t1 t2 t3
          go_enter Tryz.func49, Tryz.ntmps49
          go_wp2
          go_ret
          refine ⟨ret_eq (bool_eq ?_), HB.out⟩
          have hT := HT.out
          rw [decide_eq_true (show finS x by unfold finS; omega), decide_eq_true (show finS y by unfold finS; omega)]
          rfl
        · have b0 : decide (-1000000 ≤ x) = true := decide_eq_true t0
          have b1 : decide (x ≤ 1000000) = true := decide_eq_true t1
          have b2 : decide (-1000000 ≤ y) = true := decide_eq_true t2
          have b3 : decide (y ≤ 1000000) = false := decide_eq_false t3
          have HT := hide (((⟨t0, t1, t2, t3⟩ : (-1000000 ≤ x) ∧ (x ≤ 1000000) ∧ (-1000000 ≤ y) ∧ ¬ (y ≤ 1000000))))
          clear t0 t1 t2 t3
          go_enter Tryz.func49, Tryz.ntmps49
          go_wp2
          go_ret
          refine ⟨ret_eq (bool_eq ?_), HB.out⟩
          have hT := HT.out
          symm
          rw [Bool.and_eq_false_iff, decide_eq_false_iff_not, decide_eq_false_iff_not]
          unfold finS
          omega
      · have b0 : decide (-1000000 ≤ x) = true := decide_eq_true t0
        have b1 : decide (x ≤ 1000000) = true := decide_eq_true t1
        have b2 : decide (-1000000 ≤ y) = false := decide_eq_false t2
        have HT := hide (((⟨t0, t1, t2⟩ : (-1000000 ≤ x) ∧ (x ≤ 1000000) ∧ ¬ (-1000000 ≤ y))))
        clear t0 t1 t2
        go_enter Tryz.func49, Tryz.ntmps49
        go_wp2
        go_ret
        refine ⟨ret_eq (bool_eq ?_), HB.out⟩
        have hT := HT.out
        symm
        rw [Bool.and_eq_false_iff, decide_eq_false_iff_not, decide_eq_false_iff_not]
        unfold finS
        omega
    · have b0 : decide (-1000000 ≤ x) = true := decide_eq_true t0
      have b1 : decide (x ≤ 1000000) = false := decide_eq_false t1
      have HT := hide (((⟨t0, t1⟩ : (-1000000 ≤ x) ∧ ¬ (x ≤ 1000000))))
      clear t0 t1
      go_enter Tryz.func49, Tryz.ntmps49
      go_wp2
      go_ret
      refine ⟨ret_eq (bool_eq ?_), HB.out⟩
      have hT := HT.out
      symm
      rw [Bool.and_eq_false_iff, decide_eq_false_iff_not, decide_eq_false_iff_not]
      unfold finS
      omega
  · have b0 : decide (-1000000 ≤ x) = false := decide_eq_false t0
    have HT := hide ((t0 : ¬ (-1000000 ≤ x)))
    clear t0
    go_enter Tryz.func49, Tryz.ntmps49
    go_wp2
    go_ret
    refine ⟨ret_eq (bool_eq ?_), HB.out⟩
    have hT := HT.out
    symm
    rw [Bool.and_eq_false_iff, decide_eq_false_iff_not, decide_eq_false_iff_not]
    unfold finS
    omega
set_option maxHeartbeats 8000000 in
theorem rSegValid_any (s : Sg) (w : World) :
    Calls Tryz.prog 27 #[.agg #[.int .i64 s.ax, .int .i64 s.ay, .int .i64 s.cx, .int .i64 s.cy]] w fun e w' => e = .returned (.bool (decide (okSg s))) ∧ Below w.heap.size w w' := by
  obtain ⟨a, b, c, d⟩ := s
  have hv : decide (okSg ⟨a, b, c, d⟩) = ((decide (finS a) && decide (finS b)) && (decide (finS c) && decide (finS d)) && (decide (a = c) != decide (b = d))) := by
    rw [Bool.eq_iff_iff, decide_eq_true_iff]
    unfold okSg
    by_cases h1 : a = c <;> by_cases h2 : b = d <;> simp [h1, h2, and_assoc]
  rw [hv]
  clear hv
  simp only
  have g : Tryz.prog.eqGuardType Tryz.prog.depth 51 = false := by kernel_rfl
  have ha := fun W => rIn33_any a b W
  have hc := fun W => rIn33_any c d W
  generalize (decide (finS a) && decide (finS b)) = f at *
  generalize (decide (finS c) && decide (finS d)) = k at *
  have HA := hide ha
  have HC := hide hc
  clear ha hc
  by_cases t1 : a = c <;> by_cases t2 : b = d
  · subst t1
    subst t2
    go_enter Tryz.func27, Tryz.ntmps27
    go_wp2
    go_ret
    exact ⟨ret_eq (bool_eq (by cases f <;> cases k <;> simp)), ((Below.refl _ _).alloc (Nat.le_refl _) _ : Below w.heap.size w (w.alloc (.cells #[.int .i64 a, .int .i64 b, .int .i64 a, .int .i64 b] 53)))⟩
  · subst t1
    have u2 : (b == d) = false := by simpa using t2
    have hd2 : decide (b = d) = false := decide_eq_false t2
    rw [hd2]
    have hba := ((Below.refl _ _).alloc (Nat.le_refl _) _ : Below w.heap.size w (w.alloc (.cells #[.int .i64 a, .int .i64 b, .int .i64 a, .int .i64 d] 53)))
    have HBA := hide hba
    clear hba
    cases f
    · go_enter Tryz.func27, Tryz.ntmps27
      go_wp2_with (fail)
      refine (HA.out _).mono ?_
      rintro e w1 ⟨rfl, hb1⟩
      have HB1 := hide (HBA.out.trans (hb1.mono HBA.out.size))
      clear hb1
      go_wp2
      go_ret
      exact ⟨ret_eq (bool_eq (by cases k <;> simp)), HB1.out⟩
    · go_enter Tryz.func27, Tryz.ntmps27
      go_wp2_with (fail)
      refine (HA.out _).mono ?_
      rintro e w1 ⟨rfl, hb1⟩
      have HB1 := hide (HBA.out.trans (hb1.mono HBA.out.size))
      have k2 := (hb1.cell (p := ⟨w.heap.size, 2, none⟩) (by simp)).trans (show (w.alloc (.cells #[.int .i64 a, .int .i64 b, .int .i64 a, .int .i64 d] 53)).cell? ⟨w.heap.size, 2, none⟩ = some (.int .i64 a) by simp [go_sem])
      have k3 := (hb1.cell (p := ⟨w.heap.size, 3, none⟩) (by simp)).trans (show (w.alloc (.cells #[.int .i64 a, .int .i64 b, .int .i64 a, .int .i64 d] 53)).cell? ⟨w.heap.size, 3, none⟩ = some (.int .i64 d) by simp [go_sem])
      clear hb1
      go_wp2_with (fail)
      refine (HC.out _).mono ?_
      rintro e w2 ⟨rfl, hb2⟩
      have HB2 := hide (HB1.out.trans (hb2.mono HB1.out.size))
      clear hb2 k2 k3
      go_wp2
      go_ret
      exact ⟨ret_eq (bool_eq (by cases k <;> simp)), HB2.out⟩
  · have u1 : (a == c) = false := by simpa using t1
    have hd1 : decide (a = c) = false := decide_eq_false t1
    rw [hd1]
    subst t2
    have hba := ((Below.refl _ _).alloc (Nat.le_refl _) _ : Below w.heap.size w (w.alloc (.cells #[.int .i64 a, .int .i64 b, .int .i64 c, .int .i64 b] 53)))
    have HBA := hide hba
    clear hba
    cases f
    · go_enter Tryz.func27, Tryz.ntmps27
      go_wp2_with (fail)
      refine (HA.out _).mono ?_
      rintro e w1 ⟨rfl, hb1⟩
      have HB1 := hide (HBA.out.trans (hb1.mono HBA.out.size))
      clear hb1
      go_wp2
      go_ret
      exact ⟨ret_eq (bool_eq (by cases k <;> simp)), HB1.out⟩
    · go_enter Tryz.func27, Tryz.ntmps27
      go_wp2_with (fail)
      refine (HA.out _).mono ?_
      rintro e w1 ⟨rfl, hb1⟩
      have HB1 := hide (HBA.out.trans (hb1.mono HBA.out.size))
      have k2 := (hb1.cell (p := ⟨w.heap.size, 2, none⟩) (by simp)).trans (show (w.alloc (.cells #[.int .i64 a, .int .i64 b, .int .i64 c, .int .i64 b] 53)).cell? ⟨w.heap.size, 2, none⟩ = some (.int .i64 c) by simp [go_sem])
      have k3 := (hb1.cell (p := ⟨w.heap.size, 3, none⟩) (by simp)).trans (show (w.alloc (.cells #[.int .i64 a, .int .i64 b, .int .i64 c, .int .i64 b] 53)).cell? ⟨w.heap.size, 3, none⟩ = some (.int .i64 b) by simp [go_sem])
      clear hb1
      go_wp2_with (fail)
      refine (HC.out _).mono ?_
      rintro e w2 ⟨rfl, hb2⟩
      have HB2 := hide (HB1.out.trans (hb2.mono HB1.out.size))
      clear hb2 k2 k3
      go_wp2
      go_ret
      exact ⟨ret_eq (bool_eq (by cases k <;> simp)), HB2.out⟩
  · have u1 : (a == c) = false := by simpa using t1
    have hd1 : decide (a = c) = false := decide_eq_false t1
    rw [hd1]
    have u2 : (b == d) = false := by simpa using t2
    have hd2 : decide (b = d) = false := decide_eq_false t2
    rw [hd2]
    go_enter Tryz.func27, Tryz.ntmps27
    go_wp2
    go_ret
    exact ⟨ret_eq (bool_eq (by cases f <;> cases k <;> simp)), ((Below.refl _ _).alloc (Nat.le_refl _) _ : Below w.heap.size w (w.alloc (.cells #[.int .i64 a, .int .i64 b, .int .i64 c, .int .i64 d] 53)))⟩
end Go.Proofs.YtdolpeljengpaaaGreat

/- law.go of chapter 35: valid segments; square, land and small. -/
namespace Go.Proofs.YtdolpeljengpaaaGreat
open Go.RowKit
set_option linter.unusedVariables false
set_option linter.unusedSimpArgs false

theorem run_max8 {P : Program} (w : World) (ts : Array TypeId) (t : TypeId) (a b c d e f g h : Int) : (Builtin.max_ ts t #[.int .i64 a, .int .i64 b, .int .i64 c, .int .i64 d, .int .i64 e, .int .i64 f, .int .i64 g, .int .i64 h]).run P w = .ok (.int .i64 (max (max (max (max (max (max (max a b) c) d) e) f) g) h)) w := by
  have k : ∀ x y : Int, (if y > x then y else x) = max x y := fun x y => by
    by_cases h : y > x
    · rw [if_pos h]; omega
    · rw [if_neg h]; omega
  have k2 : ∀ (x y : Int) (v : World), Sem.run P (Builtin.max2 (.int .i64 x) (.int .i64 y)) v = .ok (.int .i64 (max x y)) v := fun x y v => by simp [Builtin.max2, k]
  simp only [Builtin.max_]
  simp [k2, Int.max_assoc]
/-- A segment near the origin. -/
def near35 (s : Sg) : Prop := okSg s ∧ (-100 ≤ s.ax ∧ s.ax ≤ 100) ∧ (-100 ≤ s.ay ∧ s.ay ≤ 100) ∧ (-100 ≤ s.cx ∧ s.cx ≤ 100) ∧ (-100 ≤ s.cy ∧ s.cy ≤ 100)
instance (s : Sg) : Decidable (near35 s) := by unfold near35; infer_instance
def val35 (l : List Sg) : Bool := decide ((∀ s ∈ l, near35 s) ∧ l.length ≤ 12)
theorem val35_ok {l : List Sg} (h : val35 l = true) : (∀ s ∈ l, near35 s) ∧ l.length ≤ 12 := of_decide_eq_true h
def far8 (s : Sg) : Int := max (max (max (max (max (max (max s.ax (IntKind.i64.wrap (-s.ax))) s.ay) (IntKind.i64.wrap (-s.ay))) s.cx) (IntKind.i64.wrap (-s.cx))) s.cy) (IntKind.i64.wrap (-s.cy))
theorem far8_iff {s : Sg} (h : okSg s) : far8 s ≤ 100 ↔ near35 s := by
  have h0 := h
  obtain ⟨⟨⟨a1, a2⟩, ⟨b1, b2⟩, ⟨c1, c2⟩, d1, d2⟩, _⟩ := h
  unfold far8 near35
  rw [show IntKind.i64.wrap (-s.ax) = -s.ax from IntWalk.i64_in _ (by omega), show IntKind.i64.wrap (-s.ay) = -s.ay from IntWalk.i64_in _ (by omega), show IntKind.i64.wrap (-s.cx) = -s.cx from IntWalk.i64_in _ (by omega), show IntKind.i64.wrap (-s.cy) = -s.cy from IntWalk.i64_in _ (by omega)]
  constructor
  · intro h
    exact ⟨h0, by omega, by omega, by omega, by omega⟩
  · rintro ⟨_, h1, h2, h3, h4⟩
    omega
set_option maxRecDepth 100000 in
set_option maxHeartbeats 8000000 in
theorem valid35_any {w : World} {v : Value} {l : List Sg} (hr : RdK encSg 4 w w.heap.size v l) (nl : l.length ≤ maxLen) :
    Calls Tryz.prog 21 #[v] w fun e w' => e = .returned (.bool (val35 l)) ∧ Below w.heap.size w w' := by
  unfold maxLen at nl
  obtain ⟨A, c, rfl, hc⟩ := hr
  have HRC := hide hc
  clear hc
  go_enter Tryz.func21, Tryz.ntmps21
  go_wp2
  go_loopw [3] (fun i wr => ∃ m : Nat, m ≤ l.length ∧ i = .int .i64 m ∧ Hid (Below w.heap.size w wr) ∧ Hid (∀ s ∈ l.take m, near35 s)) (fun i _ => l.length - (intOf i).toNat)
  case atStart => exact ⟨0, Nat.zero_le _, rfl, hide (Below.refl _ _), hide (by simp)⟩
  case round =>
    obtain ⟨m, hm, rfl, HB, HV⟩ := hrel
    by_cases hlt : m < l.length
    · have mz : (m : Int) < (l.length : Int) := by omega
      obtain ⟨s, hs⟩ : ∃ p, l[m]? = some p := ⟨_, List.getElem?_eq_getElem hlt⟩
      obtain ⟨b, o, rfl, hbl, k⟩ := HRC.out (by intro e; rw [e] at hlt; simp at hlt)
      have hb := HB.out
      have d0 : wr.cell? ⟨b, o + m * 4, none⟩ = some (.int .i64 s.ax) := (hb.cell (p := ⟨b, _, none⟩) hbl).trans (k m _ hs 0 _ rfl)
      have d1 : wr.cell? ⟨b, o + m * 4 + 1, none⟩ = some (.int .i64 s.ay) := (hb.cell (p := ⟨b, _, none⟩) hbl).trans (k m _ hs 1 _ rfl)
      have d2 : wr.cell? ⟨b, o + m * 4 + 2, none⟩ = some (.int .i64 s.cx) := (hb.cell (p := ⟨b, _, none⟩) hbl).trans (k m _ hs 2 _ rfl)
      have d3 : wr.cell? ⟨b, o + m * 4 + 3, none⟩ = some (.int .i64 s.cy) := (hb.cell (p := ⟨b, _, none⟩) hbl).trans (k m _ hs 3 _ rfl)
      have HS := hide hs
      have HFR : Hid (far8 s = max s.ax (max (IntKind.i64.wrap (-s.ax)) (max s.ay (max (IntKind.i64.wrap (-s.ay)) (max s.cx (max (IntKind.i64.wrap (-s.cx)) (max s.cy (IntKind.i64.wrap (-s.cy))))))))) := hide (by unfold far8; simp only [Int.max_assoc])
      have hmax := @run_max8 Tryz.prog
      clear k hs hb
      go_upto_region 4 with fail
      refine wp_region_mix [0, 1, 2, 3, 4, 5, 6, 7, 8, 9, 10, 11, 12, 13, 14, 15, 16, 17, 18, 19, 20, 21, 22, 23, 24, 25, 26, 27, 28, 29, 30, 31, 32, 33, 34, 35, 36, 37, 38, 39, 40, 41, 42, 43, 44, 45, 46, 47, 48, 49, 50, 51] [52, 53] (fun w' => (w'.cell? ⟨b, o + m * 4, none⟩ = some (.int .i64 s.ax) ∧ w'.cell? ⟨b, o + m * 4 + 1, none⟩ = some (.int .i64 s.ay)) ∧ (w'.cell? ⟨b, o + m * 4 + 2, none⟩ = some (.int .i64 s.cx) ∧ w'.cell? ⟨b, o + m * 4 + 3, none⟩ = some (.int .i64 s.cy))) (by kernel_rfl) (by kernel_rfl) ⟨⟨d0, d1⟩, d2, d3⟩ ?_
      simp only [List.map_cons, List.map_nil, opAt, List.getElem?_cons_succ, List.getElem?_cons_zero, Option.getD_some]
      iterate 52
        refine ⟨?_, Or.inl ⟨by rfl, ?_⟩, ?_⟩
        rotate_left 1
        · intro w' hSw
          obtain ⟨⟨y0, y1⟩, y2, y3⟩ := hSw
          go_simp
          first | done | with_reducible rfl
        simp only [Act.put, List.setIfInBounds_toArray, List.set_cons_zero, List.set_cons_succ]
      simp only [wpReads]
      intro K hK
      simp only [Act.put, List.setIfInBounds_toArray, List.set_cons_zero, List.set_cons_succ] at hK ⊢
      go_simp
      refine hK _ _ (fun _ => ⟨⟨d0, d1⟩, d2, d3⟩) ?_
      clear hK K
      intro K hK
      simp only [Act.put, List.setIfInBounds_toArray, List.set_cons_zero, List.set_cons_succ] at hK ⊢
      go_simp
      refine hK _ _ (fun h => absurd rfl h) ?_
      clear hK K hmax
      refine NoPanic.normal ?_
      rw [← HFR.out]
      have hb2 : Below w.heap.size w wr.drew := HB.out.drew
      replace HB := hide hb2
      have d0' : wr.drew.cell? ⟨b, o + m * 4, none⟩ = some (.int .i64 s.ax) := d0
      have d1' : wr.drew.cell? ⟨b, o + m * 4 + 1, none⟩ = some (.int .i64 s.ay) := d1
      have d2' : wr.drew.cell? ⟨b, o + m * 4 + 2, none⟩ = some (.int .i64 s.cx) := d2
      have d3' : wr.drew.cell? ⟨b, o + m * 4 + 3, none⟩ = some (.int .i64 s.cy) := d3
      clear HFR hb2 d0 d1 d2 d3
      have HVL := hide (fun W => rSegValid_any s W)
      have HF := hide (far8_iff (s := s))
      generalize far8 s = F at *
      generalize wr.drew = wd at *
      by_cases hok : okSg s
      · have hd : decide (okSg s) = true := decide_eq_true hok
        rw [hd] at HVL
        go_wp2_with (fail)
        refine (HVL.out _).mono ?_
        rintro e w2 ⟨rfl, hb2⟩
        have HB2 := hide (HB.out.trans (hb2.mono HB.out.size))
        clear hb2 d0' d1' d2' d3' hd
        by_cases hf : F ≤ 100
        · have fz : decide (100 < F) = false := decide_eq_false (by omega)
          have HV2 : Hid (∀ s ∈ l.take (m + 1), near35 s) := hide (by
            rw [List.take_add_one, HS.out]
            intro q hq
            rcases List.mem_append.1 hq with hq | hq
            · exact HV.out q hq
            · simp at hq
              subst hq
              exact (HF.out hok).1 hf)
          clear hf hok
          go_wp2
          go_roundw
          case rel => exact ⟨m + 1, by omega, by go_num, HB2, HV2⟩
          case measure => simp [intOf]; omega
        · have fz : decide (100 < F) = true := decide_eq_true (by omega)
          have HE : Hid (val35 l = false) := hide (decide_eq_false fun h => hf ((HF.out hok).2 (h.1 _ (List.mem_of_getElem? HS.out))))
          clear hf hok
          go_wp2
          go_ret
          exact ⟨by rw [HE.out]; rfl, HB2.out⟩
      · have hd : decide (okSg s) = false := decide_eq_false hok
        rw [hd] at HVL
        have HE : Hid (val35 l = false) := hide (decide_eq_false fun h => hok (h.1 _ (List.mem_of_getElem? HS.out)).1)
        clear hok
        go_wp2_with (fail)
        refine (HVL.out _).mono ?_
        rintro e w2 ⟨rfl, hb2⟩
        have HB2 := hide (HB.out.trans (hb2.mono HB.out.size))
        clear hb2 d0' d1' d2' d3' hd
        go_wp2
        go_ret
        exact ⟨by rw [HE.out]; rfl, HB2.out⟩
    · obtain rfl : m = l.length := by omega
      have hv := HV.out
      rw [List.take_length] at hv
      have he : val35 l = decide (l.length ≤ 12) := decide_eq_decide.2 ⟨fun h => h.2, fun h => ⟨hv, h⟩⟩
      have e12 : decide ((l.length : Int) ≤ 12) = decide (l.length ≤ 12) := decide_eq_decide.2 (by omega)
      have HE := hide (he.trans e12.symm)
      clear hv he e12 hlt
      go_wp2
      go_ret
      exact ⟨by rw [HE.out]; rfl, HB.out⟩
/-- The network of a square. -/
def sqN (n : Int) : List Pt := [(0, 0), (0, n), (n, 0), (n, n)]
def sqE : List Ei := [(0, 1), (0, 2), (1, 3), (2, 3)]
theorem rd_litK {α : Type} {enc : α → List Value} {k : Nat} (hk : ∀ x, (enc x).length = k) (w : World) (l : List α) (t : TypeId) (c : Nat) : RdK enc k (w.alloc (.cells (l.flatMap enc).toArray t)) (w.alloc (.cells (l.flatMap enc).toArray t)).heap.size (.slice (some ⟨w.heap.size, 0, none⟩) l.length c) l := by
  refine ⟨_, c, rfl, fun _ => ⟨w.heap.size, 0, rfl, by simp, fun j x hx i u hu => ?_⟩⟩
  have := news_new w (l.flatMap enc) t w.heap.size rfl _ _ (flat_get hk l j x i u hx hu)
  rw [addr_add] at this
  rwa [Nat.zero_add]
set_option maxHeartbeats 4000000 in
theorem square_any (n : Int) (w : World) : Calls Tryz.prog 59 #[.int .i64 n] w fun e w' => ∃ nv ev, e = .returned (.agg #[nv, ev]) ∧ RdK encS 2 w' w'.heap.size nv (sqN n) ∧ RdK encS 2 w' w'.heap.size ev sqE ∧ Below w.heap.size w w' := by
  go_enter Tryz.func59, Tryz.ntmps59
  go_wp2
  have h1 := rd_litK (enc := encS) (k := 2) (fun _ => rfl) (w.alloc (.cells #[.slice (some ⟨w.heap.size + 1, 0, none⟩) 4 4, .slice (some ⟨w.heap.size + 1 + 1, 0, none⟩) 4 4] 25)) (sqN n) 51 4
  have e1 : (w.alloc (.cells #[.slice (some ⟨w.heap.size + 1, 0, none⟩) 4 4, .slice (some ⟨w.heap.size + 1 + 1, 0, none⟩) 4 4] 25)).heap.size = w.heap.size + 1 := by simp
  have h2 := rd_litK (enc := encS) (k := 2) (fun _ => rfl) ((w.alloc (.cells #[.slice (some ⟨w.heap.size + 1, 0, none⟩) 4 4, .slice (some ⟨w.heap.size + 1 + 1, 0, none⟩) 4 4] 25)).alloc (.cells ((sqN n).flatMap encS).toArray 51)) sqE 109 4
  have e2 : ((w.alloc (.cells #[.slice (some ⟨w.heap.size + 1, 0, none⟩) 4 4, .slice (some ⟨w.heap.size + 1 + 1, 0, none⟩) 4 4] 25)).alloc (.cells ((sqN n).flatMap encS).toArray 51)).heap.size = w.heap.size + 1 + 1 := by simp
  rw [e1] at h1
  rw [e2] at h2
  have hb := (Below.refl (((w.alloc (.cells #[.slice (some ⟨w.heap.size + 1, 0, none⟩) 4 4, .slice (some ⟨w.heap.size + 1 + 1, 0, none⟩) 4 4] 25)).alloc (.cells ((sqN n).flatMap encS).toArray 51))).heap.size _).alloc (Nat.le_refl _) (.cells (sqE.flatMap encS).toArray 109)
  have H1 := hide ((h1.below hb).mono hb.size)
  have H2 := hide h2
  have HB : Hid (Below w.heap.size w (((w.alloc (.cells #[.slice (some ⟨w.heap.size + 1, 0, none⟩) 4 4, .slice (some ⟨w.heap.size + 1 + 1, 0, none⟩) 4 4] 25)).alloc (.cells ((sqN n).flatMap encS).toArray 51)).alloc (.cells (sqE.flatMap encS).toArray 109))) := hide ((((Below.refl _ _).alloc (Nat.le_refl _) _).alloc (by simp) _).alloc (by simp <;> omega) _)
  clear h1 h2 hb e1 e2
  refine bodyPost_ret (v := .agg #[.slice (some ⟨w.heap.size + 1, 0, none⟩) 4 4, .slice (some ⟨w.heap.size + 1 + 1, 0, none⟩) 4 4]) (by simp [results, Tryz.results59, go_sem]) rfl ⟨_, _, rfl, H1.out, H2.out, HB.out⟩
theorem land_any (a b : Int) (w : World) : Calls Tryz.prog 24 #[.int .i64 a, .int .i64 b] w fun e w' => ∃ v, e = .returned v ∧ RdK encR 4 w' w'.heap.size v ([⟨a, a, b, b⟩] : List R4) ∧ Below w.heap.size w w' := by
  go_enter Tryz.func24, Tryz.ntmps24
  go_wp2
  go_ret
  exact ⟨_, rfl, rd_litK (enc := encR) (k := 4) (fun _ => rfl) w [⟨a, a, b, b⟩] _ _, (Below.refl _ _).alloc (Nat.le_refl _) _⟩
end Go.Proofs.YtdolpeljengpaaaGreat

/- gambrelref12.Near: at most twelve rectangles near the origin, or a list that is too long. -/
namespace Go.Proofs.YtdolpeljengpaaaGreat
open Go.RowKit
set_option linter.unusedVariables false
set_option linter.unusedSimpArgs false

theorem run_max2 {P : Program} (w : World) (ts : Array TypeId) (t : TypeId) (a b : Int) : (Builtin.max_ ts t #[.int .i64 a, .int .i64 b]).run P w = .ok (.int .i64 (max a b)) w := by
  have k2 : ∀ (x y : Int) (v : World), Sem.run P (Builtin.max2 (.int .i64 x) (.int .i64 y)) v = .ok (.int .i64 (max x y)) v := fun x y v => by
    have k : (if y > x then y else x) = max x y := by
      by_cases h : y > x
      · rw [if_pos h]; omega
      · rw [if_neg h]; omega
    simp [Builtin.max2, k]
  simp only [Builtin.max_]
  simp [k2]
theorem run_min2 {P : Program} (w : World) (ts : Array TypeId) (t : TypeId) (a b : Int) : (Builtin.min_ ts t #[.int .i64 a, .int .i64 b]).run P w = .ok (.int .i64 (min a b)) w := by
  have k2 : ∀ (x y : Int) (v : World), Sem.run P (Builtin.min2 (.int .i64 x) (.int .i64 y)) v = .ok (.int .i64 (min x y)) v := fun x y v => by
    have k : (if y < x then y else x) = min x y := by
      by_cases h : y < x
      · rw [if_pos h]; omega
      · rw [if_neg h]; omega
    simp [Builtin.min2, k]
  simp only [Builtin.min_]
  simp [k2]
def near4 (n : Int) (r : R4) : Prop := (-n ≤ r.x0 ∧ r.x0 ≤ n) ∧ (-n ≤ r.y0 ∧ r.y0 ≤ n) ∧ (-n ≤ r.x1 ∧ r.x1 ≤ n) ∧ (-n ≤ r.y1 ∧ r.y1 ≤ n)
def NearOK (n : Int) (l : List R4) : Prop := (400 < l.length ∧ l.length ≤ 420) ∨ (l.length ≤ 12 ∧ ∀ r ∈ l, near4 n r)
end Go.Proofs.YtdolpeljengpaaaGreat

/- Plain law: how far two regions are along each other: counted by moved rectangles, and by cells between cuts. -/
namespace Go.Proofs.YtdolpeljengpaaaGreat
set_option linter.unusedVariables false
set_option linter.unusedSimpArgs false

def mvA (x y : Int) (r : R4) : R4 := ⟨r.x0 + x, r.y0 + y, r.x1 + x, r.y1 + y⟩
theorem cntP_mv (a : List R4) (x y X Y : Int) : cntP (a.map (mvA x y)) X Y = cntP a (X - x) (Y - y) := by
  induction a with
  | nil => rfl
  | cons r a ih =>
    rw [List.map_cons, cntP_cons, cntP_cons, ih]
    congr 1
    exact ind_iff (by simp only [rin, mvA]; omega)
def shF (a b : List R4) (x y : Int) : Int := (a.map fun p => (b.map fun q => box (meet4 (mvA x y p) q)).sum).sum
theorem shF_vol {m : Nat} {a b : List R4} {x y : Int} (ha : ∀ r ∈ a, inFr m (mvA x y r)) : shF a b x y = vol m (fun X Y => cntP a (X - x) (Y - y) * cntP b X Y) := by
  have h := vol_cnt_cnt (m := m) (a := a.map (mvA x y)) (b := b) (fun r hr => by
    obtain ⟨s, hs, rfl⟩ := List.mem_map.1 hr
    exact ha s hs)
  rw [List.map_map] at h
  unfold shF
  rw [show (fun p => (b.map fun q => box (meet4 (mvA x y p) q)).sum) = ((fun p => (b.map fun q => box (meet4 p q)).sum) ∘ mvA x y) from rfl, ← h]
  exact vol_congr fun X Y _ _ _ _ => by rw [cntP_mv]
def ok4 (r : R4) : Bool := decide (r.x0 < r.x1) && decide (r.y0 < r.y1)
def bothP (p : R4) (b : List R4) : List R4 := (b.map (meet4 p)).filter ok4
def bothL (a b : List R4) : List R4 := a.flatMap fun p => bothP p b
theorem cntP_bothP (p : R4) (b : List R4) (X Y : Int) : cntP (bothP p b) X Y = ind (rin p X Y) * cntP b X Y := by
  induction b with
  | nil => simp [bothP, cntP_nil]
  | cons q b ih =>
    unfold bothP at ih ⊢
    rw [List.map_cons, cntP_cons, Int.mul_add, ← ind_meet, ← ih]
    by_cases h : ok4 (meet4 p q) = true
    · rw [List.filter_cons_of_pos h, cntP_cons]
    · rw [List.filter_cons_of_neg h]
      have : ind (rin (meet4 p q) X Y) = 0 := ind_f (fun hr => h (by
        unfold ok4
        simp only [rin] at hr
        simp only [Bool.and_eq_true, decide_eq_true_eq]
        omega))
      omega
theorem cntP_both (a b : List R4) (X Y : Int) : cntP (bothL a b) X Y = cntP a X Y * cntP b X Y := by
  induction a with
  | nil => simp [bothL, cntP_nil]
  | cons p a ih =>
    unfold bothL at ih ⊢
    rw [List.flatMap_cons, cntP_append, cntP_cons, Int.add_mul, ih, cntP_bothP]
def dirF (a b : List R4) (x y : Int) : Int := shF a b x y - shF (bothL a b) b x y - shF a (bothL a b) x y + shF (bothL a b) (bothL a b) x y
def alongC (a b : List R4) : Int := dirF a b 1 0 + dirF a b (-1) 0 + dirF a b 0 1 + dirF a b 0 (-1)
/-- A point of the first alone beside one of the second alone. -/
def hitZ (A B U V : Int) : Int := U * (1 - V) * (B * (1 - A)) + A * (1 - B) * (V * (1 - U))
def hit (a b : List R4) (X Y U V : Int) : Int := hitZ (one a X Y) (one b X Y) (one a U V) (one b U V)
def fits (m : Nat) (a : List R4) : Prop := a.Pairwise apart4 ∧ ∀ r ∈ a, inFr m r
/-! ### sums over cuts -/
/-! ### x and y change places -/
def fl4 (r : R4) : R4 := ⟨r.y0, r.x0, r.y1, r.x1⟩
theorem pmem_fl (a : List R4) (x y : Int) : pmem (a.map fl4) x y ↔ pmem a y x := by
  unfold pmem
  constructor
  · rintro ⟨r, hr, h⟩
    obtain ⟨s, hs, rfl⟩ := List.mem_map.1 hr
    exact ⟨s, hs, by simp only [rin, fl4] at h ⊢; omega⟩
  · rintro ⟨r, hr, h⟩
    exact ⟨fl4 r, List.mem_map.2 ⟨r, hr, rfl⟩, by simp only [rin, fl4] at h ⊢; omega⟩
/-! ### by cells -/
def inC (a : List R4) (xs ys : List Int) (i k : Int) : Bool := if i < 0 ∨ k < 0 then false else decide (pmem a (xs.getD i.toNat 0) (ys.getD k.toNat 0))
def hitB (p q u v : Bool) : Bool := p != q && (u == q && v == p)
def tL (a b : List R4) (xs ys : List Int) (i k : Nat) : Int := if hitB (inC a xs ys i k) (inC b xs ys i k) (inC a xs ys ((i : Int) - 1) k) (inC b xs ys ((i : Int) - 1) k) = true ∧ k + 1 < ys.length then ys.getD (k + 1) 0 - ys.getD k 0 else 0
def tB (a b : List R4) (xs ys : List Int) (i k : Nat) : Int := if hitB (inC a xs ys i k) (inC b xs ys i k) (inC a xs ys i ((k : Int) - 1)) (inC b xs ys i ((k : Int) - 1)) = true ∧ i + 1 < xs.length then xs.getD (i + 1) 0 - xs.getD i 0 else 0
def rowA (a b : List R4) (xs ys : List Int) (i n : Nat) : Int := ((List.range n).map fun k => tL a b xs ys i k + tB a b xs ys i k).sum
def alongR (a b : List R4) (xs ys : List Int) (n : Nat) : Int := ((List.range n).map fun i => rowA a b xs ys i ys.length).sum
end Go.Proofs.YtdolpeljengpaaaGreat

/- block.shared: the sum of the common areas of moved rectangles, as its 64 bits hold it. -/
namespace Go.Proofs.YtdolpeljengpaaaGreat
open Go.RowKit
set_option linter.unusedVariables false
set_option linter.unusedSimpArgs false
attribute [local go_sem] Oper.semAt_some

theorem wrap_add (A B : Int) : IntKind.i64.wrap (IntKind.i64.wrap A + B) = IntKind.i64.wrap (A + B) := by
  simp [IntKind.wrap, IntKind.bits, IntKind.signed]
  repeat' split
  all_goals omega
theorem wrap_id {A : Int} (h1 : -9223372036854775808 ≤ A) (h2 : A ≤ 9223372036854775807) : IntKind.i64.wrap A = A := IntWalk.i64_in _ (by omega)
theorem mul_bd2 {a b A B : Int} (h1 : 0 ≤ a) (h2 : a ≤ A) (h3 : 0 ≤ b) (h4 : b ≤ B) : 0 ≤ a * b ∧ a * b ≤ A * B := ⟨Int.mul_nonneg h1 h3, Int.mul_le_mul h2 h4 h3 (by omega)⟩
def bxF (x y : Int) (p q : R4) : Int := box (meet4 (mvA x y p) q)
def rowS (x y : Int) (p : R4) (b : List R4) : Int := (b.map (bxF x y p)).sum
theorem shF_eq (a b : List R4) (x y : Int) : shF a b x y = (a.map fun p => rowS x y p b).sum := rfl
theorem sum_snoc {α : Type} (f : α → Int) {l : List α} {m : Nat} {p : α} (h : l[m]? = some p) : ((l.take (m + 1)).map f).sum = ((l.take m).map f).sum + f p := by
  rw [List.take_add_one, h]
  simp
def fineR (r : R4) : Prop := (-1000000 ≤ r.x0 ∧ r.x0 ≤ 1000000) ∧ (-1000000 ≤ r.y0 ∧ r.y0 ≤ 1000000) ∧ (-1000000 ≤ r.x1 ∧ r.x1 ≤ 1000000) ∧ (-1000000 ≤ r.y1 ∧ r.y1 ≤ 1000000)
set_option maxRecDepth 100000 in
set_option maxHeartbeats 4000000 in
theorem shared_any {w : World} {va vb : Value} {a b : List R4} (ra : RdK encR 4 w w.heap.size va a) (rb : RdK encR 4 w w.heap.size vb b) (na : a.length ≤ 1000000) (nb : b.length ≤ 1000000) (fa : ∀ r ∈ a, fineR r) (fb : ∀ r ∈ b, fineR r) (x y : Int) (hx : -1 ≤ x ∧ x ≤ 1) (hy : -1 ≤ y ∧ y ≤ 1) :
    Calls Tryz.prog 104 #[va, vb, .int .i64 x, .int .i64 y] w fun e w' => e = .returned (.int .i64 (IntKind.i64.wrap (shF a b x y))) ∧ Below w.heap.size w w' := by
  obtain ⟨A1, c1, rfl, h1⟩ := ra
  obtain ⟨A2, c2, rfl, h2⟩ := rb
  have H1 := hide h1
  have H2 := hide h2
  have FA := hide fa
  have FB := hide fb
  clear h1 h2 fa fb
  have hmx := @run_max2 Tryz.prog
  have hmn := @run_min2 Tryz.prog
  go_enter Tryz.func104, Tryz.ntmps104
  go_wp2
  go_loopw [9, 18] (fun s i wr => ∃ (m : Nat) (v : Int), m ≤ a.length ∧ i = .int .i64 (m : Int) ∧ s = .int .i64 v ∧ Hid (v = IntKind.i64.wrap ((a.take m).map fun p => rowS x y p b).sum) ∧ Hid (Below w.heap.size w wr)) (fun _ i _ => a.length - (intOf i).toNat)
  case atStart => exact ⟨0, 0, Nat.zero_le _, rfl, rfl, hide rfl, hide (Below.refl _ _)⟩
  case round =>
    obtain ⟨m, v, hm, rfl, rfl, HV, HB⟩ := hrel
    by_cases hlt : m < a.length
    · obtain ⟨⟨a0, a1, a2, a3⟩, hp⟩ : ∃ p, a[m]? = some p := ⟨_, List.getElem?_eq_getElem hlt⟩
      obtain ⟨g, o, rfl, hg, k1⟩ := H1.out (by intro e; rw [e] at hlt; simp at hlt)
      have x0 : wr.cell? ⟨g, o + m * 4, none⟩ = some (.int .i64 a0) := (HB.out.cell (p := ⟨g, _, none⟩) hg).trans (k1 m _ hp 0 _ rfl)
      have x1 : wr.cell? ⟨g, o + m * 4 + 1, none⟩ = some (.int .i64 a1) := (HB.out.cell (p := ⟨g, _, none⟩) hg).trans (k1 m _ hp 1 _ rfl)
      have x2 : wr.cell? ⟨g, o + m * 4 + 2, none⟩ = some (.int .i64 a2) := (HB.out.cell (p := ⟨g, _, none⟩) hg).trans (k1 m _ hp 2 _ rfl)
      have x3 : wr.cell? ⟨g, o + m * 4 + 3, none⟩ = some (.int .i64 a3) := (HB.out.cell (p := ⟨g, _, none⟩) hg).trans (k1 m _ hp 3 _ rfl)
      have mz : (m : Int) < (a.length : Int) := by omega
      have HN := hide (sum_snoc (fun p => rowS x y p b) hp)
      have hfp := FA.out _ (List.mem_of_getElem? hp)
      unfold fineR at hfp
      simp only at hfp
      have HP := hide hp
      clear hp k1
      go_upto_region 5 with fail
      refine wp_name fun w1 hw1 => ?_
      have hb1 : Below wr.heap.size wr w1 := by rw [hw1]; exact (Below.refl _ _).alloc (Nat.le_refl _) _
      obtain ⟨q, hq⟩ : ∃ q, q = wr.heap.size := ⟨_, rfl⟩
      have d0 : w1.cell? ⟨q, 0, none⟩ = some (.int .i64 a0) := by rw [hw1, hq]; simp [go_sem]
      have d1 : w1.cell? ⟨q, 1, none⟩ = some (.int .i64 a1) := by rw [hw1, hq]; simp [go_sem]
      have d2 : w1.cell? ⟨q, 2, none⟩ = some (.int .i64 a2) := by rw [hw1, hq]; simp [go_sem]
      have d3 : w1.cell? ⟨q, 3, none⟩ = some (.int .i64 a3) := by rw [hw1, hq]; simp [go_sem]
      have hq1 : q < w1.heap.size := by rw [hw1, hq]; simp
      have HB1 := hide (HB.out.trans (hb1.mono HB.out.size))
      rw [← hq]
      clear hw1 hb1 hq x0 x1 x2 x3 HB
      go_wp2
      go_loopw [9, 24] (fun s i wx => ∃ (k : Nat) (u : Int), k ≤ b.length ∧ i = .int .i64 (k : Int) ∧ s = .int .i64 u ∧ Hid (u = IntKind.i64.wrap (((a.take m).map fun p => rowS x y p b).sum + ((b.take k).map (bxF x y ⟨a0, a1, a2, a3⟩)).sum)) ∧ Hid (Below w1.heap.size w1 wx)) (fun _ i _ => b.length - (intOf i).toNat)
      case atStart => exact ⟨0, v, Nat.zero_le _, rfl, rfl, hide (by simpa using HV.out), hide (Below.refl _ _)⟩
      case round =>
        obtain ⟨k, u, hk, rfl, rfl, HU, HBx⟩ := hrel
        by_cases hltk : k < b.length
        · obtain ⟨⟨b0, b1, b2, b3⟩, hpk⟩ : ∃ p, b[k]? = some p := ⟨_, List.getElem?_eq_getElem hltk⟩
          obtain ⟨g2, o2, rfl, hg2, k2⟩ := H2.out (by intro e; rw [e] at hltk; simp at hltk)
          have HB2 := hide (HB1.out.trans (HBx.out.mono HB1.out.size))
          have y0 : wr.cell? ⟨g2, o2 + k * 4, none⟩ = some (.int .i64 b0) := (HB2.out.cell (p := ⟨g2, _, none⟩) hg2).trans (k2 k _ hpk 0 _ rfl)
          have y1 : wr.cell? ⟨g2, o2 + k * 4 + 1, none⟩ = some (.int .i64 b1) := (HB2.out.cell (p := ⟨g2, _, none⟩) hg2).trans (k2 k _ hpk 1 _ rfl)
          have y2 : wr.cell? ⟨g2, o2 + k * 4 + 2, none⟩ = some (.int .i64 b2) := (HB2.out.cell (p := ⟨g2, _, none⟩) hg2).trans (k2 k _ hpk 2 _ rfl)
          have y3 : wr.cell? ⟨g2, o2 + k * 4 + 3, none⟩ = some (.int .i64 b3) := (HB2.out.cell (p := ⟨g2, _, none⟩) hg2).trans (k2 k _ hpk 3 _ rfl)
          have e0 : wr.cell? ⟨q, 0, none⟩ = some (.int .i64 a0) := (HBx.out.cell (p := ⟨q, 0, none⟩) hq1).trans d0
          have e1 : wr.cell? ⟨q, 1, none⟩ = some (.int .i64 a1) := (HBx.out.cell (p := ⟨q, 1, none⟩) hq1).trans d1
          have e2 : wr.cell? ⟨q, 2, none⟩ = some (.int .i64 a2) := (HBx.out.cell (p := ⟨q, 2, none⟩) hq1).trans d2
          have e3 : wr.cell? ⟨q, 3, none⟩ = some (.int .i64 a3) := (HBx.out.cell (p := ⟨q, 3, none⟩) hq1).trans d3
          have hqr : q < wr.heap.size := Nat.lt_of_lt_of_le hq1 HBx.out.size
          have kz : (k : Int) < (b.length : Int) := by omega
          have hn := sum_snoc (bxF x y ⟨a0, a1, a2, a3⟩) hpk
          have hfq := FB.out _ (List.mem_of_getElem? hpk)
          unfold fineR at hfq
          simp only at hfq
          clear hpk k2
          go_upto_region 8 with fail
          refine wp_name fun w2 hw2 => ?_
          have hb2 : Below wr.heap.size wr w2 := by rw [hw2]; exact (Below.refl _ _).alloc (Nat.le_refl _) _
          obtain ⟨z, hz⟩ : ∃ z, z = wr.heap.size := ⟨_, rfl⟩
          have f0 : w2.cell? ⟨z, 0, none⟩ = some (.int .i64 b0) := by rw [hw2, hz]; simp [go_sem]
          have f1 : w2.cell? ⟨z, 1, none⟩ = some (.int .i64 b1) := by rw [hw2, hz]; simp [go_sem]
          have f2 : w2.cell? ⟨z, 2, none⟩ = some (.int .i64 b2) := by rw [hw2, hz]; simp [go_sem]
          have f3 : w2.cell? ⟨z, 3, none⟩ = some (.int .i64 b3) := by rw [hw2, hz]; simp [go_sem]
          have e0 : w2.cell? ⟨q, 0, none⟩ = some (.int .i64 a0) := (hb2.cell (p := ⟨q, 0, none⟩) hqr).trans e0
          have e1 : w2.cell? ⟨q, 1, none⟩ = some (.int .i64 a1) := (hb2.cell (p := ⟨q, 1, none⟩) hqr).trans e1
          have e2 : w2.cell? ⟨q, 2, none⟩ = some (.int .i64 a2) := (hb2.cell (p := ⟨q, 2, none⟩) hqr).trans e2
          have e3 : w2.cell? ⟨q, 3, none⟩ = some (.int .i64 a3) := (hb2.cell (p := ⟨q, 3, none⟩) hqr).trans e3
          have HB3 := hide (HBx.out.trans (hb2.mono HBx.out.size))
          rw [← hz]
          clear hw2 hb2 hz y0 y1 y2 y3 HBx HB2 hqr
          have q0 : IntKind.i64.wrap (a0 + x) = a0 + x := wrap_id (by omega) (by omega)
          have q1 : IntKind.i64.wrap (a1 + y) = a1 + y := wrap_id (by omega) (by omega)
          have q2 : IntKind.i64.wrap (a2 + x) = a2 + x := wrap_id (by omega) (by omega)
          have q3 : IntKind.i64.wrap (a3 + y) = a3 + y := wrap_id (by omega) (by omega)
          obtain ⟨ww, hww⟩ : ∃ ww, min (a2 + x) b2 - max (a0 + x) b0 = ww := ⟨_, rfl⟩
          obtain ⟨hh, hhh⟩ : ∃ hh, min (a3 + y) b3 - max (a1 + y) b1 = hh := ⟨_, rfl⟩
          have q4 : IntKind.i64.wrap (min (a2 + x) b2 - max (a0 + x) b0) = ww := by rw [hww]; exact wrap_id (by omega) (by omega)
          have q5 : IntKind.i64.wrap (min (a3 + y) b3 - max (a1 + y) b1) = hh := by rw [hhh]; exact wrap_id (by omega) (by omega)
          have hbx : bxF x y ⟨a0, a1, a2, a3⟩ ⟨b0, b1, b2, b3⟩ = max 0 ww * max 0 hh := by rw [← hww, ← hhh]; rfl
          have hwb : -4000002 ≤ ww ∧ ww ≤ 4000002 := by omega
          have hhb : -4000002 ≤ hh ∧ hh ≤ 4000002 := by omega
          rw [hbx] at hn
          have HNK := hide hn
          clear hww hhh hbx hn hfq
          by_cases hpos : 0 < ww ∧ 0 < hh
          · obtain ⟨p1, p2⟩ := hpos
            have p1t : decide (0 < ww) = true := decide_eq_true p1
            have p2t : decide (0 < hh) = true := decide_eq_true p2
            have mb := mul_bd2 (by omega : 0 ≤ ww) hwb.2 (by omega : 0 ≤ hh) hhb.2
            obtain ⟨bb, hbb⟩ : ∃ bb, ww * hh = bb := ⟨_, rfl⟩
            rw [hbb] at mb
            have q6 : IntKind.i64.wrap (ww * hh) = bb := by rw [hbb]; exact wrap_id (by omega) (by omega)
            obtain ⟨u2, hu2⟩ : ∃ u2, IntKind.i64.wrap (u + bb) = u2 := ⟨_, rfl⟩
            have HU2 : Hid (u2 = IntKind.i64.wrap (((a.take m).map fun p => rowS x y p b).sum + ((b.take (k + 1)).map (bxF x y ⟨a0, a1, a2, a3⟩)).sum)) := hide (by
              rw [← hu2, HU.out, wrap_add, HNK.out, Int.max_eq_right (by omega), Int.max_eq_right (by omega), hbb, Int.add_assoc])
            clear hbb p1 p2 mb hwb hhb HNK HU
            go_wp2
            go_roundw
            case rel => exact ⟨k + 1, u2, by omega, by go_num, rfl, HU2, HB3⟩
            case measure => first | (simp [intOf]; done) | (simp [intOf]; omega)
          · have HU2 : Hid (u = IntKind.i64.wrap (((a.take m).map fun p => rowS x y p b).sum + ((b.take (k + 1)).map (bxF x y ⟨a0, a1, a2, a3⟩)).sum)) := hide (by
              rw [HU.out, HNK.out]
              have : max 0 ww * max 0 hh = 0 := by
                by_cases h : 0 < ww
                · rw [Int.max_eq_left (by omega : hh ≤ 0), Int.mul_zero]
                · rw [Int.max_eq_left (by omega : ww ≤ 0), Int.zero_mul]
              rw [this, Int.add_zero])
            have hcs : (decide (0 < ww) = false) ∨ (decide (0 < ww) = true ∧ decide (0 < hh) = false) := by
              by_cases h : 0 < ww
              · exact .inr ⟨decide_eq_true h, decide_eq_false (fun h2 => hpos ⟨h, h2⟩)⟩
              · exact .inl (decide_eq_false h)
            clear hpos hwb hhb HNK HU
            rcases hcs with p1 | ⟨p1, p2⟩
            all_goals
              go_wp2
              go_roundw
              case rel => exact ⟨k + 1, u, by omega, by go_num, rfl, HU2, HB3⟩
              case measure => first | (simp [intOf]; done) | (simp [intOf]; omega)
        · obtain rfl : k = b.length := by omega
          have kz : ¬ (b.length : Int) < (b.length : Int) := by omega
          have HU2 : Hid (u = IntKind.i64.wrap ((a.take (m + 1)).map fun p => rowS x y p b).sum) := hide (by
            rw [HU.out, HN.out, List.take_length]
            rfl)
          have HB2 := hide (HB1.out.trans (HBx.out.mono HB1.out.size))
          clear HU
          go_wp2
          go_roundw
          case rel => exact ⟨m + 1, u, by omega, by go_num, rfl, HU2, HB2⟩
          case measure => first | (simp [intOf]; done) | (simp [intOf]; omega)
    · obtain rfl : m = a.length := by omega
      have mz : ¬ (a.length : Int) < (a.length : Int) := by omega
      have hv : v = IntKind.i64.wrap (shF a b x y) := by rw [HV.out, List.take_length, shF_eq]
      clear HV
      subst hv
      go_wp2
      go_ret
      exact ⟨rfl, HB.out⟩
end Go.Proofs.YtdolpeljengpaaaGreat

/- Plain law: what makes a list a region; joins of regions are regions; areas count points. -/
namespace Go.Proofs.YtdolpeljengpaaaGreat
set_option linter.unusedVariables false
set_option linter.unusedSimpArgs false

theorem can_wf {l : List R4} (h : RCan l) : ∀ r ∈ l, wf4 r := by
  obtain ⟨S, hS, rfl⟩ := h
  intro r hr
  obtain ⟨a, ha, hr⟩ := List.mem_flatMap.1 hr
  obtain ⟨p, hp, rfl⟩ := List.mem_map.1 hr
  have := hS.all a ha
  exact ⟨this.1, this.2.2.1 p hp⟩
/-- A list whose points belong to valid rectangles has valid rectangles. -/
theorem sub_valid {l m : List R4} (hl : ∀ r ∈ l, wf4 r) (hm : ∀ r ∈ m, valid4 r) (h : ∀ x y, pmem l x y → pmem m x y) : ∀ r ∈ l, valid4 r := by
  intro r hr
  obtain ⟨w1, w2⟩ := hl r hr
  obtain ⟨s, hs, h1⟩ := h r.x0 r.y0 ⟨r, hr, by simp only [rin]; omega⟩
  obtain ⟨t, ht, h2⟩ := h (r.x1 - 1) (r.y1 - 1) ⟨r, hr, by simp only [rin]; omega⟩
  have v1 := hm s hs
  have v2 := hm t ht
  simp only [rin, valid4, fineP] at h1 h2 v1 v2 ⊢
  omega
theorem made_self {l : List R4} (hc : RCan l) : rjoin hFst l [] = l :=
  (rjoin_eq (h := hFst) rfl (can_wf hc) (by simp) hc fun x y => by simp [hFst]).symm
theorem can_check {l : List R4} (hc : RCan l) (hv : ∀ r ∈ l, valid4 r) (hn : l.length ≤ 400) : checkF l = 0 := by
  have ha : l.any (fun r => !decide (valid4 r)) = false := by
    rw [List.any_eq_false]
    intro r hr
    simp [hv r hr]
  rw [checkF_valid (by omega) ha, if_pos (made_self hc)]
theorem check_frame {l : List R4} (h : checkF l = 0) {m : Nat} (hm : 1000000 ≤ m) : ∀ r ∈ l, inFr m r := fun r hr => by
  have := (checkF_ok h).2.1 r hr
  simp only [valid4, fineP, inFr] at this ⊢
  omega
theorem join_pts {h : Bool → Bool → Bool} (h0 : h false false = false) {a b : List R4} (ha : checkF a = 0) (hb : checkF b = 0) (x y : Int) : pmem (rjoin h a b) x y ↔ h (decide (pmem a x y)) (decide (pmem b x y)) = true :=
  (rjoin_ok h0 (check_wf ha) (check_wf hb)).2 x y
theorem join_check {h : Bool → Bool → Bool} (h0 : h false false = false) {a b : List R4} (ha : checkF a = 0) (hb : checkF b = 0) (hn : (rjoin h a b).length ≤ 400) : checkF (rjoin h a b) = 0 := by
  have hc := (rjoin_ok h0 (check_wf ha) (check_wf hb)).1
  refine can_check hc (sub_valid (m := a ++ b) (can_wf hc) (fun r hr => ?_) fun x y hx => ?_) hn
  · rcases List.mem_append.1 hr with hr | hr
    · exact (checkF_ok ha).2.1 r hr
    · exact (checkF_ok hb).2.1 r hr
  · rw [join_pts h0 ha hb] at hx
    rw [pmem_append]
    by_cases p1 : pmem a x y
    · exact .inl p1
    · by_cases p2 : pmem b x y
      · exact .inr p2
      · rw [decide_eq_false p1, decide_eq_false p2, h0] at hx; cases hx
theorem joinF_ok {h : Bool → Bool → Bool} {a b : List R4} (ha : checkF a = 0) (hb : checkF b = 0) : joinF h a b = if 400 < (rjoin h a b).length then ([], 4) else (rjoin h a b, 0) := by
  have : bothF a b = 0 := by unfold bothF; rw [if_pos ha]; exact hb
  unfold joinF
  rw [if_pos this]
theorem can_eq {a b : List R4} (ha : checkF a = 0) (hb : checkF b = 0) (h : ∀ x y, pmem a x y ↔ pmem b x y) : a = b := (check_rcan ha).ext (check_rcan hb) h
theorem area_vol {l : List R4} (h : checkF l = 0) {m : Nat} (hm : 1000000 ≤ m) : areaS l = vol m (one l) := by
  have e : vol m (one l) = vol m (cntP l) := vol_congr fun x y _ _ _ _ => (cntP_ind (check_rcan h).apart x y).symm
  rw [e, vol_cntP (check_frame h hm)]
  unfold areaS
  congr 1
  refine List.map_congr_left fun r hr => ?_
  obtain ⟨w1, w2⟩ := check_wf h r hr
  unfold area4 box
  rw [Int.max_eq_right (by omega), Int.max_eq_right (by omega)]
/-- The areas of the union and of the common part. -/
theorem area_sum {a b u c : List R4} (ha : checkF a = 0) (hb : checkF b = 0) (hu : checkF u = 0) (hc : checkF c = 0) (pu : ∀ x y, pmem u x y ↔ pmem a x y ∨ pmem b x y) (pc : ∀ x y, pmem c x y ↔ pmem a x y ∧ pmem b x y) : areaS u + areaS c = areaS a + areaS b := by
  obtain ⟨m, hm⟩ : ∃ m : Nat, m = 1000000 := ⟨_, rfl⟩
  rw [area_vol ha (m := m) (by omega), area_vol hb (m := m) (by omega), area_vol hu (m := m) (by omega), area_vol hc (m := m) (by omega), ← vol_add, ← vol_add]
  refine vol_congr fun x y _ _ _ _ => ?_
  unfold one
  rw [ind_iff (pu x y), ind_iff (pc x y)]
  unfold ind
  by_cases h1 : pmem a x y <;> by_cases h2 : pmem b x y <;> simp [h1, h2]
end Go.Proofs.YtdolpeljengpaaaGreat

/- block.Along: how far two regions are along each other. -/
namespace Go.Proofs.YtdolpeljengpaaaGreat
open Go.RowKit
set_option linter.unusedVariables false
set_option linter.unusedSimpArgs false
attribute [local go_sem] Oper.semAt_some

def alongF (a b : List R4) : Int × Int := if checkF a = 0 then (if checkF b = 0 then (alongC a b, 0) else (0, checkF b)) else (0, checkF a)
theorem fine_of {l : List R4} (h : checkF l = 0) : ∀ r ∈ l, fineR r := fun r hr => by
  obtain ⟨_, _, v1, v2, v3, v4⟩ := (checkF_ok h).2.1 r hr
  unfold fineP at *
  unfold fineR
  omega
theorem both_fine {a b : List R4} (ha : ∀ r ∈ a, fineR r) (hb : ∀ r ∈ b, fineR r) : ∀ r ∈ bothL a b, fineR r := by
  intro r hr
  obtain ⟨p, hp, hr⟩ := List.mem_flatMap.1 hr
  obtain ⟨hr, _⟩ := List.mem_filter.1 hr
  obtain ⟨q, hq, rfl⟩ := List.mem_map.1 hr
  have h1 := ha p hp
  have h2 := hb q hq
  simp only [fineR, meet4] at h1 h2 ⊢; omega
def cnt01 (a : List R4) : Prop := ∀ X Y, cntP a X Y = 0 ∨ cntP a X Y = 1
theorem cnt_of {l : List R4} (h : checkF l = 0) : cnt01 l := fun X Y => by
  rw [cntP_ind (check_rcan h).apart]
  exact ind_01 _
theorem cnt_both {a b : List R4} (ha : cnt01 a) (hb : cnt01 b) : cnt01 (bothL a b) := fun X Y => by
  rw [cntP_both]
  rcases ha X Y with h1 | h1 <;> rcases hb X Y with h2 | h2 <;> rw [h1, h2] <;> simp
theorem shF_bd {a b : List R4} (ca : cnt01 a) (cb : cnt01 b) (fa : ∀ r ∈ a, fineR r) {x y : Int} (hx : -1 ≤ x ∧ x ≤ 1) (hy : -1 ≤ y ∧ y ≤ 1) : 0 ≤ shF a b x y ∧ shF a b x y ≤ 4000008000004 := by
  obtain ⟨m, hm⟩ : ∃ m : Nat, m = 1000001 := ⟨_, rfl⟩
  rw [shF_vol (m := m) (fun r hr => by have := fa r hr; simp only [fineR, inFr, mvA] at this ⊢; omega)]
  have h : ∀ X Y, cntP a (X - x) (Y - y) * cntP b X Y = 0 ∨ cntP a (X - x) (Y - y) * cntP b X Y = 1 := fun X Y => by
    rcases ca (X - x) (Y - y) with h1 | h1 <;> rcases cb X Y with h2 | h2 <;> simp only [h1, h2] <;> simp
  have := vol_bd (m := m) (f := fun X Y => cntP a (X - x) (Y - y) * cntP b X Y) (fun X Y => by rcases h X Y with h | h <;> rw [h] <;> omega) (fun X Y => by rcases h X Y with h | h <;> rw [h] <;> omega)
  refine ⟨this.1, Int.le_trans this.2 ?_⟩
  subst hm
  decide
theorem bothP_snoc (p : R4) {b : List R4} {k : Nat} {q : R4} (h : b[k]? = some q) : bothP p (b.take (k + 1)) = bothP p (b.take k) ++ if ok4 (meet4 p q) = true then [meet4 p q] else [] := by
  unfold bothP
  rw [List.take_add_one, h, Option.toList_some, List.map_append, List.filter_append]
  congr 1
  by_cases ho : ok4 (meet4 p q) = true <;> simp [ho]
theorem bothL_snoc (b : List R4) {a : List R4} {m : Nat} {p : R4} (h : a[m]? = some p) : bothL (a.take (m + 1)) b = bothL (a.take m) b ++ bothP p b := by
  unfold bothL
  rw [List.take_add_one, h, Option.toList_some, List.flatMap_append]
  simp
/-- Sums over the four directions. -/
def dirs4 : List (Int × Int) := [(1, 0), (-1, 0), (0, 1), (0, -1)]
def sumD (a b : List R4) (n : Nat) : Int := ((dirs4.take n).map fun d => dirF a b d.1 d.2).sum
theorem sumD_all (a b : List R4) : sumD a b 4 = alongC a b := by
  simp [sumD, dirs4, alongC]
  omega
set_option maxRecDepth 100000 in
set_option maxHeartbeats 8000000 in
theorem along_any {w : World} {va vb : Value} {a b : List R4} (ra : RdK encR 4 w w.heap.size va a) (rb : RdK encR 4 w w.heap.size vb b) (na : a.length ≤ 100000000) (nb : b.length ≤ 100000000) :
    Calls Tryz.prog 60 #[va, vb] w fun e w' => e = .returned (.tuple #[.int .i64 (alongF a b).1, .int .i64 (alongF a b).2]) ∧ Below w.heap.size w w' := by
  obtain ⟨i1, gi, gz0, gz1, gz2⟩ := info_parts infoRc
  have HA := hide ra
  have HB := hide rb
  have C1 := hide (fun (w' : World) (h : Below w.heap.size w w') => check_any (w := w') ((HA.out.below h).mono h.size) na)
  have C2 := hide (fun (w' : World) (h : Below w.heap.size w w') => check_any (w := w') ((HB.out.below h).mono h.size) nb)
  obtain ⟨A1, c1, hva, h1⟩ := ra
  obtain ⟨A2, c2, hvb, h2⟩ := rb
  subst hva
  subst hvb
  have hK := hide (Below.refl w.heap.size w)
  by_cases z1 : checkF a = 0
  rotate_left 1
  · have hF : alongF a b = (0, checkF a) := by unfold alongF; rw [if_neg z1]
    rw [hF]
    clear hF C2 h1 h2
    have hne : (checkF a != 0) = true := by simpa using z1
    generalize checkF a = ca at *
    clear z1
    go_enter Tryz.func60, Tryz.ntmps60
    go_wp2_with (fail)
    refine (C1.out _ hK.out).mono ?_
    rintro e w1 ⟨rfl, hb1⟩
    go_wp2_with (fail)
    go_ret2
    exact ⟨rfl, hb1⟩
  by_cases z2 : checkF b = 0
  rotate_left 1
  · have hF : alongF a b = (0, checkF b) := by unfold alongF; rw [if_pos z1, if_neg z2]
    rw [hF]
    rw [z1] at C1
    clear hF h1 h2
    have hne : (checkF b != 0) = true := by simpa using z2
    generalize checkF b = cb at *
    clear z2 z1
    go_enter Tryz.func60, Tryz.ntmps60
    go_wp2_with (fail)
    refine (C1.out _ hK.out).mono ?_
    rintro e w1 ⟨rfl, hb1⟩
    have HB1 := hide hb1
    clear hb1
    go_wp2_with (fail)
    refine (C2.out _ HB1.out).mono ?_
    rintro e w2 ⟨rfl, hb2⟩
    have HB2 := hide (HB1.out.trans (hb2.mono HB1.out.size))
    clear hb2
    go_wp2_with (fail)
    go_ret2
    exact ⟨rfl, HB2.out⟩
  have hF : alongF a b = (sumD a b 4, 0) := by unfold alongF; rw [if_pos z1, if_pos z2, sumD_all]
  rw [hF]
  rw [z1] at C1
  rw [z2] at C2
  have la := (checkF_ok z1).1
  have lb := (checkF_ok z2).1
  have FA := hide (fine_of z1)
  have FB := hide (fine_of z2)
  have CA := hide (cnt_of z1)
  have CB := hide (cnt_of z2)
  have H1 := hide h1
  have H2 := hide h2
  have hmx := @run_max2 Tryz.prog
  have hmn := @run_min2 Tryz.prog
  clear hF z1 z2 h1 h2 na nb
  have P0 : sumD a b 0 = 0 := rfl
  have P1 : sumD a b 1 = sumD a b 0 + dirF a b 1 0 := by simp [sumD, dirs4]
  have P2 : sumD a b 2 = sumD a b 1 + dirF a b (-1) 0 := by simp [sumD, dirs4]
  have P3 : sumD a b 3 = sumD a b 2 + dirF a b 0 1 := by simp [sumD, dirs4] <;> omega
  have P4 : sumD a b 4 = sumD a b 3 + dirF a b 0 (-1) := by simp [sumD, dirs4] <;> omega
  have HPP := hide (And.intro P0 (And.intro P1 (And.intro P2 (And.intro P3 P4))))
  clear P0 P1 P2 P3 P4
  generalize sumD a b = P at *
  go_enter Tryz.func60, Tryz.ntmps60
  go_wp2_with (fail)
  refine (C1.out _ hK.out).mono ?_
  rintro e w1 ⟨rfl, hb1⟩
  have HB1 := hide hb1
  clear hb1
  go_wp2_with (fail)
  refine (C2.out _ HB1.out).mono ?_
  rintro e w2 ⟨rfl, hb2⟩
  have HB2 := hide (HB1.out.trans (hb2.mono HB1.out.size))
  clear hb2 HB1 C1 C2
  go_wp2_with (fail)
  go_loopw [8, 31] (fun s i wr => ∃ (m n : Nat) (Av : Option Addr) (cv : Nat), m ≤ a.length ∧ i = .int .i64 (m : Int) ∧ s = .slice Av n cv ∧ n ≤ 400 * m ∧ Hid (n = (bothL (a.take m) b).length) ∧ Hid (wr.ownsRow w.heap.size 69 4 (.slice Av n cv) n ((bothL (a.take m) b).flatMap encR)) ∧ Hid (Below w.heap.size w wr)) (fun _ i _ => a.length - (intOf i).toNat)
  case atStart => exact ⟨0, 0, none, 0, Nat.zero_le _, rfl, rfl, by omega, hide rfl, hide (World.ownsRow_nil _ _ _ _), HB2⟩
  case round =>
    clear HB2
    obtain ⟨m, n, Av, cv, hm, rfl, rfl, hn, HN, HO, HBr⟩ := hrel
    by_cases hlt : m < a.length
    · obtain ⟨⟨a0, a1, a2, a3⟩, hp⟩ : ∃ p, a[m]? = some p := ⟨_, List.getElem?_eq_getElem hlt⟩
      obtain ⟨g, o, rfl, hg, k1⟩ := H1.out (by intro e; rw [e] at hlt; simp at hlt)
      have x0 : wr.cell? ⟨g, o + m * 4, none⟩ = some (.int .i64 a0) := (HBr.out.cell (p := ⟨g, _, none⟩) hg).trans (k1 m _ hp 0 _ rfl)
      have x1 : wr.cell? ⟨g, o + m * 4 + 1, none⟩ = some (.int .i64 a1) := (HBr.out.cell (p := ⟨g, _, none⟩) hg).trans (k1 m _ hp 1 _ rfl)
      have x2 : wr.cell? ⟨g, o + m * 4 + 2, none⟩ = some (.int .i64 a2) := (HBr.out.cell (p := ⟨g, _, none⟩) hg).trans (k1 m _ hp 2 _ rfl)
      have x3 : wr.cell? ⟨g, o + m * 4 + 3, none⟩ = some (.int .i64 a3) := (HBr.out.cell (p := ⟨g, _, none⟩) hg).trans (k1 m _ hp 3 _ rfl)
      have mz : (m : Int) < (a.length : Int) := by omega
      have HSN := hide (bothL_snoc b hp)
      clear hp k1
      go_upto_region 11 with fail
      refine wp_name fun w1 hw1 => ?_
      have hb1 : Below wr.heap.size wr w1 := by rw [hw1]; exact (Below.refl _ _).alloc (Nat.le_refl _) _
      obtain ⟨q, hq⟩ : ∃ q, q = wr.heap.size := ⟨_, rfl⟩
      have d0 : w1.cell? ⟨q, 0, none⟩ = some (.int .i64 a0) := by rw [hw1, hq]; simp [go_sem]
      have d1 : w1.cell? ⟨q, 1, none⟩ = some (.int .i64 a1) := by rw [hw1, hq]; simp [go_sem]
      have d2 : w1.cell? ⟨q, 2, none⟩ = some (.int .i64 a2) := by rw [hw1, hq]; simp [go_sem]
      have d3 : w1.cell? ⟨q, 3, none⟩ = some (.int .i64 a3) := by rw [hw1, hq]; simp [go_sem]
      have hq1 : q < w1.heap.size := by rw [hw1, hq]; simp
      have HB1 := hide (HBr.out.trans (hb1.mono HBr.out.size))
      have HO1 := hide (own_below HO.out hb1)
      have HV1 : Hid ((Value.slice Av n cv).ownBlock ≠ some q) := hide (fun e => by have := (HO.out.lt q e).2; omega)
      have hwq : w.heap.size ≤ q := by rw [hq]; exact HBr.out.size
      rw [← hq]
      clear hw1 hb1 hq x0 x1 x2 x3 HBr HO
      go_wp2
      go_loopw [8, 37] (fun s i wx => ∃ (k n2 : Nat) (Av2 : Option Addr) (cv2 : Nat), k ≤ b.length ∧ i = .int .i64 (k : Int) ∧ s = .slice Av2 n2 cv2 ∧ n2 ≤ 400 * m + k ∧ Hid (n2 = (bothL (a.take m) b ++ bothP ⟨a0, a1, a2, a3⟩ (b.take k)).length) ∧ Hid (wx.ownsRow w.heap.size 69 4 (.slice Av2 n2 cv2) n2 ((bothL (a.take m) b ++ bothP ⟨a0, a1, a2, a3⟩ (b.take k)).flatMap encR)) ∧ Hid (Below w.heap.size w wx) ∧ Hid ((Value.slice Av2 n2 cv2).ownBlock ≠ some q) ∧ Hid (q < wx.heap.size ∧ wx.cell? ⟨q, 0, none⟩ = some (.int .i64 a0) ∧ wx.cell? ⟨q, 1, none⟩ = some (.int .i64 a1) ∧ wx.cell? ⟨q, 2, none⟩ = some (.int .i64 a2) ∧ wx.cell? ⟨q, 3, none⟩ = some (.int .i64 a3))) (fun _ i _ => b.length - (intOf i).toNat)
      case atStart => exact ⟨0, n, Av, cv, Nat.zero_le _, rfl, rfl, by omega, hide (by simpa [bothP] using HN.out), hide (by simpa [bothP] using HO1.out), HB1, HV1, hide ⟨hq1, d0, d1, d2, d3⟩⟩
      case round =>
        clear HO1 HV1 HN HB1 d0 d1 d2 d3 hq1
        obtain ⟨k, n2, Av2, cv2, hk, rfl, rfl, hn2, HN, HO, HBr, HV, HD⟩ := hrel
        by_cases hltk : k < b.length
        · obtain ⟨⟨b0, b1, b2, b3⟩, hpk⟩ : ∃ p, b[k]? = some p := ⟨_, List.getElem?_eq_getElem hltk⟩
          obtain ⟨g2, o2, rfl, hg2, k2⟩ := H2.out (by intro e; rw [e] at hltk; simp at hltk)
          obtain ⟨hqr, e0, e1, e2, e3⟩ := HD.out
          have y0 : wr.cell? ⟨g2, o2 + k * 4, none⟩ = some (.int .i64 b0) := (HBr.out.cell (p := ⟨g2, _, none⟩) hg2).trans (k2 k _ hpk 0 _ rfl)
          have y1 : wr.cell? ⟨g2, o2 + k * 4 + 1, none⟩ = some (.int .i64 b1) := (HBr.out.cell (p := ⟨g2, _, none⟩) hg2).trans (k2 k _ hpk 1 _ rfl)
          have y2 : wr.cell? ⟨g2, o2 + k * 4 + 2, none⟩ = some (.int .i64 b2) := (HBr.out.cell (p := ⟨g2, _, none⟩) hg2).trans (k2 k _ hpk 2 _ rfl)
          have y3 : wr.cell? ⟨g2, o2 + k * 4 + 3, none⟩ = some (.int .i64 b3) := (HBr.out.cell (p := ⟨g2, _, none⟩) hg2).trans (k2 k _ hpk 3 _ rfl)
          have kz : (k : Int) < (b.length : Int) := by omega
          have HSK := hide (bothP_snoc ⟨a0, a1, a2, a3⟩ hpk)
          clear hpk k2
          go_upto_region 15 with fail
          refine wp_name fun w3 hw3 => ?_
          have hb3 : Below wr.heap.size wr w3 := by rw [hw3]; exact ((Below.refl _ _).alloc (Nat.le_refl _) _).alloc (by simp) _
          obtain ⟨z, hz⟩ : ∃ z, z = wr.heap.size + 1 := ⟨_, rfl⟩
          obtain ⟨r0, hr0⟩ : ∃ r, r = max a0 b0 := ⟨_, rfl⟩
          obtain ⟨r1, hr1⟩ : ∃ r, r = max a1 b1 := ⟨_, rfl⟩
          obtain ⟨r2, hr2⟩ : ∃ r, r = min a2 b2 := ⟨_, rfl⟩
          obtain ⟨r3, hr3⟩ : ∃ r, r = min a3 b3 := ⟨_, rfl⟩
          have f0 : w3.cell? ⟨z, 0, none⟩ = some (.int .i64 r0) := by rw [hw3, hz, hr0]; simp [go_sem]
          have f1 : w3.cell? ⟨z, 1, none⟩ = some (.int .i64 r1) := by rw [hw3, hz, hr1]; simp [go_sem]
          have f2 : w3.cell? ⟨z, 2, none⟩ = some (.int .i64 r2) := by rw [hw3, hz, hr2]; simp [go_sem]
          have f3 : w3.cell? ⟨z, 3, none⟩ = some (.int .i64 r3) := by rw [hw3, hz, hr3]; simp [go_sem]
          have hzs : z < w3.heap.size := by rw [hw3, hz]; simp
          have hm4 : meet4 ⟨a0, a1, a2, a3⟩ ⟨b0, b1, b2, b3⟩ = ⟨r0, r1, r2, r3⟩ := by rw [hr0, hr1, hr2, hr3]; rfl
          have HB3 := hide (HBr.out.trans (hb3.mono HBr.out.size))
          have HO3 := hide (own_below HO.out hb3)
          have HD3 : Hid (q < w3.heap.size ∧ w3.cell? ⟨q, 0, none⟩ = some (.int .i64 a0) ∧ w3.cell? ⟨q, 1, none⟩ = some (.int .i64 a1) ∧ w3.cell? ⟨q, 2, none⟩ = some (.int .i64 a2) ∧ w3.cell? ⟨q, 3, none⟩ = some (.int .i64 a3)) := hide ⟨Nat.lt_of_lt_of_le hqr hb3.size, (hb3.cell (p := ⟨q, 0, none⟩) hqr).trans e0, (hb3.cell (p := ⟨q, 1, none⟩) hqr).trans e1, (hb3.cell (p := ⟨q, 2, none⟩) hqr).trans e2, (hb3.cell (p := ⟨q, 3, none⟩) hqr).trans e3⟩
          rw [hm4] at HSK
          have hs3 : w.heap.size ≤ w3.heap.size := HB3.out.size
          rw [← hz]
          clear hw3 hb3 hz y0 y1 y2 y3 e0 e1 e2 e3 HD HO HBr hr0 hr1 hr2 hr3 hm4 hqr
          by_cases hok : r0 < r2 ∧ r1 < r3
          · obtain ⟨p1, p2⟩ := hok
            have HT : Hid (bothL (a.take m) b ++ bothP ⟨a0, a1, a2, a3⟩ (b.take (k + 1)) = (bothL (a.take m) b ++ bothP ⟨a0, a1, a2, a3⟩ (b.take k)) ++ [⟨r0, r1, r2, r3⟩]) := hide (by
              rw [HSK.out, if_pos (by simp [ok4, p1, p2]), List.append_assoc])
            generalize bothL (a.take m) b ++ bothP ⟨a0, a1, a2, a3⟩ (b.take k) = E0 at *
            clear HSK
            go_wp2_with (at_builtin; go_loud (refine wpList_append_lies _ rfl (.tmp 74) (.tmp 76) 26 rfl w.heap.size 69 i1 (.agg #[.int .i64 0, .int .i64 0, .int .i64 0, .int .i64 0]) 4 32 Tryz.underlying26 gi gz0 gz1 gz2 rfl (by decide) _ n2 _ rfl (World.ownsRow.alloc HO3.out _) ⟨w3.heap.size, 0, none⟩ 1 1 [.int .i64 r0, .int .i64 r1, .int .i64 r2, .int .i64 r3] rfl rfl (news_new w3 _ _ _ rfl) (ints_one rfl) (by omega) (by unfold maxLen; omega) (by omega) (by simp; omega) _ rfl ?_))
            intro g9 cap9 w9 hown9 hgrow9 hor9 hlt9
            have hx9 : E0.flatMap encR ++ [.int .i64 r0, .int .i64 r1, .int .i64 r2, .int .i64 r3] = (E0 ++ [(⟨r0, r1, r2, r3⟩ : R4)]).flatMap encR := by simp [encR]
            rw [hx9, ← HT.out] at hown9
            have hq3 := HD3.out.1
            have HB9 := hide ((HB3.out.alloc hs3 _).grown hgrow9 (by simp; omega) (fun q hq => (HO3.out.lt q hq).1))
            have hblk : w9.heap[q]? = w3.heap[q]? := (hgrow9.block q (by simp; omega) (fun e => HV.out e.symm)).trans (((Below.refl w3.heap.size w3).alloc (Nat.le_refl _) _).block q hq3)
            have HD9 : Hid (q < w9.heap.size ∧ w9.cell? ⟨q, 0, none⟩ = some (.int .i64 a0) ∧ w9.cell? ⟨q, 1, none⟩ = some (.int .i64 a1) ∧ w9.cell? ⟨q, 2, none⟩ = some (.int .i64 a2) ∧ w9.cell? ⟨q, 3, none⟩ = some (.int .i64 a3)) := hide ⟨Nat.lt_of_lt_of_le hq3 (Nat.le_trans (by simp) hgrow9.size), (World.cell?_of_block hblk).trans HD3.out.2.1, (World.cell?_of_block hblk).trans HD3.out.2.2.1, (World.cell?_of_block hblk).trans HD3.out.2.2.2.1, (World.cell?_of_block hblk).trans HD3.out.2.2.2.2⟩
            have HV9 : Hid ((Value.slice (some ⟨g9, 0, none⟩) (n2 + 1) cap9).ownBlock ≠ some q) := hide (fun e => by
              have e2 : g9 = q := by injection e
              subst e2
              rcases hor9 with h | h
              · exact HV.out h
              · have := hq3; (try simp at h); omega)
            have HO9 := hide hown9
            have HN9 : Hid (n2 + 1 = (bothL (a.take m) b ++ bothP ⟨a0, a1, a2, a3⟩ (b.take (k + 1))).length) := hide (by rw [HT.out, List.length_append, ← HN.out]; rfl)
            clear hown9 hgrow9 hor9 hlt9 hx9 hblk HD3 HO3 HB3 HV HT HN f0 f1 f2 f3
            go_wp2
            go_roundw
            case rel => exact ⟨k + 1, n2 + 1, _, cap9, by omega, by go_num, rfl, by omega, HN9, HO9, HB9, HV9, HD9⟩
            case measure => first | (simp [intOf]; done) | (simp [intOf]; omega)
          · have HT : Hid (bothL (a.take m) b ++ bothP ⟨a0, a1, a2, a3⟩ (b.take (k + 1)) = bothL (a.take m) b ++ bothP ⟨a0, a1, a2, a3⟩ (b.take k)) := hide (by
              rw [HSK.out, if_neg (by simp only [ok4, Bool.and_eq_true, decide_eq_true_eq]; exact hok), List.append_nil])
            have hcs : (decide (r0 < r2) = false) ∨ (decide (r0 < r2) = true ∧ decide (r1 < r3) = false) := by
              by_cases h : r0 < r2
              · exact .inr ⟨decide_eq_true h, decide_eq_false (fun h2 => hok ⟨h, h2⟩)⟩
              · exact .inl (decide_eq_false h)
            clear hok HSK
            rcases hcs with p1 | ⟨p1, p2⟩
            all_goals
              go_wp2
              go_roundw
              case rel => exact ⟨k + 1, n2, Av2, cv2, by omega, by go_num, rfl, by omega, hide (by rw [HT.out]; exact HN.out), hide (by rw [HT.out]; exact HO3.out), HB3, HV, HD3⟩
              case measure => first | (simp [intOf]; done) | (simp [intOf]; omega)
        · obtain rfl : k = b.length := by omega
          have kz : ¬ (b.length : Int) < (b.length : Int) := by omega
          have hT : bothL (a.take m) b ++ bothP ⟨a0, a1, a2, a3⟩ (b.take b.length) = bothL (a.take (m + 1)) b := by rw [HSN.out, List.take_length]
          have HT := hide hT
          clear hT
          go_wp2
          go_roundw
          case rel => exact ⟨m + 1, n2, Av2, cv2, by omega, by go_num, rfl, by omega, hide (by rw [← HT.out]; exact HN.out), hide (by rw [← HT.out]; exact HO.out), HBr⟩
          case measure => first | (simp [intOf]; done) | (simp [intOf]; omega)
    · obtain rfl : m = a.length := by omega
      have mz : ¬ (a.length : Int) < (a.length : Int) := by omega
      rw [List.take_length] at HN HO
      have hn4 := HN.out
      have HRC : Hid (RdK encR 4 wr wr.heap.size (.slice Av n cv) (bothL a b)) := hide (by
        have h := HO.out
        rw [HN.out] at h ⊢
        exact own_rd h (fun _ => rfl))
      have HRA := hide ((HA.out.below HBr.out).mono HBr.out.size)
      have HRB := hide ((HB.out.below HBr.out).mono HBr.out.size)
      have lc : (bothL a b).length ≤ 1000000 := by rw [← hn4]; omega
      have FC := hide (both_fine FA.out FB.out)
      have CC := hide (cnt_both CA.out CB.out)
      have S1 := hide (fun (w' : World) (h : Below wr.heap.size wr w') (x y : Int) (hx : -1 ≤ x ∧ x ≤ 1) (hy : -1 ≤ y ∧ y ≤ 1) => by
        have := shared_any (w := w') ((HRA.out.below h).mono h.size) ((HRB.out.below h).mono h.size) (by omega) (by omega) FA.out FB.out x y hx hy
        have hd := shF_bd (a := a) (b := b) CA.out CB.out FA.out hx hy
        rw [wrap_id (by omega) (by omega)] at this
        exact this)
      have B1 := fun x y hx hy => shF_bd (x := x) (y := y) (a := a) (b := b) CA.out CB.out FA.out hx hy
      have S2 := hide (fun (w' : World) (h : Below wr.heap.size wr w') (x y : Int) (hx : -1 ≤ x ∧ x ≤ 1) (hy : -1 ≤ y ∧ y ≤ 1) => by
        have := shared_any (w := w') ((HRC.out.below h).mono h.size) ((HRB.out.below h).mono h.size) (by omega) (by omega) FC.out FB.out x y hx hy
        have hd := shF_bd (a := bothL a b) (b := b) CC.out CB.out FC.out hx hy
        rw [wrap_id (by omega) (by omega)] at this
        exact this)
      have B2 := fun x y hx hy => shF_bd (x := x) (y := y) (a := bothL a b) (b := b) CC.out CB.out FC.out hx hy
      have S3 := hide (fun (w' : World) (h : Below wr.heap.size wr w') (x y : Int) (hx : -1 ≤ x ∧ x ≤ 1) (hy : -1 ≤ y ∧ y ≤ 1) => by
        have := shared_any (w := w') ((HRA.out.below h).mono h.size) ((HRC.out.below h).mono h.size) (by omega) (by omega) FA.out FC.out x y hx hy
        have hd := shF_bd (a := a) (b := bothL a b) CA.out CC.out FA.out hx hy
        rw [wrap_id (by omega) (by omega)] at this
        exact this)
      have B3 := fun x y hx hy => shF_bd (x := x) (y := y) (a := a) (b := bothL a b) CA.out CC.out FA.out hx hy
      have S4 := hide (fun (w' : World) (h : Below wr.heap.size wr w') (x y : Int) (hx : -1 ≤ x ∧ x ≤ 1) (hy : -1 ≤ y ∧ y ≤ 1) => by
        have := shared_any (w := w') ((HRC.out.below h).mono h.size) ((HRC.out.below h).mono h.size) (by omega) (by omega) FC.out FC.out x y hx hy
        have hd := shF_bd (a := bothL a b) (b := bothL a b) CC.out CC.out FC.out hx hy
        rw [wrap_id (by omega) (by omega)] at this
        exact this)
      have B4 := fun x y hx hy => shF_bd (x := x) (y := y) (a := bothL a b) (b := bothL a b) CC.out CC.out FC.out hx hy
      have D0 : dirF a b 1 0 = shF a b 1 0 - shF (bothL a b) b 1 0 - shF a (bothL a b) 1 0 + shF (bothL a b) (bothL a b) 1 0 := rfl
      have b01 := B1 1 0 (by omega) (by omega)
      have b02 := B2 1 0 (by omega) (by omega)
      have b03 := B3 1 0 (by omega) (by omega)
      have b04 := B4 1 0 (by omega) (by omega)
      have D1 : dirF a b (-1) 0 = shF a b (-1) 0 - shF (bothL a b) b (-1) 0 - shF a (bothL a b) (-1) 0 + shF (bothL a b) (bothL a b) (-1) 0 := rfl
      have b11 := B1 (-1) 0 (by omega) (by omega)
      have b12 := B2 (-1) 0 (by omega) (by omega)
      have b13 := B3 (-1) 0 (by omega) (by omega)
      have b14 := B4 (-1) 0 (by omega) (by omega)
      have D2 : dirF a b 0 1 = shF a b 0 1 - shF (bothL a b) b 0 1 - shF a (bothL a b) 0 1 + shF (bothL a b) (bothL a b) 0 1 := rfl
      have b21 := B1 0 1 (by omega) (by omega)
      have b22 := B2 0 1 (by omega) (by omega)
      have b23 := B3 0 1 (by omega) (by omega)
      have b24 := B4 0 1 (by omega) (by omega)
      have D3 : dirF a b 0 (-1) = shF a b 0 (-1) - shF (bothL a b) b 0 (-1) - shF a (bothL a b) 0 (-1) + shF (bothL a b) (bothL a b) 0 (-1) := rfl
      have b31 := B1 0 (-1) (by omega) (by omega)
      have b32 := B2 0 (-1) (by omega) (by omega)
      have b33 := B3 0 (-1) (by omega) (by omega)
      have b34 := B4 0 (-1) (by omega) (by omega)
      obtain ⟨P0, P1, P2, P3, P4⟩ := HPP.out
      clear HPP
      clear B1 B2 B3 B4 HRA HRB HRC FC CC FA FB CA CB HA HB H1 H2
      have T01 := hide (fun (w' : World) (h : Below wr.heap.size wr w') => S1.out w' h 1 0 (by omega) (by omega))
      have T02 := hide (fun (w' : World) (h : Below wr.heap.size wr w') => S2.out w' h 1 0 (by omega) (by omega))
      have T03 := hide (fun (w' : World) (h : Below wr.heap.size wr w') => S3.out w' h 1 0 (by omega) (by omega))
      have T04 := hide (fun (w' : World) (h : Below wr.heap.size wr w') => S4.out w' h 1 0 (by omega) (by omega))
      have T11 := hide (fun (w' : World) (h : Below wr.heap.size wr w') => S1.out w' h (-1) 0 (by omega) (by omega))
      have T12 := hide (fun (w' : World) (h : Below wr.heap.size wr w') => S2.out w' h (-1) 0 (by omega) (by omega))
      have T13 := hide (fun (w' : World) (h : Below wr.heap.size wr w') => S3.out w' h (-1) 0 (by omega) (by omega))
      have T14 := hide (fun (w' : World) (h : Below wr.heap.size wr w') => S4.out w' h (-1) 0 (by omega) (by omega))
      have T21 := hide (fun (w' : World) (h : Below wr.heap.size wr w') => S1.out w' h 0 1 (by omega) (by omega))
      have T22 := hide (fun (w' : World) (h : Below wr.heap.size wr w') => S2.out w' h 0 1 (by omega) (by omega))
      have T23 := hide (fun (w' : World) (h : Below wr.heap.size wr w') => S3.out w' h 0 1 (by omega) (by omega))
      have T24 := hide (fun (w' : World) (h : Below wr.heap.size wr w') => S4.out w' h 0 1 (by omega) (by omega))
      have T31 := hide (fun (w' : World) (h : Below wr.heap.size wr w') => S1.out w' h 0 (-1) (by omega) (by omega))
      have T32 := hide (fun (w' : World) (h : Below wr.heap.size wr w') => S2.out w' h 0 (-1) (by omega) (by omega))
      have T33 := hide (fun (w' : World) (h : Below wr.heap.size wr w') => S3.out w' h 0 (-1) (by omega) (by omega))
      have T34 := hide (fun (w' : World) (h : Below wr.heap.size wr w') => S4.out w' h 0 (-1) (by omega) (by omega))
      clear S1 S2 S3 S4
      generalize shF a b 1 0 = s01 at *
      generalize shF (bothL a b) b 1 0 = s02 at *
      generalize shF a (bothL a b) 1 0 = s03 at *
      generalize shF (bothL a b) (bothL a b) 1 0 = s04 at *
      generalize dirF a b 1 0 = dd0 at *
      generalize shF a b (-1) 0 = s11 at *
      generalize shF (bothL a b) b (-1) 0 = s12 at *
      generalize shF a (bothL a b) (-1) 0 = s13 at *
      generalize shF (bothL a b) (bothL a b) (-1) 0 = s14 at *
      generalize dirF a b (-1) 0 = dd1 at *
      generalize shF a b 0 1 = s21 at *
      generalize shF (bothL a b) b 0 1 = s22 at *
      generalize shF a (bothL a b) 0 1 = s23 at *
      generalize shF (bothL a b) (bothL a b) 0 1 = s24 at *
      generalize dirF a b 0 1 = dd2 at *
      generalize shF a b 0 (-1) = s31 at *
      generalize shF (bothL a b) b 0 (-1) = s32 at *
      generalize shF a (bothL a b) 0 (-1) = s33 at *
      generalize shF (bothL a b) (bothL a b) 0 (-1) = s34 at *
      generalize dirF a b 0 (-1) = dd3 at *
      clear HO HN hn4 lc
      have HBW := hide HBr.out
      clear HBr
      generalize hwo : wr = wo at *
      clear hwo
      go_wp2
      go_loopw [14, 85] (fun o i wx => ∃ m : Nat, m ≤ 4 ∧ i = .int .i64 (m : Int) ∧ o = .int .i64 (P m) ∧ Hid (Below wo.heap.size wo wx)) (fun _ i _ => 4 - (intOf i).toNat)
      case atStart => exact ⟨0, Nat.zero_le _, rfl, by rw [P0], hide (Below.refl _ _)⟩
      case round =>
        obtain ⟨m, hm4, rfl, rfl, HBx⟩ := hrel
        have hm5 : m = 0 ∨ m = 1 ∨ m = 2 ∨ m = 3 ∨ m = 4 := by omega
        rcases hm5 with rfl | rfl | rfl | rfl | rfl
        · have hidx : ∀ w : World, (Instr.index 159 (.agg #[.int .i64 1, .int .i64 0, .int .i64 (-1), .int .i64 0, .int .i64 0, .int .i64 1, .int .i64 0, .int .i64 (-1)]) (.int .i64 0)).run Tryz.prog w = .ok (.agg #[.int .i64 1, .int .i64 0]) w := fun w => by kernel_rfl
          have G1 := hide (T01.out)
          have G2 := hide (T02.out)
          have G3 := hide (T03.out)
          have G4 := hide (T04.out)
          have u1 : IntKind.i64.wrap (s01 - s02) = s01 - s02 := wrap_id (by omega) (by omega)
          have u2 : IntKind.i64.wrap (s01 - s02 - s03) = s01 - s02 - s03 := wrap_id (by omega) (by omega)
          have u3 : IntKind.i64.wrap (s01 - s02 - s03 + s04) = dd0 := by rw [← D0]; exact wrap_id (by omega) (by omega)
          have u4 : IntKind.i64.wrap (P 0 + dd0) = P 1 := by rw [← P1]; exact wrap_id (by omega) (by omega)
          clear P0 P1 P2 P3 P4 D0 D1 D2 D3 b01 b02 b03 b04 b11 b12 b13 b14 b21 b22 b23 b24 b31 b32 b33 b34 T01 T02 T03 T04 T11 T12 T13 T14 T21 T22 T23 T24 T31 T32 T33 T34
          go_upto_region 23 with fail
          refine wp_name fun Z hZ => ?_
          have hbz : Below wr.heap.size wr Z := by rw [hZ]; exact (Below.refl _ _).alloc (Nat.le_refl _) _
          have z0 : Z.cell? ⟨wr.heap.size, 0, none⟩ = some (.int .i64 1) := by rw [hZ]; simp [go_sem]
          have z1 : Z.cell? ⟨wr.heap.size, 1, none⟩ = some (.int .i64 0) := by rw [hZ]; simp [go_sem]
          have HBZ := hide (HBx.out.trans (hbz.mono HBx.out.size))
          clear hZ hbz HBx
          go_quiet (fail)
          refine name_exit fun Z1 hZ1 => ?_
          have HB0 : Hid (Below wo.heap.size wo Z1) := hide (by rw [hZ1]; exact below_drewN HBZ.out _)
          clear hZ1 HBZ z0 z1
          go_wp2_with (fail)
          refine (G1.out _ HB0.out).mono ?_
          rintro e v1 ⟨rfl, hb⟩
          have HB1 := hide (HB0.out.trans (hb.mono HB0.out.size))
          clear hb HB0 G1
          go_wp2_with (fail)
          refine (G2.out _ HB1.out).mono ?_
          rintro e v2 ⟨rfl, hb⟩
          have HB2 := hide (HB1.out.trans (hb.mono HB1.out.size))
          clear hb HB1 G2
          go_wp2_with (fail)
          refine (G3.out _ HB2.out).mono ?_
          rintro e v3 ⟨rfl, hb⟩
          have HB3 := hide (HB2.out.trans (hb.mono HB2.out.size))
          clear hb HB2 G3
          go_wp2_with (fail)
          refine (G4.out _ HB3.out).mono ?_
          rintro e v4 ⟨rfl, hb⟩
          have HB4 := hide (HB3.out.trans (hb.mono HB3.out.size))
          clear hb HB3 G4
          go_wp2_with (fail)
          go_roundw
          case rel => exact ⟨1, by omega, rfl, rfl, HB4⟩
          case measure => first | (simp [intOf]; done) | (simp [intOf]; omega)
        · have hidx : ∀ w : World, (Instr.index 159 (.agg #[.int .i64 1, .int .i64 0, .int .i64 (-1), .int .i64 0, .int .i64 0, .int .i64 1, .int .i64 0, .int .i64 (-1)]) (.int .i64 1)).run Tryz.prog w = .ok (.agg #[.int .i64 (-1), .int .i64 0]) w := fun w => by kernel_rfl
          have G1 := hide (T11.out)
          have G2 := hide (T12.out)
          have G3 := hide (T13.out)
          have G4 := hide (T14.out)
          have u1 : IntKind.i64.wrap (s11 - s12) = s11 - s12 := wrap_id (by omega) (by omega)
          have u2 : IntKind.i64.wrap (s11 - s12 - s13) = s11 - s12 - s13 := wrap_id (by omega) (by omega)
          have u3 : IntKind.i64.wrap (s11 - s12 - s13 + s14) = dd1 := by rw [← D1]; exact wrap_id (by omega) (by omega)
          have u4 : IntKind.i64.wrap (P 1 + dd1) = P 2 := by rw [← P2]; exact wrap_id (by omega) (by omega)
          clear P0 P1 P2 P3 P4 D0 D1 D2 D3 b01 b02 b03 b04 b11 b12 b13 b14 b21 b22 b23 b24 b31 b32 b33 b34 T01 T02 T03 T04 T11 T12 T13 T14 T21 T22 T23 T24 T31 T32 T33 T34
          go_upto_region 23 with fail
          refine wp_name fun Z hZ => ?_
          have hbz : Below wr.heap.size wr Z := by rw [hZ]; exact (Below.refl _ _).alloc (Nat.le_refl _) _
          have z0 : Z.cell? ⟨wr.heap.size, 0, none⟩ = some (.int .i64 (-1)) := by rw [hZ]; simp [go_sem]
          have z1 : Z.cell? ⟨wr.heap.size, 1, none⟩ = some (.int .i64 0) := by rw [hZ]; simp [go_sem]
          have HBZ := hide (HBx.out.trans (hbz.mono HBx.out.size))
          clear hZ hbz HBx
          go_quiet (fail)
          refine name_exit fun Z1 hZ1 => ?_
          have HB0 : Hid (Below wo.heap.size wo Z1) := hide (by rw [hZ1]; exact below_drewN HBZ.out _)
          clear hZ1 HBZ z0 z1
          go_wp2_with (fail)
          refine (G1.out _ HB0.out).mono ?_
          rintro e v1 ⟨rfl, hb⟩
          have HB1 := hide (HB0.out.trans (hb.mono HB0.out.size))
          clear hb HB0 G1
          go_wp2_with (fail)
          refine (G2.out _ HB1.out).mono ?_
          rintro e v2 ⟨rfl, hb⟩
          have HB2 := hide (HB1.out.trans (hb.mono HB1.out.size))
          clear hb HB1 G2
          go_wp2_with (fail)
          refine (G3.out _ HB2.out).mono ?_
          rintro e v3 ⟨rfl, hb⟩
          have HB3 := hide (HB2.out.trans (hb.mono HB2.out.size))
          clear hb HB2 G3
          go_wp2_with (fail)
          refine (G4.out _ HB3.out).mono ?_
          rintro e v4 ⟨rfl, hb⟩
          have HB4 := hide (HB3.out.trans (hb.mono HB3.out.size))
          clear hb HB3 G4
          go_wp2_with (fail)
          go_roundw
          case rel => exact ⟨2, by omega, rfl, rfl, HB4⟩
          case measure => first | (simp [intOf]; done) | (simp [intOf]; omega)
        · have hidx : ∀ w : World, (Instr.index 159 (.agg #[.int .i64 1, .int .i64 0, .int .i64 (-1), .int .i64 0, .int .i64 0, .int .i64 1, .int .i64 0, .int .i64 (-1)]) (.int .i64 2)).run Tryz.prog w = .ok (.agg #[.int .i64 0, .int .i64 1]) w := fun w => by kernel_rfl
          have G1 := hide (T21.out)
          have G2 := hide (T22.out)
          have G3 := hide (T23.out)
          have G4 := hide (T24.out)
          have u1 : IntKind.i64.wrap (s21 - s22) = s21 - s22 := wrap_id (by omega) (by omega)
          have u2 : IntKind.i64.wrap (s21 - s22 - s23) = s21 - s22 - s23 := wrap_id (by omega) (by omega)
          have u3 : IntKind.i64.wrap (s21 - s22 - s23 + s24) = dd2 := by rw [← D2]; exact wrap_id (by omega) (by omega)
          have u4 : IntKind.i64.wrap (P 2 + dd2) = P 3 := by rw [← P3]; exact wrap_id (by omega) (by omega)
          clear P0 P1 P2 P3 P4 D0 D1 D2 D3 b01 b02 b03 b04 b11 b12 b13 b14 b21 b22 b23 b24 b31 b32 b33 b34 T01 T02 T03 T04 T11 T12 T13 T14 T21 T22 T23 T24 T31 T32 T33 T34
          go_upto_region 23 with fail
          refine wp_name fun Z hZ => ?_
          have hbz : Below wr.heap.size wr Z := by rw [hZ]; exact (Below.refl _ _).alloc (Nat.le_refl _) _
          have z0 : Z.cell? ⟨wr.heap.size, 0, none⟩ = some (.int .i64 0) := by rw [hZ]; simp [go_sem]
          have z1 : Z.cell? ⟨wr.heap.size, 1, none⟩ = some (.int .i64 1) := by rw [hZ]; simp [go_sem]
          have HBZ := hide (HBx.out.trans (hbz.mono HBx.out.size))
          clear hZ hbz HBx
          go_quiet (fail)
          refine name_exit fun Z1 hZ1 => ?_
          have HB0 : Hid (Below wo.heap.size wo Z1) := hide (by rw [hZ1]; exact below_drewN HBZ.out _)
          clear hZ1 HBZ z0 z1
          go_wp2_with (fail)
          refine (G1.out _ HB0.out).mono ?_
          rintro e v1 ⟨rfl, hb⟩
          have HB1 := hide (HB0.out.trans (hb.mono HB0.out.size))
          clear hb HB0 G1
          go_wp2_with (fail)
          refine (G2.out _ HB1.out).mono ?_
          rintro e v2 ⟨rfl, hb⟩
          have HB2 := hide (HB1.out.trans (hb.mono HB1.out.size))
          clear hb HB1 G2
          go_wp2_with (fail)
          refine (G3.out _ HB2.out).mono ?_
          rintro e v3 ⟨rfl, hb⟩
          have HB3 := hide (HB2.out.trans (hb.mono HB2.out.size))
          clear hb HB2 G3
          go_wp2_with (fail)
          refine (G4.out _ HB3.out).mono ?_
          rintro e v4 ⟨rfl, hb⟩
          have HB4 := hide (HB3.out.trans (hb.mono HB3.out.size))
          clear hb HB3 G4
          go_wp2_with (fail)
          go_roundw
          case rel => exact ⟨3, by omega, rfl, rfl, HB4⟩
          case measure => first | (simp [intOf]; done) | (simp [intOf]; omega)
        · have hidx : ∀ w : World, (Instr.index 159 (.agg #[.int .i64 1, .int .i64 0, .int .i64 (-1), .int .i64 0, .int .i64 0, .int .i64 1, .int .i64 0, .int .i64 (-1)]) (.int .i64 3)).run Tryz.prog w = .ok (.agg #[.int .i64 0, .int .i64 (-1)]) w := fun w => by kernel_rfl
          have G1 := hide (T31.out)
          have G2 := hide (T32.out)
          have G3 := hide (T33.out)
          have G4 := hide (T34.out)
          have u1 : IntKind.i64.wrap (s31 - s32) = s31 - s32 := wrap_id (by omega) (by omega)
          have u2 : IntKind.i64.wrap (s31 - s32 - s33) = s31 - s32 - s33 := wrap_id (by omega) (by omega)
          have u3 : IntKind.i64.wrap (s31 - s32 - s33 + s34) = dd3 := by rw [← D3]; exact wrap_id (by omega) (by omega)
          have u4 : IntKind.i64.wrap (P 3 + dd3) = P 4 := by rw [← P4]; exact wrap_id (by omega) (by omega)
          clear P0 P1 P2 P3 P4 D0 D1 D2 D3 b01 b02 b03 b04 b11 b12 b13 b14 b21 b22 b23 b24 b31 b32 b33 b34 T01 T02 T03 T04 T11 T12 T13 T14 T21 T22 T23 T24 T31 T32 T33 T34
          go_upto_region 23 with fail
          refine wp_name fun Z hZ => ?_
          have hbz : Below wr.heap.size wr Z := by rw [hZ]; exact (Below.refl _ _).alloc (Nat.le_refl _) _
          have z0 : Z.cell? ⟨wr.heap.size, 0, none⟩ = some (.int .i64 0) := by rw [hZ]; simp [go_sem]
          have z1 : Z.cell? ⟨wr.heap.size, 1, none⟩ = some (.int .i64 (-1)) := by rw [hZ]; simp [go_sem]
          have HBZ := hide (HBx.out.trans (hbz.mono HBx.out.size))
          clear hZ hbz HBx
          go_quiet (fail)
          refine name_exit fun Z1 hZ1 => ?_
          have HB0 : Hid (Below wo.heap.size wo Z1) := hide (by rw [hZ1]; exact below_drewN HBZ.out _)
          clear hZ1 HBZ z0 z1
          go_wp2_with (fail)
          refine (G1.out _ HB0.out).mono ?_
          rintro e v1 ⟨rfl, hb⟩
          have HB1 := hide (HB0.out.trans (hb.mono HB0.out.size))
          clear hb HB0 G1
          go_wp2_with (fail)
          refine (G2.out _ HB1.out).mono ?_
          rintro e v2 ⟨rfl, hb⟩
          have HB2 := hide (HB1.out.trans (hb.mono HB1.out.size))
          clear hb HB1 G2
          go_wp2_with (fail)
          refine (G3.out _ HB2.out).mono ?_
          rintro e v3 ⟨rfl, hb⟩
          have HB3 := hide (HB2.out.trans (hb.mono HB2.out.size))
          clear hb HB2 G3
          go_wp2_with (fail)
          refine (G4.out _ HB3.out).mono ?_
          rintro e v4 ⟨rfl, hb⟩
          have HB4 := hide (HB3.out.trans (hb.mono HB3.out.size))
          clear hb HB3 G4
          go_wp2_with (fail)
          go_roundw
          case rel => exact ⟨4, by omega, rfl, rfl, HB4⟩
          case measure => first | (simp [intOf]; done) | (simp [intOf]; omega)
        · clear P0 P1 P2 P3 P4 D0 D1 D2 D3 b01 b02 b03 b04 b11 b12 b13 b14 b21 b22 b23 b24 b31 b32 b33 b34 T01 T02 T03 T04 T11 T12 T13 T14 T21 T22 T23 T24 T31 T32 T33 T34
          go_wp2
          go_ret2
          exact ⟨rfl, HBW.out.trans (HBx.out.mono HBW.out.size)⟩
end Go.Proofs.YtdolpeljengpaaaGreat

/- The last step from a walk to a given statement, for every law of the seat: the call returns true, and what lay in memory lies as it lay. -/
namespace Go.Proofs.YtdolpeljengpaaaGreat
open Go.ChangeShapes Go.WideShapes Go.ChangeAt Go.RowKit Go.Joins Go.Deep
set_option linter.unusedVariables false
set_option linter.unusedSimpArgs false

theorem own : ownKnob Tryz.prog.godebug = none := by kernel_rfl
theorem laidOut : laidOutB Tryz.prog = true := by kernel_rfl

section
variable {H : Type} {enc : TypeId × Value → H}
theorem trodAll_carry {P : Program} (hl : laidOutB P = true) {W W' : World} (hb : Below W.heap.size W W') :
    ∀ (ts : List TypeId) (vs : List Value) (ds : List (DataW H)) (ps : List MemPlace), (ts.all fun t => P.readableRec t && decide (t < P.types.size)) = true →
      DataW.TrodAll enc P W 0 (fun _ => true) true ts vs ds ps → (∀ x ∈ ps, x.block < W.heap.size) → DataW.TrodAll enc P W' 0 (fun b => decide (b < W.heap.size)) true ts vs ds ps
  | [], [], [], ps, _, h, _ => h
  | [], [], _ :: _, _, _, h, _ => h.elim
  | [], _ :: _, _, _, _, h, _ => h.elim
  | _ :: _, [], _, _, _, h, _ => h.elim
  | _ :: _, _ :: _, [], _, _, h, _ => h.elim
  | t :: ts, v :: vs, d :: ds, ps, hr, h, hlt => by
    obtain ⟨p, q, h1, h2, rfl⟩ := h
    simp only [List.all_cons, Bool.and_eq_true, decide_eq_true_eq] at hr
    refine ⟨p, q, Below.trod hl hr.1.1 hr.1.2 h1 hb (fun x hx => hlt x (by simp [hx])), trodAll_carry hl hb ts vs ds q ?_ h2 (fun x hx => hlt x (by simp [hx])), rfl⟩
    simpa using hr.2

theorem law_post {P : Program} {f : Func} {s : ChangeSpec} {W W' : World} {args : Array Value} {ds gs : List (DataW H)} {before : List MemPlace} {tb : TypeId}
    (hl : laidOutB P = true) (hr : (f.params.toList.all fun t => P.readableRec t && decide (t < P.types.size)) = true) (hres : f.resultTypes = #[tb]) (hbool : P.underlying tb = some .bool)
    (hvars : s.vars = []) (hW : DataW.Whole enc P f.params.toList s.vars false W args.toList ds gs before)
    (hsr : (s.fn H (ds ++ gs)).results = [.lit (.bool true)]) (hsa : (s.fn H (ds ++ gs)).args = ds) (hsv : (s.fn H (ds ++ gs)).vars = [])
    (hb : Below W.heap.size W W') : s.post enc P f false true false false W args (.bool true) W' := by
  have hlt : ∀ p ∈ before, p.block < W.heap.size := fun p hp => hW.lt p hp
  have hW0 := hW
  obtain ⟨p, q, hA, hV, rfl, hz, hn⟩ := hW
  refine ⟨ds, gs, p ++ q, [], p, [], hW0, ?_, ?_, ?_, hb.frame _, fun h => by cases h⟩
  · rw [hsr, hres]
    exact trodAll_mk1 (shut_bool hbool true)
  · rw [hsa]
    exact trodAll_carry hl hb _ _ _ _ hr hA (fun x hx => hlt x (by simp [hx]))
  · rw [hsv, hvars]
    rfl
end
end Go.Proofs.YtdolpeljengpaaaGreat

/- An argument that is a list of structs of ints, read as a list. -/
namespace Go.Proofs.YtdolpeljengpaaaGreat
open Go.ChangeShapes Go.WideShapes Go.ChangeAt Go.RowKit Go.Joins Go.Deep
set_option linter.unusedVariables false
set_option linter.unusedSimpArgs false

section
variable {H : Type} {enc : TypeId × Value → H} {P : Program} {w : World} {base : Nat} {spare : Nat → Bool} {held : Bool}
/-- The fields of a struct of ints: each one cell, an int. -/
theorem trod_int_fields {t : TypeId} {fs : Array Field} {n : Nat} {cs : List Value} {y : DataW H × List MemPlace} (he : P.underlying t = some (.struct fs)) (hone : oneCellFields P fs = true) (hint : ∀ (j : Nat) (f : Field), fs[j]? = some f → P.underlying f.type = some (.int .i64))
    (hl : cs.length = fs.size) (h : DataW.trod enc P w base spare held n t cs = some y) : ∀ j, j < fs.size → ∃ z : Int, cs[j]? = some (.int .i64 z) := by
  obtain ⟨ys, n', _, _, _, hyl, hf⟩ := DataW.trod_struct he h
  intro j hj
  have hjf : fs[j]? = some fs[j] := Array.getElem?_eq_getElem hj
  obtain ⟨ho, hk⟩ := hone_of hone j _ hjf
  have h1 := hf j _ hjf
  rw [ho, hk] at h1
  have hd : (cs.drop j).take 1 = [cs[j]'(by omega)] := by rw [List.drop_eq_getElem_cons (by omega)]; rfl
  rw [hd] at h1
  have hy : ys[j]? = some (ys[j]'(by omega)) := List.getElem?_eq_getElem (by omega)
  rw [hy] at h1
  obtain ⟨z, hz, _⟩ := DataW.trod_int (hint j _ hjf) h1
  have hz' : cs[j]'(by omega) = .int .i64 z := by simpa using hz
  exact ⟨z, by rw [List.getElem?_eq_getElem (by omega), hz']⟩
end
end Go.Proofs.YtdolpeljengpaaaGreat

/- A slice that reads as a list of lists of rectangles; an argument that is one, read as such. -/
namespace Go.Proofs.YtdolpeljengpaaaGreat
open Go.ChangeShapes Go.WideShapes Go.ChangeAt Go.RowKit Go.Joins Go.Deep
set_option linter.unusedVariables false
set_option linter.unusedSimpArgs false

/-- The slice v reads as the lists bs, all of it below block B. -/
def RdRR (w : World) (B : Nat) (v : Value) (bs : List (List R4)) : Prop :=
  ∃ A c, v = .slice A bs.length c ∧ (bs ≠ [] → ∃ b off, A = some ⟨b, off, none⟩ ∧ b < B ∧ ∀ j x, bs[j]? = some x → ∃ u, w.cell? ⟨b, off + j, none⟩ = some u ∧ RdK encR 4 w B u x)
theorem RdRR.keep {w w' : World} {B : Nat} {v : Value} {bs : List (List R4)} (h : RdRR w B v bs) (hk : ∀ b o, b < B → w'.cell? ⟨b, o, none⟩ = w.cell? ⟨b, o, none⟩) : RdRR w' B v bs := by
  obtain ⟨A, c, hv, h⟩ := h
  refine ⟨A, c, hv, fun hl => ?_⟩
  obtain ⟨b, off, hA, hb, hc⟩ := h hl
  refine ⟨b, off, hA, hb, fun j x hx => ?_⟩
  obtain ⟨u, h1, h2⟩ := hc j x hx
  exact ⟨u, (hk b _ hb).trans h1, h2.keep hk⟩
theorem RdRR.mono {w : World} {B B' : Nat} {v : Value} {bs : List (List R4)} (h : RdRR w B v bs) (hB : B ≤ B') : RdRR w B' v bs := by
  obtain ⟨A, c, hv, h⟩ := h
  refine ⟨A, c, hv, fun hl => ?_⟩
  obtain ⟨b, off, hA, hb, hc⟩ := h hl
  refine ⟨b, off, hA, by omega, fun j x hx => ?_⟩
  obtain ⟨u, h1, h2⟩ := hc j x hx
  exact ⟨u, h1, h2.mono hB⟩
theorem RdRR.below {w w' : World} {B : Nat} {v : Value} {bs : List (List R4)} (h : RdRR w B v bs) (hb : Below B w w') : RdRR w' B v bs := h.keep fun b o hlt => hb.cell (p := ⟨b, o, none⟩) hlt
section
variable {H : Type} {enc : TypeId × Value → H} {P : Program} {w : World} {base : Nat} {spare : Nat → Bool} {held : Bool}
end
end Go.Proofs.YtdolpeljengpaaaGreat

/- A list of regions that a call has laid, read as such. -/
namespace Go.Proofs.YtdolpeljengpaaaGreat
open Go.RowKit
set_option linter.unusedVariables false
set_option linter.unusedSimpArgs false

theorem regs_rd {B : Nat} {R : List (List R4)} {A : Option Addr} {c : Nat} {vs : List Value} {w : World} (ho : w.ownsRow B 27 1 (.slice A R.length c) R.length vs) (hr : ∀ (i : Nat) (r : List R4), R[i]? = some r → ∃ v, vs[i]? = some v ∧ w.ownsRow B 69 4 v r.length (r.flatMap encR)) : RdRR w w.heap.size (.slice A R.length c) R := by
  refine ⟨A, c, rfl, fun hl => ?_⟩
  have hp : 0 < R.length := List.length_pos_iff.2 hl
  obtain ⟨g, cap, hv, hB, hg⟩ := ho.form (by omega)
  injection hv with e1 _ e3
  subst e1; subst e3
  refine ⟨g, 0, rfl, (ho.lt g rfl).2, fun j x hx => ?_⟩
  obtain ⟨v, h3, h4⟩ := hr j x hx
  refine ⟨v, ?_, own_rd h4 (fun _ => rfl)⟩
  have := (ho.cells (g := g) rfl) j _ h3
  rw [addr_add] at this
  rwa [Nat.zero_add]
theorem RegsRet.rd {B : Nat} {x : List (List R4) × Int} {e : Ending} {w : World} (h : RegsRet B x e w) : ∃ A c, e = .returned (.tuple #[.slice A x.1.length c, .int .i64 x.2]) ∧ RdRR w w.heap.size (.slice A x.1.length c) x.1 := by
  obtain ⟨A, c, vs, h1, h2, h3⟩ := h
  exact ⟨A, c, h1, regs_rd h2 h3⟩
/-- A cell of a list of regions. -/
theorem RdRR.get {w : World} {A : Option Addr} {n c : Nat} {bs : List (List R4)} (h : RdRR w w.heap.size (.slice A n c) bs) {j : Nat} {x : List R4} (hx : bs[j]? = some x) : ∃ b off A2 c2, A = some ⟨b, off, none⟩ ∧ b < w.heap.size ∧ w.cell? ⟨b, off + j, none⟩ = some (.slice A2 x.length c2) ∧ RdK encR 4 w w.heap.size (.slice A2 x.length c2) x := by
  obtain ⟨A1, c1, hv, h⟩ := h
  injection hv with e1 _ _
  subst e1
  obtain ⟨b, off, rfl, hb, k⟩ := h (by intro e; rw [e] at hx; simp at hx)
  obtain ⟨u, h1, h2⟩ := k j x hx
  obtain ⟨A2, c2, rfl, _⟩ := id h2
  exact ⟨b, off, A2, c2, rfl, hb, h1, h2⟩
end Go.Proofs.YtdolpeljengpaaaGreat

/- The chapter's examples hold: law.go's alive. -/
namespace Go.Proofs.YtdolpeljengpaaaGreat
open Go.RowKit
set_option linter.unusedVariables false
set_option linter.unusedSimpArgs false

def strL : List R4 := ([⟨(-1), (-1), 1, 9⟩, ⟨1, (-1), 7, 1⟩, ⟨1, 7, 7, 9⟩, ⟨7, (-1), 9, 9⟩] : List R4)
def restL35 : List R4 := ([⟨(-3), (-3), (-1), 11⟩, ⟨(-1), (-3), 1, (-1)⟩, ⟨(-1), 9, 1, 11⟩, ⟨1, (-3), 7, (-1)⟩, ⟨1, 1, 7, 7⟩, ⟨1, 9, 7, 11⟩, ⟨7, (-3), 9, (-1)⟩, ⟨7, 9, 9, 11⟩, ⟨9, (-3), 11, 11⟩] : List R4)
def ringL : List R4 := ([⟨(-3), (-3), (-1), 11⟩, ⟨(-1), (-3), 9, (-1)⟩, ⟨(-1), 9, 9, 11⟩, ⟨9, (-3), 11, 11⟩] : List R4)
theorem ex35_p : prtF (sqN 8) sqE = (1, 0) := by kernel_rfl
theorem ex35_l : lopF (sqN 8) sqE = (1, 0) := by kernel_rfl
theorem ex35_s : strF (sqN 8) sqE 1 = (strL, 0) := by kernel_rfl
theorem ex35_a : areaF strL = (64, 0) := by kernel_rfl
theorem ex35_r : joinF hSub [⟨-3, -3, 11, 11⟩] strL = (restL35, 0) := by kernel_rfl
theorem ex35_g : areaF ringL = (96, 0) := by kernel_rfl
theorem ex35_i : areaF [⟨1, 1, 7, 7⟩] = (36, 0) := by kernel_rfl
theorem ex35_o : alongF [⟨1, 1, 7, 7⟩] strL = (24, 0) := by kernel_rfl
def lab35 (i : Nat) : Nat := if i = 4 then 4 else 0
/-- Two rectangles side by side: one step. -/
def sideB (l : List R4) (i j : Nat) : Bool := match l[i]?, l[j]? with
  | some x, some y => bsd x y
  | _, _ => false
theorem sideB_adj {l : List R4} {i j : Nat} (h : sideB l i j = true) : adj l i j := by
  unfold sideB at h
  split at h
  · exact ⟨_, _, by assumption, by assumption, h⟩
  · cases h
theorem adj_sideB {l : List R4} {i j : Nat} (h : adj l i j) : sideB l i j = true := by
  obtain ⟨x, y, h1, h2, h3⟩ := h
  unfold sideB
  rw [h1, h2]
  exact h3
theorem ex35_mn : ∀ i, i < restL35.length → lab35 i = mn restL35 i := by
  refine labels_mn (fun i hi => ?_) (fun i k h => ?_)
  · have s : ∀ j k, sideB restL35 j k = true → Conn restL35 j k := fun j k h => Conn.refl.step (sideB_adj h)
    have c1 := s 1 0 (by decide)
    have c2 := s 2 0 (by decide)
    have c3 := (s 3 1 (by decide)).trans c1
    have c5 := (s 5 2 (by decide)).trans c2
    have c6 := (s 6 3 (by decide)).trans c3
    have c7 := (s 7 5 (by decide)).trans c5
    have c8 := (s 8 6 (by decide)).trans c6
    have hc : i = 0 ∨ i = 1 ∨ i = 2 ∨ i = 3 ∨ i = 4 ∨ i = 5 ∨ i = 6 ∨ i = 7 ∨ i = 8 := by simp [restL35] at hi; omega
    rcases hc with rfl | rfl | rfl | rfl | rfl | rfl | rfl | rfl | rfl
    · exact ⟨.refl, by decide⟩
    · exact ⟨c1, by decide⟩
    · exact ⟨c2, by decide⟩
    · exact ⟨c3, by decide⟩
    · exact ⟨.refl, by decide⟩
    · exact ⟨c5, by decide⟩
    · exact ⟨c6, by decide⟩
    · exact ⟨c7, by decide⟩
    · exact ⟨c8, by decide⟩
  · have hs := adj_sideB h
    have hl := (show i < 9 from by obtain ⟨x, y, h1, h2, h3⟩ := h; have := (List.getElem?_eq_some_iff.1 h1).1; simpa [restL35] using this)
    have hk := (show k < 9 from by obtain ⟨x, y, h1, h2, h3⟩ := h; have := (List.getElem?_eq_some_iff.1 h2).1; simpa [restL35] using this)
    revert hs
    have key : ∀ i : Fin 9, ∀ k : Fin 9, sideB restL35 i.1 k.1 = true → lab35 i.1 ≤ lab35 k.1 := by decide
    exact key ⟨i, hl⟩ ⟨k, hk⟩
theorem ex35_parts : partsE restL35 = ([ringL, [⟨1, 1, 7, 7⟩]], 0) := by
  have h0 : checkF restL35 = 0 := by kernel_rfl
  have m := ex35_mn
  have m' : ∀ i, i < 9 → mn restL35 i = lab35 i := fun i hi => (m i (by simpa [restL35] using hi)).symm
  unfold partsE
  rw [if_pos h0]
  have e0 : compL restL35 0 = [⟨-3, -3, -1, 11⟩, ⟨-1, -3, 1, -1⟩, ⟨-1, 9, 1, 11⟩, ⟨1, -3, 7, -1⟩, ⟨1, 9, 7, 11⟩, ⟨7, -3, 9, -1⟩, ⟨7, 9, 9, 11⟩, ⟨9, -3, 11, 11⟩] := by
    unfold compL
    rw [show restL35.length = 9 from rfl]
    have hf : (List.range 9).filter (fun j => decide (mn restL35 j = 0)) = [0, 1, 2, 3, 5, 6, 7, 8] := by
      simp [List.range_succ, m', lab35]
    rw [hf]
    rfl
  have e4 : compL restL35 4 = [⟨1, 1, 7, 7⟩] := by
    unfold compL
    rw [show restL35.length = 9 from rfl]
    have hf : (List.range 9).filter (fun j => decide (mn restL35 j = 4)) = [4] := by
      simp [List.range_succ, m', lab35]
    rw [hf]
    rfl
  unfold partsF
  rw [show restL35.length = 9 from rfl]
  have hf : (List.range 9).filter (fun j => decide (mn restL35 j = j)) = [0, 4] := by
    simp [List.range_succ, m', lab35]
  rw [hf, List.map_cons, List.map_cons, List.map_nil, e0, e4]
  have r0 : rjoin hFst [⟨-3, -3, -1, 11⟩, ⟨-1, -3, 1, -1⟩, ⟨-1, 9, 1, 11⟩, ⟨1, -3, 7, -1⟩, ⟨1, 9, 7, 11⟩, ⟨7, -3, 9, -1⟩, ⟨7, 9, 9, 11⟩, ⟨9, -3, 11, 11⟩] [] = ringL := by kernel_rfl
  have r4 : rjoin hFst [⟨1, 1, 7, 7⟩] [] = [⟨1, 1, 7, 7⟩] := by kernel_rfl
  rw [r0, r4]
theorem ex35_b : blkF (sqN 8) sqE 1 [⟨-3, -3, 11, 11⟩] = ([ringL, [⟨1, 1, 7, 7⟩]], 0) := by
  unfold blkF
  rw [ex35_s]
  simp only
  rw [ex35_r]
  simp only [ex35_parts]
  rfl
set_option maxRecDepth 100000 in
set_option maxHeartbeats 8000000 in
theorem alive35_any (w : World) : Calls Tryz.prog 22 #[] w fun e w' => e = .returned (.bool true) ∧ Below w.heap.size w w' := by
  have G1 := hide (fun (w : World) (nv ev : Value) (hn : RdK encS 2 w w.heap.size nv (sqN 8)) (he : RdK encS 2 w w.heap.size ev sqE) => by have := parts35_any hn he; rwa [ex35_p] at this)
  have G2 := hide (fun (w : World) (nv ev : Value) (hn : RdK encS 2 w w.heap.size nv (sqN 8)) (he : RdK encS 2 w w.heap.size ev sqE) => by have := loops_any hn he; rwa [ex35_l] at this)
  have G3 := hide (fun (w : World) (nv ev : Value) (hn : RdK encS 2 w w.heap.size nv (sqN 8)) (he : RdK encS 2 w w.heap.size ev sqE) => by have := streets_any (d := 1) hn he; rwa [ex35_s] at this)
  have G4 := hide (fun (w : World) (nv ev va : Value) (hn : RdK encS 2 w w.heap.size nv (sqN 8)) (he : RdK encS 2 w w.heap.size ev sqE) (ha : RdK encR 4 w w.heap.size va ([⟨-3, -3, 11, 11⟩] : List R4)) => by have := blocks_any (d := 1) hn he ha (by simp); rwa [ex35_b] at this)
  have G5 := hide (fun (w : World) (v : Value) (h : RdK encR 4 w w.heap.size v strL) => by have := area_any h (by simp [strL]); rwa [ex35_a] at this)
  have G6 := hide (fun (w : World) (v : Value) (h : RdK encR 4 w w.heap.size v ringL) => by have := area_any h (by simp [ringL]); rwa [ex35_g] at this)
  have G7 := hide (fun (w : World) (v : Value) (h : RdK encR 4 w w.heap.size v ([⟨1, 1, 7, 7⟩] : List R4)) => by have := area_any h (by simp); rwa [ex35_i] at this)
  have G8 := hide (fun (w : World) (v v2 : Value) (h : RdK encR 4 w w.heap.size v ([⟨1, 1, 7, 7⟩] : List R4)) (h2 : RdK encR 4 w w.heap.size v2 strL) => by have := along_any h h2 (by simp) (by simp [strL]); rwa [ex35_o] at this)
  have K := hide (Below.refl w.heap.size w)
  go_enter Tryz.func22, Tryz.ntmps22
  go_wp2_with (fail)
  refine (square_any 8 _).mono ?_
  rintro e v1 ⟨nv, ev, rfl, hn, he, hb⟩
  replace K := hide (K.out.trans (hb.mono K.out.size))
  have HN1 := hide hn
  have HE1 := hide he
  clear hn he
  clear hb
  go_wp2_with (fail)
  refine (G1.out _ _ _ HN1.out HE1.out).mono ?_
  rintro e v2 ⟨rfl, hb⟩
  replace K := hide (K.out.trans (hb.mono K.out.size))
  replace HN1 := hide ((HN1.out.below hb).mono hb.size)
  replace HE1 := hide ((HE1.out.below hb).mono hb.size)
  clear hb
  clear HN1 HE1
  go_wp2_with (fail)
  refine (square_any 8 _).mono ?_
  rintro e v3 ⟨nv, ev, rfl, hn, he, hb⟩
  replace K := hide (K.out.trans (hb.mono K.out.size))
  have HN2 := hide hn
  have HE2 := hide he
  clear hn he
  clear hb
  go_wp2_with (fail)
  refine (G2.out _ _ _ HN2.out HE2.out).mono ?_
  rintro e v4 ⟨rfl, hb⟩
  replace K := hide (K.out.trans (hb.mono K.out.size))
  replace HN2 := hide ((HN2.out.below hb).mono hb.size)
  replace HE2 := hide ((HE2.out.below hb).mono hb.size)
  clear hb
  clear HN2 HE2
  go_wp2_with (fail)
  refine (square_any 8 _).mono ?_
  rintro e v5 ⟨nv, ev, rfl, hn, he, hb⟩
  replace K := hide (K.out.trans (hb.mono K.out.size))
  have HN3 := hide hn
  have HE3 := hide he
  clear hn he
  clear hb
  go_wp2_with (fail)
  refine (G3.out _ _ _ HN3.out HE3.out).mono ?_
  rintro e v6 ⟨⟨A1, c1, rfl, ho⟩, hb⟩
  replace K := hide (K.out.trans (hb.mono K.out.size))
  replace HN3 := hide ((HN3.out.below hb).mono hb.size)
  replace HE3 := hide ((HE3.out.below hb).mono hb.size)
  have HS := hide (own_rd (l := strL) ho (fun _ => rfl))
  clear ho
  clear hb
  clear HN3 HE3
  go_wp2_with (fail)
  refine (G5.out _ _ HS.out).mono ?_
  rintro e v7 ⟨rfl, hb⟩
  replace K := hide (K.out.trans (hb.mono K.out.size))
  replace HS := hide ((HS.out.below hb).mono hb.size)
  clear hb
  go_wp2_with (fail)
  refine (square_any 8 _).mono ?_
  rintro e v8 ⟨nv, ev, rfl, hn, he, hb⟩
  replace K := hide (K.out.trans (hb.mono K.out.size))
  replace HS := hide ((HS.out.below hb).mono hb.size)
  have HN4 := hide hn
  have HE4 := hide he
  clear hn he
  clear hb
  go_wp2_with (fail)
  refine (land_any (-3) 11 _).mono ?_
  rintro e v9 ⟨va, rfl, ha, hb⟩
  replace K := hide (K.out.trans (hb.mono K.out.size))
  replace HS := hide ((HS.out.below hb).mono hb.size)
  replace HN4 := hide ((HN4.out.below hb).mono hb.size)
  replace HE4 := hide ((HE4.out.below hb).mono hb.size)
  have HA := hide ha
  clear ha
  clear hb
  go_wp2_with (fail)
  refine (G4.out _ _ _ _ HN4.out HE4.out HA.out).mono ?_
  rintro e v10 ⟨hrg, hb⟩
  replace K := hide (K.out.trans (hb.mono K.out.size))
  replace HS := hide ((HS.out.below hb).mono hb.size)
  replace HN4 := hide ((HN4.out.below hb).mono hb.size)
  replace HE4 := hide ((HE4.out.below hb).mono hb.size)
  replace HA := hide ((HA.out.below hb).mono hb.size)
  obtain ⟨A2, c2, rfl, hr⟩ := hrg.rd
  have HR := hide hr
  clear hr hrg
  clear hb
  clear HN4 HE4 HA
  obtain ⟨b, off, A3, c3, hA, hbl, hc, hrd⟩ := HR.out.get (j := 0) (x := ringL) rfl
  subst hA
  have HB0 := hide hrd
  simp only [Nat.add_zero] at hc
  clear hrd
  go_wp2_with (fail)
  refine (G6.out _ _ HB0.out).mono ?_
  rintro e v11 ⟨rfl, hb⟩
  replace K := hide (K.out.trans (hb.mono K.out.size))
  replace HS := hide ((HS.out.below hb).mono hb.size)
  replace HR := hide ((HR.out.below hb).mono hb.size)
  replace HB0 := hide ((HB0.out.below hb).mono hb.size)
  clear hb hbl hc
  clear HB0
  obtain ⟨b2, off2, A4, c4, hA, hbl, hc, hrd⟩ := HR.out.get (j := 1) (x := [⟨1, 1, 7, 7⟩]) rfl
  injection hA with hA
  injection hA with e1 e2
  subst e1
  subst e2
  have HB1 := hide hrd
  clear hrd
  go_wp2_with (fail)
  refine (G7.out _ _ HB1.out).mono ?_
  rintro e v12 ⟨rfl, hb⟩
  replace K := hide (K.out.trans (hb.mono K.out.size))
  replace HS := hide ((HS.out.below hb).mono hb.size)
  replace HR := hide ((HR.out.below hb).mono hb.size)
  replace HB1 := hide ((HB1.out.below hb).mono hb.size)
  clear hb hbl hc
  clear HB1
  obtain ⟨b2, off2, A4, c4, hA, hbl, hc, hrd⟩ := HR.out.get (j := 1) (x := [⟨1, 1, 7, 7⟩]) rfl
  injection hA with hA
  injection hA with e1 e2
  subst e1
  subst e2
  have HB2 := hide hrd
  clear hrd
  go_wp2_with (fail)
  refine (G8.out _ _ _ HB2.out HS.out).mono ?_
  rintro e v13 ⟨rfl, hb⟩
  replace K := hide (K.out.trans (hb.mono K.out.size))
  replace HS := hide ((HS.out.below hb).mono hb.size)
  replace HR := hide ((HR.out.below hb).mono hb.size)
  replace HB2 := hide ((HB2.out.below hb).mono hb.size)
  clear hb hbl hc
  go_wp2_with (fail)
  go_ret
  exact ⟨rfl, K.out⟩
end Go.Proofs.YtdolpeljengpaaaGreat

/- The numbers of parts and loops of networks that street.Make lays. -/
namespace Go.Proofs.YtdolpeljengpaaaGreat
open Go.RowKit
set_option linter.unusedVariables false
set_option linter.unusedSimpArgs false

theorem near_ok {l : List Sg} (h : ∀ s ∈ l, near35 s) : ∀ s ∈ l, okSg s := fun s hs => (h s hs).1
theorem few35 {l : List Sg} (hv : ∀ s ∈ l, okSg s) (h12 : l.length ≤ 12) : (nodesF l).length ≤ 168 := by
  have h := nodes_len hv
  have h2 : l.length * l.length ≤ 12 * 12 := Nat.mul_le_mul h12 h12
  omega
theorem made35 {l : List Sg} (hv : ∀ s ∈ l, okSg s) (h12 : l.length ≤ 12) : madeN l = 0 := by
  have := few35 hv h12
  unfold madeN
  rw [if_neg (by omega), if_neg (fun h => h hv), if_neg (by omega)]
theorem prt_made {l : List Sg} (hv : ∀ s ∈ l, okSg s) (h4 : (nodesF l).length ≤ 400) : prtF (nodesF l) (edI (edgesF l)) = (((partsN l : Nat) : Int), 0) := by
  unfold prtF
  rw [if_pos (made_chk hv h4), segs_drawn]
  obtain ⟨n1, n2⟩ := net_again hv
  show ((((compF (nodesF (drawnL (nodesF l) (edgesF l))).length (edgesF (drawnL (nodesF l) (edgesF l)))).2 : Nat) : Int), (0 : Int)) = _
  rw [n1, n2]
def lopN (l : List Sg) : Int := ((edgesF l).length : Int) - (nodesF l).length + (partsN l : Nat)
theorem lop_made {l : List Sg} (hv : ∀ s ∈ l, okSg s) (h4 : (nodesF l).length ≤ 400) : lopF (nodesF l) (edI (edgesF l)) = (lopN l, 0) := by
  unfold lopF
  rw [prt_made hv h4, if_pos rfl]
  unfold lopN edI
  rw [List.length_map]
theorem lop_nn (l : List Sg) : 0 ≤ lopN l := by
  have h := (parts_bd (nodesF l).length (edgesF l)).1
  unfold lopN
  show 0 ≤ ((edgesF l).length : Int) - (nodesF l).length + (((compF (nodesF l).length (edgesF l)).2 : Nat) : Int)
  omega
/-- street.Make of a few segments. -/
theorem make35_any {w : World} {v : Value} {l : List Sg} (hr : RdK encSg 4 w w.heap.size v l) (hv : ∀ s ∈ l, okSg s) (h12 : l.length ≤ 12) :
    Calls Tryz.prog 23 #[v] w fun e w' => (∃ nv ev, e = .returned (.tuple #[.agg #[nv, ev], .int .i64 0]) ∧ RdK encS 2 w' w'.heap.size nv (nodesF l) ∧ RdK encS 2 w' w'.heap.size ev (edI (edgesF l))) ∧ Below w.heap.size w w' := by
  refine (Make_any hr).mono ?_
  rintro e w' ⟨⟨nv, ev, he, h1, _⟩, hb⟩
  have h0 := made35 hv h12
  rw [h0] at he
  obtain ⟨o1, o2⟩ := h1 h0
  exact ⟨⟨nv, ev, he, own_rd o1 (fun _ => rfl), own_rd o2 (fun _ => rfl)⟩, hb⟩
theorem loops_made {w : World} {nv ev : Value} {l : List Sg} (hv : ∀ s ∈ l, okSg s) (h12 : l.length ≤ 12) (hn : RdK encS 2 w w.heap.size nv (nodesF l)) (he : RdK encS 2 w w.heap.size ev (edI (edgesF l))) :
    Calls Tryz.prog 17 #[.agg #[nv, ev]] w fun e w' => e = .returned (.tuple #[.int .i64 (lopN l), .int .i64 0]) ∧ Below w.heap.size w w' := by
  have h := loops_any hn he
  rwa [lop_made hv (by have := few35 hv h12; omega)] at h
/-- The first m segments, turned. -/
def firstSg (f : Sg → Sg) (l : List Sg) (m : Nat) : List Sg := (l.take m).map f
theorem firstSg_succ {f : Sg → Sg} {l : List Sg} {m : Nat} {s : Sg} (h : l[m]? = some s) : firstSg f l (m + 1) = firstSg f l m ++ [f s] := by
  unfold firstSg
  rw [List.take_add_one, h, Option.toList_some, List.map_append]
  rfl
theorem firstSg_all (f : Sg → Sg) (l : List Sg) : firstSg f l l.length = l.map f := by
  unfold firstSg
  rw [List.take_length]
/-- The box of a network. -/
def NetAt (b : Nat) (nv ev : Value) (W : World) : Prop := b < W.heap.size ∧ W.cell? ⟨b, 0, none⟩ = some nv ∧ W.cell? ⟨b, 1, none⟩ = some ev
theorem NetAt.keep {b : Nat} {nv ev : Value} {W W' : World} (h : NetAt b nv ev W) (hb : Below W.heap.size W W') : NetAt b nv ev W' := ⟨Nat.lt_of_lt_of_le h.1 hb.size, (hb.cell (p := ⟨b, 0, none⟩) h.1).trans h.2.1, (hb.cell (p := ⟨b, 1, none⟩) h.1).trans h.2.2⟩
theorem calls_nm {P : Program} {F : Nat} {A : Array Value} {W : World} {Q : Ending → World → Prop} (h : ∀ w, w = W → Calls P F A w Q) : Calls P F A W Q := h W rfl
end Go.Proofs.YtdolpeljengpaaaGreat
