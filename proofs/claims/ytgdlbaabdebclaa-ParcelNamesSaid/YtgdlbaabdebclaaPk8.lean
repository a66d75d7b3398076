/- Texts laid together: ParLd, Row, Open. Lemmas for the statements of this seat; no condition. -/
import Derived.Test.YtgdlbaabdebclaaPk7
import Derived.Test.YtgdlbaabdebclaaPk1
import Derived.ProofKit
import Derived.Lib.SmallJoins
import Derived.Deep.Slices
import Derived.Deep.Fields
import Derived.ChangeSame

/- ParcelEnds: no lot has a cut any more, and the lots are those of the two parts of the first cut: the walk. -/
namespace Go.Proofs.Ytgdlbaabdebclaa
open Go.RowKit
set_option linter.unusedVariables false
set_option linter.unusedSimpArgs false

theorem check_of {l x : Lot5} {p : Pl3} (h : checkL l p = 0) (hx : validL x) : checkL x p = 0 := by
  have hv := checkL_valid h
  unfold checkL at h ⊢
  rw [if_pos hv] at h
  rw [if_pos hx]
  exact h
theorem cutE_none {x : Lot5} {p : Pl3} (h : checkL x p = 0) (hc : cutL p x = none) : cutE x p = (zeroL, zeroL, 6) := by
  rw [cutE_ok h, cutR_none hc]
  rfl
theorem cutE_some {x a b : Lot5} {p : Pl3} (h : checkL x p = 0) (hc : cutL p x = some (a, b)) : cutE x p = (a, b, 0) := by
  rw [cutE_ok h, cutR_some hc]
  rfl
theorem splitR_ok {x : Lot5} {p : Pl3} (h : checkL x p = 0) (h4 : (leaves p x).length ≤ 400) : splitR x p = (leaves p x, 0) := by
  unfold splitR
  rw [if_pos h, if_pos h4]
theorem rd_litL_at {w : World} {B : Nat} (hB : w.heap.size = B) (l : List Lot5) (t : TypeId) (c : Nat) : RdK encL 5 (w.alloc (.cells (l.flatMap encL).toArray t)) (w.alloc (.cells (l.flatMap encL).toArray t)).heap.size (.slice (some ⟨B, 0, none⟩) l.length c) l := by
  subst hB
  exact rd_litL w l t c
theorem one_encL (l : List Lot5) : ∀ u ∈ l.flatMap encL, u.oneCell' = true := by
  intro u hu
  obtain ⟨r, _, hr⟩ := List.mem_flatMap.1 hu
  simp only [encL, List.mem_cons, List.not_mem_nil, or_false] at hr
  rcases hr with rfl | rfl | rfl | rfl | rfl <;> rfl
section
variable {P : Program} {α : Type} {enc : α → List Value} {k : Nat}
/-- An append of a list that is read, behind a guard that lets it through. -/
theorem wpList_app_rd_g {w : World} {ops : Array Oper} {rest : List Oper} {o : Oper} {a : Act} {Q : Exit → Act → World → Prop} (hgd : Region.wanted o (yielded ops a.tmps) = true) (henc : ∀ x, (enc x).length = k) (hint : ∀ (l : List α), ∀ u ∈ l.flatMap enc, u.oneCell' = true) (s x : Operand) (t : TypeId)
    (ho : o.op = .call { callee := .builtin .append, args := #[s, x], argTypes := #[t, t] }) (base : Nat) (e : TypeId) (i : TypeInfo) (z : Value) (bytes : Nat)
    (ht : P.underlying t = some (.slice e)) (hi : P.info? e = some i) (hz : i.zero = some z) (hsize : i.size = k) (hby : i.bytes = bytes) (hzs : z.cells.size = k) (hsz : 0 < k)
    (v : Value) (n : Nat) (xs : List Value) (hs : a.eval s = v) (hown : w.ownsRow base e k v n xs) (B : Nat) (l : List α) (hr : RdK enc k w B (a.eval x) l) (h63 : n + l.length ≤ maxLen) (hbytes : (n + l.length) * bytes ≤ 140737488355328) (hbase : base ≤ w.heap.size)
    (h : ∀ v' w', w'.ownsRow base e k v' (n + l.length) (xs ++ l.flatMap enc) → w.grownBy w' v.ownBlock → wpList P ops Q rest (a.put o.dst v') w') : wpList P ops Q (o :: rest) a w :=
  wpList_step fun K hK => by
    rw [if_pos hgd]
    exact wp_app_rd w henc hint s x t ho base e i z bytes ht hi hz hsize hby hzs hsz v n xs hs hown B l hr h63 hbytes hbase fun v' w' h2 h3 => hK _ _ (h v' w' h2 h3)
end
/-- Eight cells that a region's operations leave as they are. -/
def Keep8 (b o n : Nat) (x : Lot5) (p : Pl3) (w : World) : Prop :=
  (w.cell? ⟨b, o, none⟩ = some (.int .i64 x.r.x0) ∧ w.cell? ⟨b, o + 1, none⟩ = some (.int .i64 x.r.y0) ∧ w.cell? ⟨b, o + 2, none⟩ = some (.int .i64 x.r.x1) ∧ w.cell? ⟨b, o + 3, none⟩ = some (.int .i64 x.r.y1) ∧ w.cell? ⟨b, o + 4, none⟩ = some (.int .u8 x.f)) ∧
  w.cell? ⟨n, 0, none⟩ = some (.int .i64 p.mf) ∧ w.cell? ⟨n, 1, none⟩ = some (.int .i64 p.ms) ∧ w.cell? ⟨n, 2, none⟩ = some (.int .i64 p.ma)
theorem Keep8.below {b o n B : Nat} {x : Lot5} {p : Pl3} {w w' : World} (h : Keep8 b o n x p w) (hb : Below B w w') (h1 : b < B) (h2 : n < B) : Keep8 b o n x p w' := by
  obtain ⟨⟨a0, a1, a2, a3, a4⟩, c0, c1, c2⟩ := h
  exact ⟨⟨(hb.cell (p := ⟨b, _, none⟩) h1).trans a0, (hb.cell (p := ⟨b, _, none⟩) h1).trans a1, (hb.cell (p := ⟨b, _, none⟩) h1).trans a2, (hb.cell (p := ⟨b, _, none⟩) h1).trans a3, (hb.cell (p := ⟨b, _, none⟩) h1).trans a4⟩, (hb.cell (p := ⟨n, _, none⟩) h2).trans c0, (hb.cell (p := ⟨n, _, none⟩) h2).trans c1, (hb.cell (p := ⟨n, _, none⟩) h2).trans c2⟩
set_option maxRecDepth 100000 in
set_option maxHeartbeats 16000000 in
theorem ends_none (l : Lot5) (p : Pl3) (hf : 0 ≤ l.f ∧ l.f ≤ 255) (hc : cutL p l = none) (w : World) : Calls Try.prog 8 #[.agg (encL l).toArray, .agg (encP p).toArray] w fun e w' => e = .returned (.bool true) ∧ Below w.heap.size w w' := by
  have HV := hide (fun W => valid24_any l p hf W)
  have HAL := hide (fun W => alive24_any W)
  by_cases h0 : checkL l p = 0
  · have hv := checkL_valid h0
    have hS := fun W => psplit_any l p hf W
    rw [h0] at HV
    have HV1 : Hid (∀ W : World, Calls Try.prog 14 #[.agg #[.int .i64 l.r.x0, .int .i64 l.r.y0, .int .i64 l.r.x1, .int .i64 l.r.y1, .int .u8 l.f], .agg #[.int .i64 p.mf, .int .i64 p.ms, .int .i64 p.ma]] W fun e w' => e = .returned (.bool true) ∧ Below W.heap.size W w') := hide HV.out
    clear HV
    by_cases h4 : (leaves p l).length ≤ 400
    · have hR : splitR l p = (leaves p l, 0) := by unfold splitR; rw [if_pos h0, if_pos h4]
      rw [hR] at hS
      have HVL := hide (fun x hx => leaves_valid (p := p) hv x hx)
      have HCX : Hid (∀ x ∈ leaves p l, ∀ W : World, Calls Try.prog 23 #[.agg #[.int .i64 x.r.x0, .int .i64 x.r.y0, .int .i64 x.r.x1, .int .i64 x.r.y1, .int .u8 x.f], .agg #[.int .i64 p.mf, .int .i64 p.ms, .int .i64 p.ma]] W fun e w' => e = .returned (.tuple #[.agg #[.int .i64 0, .int .i64 0, .int .i64 0, .int .i64 0, .int .u8 0], .agg #[.int .i64 0, .int .i64 0, .int .i64 0, .int .i64 0, .int .u8 0], .int .i64 6]) ∧ Below W.heap.size W w') := hide (fun x hx W => by
        have := pcut_any x p (by have := (leaves_valid hv x hx).2; omega) W
        rw [cutE_none (check_of h0 (leaves_valid hv x hx)) (leaves_end p l x hx)] at this
        exact this)
      have hCL := fun W => pcut_any l p hf W
      rw [cutE_none h0 hc] at hCL
      have HCL : Hid (∀ W : World, Calls Try.prog 23 #[.agg #[.int .i64 l.r.x0, .int .i64 l.r.y0, .int .i64 l.r.x1, .int .i64 l.r.y1, .int .u8 l.f], .agg #[.int .i64 p.mf, .int .i64 p.ms, .int .i64 p.ma]] W fun e w' => e = .returned (.tuple #[.agg #[.int .i64 0, .int .i64 0, .int .i64 0, .int .i64 0, .int .u8 0], .agg #[.int .i64 0, .int .i64 0, .int .i64 0, .int .i64 0, .int .u8 0], .int .i64 6]) ∧ Below W.heap.size W w') := hide hCL
      have HQ := hide (leaves_none hc)
      clear hCL hc
      generalize leaves p l = Q at *
      have HS : Hid (∀ W : World, Calls Try.prog 11 #[.agg #[.int .i64 l.r.x0, .int .i64 l.r.y0, .int .i64 l.r.x1, .int .i64 l.r.y1, .int .u8 l.f], .agg #[.int .i64 p.mf, .int .i64 p.ms, .int .i64 p.ma]] W (LotsRet W (Q, 0))) := hide hS
      clear hS hR h0 hv hf
      show Calls Try.prog _ #[.agg #[.int .i64 l.r.x0, .int .i64 l.r.y0, .int .i64 l.r.x1, .int .i64 l.r.y1, .int .u8 l.f], .agg #[.int .i64 p.mf, .int .i64 p.ms, .int .i64 p.ma]] w _
      go_enter Try.func8, Try.ntmps8
      go_wp2_with (fail)
      obtain ⟨W, hW⟩ : ∃ x, x = (w.alloc (.cells #[.int .i64 l.r.x0, .int .i64 l.r.y0, .int .i64 l.r.x1, .int .i64 l.r.y1, .int .u8 l.f] 25)).alloc (.cells #[.int .i64 p.mf, .int .i64 p.ms, .int .i64 p.ma] 27) := ⟨_, rfl⟩
      rw [← hW]
      have hb0 : Below w.heap.size w W := by rw [hW]; exact ((Below.refl _ _).alloc (Nat.le_refl _) _).alloc (by simp) _
      have hs0 : w.heap.size + 2 ≤ W.heap.size := by rw [hW]; simp
      have HL : Box5L W w.heap.size l := by rw [hW]; refine ⟨?_, ?_, ?_, ?_, ?_, ?_, ?_, ?_, ?_, ?_⟩ <;> simp [go_sem]
      have HP : Box3 W (w.heap.size + 1) (.int .i64 p.mf) (.int .i64 p.ms) (.int .i64 p.ma) := by rw [hW]; refine ⟨?_, ?_, ?_⟩ <;> simp [go_sem]
      obtain ⟨n, hn⟩ : ∃ n, w.heap.size = n := ⟨_, rfl⟩
      have HN := hide hn
      rw [hn] at hb0 hs0 HL HP ⊢
      have K0 := hide hb0
      clear hW hb0 hn
      refine (HV1.out _).mono ?_
      rintro e w1 ⟨rfl, hb⟩
      have HL1 := HL.below hb
      have HP1 := HP.below hb
      have hs1 : n + 2 ≤ w1.heap.size := Nat.le_trans hs0 hb.size
      have K1 := hide (K0.out.trans (hb.mono (by omega)))
      clear hb HL HP K0 hs0
      try clear l0 l1 l2 l3 l4 p0 p1 p2
      obtain ⟨l0, l1, l2, l3, l4, -, -, -, -, -⟩ := id HL1
      obtain ⟨p0, p1, p2⟩ := id HP1
      go_wp2_with (fail)
      refine (HS.out _).mono ?_
      rintro e w2 ⟨⟨A1, c1, rfl, ho⟩, hb⟩
      have HL2 := HL1.below hb
      have HP2 := HP1.below hb
      have hs2 : n + 2 ≤ w2.heap.size := Nat.le_trans hs1 hb.size
      have K2 := hide (K1.out.trans (hb.mono (by omega)))
      have HO2 : Hid (RdK encL 5 w2 w2.heap.size (.slice A1 Q.length c1) Q) := hide (own_rd ho (fun _ => rfl))
      clear ho HV1 HS
      clear hb HL1 HP1 K1 hs1
      try clear l0 l1 l2 l3 l4 p0 p1 p2
      obtain ⟨l0, l1, l2, l3, l4, -, -, -, -, -⟩ := id HL2
      obtain ⟨p0, p1, p2⟩ := id HP2
      clear l0 l1 l2 l3 l4 p0 p1 p2
      go_wp2_with (fail)
      go_loopw [7] (fun i wr => ∃ m : Nat, m ≤ Q.length ∧ i = .int .i64 m ∧ Hid (Below w2.heap.size w2 wr)) (fun i _ => Q.length - (intOf i).toNat)
      case atStart => exact ⟨0, Nat.zero_le _, rfl, hide (Below.refl _ _)⟩
      case round =>
        obtain ⟨m, hm, rfl, HB⟩ := hrel
        have hsw := HB.out.size
        by_cases hlt : m < Q.length
        · obtain ⟨x, hx⟩ : ∃ x, Q[m]? = some x := ⟨_, List.getElem?_eq_getElem hlt⟩
          obtain ⟨b, o, rfl, hbl, k⟩ := HO2.out.cells5 (by intro e; rw [e] at hlt; simp at hlt)
          have d0 : wr.cell? ⟨b, o + m * 5, none⟩ = some (.int .i64 x.r.x0) := (HB.out.cell (p := ⟨b, _, none⟩) hbl).trans (k m _ hx 0 _ rfl)
          have d1 : wr.cell? ⟨b, o + m * 5 + 1, none⟩ = some (.int .i64 x.r.y0) := (HB.out.cell (p := ⟨b, _, none⟩) hbl).trans (k m _ hx 1 _ rfl)
          have d2 : wr.cell? ⟨b, o + m * 5 + 2, none⟩ = some (.int .i64 x.r.x1) := (HB.out.cell (p := ⟨b, _, none⟩) hbl).trans (k m _ hx 2 _ rfl)
          have d3 : wr.cell? ⟨b, o + m * 5 + 3, none⟩ = some (.int .i64 x.r.y1) := (HB.out.cell (p := ⟨b, _, none⟩) hbl).trans (k m _ hx 3 _ rfl)
          have d4 : wr.cell? ⟨b, o + m * 5 + 4, none⟩ = some (.int .u8 x.f) := (HB.out.cell (p := ⟨b, _, none⟩) hbl).trans (k m _ hx 4 _ rfl)
          have mz : (m : Int) < (Q.length : Int) := by omega
          have HX := hide hx
          clear k hx
          have HC := hide (HCX.out x (List.mem_of_getElem? HX.out))
          obtain ⟨p0, p1, p2⟩ := HP2.below HB.out
          have q0 : b < wr.heap.size := by omega
          have q1 : n + 1 < wr.heap.size := by omega
          have HK : Hid (Keep8 b (o + m * 5) (n + 1) x p wr) := hide ⟨⟨d0, d1, d2, d3, d4⟩, p0, p1, p2⟩
          clear HCX HX
          go_wp2_with (fail)
          go_cut [10] (fun s10 wx => s10 = .int .i64 6 ∧ Below wr.heap.size wr wx)
          case first =>
            go_region_held3 (fun w' => (w'.cell? ⟨b, o + m * 5, none⟩ = some (.int .i64 x.r.x0) ∧ w'.cell? ⟨b, o + m * 5 + 1, none⟩ = some (.int .i64 x.r.y0) ∧ w'.cell? ⟨b, o + m * 5 + 2, none⟩ = some (.int .i64 x.r.x1) ∧ w'.cell? ⟨b, o + m * 5 + 3, none⟩ = some (.int .i64 x.r.y1) ∧ w'.cell? ⟨b, o + m * 5 + 4, none⟩ = some (.int .u8 x.f)) ∧ w'.cell? ⟨n + 1, 0, none⟩ = some (.int .i64 p.mf) ∧ w'.cell? ⟨n + 1, 1, none⟩ = some (.int .i64 p.ms) ∧ w'.cell? ⟨n + 1, 2, none⟩ = some (.int .i64 p.ma)) ((refine HK.out.below (B := wr.heap.size) ?_ q0 q1; repeat (first | with_reducible exact Below.refl _ _ | with_reducible exact hbK | with_reducible refine Below.setCell ?_ (by first | omega | (simp; done) | (simp; omega)) _ | with_reducible refine Below.alloc ?_ (by first | omega | (simp; omega) | simp) _ | with_reducible refine Below.drew ?_)))
              (first
                | (go_at_call 23; refine (HC.out _).mono ?_; rintro e w10 ⟨rfl, hb10⟩; have hbK : Below wr.heap.size wr w10 := Below.trans (by repeat (first | with_reducible exact Below.refl _ _ | with_reducible refine Below.alloc ?_ (by first | omega | (simp; omega) | simp) _ | with_reducible refine Below.drew ?_)) (hb10.mono (by simp <;> omega)); have hsK := hbK.size; obtain ⟨hcK, hfK⟩ := bcell hb10; (try have z0 : wr.heap.size < w10.heap.size := by have := hb10.size; simp at this; omega); (try have z1 : wr.heap.size + 1 < w10.heap.size := by have := hb10.size; simp at this; omega); (try have y0 : ¬ wr.heap.size = w10.heap.size := by omega); (try have y1 : ¬ w10.heap.size = wr.heap.size := by omega); clear hb10))
            all_goals (go_wp2_with (fail); go_meet)
            all_goals
              refine ⟨rfl, ?_⟩
              repeat (first | with_reducible exact Below.refl _ _ | with_reducible exact hbK | with_reducible refine Below.setCell ?_ (by first | omega | (simp; done) | (simp; omega)) _ | with_reducible refine Below.alloc ?_ (by first | omega | (simp; omega) | simp) _ | with_reducible refine Below.drew ?_)
          case rest =>
            obtain ⟨rfl, hb⟩ := hcut
            have HB2 : Hid (Below w2.heap.size w2 wc) := hide (HB.out.trans (hb.mono hsw))
            clear hb HK HB d0 d1 d2 d3 d4 p0 p1 p2
            go_wp2_with (fail)
            go_roundw
            case rel => exact ⟨m + 1, by omega, by go_num, HB2⟩
            case measure => simp [intOf]; omega
        · obtain rfl : m = Q.length := by omega
          have mz : ¬ ((Q.length : Nat) : Int) < (Q.length : Int) := by omega
          have HL3 := HL2.below HB.out
          have HP3 := HP2.below HB.out
          have K3 := hide (K2.out.trans (HB.out.mono (by omega)))
          have hs3 : n + 2 ≤ wr.heap.size := by omega
          have HO3 := hide ((HO2.out.below HB.out).mono HB.out.size)
          obtain ⟨l0, l1, l2, l3, l4, -, -, -, -, -⟩ := id HL3
          obtain ⟨p0, p1, p2⟩ := id HP3
          clear HL2 HP2 K2 hs2 HO2 HB hsw HCX HVL
          go_wp2_with (fail)
          refine (HCL.out _).mono ?_
          rintro e w4 ⟨rfl, hb⟩
          have HL4 := HL3.below hb
          have HP4 := HP3.below hb
          have hs4 : n + 2 ≤ w4.heap.size := Nat.le_trans hs3 hb.size
          have K4 := hide (K3.out.trans (hb.mono (by omega)))
          have HO4 := hide ((HO3.out.below hb).mono hb.size)
          clear hb HL3 HP3 K3 hs3 HO3 HCL l0 l1 l2 l3 l4 p0 p1 p2
          obtain ⟨l0, l1, l2, l3, l4, -, -, -, -, -⟩ := id HL4
          obtain ⟨p0, p1, p2⟩ := id HP4
          have q0 : n < w4.heap.size := by omega
          have q1 : n < w4.heap.size + 1 := by omega
          have q2 : n + 1 < w4.heap.size := by omega
          have q3 : n + 1 < w4.heap.size + 1 := by omega
          go_wp2_with (fail)
          refine calls_name fun Z hZ => ?_
          have hbz : Below w4.heap.size w4 Z := by
            rw [hZ]
            repeat (first | with_reducible exact Below.refl _ _ | with_reducible refine Below.setCell ?_ (by first | (simp; done) | (simp; omega)) _ | with_reducible refine Below.alloc ?_ (by first | omega | (simp; omega) | simp) _)
          have HO5 : Hid (RdK encL 5 Z Z.heap.size (.slice (some ⟨w4.heap.size + 1 + 1, 0, none⟩) 1 1) [l]) := hide (by
            rw [hZ]
            exact rd_litL_at (by simp) [l] 25 1)
          have HO6 := hide ((HO4.out.below hbz).mono hbz.size)
          have K6 := hide (K4.out.trans (hbz.mono (by omega)))
          have hsz : n + 2 ≤ Z.heap.size := by have := hbz.size; omega
          have HSA := hide (rSameL_any HO6.out HO5.out (by omega) (Nat.le_refl _) (Nat.le_refl _))
          rw [decide_eq_true HQ.out] at HSA
          generalize w4.heap.size + 1 + 1 = g5 at *
          clear hZ hbz HO4 HO5 HO6 K4 HL4 HP4 l0 l1 l2 l3 l4 p0 p1 p2 q0 q1 q2 q3 HQ
          refine HSA.out.mono ?_
          rintro e w7 ⟨rfl, hb⟩
          have K7 := hide (K6.out.trans (hb.mono (by omega)))
          have hs7 : n + 2 ≤ w7.heap.size := by have := hb.size; omega
          clear hb HSA K6
          go_wp2_with (fail)
          refine (HAL.out _).mono ?_
          rintro e w8 ⟨rfl, hb⟩
          have K8 := hide (K7.out.trans (hb.mono (by omega)))
          clear hb
          go_wp2_with (fail)
          go_ret
          exact ⟨rfl, by rw [HN.out]; exact K8.out⟩
    · have hR : splitR l p = ([], 4) := by unfold splitR; rw [if_pos h0, if_neg h4]
      rw [hR] at hS
      have HS : Hid (∀ W : World, Calls Try.prog 11 #[.agg #[.int .i64 l.r.x0, .int .i64 l.r.y0, .int .i64 l.r.x1, .int .i64 l.r.y1, .int .u8 l.f], .agg #[.int .i64 p.mf, .int .i64 p.ms, .int .i64 p.ma]] W (LotsRet W ([], 4))) := hide hS
      clear hS hR h0 hv h4 hf
      show Calls Try.prog _ #[.agg #[.int .i64 l.r.x0, .int .i64 l.r.y0, .int .i64 l.r.x1, .int .i64 l.r.y1, .int .u8 l.f], .agg #[.int .i64 p.mf, .int .i64 p.ms, .int .i64 p.ma]] w _
      go_enter Try.func8, Try.ntmps8
      go_wp2_with (fail)
      obtain ⟨W, hW⟩ : ∃ x, x = (w.alloc (.cells #[.int .i64 l.r.x0, .int .i64 l.r.y0, .int .i64 l.r.x1, .int .i64 l.r.y1, .int .u8 l.f] 25)).alloc (.cells #[.int .i64 p.mf, .int .i64 p.ms, .int .i64 p.ma] 27) := ⟨_, rfl⟩
      rw [← hW]
      have hb0 : Below w.heap.size w W := by rw [hW]; exact ((Below.refl _ _).alloc (Nat.le_refl _) _).alloc (by simp) _
      have hs0 : w.heap.size + 2 ≤ W.heap.size := by rw [hW]; simp
      have HL : Box5L W w.heap.size l := by rw [hW]; refine ⟨?_, ?_, ?_, ?_, ?_, ?_, ?_, ?_, ?_, ?_⟩ <;> simp [go_sem]
      have HP : Box3 W (w.heap.size + 1) (.int .i64 p.mf) (.int .i64 p.ms) (.int .i64 p.ma) := by rw [hW]; refine ⟨?_, ?_, ?_⟩ <;> simp [go_sem]
      obtain ⟨n, hn⟩ : ∃ n, w.heap.size = n := ⟨_, rfl⟩
      have HN := hide hn
      rw [hn] at hb0 hs0 HL HP ⊢
      have K0 := hide hb0
      clear hW hb0 hn
      refine (HV1.out _).mono ?_
      rintro e w1 ⟨rfl, hb⟩
      have HL1 := HL.below hb
      have HP1 := HP.below hb
      have hs1 : n + 2 ≤ w1.heap.size := Nat.le_trans hs0 hb.size
      have K1 := hide (K0.out.trans (hb.mono (by omega)))
      clear hb HL HP K0 hs0
      try clear l0 l1 l2 l3 l4 p0 p1 p2
      obtain ⟨l0, l1, l2, l3, l4, -, -, -, -, -⟩ := id HL1
      obtain ⟨p0, p1, p2⟩ := id HP1
      go_wp2_with (fail)
      refine (HS.out _).mono ?_
      rintro e w2 ⟨⟨A1, c1, rfl, ho⟩, hb⟩
      clear ho
      have HL2 := HL1.below hb
      have HP2 := HP1.below hb
      have hs2 : n + 2 ≤ w2.heap.size := Nat.le_trans hs1 hb.size
      have K2 := hide (K1.out.trans (hb.mono (by omega)))
      clear hb HL1 HP1 K1 hs1
      try clear l0 l1 l2 l3 l4 p0 p1 p2
      go_wp2_with (fail)
      refine (HAL.out _).mono ?_
      rintro e w3 ⟨rfl, hb⟩
      have K3 := hide (K2.out.trans (hb.mono (by omega)))
      clear hb HL2 HP2
      go_wp2_with (fail)
      go_ret
      exact ⟨rfl, by rw [HN.out]; exact K3.out⟩
  · have hck : (checkL l p == 0) = false := by simpa using h0
    rw [hck] at HV
    have HV1 : Hid (∀ W : World, Calls Try.prog 14 #[.agg #[.int .i64 l.r.x0, .int .i64 l.r.y0, .int .i64 l.r.x1, .int .i64 l.r.y1, .int .u8 l.f], .agg #[.int .i64 p.mf, .int .i64 p.ms, .int .i64 p.ma]] W fun e w' => e = .returned (.bool false) ∧ Below W.heap.size W w') := hide HV.out
    clear HV hck h0 hf
    show Calls Try.prog _ #[.agg #[.int .i64 l.r.x0, .int .i64 l.r.y0, .int .i64 l.r.x1, .int .i64 l.r.y1, .int .u8 l.f], .agg #[.int .i64 p.mf, .int .i64 p.ms, .int .i64 p.ma]] w _
    go_enter Try.func8, Try.ntmps8
    go_wp2_with (fail)
    obtain ⟨W, hW⟩ : ∃ x, x = (w.alloc (.cells #[.int .i64 l.r.x0, .int .i64 l.r.y0, .int .i64 l.r.x1, .int .i64 l.r.y1, .int .u8 l.f] 25)).alloc (.cells #[.int .i64 p.mf, .int .i64 p.ms, .int .i64 p.ma] 27) := ⟨_, rfl⟩
    rw [← hW]
    have hb0 : Below w.heap.size w W := by rw [hW]; exact ((Below.refl _ _).alloc (Nat.le_refl _) _).alloc (by simp) _
    have hs0 : w.heap.size + 2 ≤ W.heap.size := by rw [hW]; simp
    have HL : Box5L W w.heap.size l := by rw [hW]; refine ⟨?_, ?_, ?_, ?_, ?_, ?_, ?_, ?_, ?_, ?_⟩ <;> simp [go_sem]
    have HP : Box3 W (w.heap.size + 1) (.int .i64 p.mf) (.int .i64 p.ms) (.int .i64 p.ma) := by rw [hW]; refine ⟨?_, ?_, ?_⟩ <;> simp [go_sem]
    obtain ⟨n, hn⟩ : ∃ n, w.heap.size = n := ⟨_, rfl⟩
    have HN := hide hn
    rw [hn] at hb0 hs0 HL HP ⊢
    have K0 := hide hb0
    clear hW hb0 hn
    refine (HV1.out _).mono ?_
    rintro e w1 ⟨rfl, hb⟩
    have HL1 := HL.below hb
    have HP1 := HP.below hb
    have hs1 : n + 2 ≤ w1.heap.size := Nat.le_trans hs0 hb.size
    have K1 := hide (K0.out.trans (hb.mono (by omega)))
    clear hb HL HP K0 hs0
    try clear l0 l1 l2 l3 l4 p0 p1 p2
    go_wp2_with (fail)
    refine (HAL.out _).mono ?_
    rintro e w2 ⟨rfl, hb⟩
    have K2 := hide (K1.out.trans (hb.mono (by omega)))
    clear hb HL1 HP1
    go_wp2_with (fail)
    go_ret
    exact ⟨rfl, by rw [HN.out]; exact K2.out⟩
set_option maxRecDepth 100000 in
set_option maxHeartbeats 16000000 in
theorem ends_some (l : Lot5) (p : Pl3) (hf : 0 ≤ l.f ∧ l.f ≤ 255) {a b : Lot5} (hc : cutL p l = some (a, b)) (w : World) : Calls Try.prog 8 #[.agg (encL l).toArray, .agg (encP p).toArray] w fun e w' => e = .returned (.bool true) ∧ Below w.heap.size w w' := by
  have HV := hide (fun W => valid24_any l p hf W)
  have HAL := hide (fun W => alive24_any W)
  by_cases h0 : checkL l p = 0
  · have hv := checkL_valid h0
    have hS := fun W => psplit_any l p hf W
    rw [h0] at HV
    have HV1 : Hid (∀ W : World, Calls Try.prog 14 #[.agg #[.int .i64 l.r.x0, .int .i64 l.r.y0, .int .i64 l.r.x1, .int .i64 l.r.y1, .int .u8 l.f], .agg #[.int .i64 p.mf, .int .i64 p.ms, .int .i64 p.ma]] W fun e w' => e = .returned (.bool true) ∧ Below W.heap.size W w') := hide HV.out
    clear HV
    by_cases h4 : (leaves p l).length ≤ 400
    · have hR : splitR l p = (leaves p l, 0) := by unfold splitR; rw [if_pos h0, if_pos h4]
      rw [hR] at hS
      have HVL := hide (fun x hx => leaves_valid (p := p) hv x hx)
      have HCX : Hid (∀ x ∈ leaves p l, ∀ W : World, Calls Try.prog 23 #[.agg #[.int .i64 x.r.x0, .int .i64 x.r.y0, .int .i64 x.r.x1, .int .i64 x.r.y1, .int .u8 x.f], .agg #[.int .i64 p.mf, .int .i64 p.ms, .int .i64 p.ma]] W fun e w' => e = .returned (.tuple #[.agg #[.int .i64 0, .int .i64 0, .int .i64 0, .int .i64 0, .int .u8 0], .agg #[.int .i64 0, .int .i64 0, .int .i64 0, .int .i64 0, .int .u8 0], .int .i64 6]) ∧ Below W.heap.size W w') := hide (fun x hx W => by
        have := pcut_any x p (by have := (leaves_valid hv x hx).2; omega) W
        rw [cutE_none (check_of h0 (leaves_valid hv x hx)) (leaves_end p l x hx)] at this
        exact this)
      have hCL := fun W => pcut_any l p hf W
      rw [cutE_some h0 hc] at hCL
      have HCL : Hid (∀ W : World, Calls Try.prog 23 #[.agg #[.int .i64 l.r.x0, .int .i64 l.r.y0, .int .i64 l.r.x1, .int .i64 l.r.y1, .int .u8 l.f], .agg #[.int .i64 p.mf, .int .i64 p.ms, .int .i64 p.ma]] W fun e w' => e = .returned (.tuple #[.agg #[.int .i64 a.r.x0, .int .i64 a.r.y0, .int .i64 a.r.x1, .int .i64 a.r.y1, .int .u8 a.f], .agg #[.int .i64 b.r.x0, .int .i64 b.r.y0, .int .i64 b.r.x1, .int .i64 b.r.y1, .int .u8 b.f], .int .i64 0]) ∧ Below W.heap.size W w') := hide hCL
      have hQ := leaves_some hc
      have hga := (cutL_some hc).2.1.1
      have hgb := (cutL_some hc).2.2.1.1
      have h4a : (leaves p a).length ≤ 400 := by rw [hQ, List.length_append] at h4; omega
      have h4b : (leaves p b).length ≤ 400 := by rw [hQ, List.length_append] at h4; omega
      have hsa := fun W => psplit_any a p (by have := hga.2; omega) W
      have hsb := fun W => psplit_any b p (by have := hgb.2; omega) W
      rw [splitR_ok (check_of h0 hga) h4a] at hsa
      rw [splitR_ok (check_of h0 hgb) h4b] at hsb
      have HQ := hide hQ
      clear hCL hc hQ hga hgb
      generalize leaves p l = Q at *
      generalize leaves p a = QA at *
      generalize leaves p b = QB at *
      have HSPA : Hid (∀ W : World, Calls Try.prog 11 #[.agg #[.int .i64 a.r.x0, .int .i64 a.r.y0, .int .i64 a.r.x1, .int .i64 a.r.y1, .int .u8 a.f], .agg #[.int .i64 p.mf, .int .i64 p.ms, .int .i64 p.ma]] W (LotsRet W (QA, 0))) := hide hsa
      have HSPB : Hid (∀ W : World, Calls Try.prog 11 #[.agg #[.int .i64 b.r.x0, .int .i64 b.r.y0, .int .i64 b.r.x1, .int .i64 b.r.y1, .int .u8 b.f], .agg #[.int .i64 p.mf, .int .i64 p.ms, .int .i64 p.ma]] W (LotsRet W (QB, 0))) := hide hsb
      clear hsa hsb
      have HS : Hid (∀ W : World, Calls Try.prog 11 #[.agg #[.int .i64 l.r.x0, .int .i64 l.r.y0, .int .i64 l.r.x1, .int .i64 l.r.y1, .int .u8 l.f], .agg #[.int .i64 p.mf, .int .i64 p.ms, .int .i64 p.ma]] W (LotsRet W (Q, 0))) := hide hS
      clear hS hR h0 hv hf
      show Calls Try.prog _ #[.agg #[.int .i64 l.r.x0, .int .i64 l.r.y0, .int .i64 l.r.x1, .int .i64 l.r.y1, .int .u8 l.f], .agg #[.int .i64 p.mf, .int .i64 p.ms, .int .i64 p.ma]] w _
      go_enter Try.func8, Try.ntmps8
      go_wp2_with (fail)
      obtain ⟨W, hW⟩ : ∃ x, x = (w.alloc (.cells #[.int .i64 l.r.x0, .int .i64 l.r.y0, .int .i64 l.r.x1, .int .i64 l.r.y1, .int .u8 l.f] 25)).alloc (.cells #[.int .i64 p.mf, .int .i64 p.ms, .int .i64 p.ma] 27) := ⟨_, rfl⟩
      rw [← hW]
      have hb0 : Below w.heap.size w W := by rw [hW]; exact ((Below.refl _ _).alloc (Nat.le_refl _) _).alloc (by simp) _
      have hs0 : w.heap.size + 2 ≤ W.heap.size := by rw [hW]; simp
      have HL : Box5L W w.heap.size l := by rw [hW]; refine ⟨?_, ?_, ?_, ?_, ?_, ?_, ?_, ?_, ?_, ?_⟩ <;> simp [go_sem]
      have HP : Box3 W (w.heap.size + 1) (.int .i64 p.mf) (.int .i64 p.ms) (.int .i64 p.ma) := by rw [hW]; refine ⟨?_, ?_, ?_⟩ <;> simp [go_sem]
      obtain ⟨n, hn⟩ : ∃ n, w.heap.size = n := ⟨_, rfl⟩
      have HN := hide hn
      rw [hn] at hb0 hs0 HL HP ⊢
      have K0 := hide hb0
      clear hW hb0 hn
      refine (HV1.out _).mono ?_
      rintro e w1 ⟨rfl, hb⟩
      have HL1 := HL.below hb
      have HP1 := HP.below hb
      have hs1 : n + 2 ≤ w1.heap.size := Nat.le_trans hs0 hb.size
      have K1 := hide (K0.out.trans (hb.mono (by omega)))
      clear hb HL HP K0 hs0
      try clear l0 l1 l2 l3 l4 p0 p1 p2
      obtain ⟨l0, l1, l2, l3, l4, -, -, -, -, -⟩ := id HL1
      obtain ⟨p0, p1, p2⟩ := id HP1
      go_wp2_with (fail)
      refine (HS.out _).mono ?_
      rintro e w2 ⟨⟨A1, c1, rfl, ho⟩, hb⟩
      have HL2 := HL1.below hb
      have HP2 := HP1.below hb
      have hs2 : n + 2 ≤ w2.heap.size := Nat.le_trans hs1 hb.size
      have K2 := hide (K1.out.trans (hb.mono (by omega)))
      have HO2 : Hid (RdK encL 5 w2 w2.heap.size (.slice A1 Q.length c1) Q) := hide (own_rd ho (fun _ => rfl))
      clear ho HV1 HS
      clear hb HL1 HP1 K1 hs1
      try clear l0 l1 l2 l3 l4 p0 p1 p2
      obtain ⟨l0, l1, l2, l3, l4, -, -, -, -, -⟩ := id HL2
      obtain ⟨p0, p1, p2⟩ := id HP2
      clear l0 l1 l2 l3 l4 p0 p1 p2
      go_wp2_with (fail)
      go_loopw [7] (fun i wr => ∃ m : Nat, m ≤ Q.length ∧ i = .int .i64 m ∧ Hid (Below w2.heap.size w2 wr)) (fun i _ => Q.length - (intOf i).toNat)
      case atStart => exact ⟨0, Nat.zero_le _, rfl, hide (Below.refl _ _)⟩
      case round =>
        obtain ⟨m, hm, rfl, HB⟩ := hrel
        have hsw := HB.out.size
        by_cases hlt : m < Q.length
        · obtain ⟨x, hx⟩ : ∃ x, Q[m]? = some x := ⟨_, List.getElem?_eq_getElem hlt⟩
          obtain ⟨b, o, rfl, hbl, k⟩ := HO2.out.cells5 (by intro e; rw [e] at hlt; simp at hlt)
          have d0 : wr.cell? ⟨b, o + m * 5, none⟩ = some (.int .i64 x.r.x0) := (HB.out.cell (p := ⟨b, _, none⟩) hbl).trans (k m _ hx 0 _ rfl)
          have d1 : wr.cell? ⟨b, o + m * 5 + 1, none⟩ = some (.int .i64 x.r.y0) := (HB.out.cell (p := ⟨b, _, none⟩) hbl).trans (k m _ hx 1 _ rfl)
          have d2 : wr.cell? ⟨b, o + m * 5 + 2, none⟩ = some (.int .i64 x.r.x1) := (HB.out.cell (p := ⟨b, _, none⟩) hbl).trans (k m _ hx 2 _ rfl)
          have d3 : wr.cell? ⟨b, o + m * 5 + 3, none⟩ = some (.int .i64 x.r.y1) := (HB.out.cell (p := ⟨b, _, none⟩) hbl).trans (k m _ hx 3 _ rfl)
          have d4 : wr.cell? ⟨b, o + m * 5 + 4, none⟩ = some (.int .u8 x.f) := (HB.out.cell (p := ⟨b, _, none⟩) hbl).trans (k m _ hx 4 _ rfl)
          have mz : (m : Int) < (Q.length : Int) := by omega
          have HX := hide hx
          clear k hx
          have HC := hide (HCX.out x (List.mem_of_getElem? HX.out))
          obtain ⟨p0, p1, p2⟩ := HP2.below HB.out
          have q0 : b < wr.heap.size := by omega
          have q1 : n + 1 < wr.heap.size := by omega
          have HK : Hid (Keep8 b (o + m * 5) (n + 1) x p wr) := hide ⟨⟨d0, d1, d2, d3, d4⟩, p0, p1, p2⟩
          clear HCX HX
          go_wp2_with (fail)
          go_cut [10] (fun s10 wx => s10 = .int .i64 6 ∧ Below wr.heap.size wr wx)
          case first =>
            go_region_held3 (fun w' => (w'.cell? ⟨b, o + m * 5, none⟩ = some (.int .i64 x.r.x0) ∧ w'.cell? ⟨b, o + m * 5 + 1, none⟩ = some (.int .i64 x.r.y0) ∧ w'.cell? ⟨b, o + m * 5 + 2, none⟩ = some (.int .i64 x.r.x1) ∧ w'.cell? ⟨b, o + m * 5 + 3, none⟩ = some (.int .i64 x.r.y1) ∧ w'.cell? ⟨b, o + m * 5 + 4, none⟩ = some (.int .u8 x.f)) ∧ w'.cell? ⟨n + 1, 0, none⟩ = some (.int .i64 p.mf) ∧ w'.cell? ⟨n + 1, 1, none⟩ = some (.int .i64 p.ms) ∧ w'.cell? ⟨n + 1, 2, none⟩ = some (.int .i64 p.ma)) ((refine HK.out.below (B := wr.heap.size) ?_ q0 q1; repeat (first | with_reducible exact Below.refl _ _ | with_reducible exact hbK | with_reducible refine Below.setCell ?_ (by first | omega | (simp; done) | (simp; omega)) _ | with_reducible refine Below.alloc ?_ (by first | omega | (simp; omega) | simp) _ | with_reducible refine Below.drew ?_)))
              (first
                | (go_at_call 23; refine (HC.out _).mono ?_; rintro e w10 ⟨rfl, hb10⟩; have hbK : Below wr.heap.size wr w10 := Below.trans (by repeat (first | with_reducible exact Below.refl _ _ | with_reducible refine Below.alloc ?_ (by first | omega | (simp; omega) | simp) _ | with_reducible refine Below.drew ?_)) (hb10.mono (by simp <;> omega)); have hsK := hbK.size; obtain ⟨hcK, hfK⟩ := bcell hb10; (try have z0 : wr.heap.size < w10.heap.size := by have := hb10.size; simp at this; omega); (try have z1 : wr.heap.size + 1 < w10.heap.size := by have := hb10.size; simp at this; omega); (try have y0 : ¬ wr.heap.size = w10.heap.size := by omega); (try have y1 : ¬ w10.heap.size = wr.heap.size := by omega); clear hb10))
            all_goals (go_wp2_with (fail); go_meet)
            all_goals
              refine ⟨rfl, ?_⟩
              repeat (first | with_reducible exact Below.refl _ _ | with_reducible exact hbK | with_reducible refine Below.setCell ?_ (by first | omega | (simp; done) | (simp; omega)) _ | with_reducible refine Below.alloc ?_ (by first | omega | (simp; omega) | simp) _ | with_reducible refine Below.drew ?_)
          case rest =>
            obtain ⟨rfl, hb⟩ := hcut
            have HB2 : Hid (Below w2.heap.size w2 wc) := hide (HB.out.trans (hb.mono hsw))
            clear hb HK HB d0 d1 d2 d3 d4 p0 p1 p2
            go_wp2_with (fail)
            go_roundw
            case rel => exact ⟨m + 1, by omega, by go_num, HB2⟩
            case measure => simp [intOf]; omega
        · obtain rfl : m = Q.length := by omega
          have mz : ¬ ((Q.length : Nat) : Int) < (Q.length : Int) := by omega
          have HL3 := HL2.below HB.out
          have HP3 := HP2.below HB.out
          have K3 := hide (K2.out.trans (HB.out.mono (by omega)))
          have hs3 : n + 2 ≤ wr.heap.size := by omega
          have HO3 := hide ((HO2.out.below HB.out).mono HB.out.size)
          obtain ⟨l0, l1, l2, l3, l4, -, -, -, -, -⟩ := id HL3
          obtain ⟨p0, p1, p2⟩ := id HP3
          clear HL2 HP2 K2 hs2 HO2 HB hsw HCX HVL
          go_wp2_with (fail)
          refine (HCL.out _).mono ?_
          rintro e w4 ⟨rfl, hb⟩
          have HL4 := HL3.below hb
          have HP4 := HP3.below hb
          have hs4 : n + 2 ≤ w4.heap.size := Nat.le_trans hs3 hb.size
          have K4 := hide (K3.out.trans (hb.mono (by omega)))
          have HO4 := hide ((HO3.out.below hb).mono hb.size)
          clear hb HL3 HP3 K3 hs3 HO3 HCL l0 l1 l2 l3 l4 p0 p1 p2
          obtain ⟨l0, l1, l2, l3, l4, -, -, -, -, -⟩ := id HL4
          obtain ⟨p0, p1, p2⟩ := id HP4
          have q0 : n < w4.heap.size := by omega
          have q1 : n < w4.heap.size + 1 := by omega
          have q2 : n + 1 < w4.heap.size := by omega
          have q3 : n + 1 < w4.heap.size + 1 := by omega
          go_wp2_with (fail)
          refine calls_name fun Z hZ => ?_
          have hbz : Below w4.heap.size w4 Z := by
            rw [hZ]
            repeat (first | with_reducible exact Below.refl _ _ | with_reducible refine Below.setCell ?_ (by first | (simp; done) | (simp; omega)) _ | with_reducible refine Below.alloc ?_ (by first | omega | (simp; omega) | simp) _)
          have HX5 : Box5L Z w4.heap.size a := by rw [hZ]; refine ⟨?_, ?_, ?_, ?_, ?_, ?_, ?_, ?_, ?_, ?_⟩ <;> simp [go_sem]
          have HY5 : Box5L Z (w4.heap.size + 1) b := by rw [hZ]; refine ⟨?_, ?_, ?_, ?_, ?_, ?_, ?_, ?_, ?_, ?_⟩ <;> simp [go_sem]
          have HP5 := HP4.below hbz
          have HO5 := hide ((HO4.out.below hbz).mono hbz.size)
          have K5 := hide (K4.out.trans (hbz.mono (by omega)))
          have hs5 : n + 2 ≤ Z.heap.size := by have := hbz.size; omega
          obtain ⟨g, hg⟩ : ∃ g, w4.heap.size = g := ⟨_, rfl⟩
          rw [hg] at HX5 HY5 hs4 ⊢
          clear hZ hbz HO4 K4 HL4 HP4 l0 l1 l2 l3 l4 p0 p1 p2 q0 q1 q2 q3 hg
          refine (HSPA.out _).mono ?_
          rintro e w6 ⟨⟨A6, c6, rfl, ho⟩, hb⟩
          have HOA : Hid (RdK encL 5 w6 w6.heap.size (.slice A6 QA.length c6) QA) := hide (own_rd ho (fun _ => rfl))
          have HY6 := HY5.below hb
          have HP6 := HP5.below hb
          have HO6 := hide ((HO5.out.below hb).mono hb.size)
          have K6 := hide (K5.out.trans (hb.mono (by omega)))
          have hs6 : n + 2 ≤ w6.heap.size := by have := hb.size; omega
          clear hb ho HX5 HY5 HP5 HO5 K5 HSPA hs5
          obtain ⟨y0, y1, y2, y3, y4, -, -, -, -, -⟩ := id HY6
          obtain ⟨p0, p1, p2⟩ := id HP6
          go_wp2_with (fail)
          refine (HSPB.out _).mono ?_
          rintro e w7 ⟨⟨A7, c7, rfl, ho⟩, hb⟩
          have HOB : Hid (RdK encL 5 w7 w7.heap.size (.slice A7 QB.length c7) QB) := hide (own_rd ho (fun _ => rfl))
          have HOA7 := hide ((HOA.out.below hb).mono hb.size)
          have HO7 := hide ((HO6.out.below hb).mono hb.size)
          have K7 := hide (K6.out.trans (hb.mono (by omega)))
          have hs7 : n + 2 ≤ w7.heap.size := by have := hb.size; omega
          clear hb ho HY6 HP6 HO6 K6 HSPB hs6 HOA y0 y1 y2 y3 y4 p0 p1 p2
          obtain ⟨i1, gi, gz0, gz1, gz2⟩ := info_parts infoLot
          have hbz : Below w7.heap.size w7 (w7.alloc (.cells #[] 25)) := (Below.refl _ _).alloc (Nat.le_refl _) _
          have HR0 : Hid ((w7.alloc (.cells #[] 25)).ownsRow w7.heap.size 25 5 (.slice (some ⟨w7.heap.size, 0, none⟩) 0 0) 0 []) := hide ⟨by simp, .inr ⟨w7.heap.size, 0, #[], rfl, Nat.le_refl _, World.alloc_heap_new _ _, Nat.le_refl _, by simp [maxLen], by simp, by simp⟩⟩
          have HOA8 := hide (HOA7.out.below hbz)
          have hs8 : n + 2 ≤ w7.heap.size := hs7
          go_wp2_with (at_builtin; go_loud (refine wpList_app_rd_g (enc := encL) (k := 5) (l := QA) rfl (fun _ => rfl) one_encL (.tmp 93) (.tmp 94) 28 rfl w7.heap.size 25 i1 (.agg #[.int .i64 0, .int .i64 0, .int .i64 0, .int .i64 0, .int .u8 0]) 40 Try.underlying28 gi gz0 gz1 gz2 rfl (by decide) (.slice (some ⟨w7.heap.size, 0, none⟩) 0 0) 0 [] rfl HR0.out w7.heap.size HOA8.out (by unfold maxLen; omega) (by omega) (by simp) ?_))
          intro v9 w9 hown hgrow
          have HB9 : Hid (Below w7.heap.size w7 w9) := hide (hbz.grown hgrow (by simp) (fun q hq => (HR0.out.lt q hq).1))
          have HR9 : Hid (w9.ownsRow w7.heap.size 25 5 v9 QA.length (QA.flatMap encL)) := hide (by simpa using hown)
          have HOB9 := hide (HOB.out.below HB9.out)
          clear hown hgrow HR0 HOA7 HOA8 HOB hbz
          have hsz9 := HB9.out.size
          go_wp2_with (at_builtin; go_loud (refine wpList_app_rd_g (enc := encL) (k := 5) (l := QB) rfl (fun _ => rfl) one_encL (.tmp 95) (.tmp 96) 28 rfl w7.heap.size 25 i1 (.agg #[.int .i64 0, .int .i64 0, .int .i64 0, .int .i64 0, .int .u8 0]) 40 Try.underlying28 gi gz0 gz1 gz2 rfl (by decide) v9 QA.length _ rfl HR9.out w7.heap.size HOB9.out (by unfold maxLen; omega) (by omega) (by omega) ?_))
          intro v10 w10 hown hgrow
          have HB10 : Hid (Below w7.heap.size w7 w10) := hide (HB9.out.grown hgrow hsz9 (fun q hq => (HR9.out.lt q hq).1))
          have HR10 : Hid (w10.ownsRow w7.heap.size 25 5 v10 (QA ++ QB).length ((QA ++ QB).flatMap encL)) := hide (by rw [List.length_append, List.flatMap_append]; exact hown)
          have HO10 := hide ((HO7.out.below HB10.out).mono HB10.out.size)
          have K10 := hide (K7.out.trans (HB10.out.mono (by omega)))
          have hs10 : n + 2 ≤ w10.heap.size := by have := HB10.out.size; omega
          clear hown hgrow HR9 HOB9 HB9 hsz9 HO7 K7 HB10
          have HSA := hide (rSameL_any (own_rd HR10.out (fun _ => rfl)) HO10.out (by rw [List.length_append]; omega) (Nat.le_refl _) (Nat.le_refl _))
          rw [decide_eq_true HQ.out.symm] at HSA
          clear HR10 HO10 HQ
          go_wp2_with (fail)
          refine HSA.out.mono ?_
          rintro e w11 ⟨rfl, hb⟩
          have K11 := hide (K10.out.trans (hb.mono (by omega)))
          have hs11 : n + 2 ≤ w11.heap.size := by have := hb.size; omega
          clear hb HSA K10
          go_wp2_with (fail)
          refine (HAL.out _).mono ?_
          rintro e w12 ⟨rfl, hb⟩
          have K12 := hide (K11.out.trans (hb.mono (by omega)))
          clear hb
          go_wp2_with (fail)
          go_ret
          exact ⟨rfl, by rw [HN.out]; exact K12.out⟩
    · have hR : splitR l p = ([], 4) := by unfold splitR; rw [if_pos h0, if_neg h4]
      rw [hR] at hS
      have HS : Hid (∀ W : World, Calls Try.prog 11 #[.agg #[.int .i64 l.r.x0, .int .i64 l.r.y0, .int .i64 l.r.x1, .int .i64 l.r.y1, .int .u8 l.f], .agg #[.int .i64 p.mf, .int .i64 p.ms, .int .i64 p.ma]] W (LotsRet W ([], 4))) := hide hS
      clear hS hR h0 hv h4 hf
      show Calls Try.prog _ #[.agg #[.int .i64 l.r.x0, .int .i64 l.r.y0, .int .i64 l.r.x1, .int .i64 l.r.y1, .int .u8 l.f], .agg #[.int .i64 p.mf, .int .i64 p.ms, .int .i64 p.ma]] w _
      go_enter Try.func8, Try.ntmps8
      go_wp2_with (fail)
      obtain ⟨W, hW⟩ : ∃ x, x = (w.alloc (.cells #[.int .i64 l.r.x0, .int .i64 l.r.y0, .int .i64 l.r.x1, .int .i64 l.r.y1, .int .u8 l.f] 25)).alloc (.cells #[.int .i64 p.mf, .int .i64 p.ms, .int .i64 p.ma] 27) := ⟨_, rfl⟩
      rw [← hW]
      have hb0 : Below w.heap.size w W := by rw [hW]; exact ((Below.refl _ _).alloc (Nat.le_refl _) _).alloc (by simp) _
      have hs0 : w.heap.size + 2 ≤ W.heap.size := by rw [hW]; simp
      have HL : Box5L W w.heap.size l := by rw [hW]; refine ⟨?_, ?_, ?_, ?_, ?_, ?_, ?_, ?_, ?_, ?_⟩ <;> simp [go_sem]
      have HP : Box3 W (w.heap.size + 1) (.int .i64 p.mf) (.int .i64 p.ms) (.int .i64 p.ma) := by rw [hW]; refine ⟨?_, ?_, ?_⟩ <;> simp [go_sem]
      obtain ⟨n, hn⟩ : ∃ n, w.heap.size = n := ⟨_, rfl⟩
      have HN := hide hn
      rw [hn] at hb0 hs0 HL HP ⊢
      have K0 := hide hb0
      clear hW hb0 hn
      refine (HV1.out _).mono ?_
      rintro e w1 ⟨rfl, hb⟩
      have HL1 := HL.below hb
      have HP1 := HP.below hb
      have hs1 : n + 2 ≤ w1.heap.size := Nat.le_trans hs0 hb.size
      have K1 := hide (K0.out.trans (hb.mono (by omega)))
      clear hb HL HP K0 hs0
      try clear l0 l1 l2 l3 l4 p0 p1 p2
      obtain ⟨l0, l1, l2, l3, l4, -, -, -, -, -⟩ := id HL1
      obtain ⟨p0, p1, p2⟩ := id HP1
      go_wp2_with (fail)
      refine (HS.out _).mono ?_
      rintro e w2 ⟨⟨A1, c1, rfl, ho⟩, hb⟩
      clear ho
      have HL2 := HL1.below hb
      have HP2 := HP1.below hb
      have hs2 : n + 2 ≤ w2.heap.size := Nat.le_trans hs1 hb.size
      have K2 := hide (K1.out.trans (hb.mono (by omega)))
      clear hb HL1 HP1 K1 hs1
      try clear l0 l1 l2 l3 l4 p0 p1 p2
      go_wp2_with (fail)
      refine (HAL.out _).mono ?_
      rintro e w3 ⟨rfl, hb⟩
      have K3 := hide (K2.out.trans (hb.mono (by omega)))
      clear hb HL2 HP2
      go_wp2_with (fail)
      go_ret
      exact ⟨rfl, by rw [HN.out]; exact K3.out⟩
  · have hck : (checkL l p == 0) = false := by simpa using h0
    rw [hck] at HV
    have HV1 : Hid (∀ W : World, Calls Try.prog 14 #[.agg #[.int .i64 l.r.x0, .int .i64 l.r.y0, .int .i64 l.r.x1, .int .i64 l.r.y1, .int .u8 l.f], .agg #[.int .i64 p.mf, .int .i64 p.ms, .int .i64 p.ma]] W fun e w' => e = .returned (.bool false) ∧ Below W.heap.size W w') := hide HV.out
    clear HV hck h0 hf
    show Calls Try.prog _ #[.agg #[.int .i64 l.r.x0, .int .i64 l.r.y0, .int .i64 l.r.x1, .int .i64 l.r.y1, .int .u8 l.f], .agg #[.int .i64 p.mf, .int .i64 p.ms, .int .i64 p.ma]] w _
    go_enter Try.func8, Try.ntmps8
    go_wp2_with (fail)
    obtain ⟨W, hW⟩ : ∃ x, x = (w.alloc (.cells #[.int .i64 l.r.x0, .int .i64 l.r.y0, .int .i64 l.r.x1, .int .i64 l.r.y1, .int .u8 l.f] 25)).alloc (.cells #[.int .i64 p.mf, .int .i64 p.ms, .int .i64 p.ma] 27) := ⟨_, rfl⟩
    rw [← hW]
    have hb0 : Below w.heap.size w W := by rw [hW]; exact ((Below.refl _ _).alloc (Nat.le_refl _) _).alloc (by simp) _
    have hs0 : w.heap.size + 2 ≤ W.heap.size := by rw [hW]; simp
    have HL : Box5L W w.heap.size l := by rw [hW]; refine ⟨?_, ?_, ?_, ?_, ?_, ?_, ?_, ?_, ?_, ?_⟩ <;> simp [go_sem]
    have HP : Box3 W (w.heap.size + 1) (.int .i64 p.mf) (.int .i64 p.ms) (.int .i64 p.ma) := by rw [hW]; refine ⟨?_, ?_, ?_⟩ <;> simp [go_sem]
    obtain ⟨n, hn⟩ : ∃ n, w.heap.size = n := ⟨_, rfl⟩
    have HN := hide hn
    rw [hn] at hb0 hs0 HL HP ⊢
    have K0 := hide hb0
    clear hW hb0 hn
    refine (HV1.out _).mono ?_
    rintro e w1 ⟨rfl, hb⟩
    have HL1 := HL.below hb
    have HP1 := HP.below hb
    have hs1 : n + 2 ≤ w1.heap.size := Nat.le_trans hs0 hb.size
    have K1 := hide (K0.out.trans (hb.mono (by omega)))
    clear hb HL HP K0 hs0
    try clear l0 l1 l2 l3 l4 p0 p1 p2
    go_wp2_with (fail)
    refine (HAL.out _).mono ?_
    rintro e w2 ⟨rfl, hb⟩
    have K2 := hide (K1.out.trans (hb.mono (by omega)))
    clear hb HL1 HP1
    go_wp2_with (fail)
    go_ret
    exact ⟨rfl, by rw [HN.out]; exact K2.out⟩
theorem ends_walk (l : Lot5) (p : Pl3) (hf : 0 ≤ l.f ∧ l.f ≤ 255) (w : World) : Calls Try.prog 8 #[.agg (encL l).toArray, .agg (encP p).toArray] w fun e w' => e = .returned (.bool true) ∧ Below w.heap.size w w' := by
  cases hc : cutL p l with
  | none => exact ends_none l p hf hc w
  | some x => exact ends_some l p hf hc w
end Go.Proofs.Ytgdlbaabdebclaa

/- The last step from a walk to a given statement, for every law of the seat: the call returns true, and what lay in memory lies as it lay. -/
namespace Go.Proofs.Ytgdlbaabdebclaa
open Go.ChangeShapes Go.WideShapes Go.ChangeAt Go.RowKit Go.Joins Go.Deep
set_option linter.unusedVariables false
set_option linter.unusedSimpArgs false

theorem own : ownKnob Try.prog.godebug = none := by kernel_rfl
theorem laidOut : laidOutB Try.prog = true := by kernel_rfl

section
variable {H : Type} {enc : TypeId × Value → H}
theorem trodAll_carry {P : Program} (hl : laidOutB P = true) {W W' : World} (hb : Below W.heap.size W W') :
    ∀ (ts : List TypeId) (vs : List Value) (ds : List (DataW H)) (ps : List MemPlace), (ts.all fun t => P.readableRec t && decide (t < P.types.size)) = true →
      DataW.TrodAll enc P W 0 (fun _ => true) true ts vs ds ps → (∀ x ∈ ps, x.block < W.heap.size) → DataW.TrodAll enc P W' 0 (fun b => decide (b < W.heap.size)) true ts vs ds ps
  | [], [], [], ps, _, h, _ => h
  | [], [], _ :: _, _, _, h, _ => h.elim
  | [], _ :: _, _, _, _, h, _ => h.elim
  | _ :: _, [], _, _, _, h, _ => h.elim
  | _ :: _, _ :: _, [], _, _, h, _ => h.elim
  | t :: ts, v :: vs, d :: ds, ps, hr, h, hlt => by
    obtain ⟨p, q, h1, h2, rfl⟩ := h
    simp only [List.all_cons, Bool.and_eq_true, decide_eq_true_eq] at hr
    refine ⟨p, q, Below.trod hl hr.1.1 hr.1.2 h1 hb (fun x hx => hlt x (by simp [hx])), trodAll_carry hl hb ts vs ds q ?_ h2 (fun x hx => hlt x (by simp [hx])), rfl⟩
    simpa using hr.2

theorem law_post {P : Program} {f : Func} {s : ChangeSpec} {W W' : World} {args : Array Value} {ds gs : List (DataW H)} {before : List MemPlace} {tb : TypeId}
    (hl : laidOutB P = true) (hr : (f.params.toList.all fun t => P.readableRec t && decide (t < P.types.size)) = true) (hres : f.resultTypes = #[tb]) (hbool : P.underlying tb = some .bool)
    (hvars : s.vars = []) (hW : DataW.Whole enc P f.params.toList s.vars false W args.toList ds gs before)
    (hsr : (s.fn H (ds ++ gs)).results = [.lit (.bool true)]) (hsa : (s.fn H (ds ++ gs)).args = ds) (hsv : (s.fn H (ds ++ gs)).vars = [])
    (hb : Below W.heap.size W W') : s.post enc P f false true false false W args (.bool true) W' := by
  have hlt : ∀ p ∈ before, p.block < W.heap.size := fun p hp => hW.lt p hp
  have hW0 := hW
  obtain ⟨p, q, hA, hV, rfl, hz, hn⟩ := hW
  refine ⟨ds, gs, p ++ q, [], p, [], hW0, ?_, ?_, ?_, hb.frame _, fun h => by cases h⟩
  · rw [hsr, hres]
    exact trodAll_mk1 (shut_bool hbool true)
  · rw [hsa]
    exact trodAll_carry hl hb _ _ _ _ hr hA (fun x hx => hlt x (by simp [hx]))
  · rw [hsv, hvars]
    rfl
end
end Go.Proofs.Ytgdlbaabdebclaa

/- An argument that is a list of structs of ints, read as a list. -/
namespace Go.Proofs.Ytgdlbaabdebclaa
open Go.ChangeShapes Go.WideShapes Go.ChangeAt Go.RowKit Go.Joins Go.Deep
set_option linter.unusedVariables false
set_option linter.unusedSimpArgs false

section
variable {H : Type} {enc : TypeId × Value → H} {P : Program} {w : World} {base : Nat} {spare : Nat → Bool} {held : Bool}
/-- The fields of a struct of ints: each one cell, an int. -/
theorem trod_int_fields {t : TypeId} {fs : Array Field} {n : Nat} {cs : List Value} {y : DataW H × List MemPlace} (he : P.underlying t = some (.struct fs)) (hone : oneCellFields P fs = true) (hint : ∀ (j : Nat) (f : Field), fs[j]? = some f → P.underlying f.type = some (.int .i64))
    (hl : cs.length = fs.size) (h : DataW.trod enc P w base spare held n t cs = some y) : ∀ j, j < fs.size → ∃ z : Int, cs[j]? = some (.int .i64 z) := by
  obtain ⟨ys, n', _, _, _, hyl, hf⟩ := DataW.trod_struct he h
  intro j hj
  have hjf : fs[j]? = some fs[j] := Array.getElem?_eq_getElem hj
  obtain ⟨ho, hk⟩ := hone_of hone j _ hjf
  have h1 := hf j _ hjf
  rw [ho, hk] at h1
  have hd : (cs.drop j).take 1 = [cs[j]'(by omega)] := by rw [List.drop_eq_getElem_cons (by omega)]; rfl
  rw [hd] at h1
  have hy : ys[j]? = some (ys[j]'(by omega)) := List.getElem?_eq_getElem (by omega)
  rw [hy] at h1
  obtain ⟨z, hz, _⟩ := DataW.trod_int (hint j _ hjf) h1
  have hz' : cs[j]'(by omega) = .int .i64 z := by simpa using hz
  exact ⟨z, by rw [List.getElem?_eq_getElem (by omega), hz']⟩
/-- A slice of structs of k ints: its cells. -/
theorem trod_rows {t e : TypeId} {fs : Array Field} {v : Value} {d : DataW H} {p : List MemPlace} {r : Reach} {b0 : Nat} (ht : P.underlying t = some (.slice e)) (he : P.underlying e = some (.struct fs)) (hone : oneCellFields P fs = true)
    (hint : ∀ (j : Nat) (f : Field), fs[j]? = some f → P.underlying f.type = some (.int .i64)) (hC : P.cellsOf e = fs.size) (hk : 0 < fs.size) (hv : Value.okWide P w r b0 t v) (h : DataW.Trod enc P w base spare held t v d p) :
    ∃ (A : Option Addr) (n c : Nat) (F : Nat → Nat → Int), v = .slice A n c ∧ n ≤ maxLen ∧ (0 < n → ∃ b off, A = some ⟨b, off, none⟩ ∧ b < w.heap.size ∧ ∀ i j, i < n → j < fs.size → w.cell? ⟨b, off + i * fs.size + j, none⟩ = some (.int .i64 (F i j))) := by
  obtain ⟨A, n, c, rfl⟩ := okWide_slice ht hv
  obtain ⟨fuel, hf⟩ := h
  rcases open_slice ht hf with ⟨hcs, _⟩ | ⟨a, len, cap, m, nn, D, Pl, hcs, hb, hl, hm, hmm, hx, hi⟩
  · simp [Value.cells] at hcs
    obtain ⟨rfl, rfl, rfl⟩ := hcs
    exact ⟨none, 0, 0, fun _ _ => 0, rfl, Nat.zero_le _, fun h => absurd h (Nat.lt_irrefl 0)⟩
  · simp [Value.cells] at hcs
    obtain ⟨rfl, rfl, rfl⟩ := hcs
    have hlm : n ≤ m := by rw [hmm]; split <;> omega
    have key : ∀ i, i < n → ∀ j, j < fs.size → ∃ z : Int, w.cell? (a.add (i * fs.size + j)) = some (.int .i64 z) := by
      intro i hin j hj
      obtain ⟨cs', hc, ht'⟩ := hi i (by omega)
      rw [hC] at hc
      obtain ⟨_, hcl, hat⟩ := World.cells?_some hc
      obtain ⟨z, hz⟩ := trod_int_fields he hone hint hcl ht' j hj
      have := hat j hj
      rw [← Go.Deep.add_add, this, hz]
      exact ⟨z, rfl⟩
    refine ⟨some a, n, c, fun i j => if h : i < n ∧ j < fs.size then Classical.choose (key i h.1 j h.2) else 0, rfl, by omega, fun hn => ?_⟩
    obtain ⟨z0, h0⟩ := key 0 hn 0 hk
    have hadd0 : a.add (0 * fs.size + 0) = a := by simp [Addr.add]
    rw [hadd0] at h0
    obtain ⟨b, off, sp⟩ := a
    have hsp : sp = none := by
      unfold World.cell? at h0
      cases sp with
      | none => rfl
      | some x => split at h0 <;> simp at h0
    subst hsp
    refine ⟨b, off, rfl, ?_, fun i j hin hj => ?_⟩
    · unfold World.cell? at h0
      split at h0
      · rename_i hh
        exact (Array.getElem?_eq_some_iff.1 hh).1
      · cases h0
    · have hz := Classical.choose_spec (key i hin j hj)
      have e1 : (⟨b, off, none⟩ : Addr).add (i * fs.size + j) = ⟨b, off + i * fs.size + j, none⟩ := by unfold Addr.add; split <;> simp_all [Nat.add_assoc]
      rw [← e1]
      simp only [dif_pos (And.intro hin hj)]
      exact hz
/-- .. rectangles. -/
theorem trod_rects {t e : TypeId} {fs : Array Field} {v : Value} {d : DataW H} {p : List MemPlace} {r : Reach} {b0 : Nat} (ht : P.underlying t = some (.slice e)) (he : P.underlying e = some (.struct fs)) (hone : oneCellFields P fs = true)
    (hint : ∀ (j : Nat) (f : Field), fs[j]? = some f → P.underlying f.type = some (.int .i64)) (hC : P.cellsOf e = 4) (hk : fs.size = 4) (hv : Value.okWide P w r b0 t v) (h : DataW.Trod enc P w base spare held t v d p) :
    ∃ l : List R4, RdK encR 4 w w.heap.size v l ∧ l.length ≤ maxLen := by
  obtain ⟨A, n, c, F, rfl, hn, hF⟩ := trod_rows ht he hone hint (hC.trans hk.symm) (by omega) hv h
  rw [hk] at hF
  refine ⟨(List.range n).map fun i => ⟨F i 0, F i 1, F i 2, F i 3⟩, ⟨A, c, by simp, fun hl => ?_⟩, by simpa using hn⟩
  have hn0 : 0 < n := by
    rcases Nat.eq_zero_or_pos n with h | h
    · subst h; exact absurd rfl hl
    · exact h
  obtain ⟨b, off, hA, hb, hc⟩ := hF hn0
  refine ⟨b, off, hA, hb, fun j x hj i u hu => ?_⟩
  have hjn : j < n := by have := (List.getElem?_eq_some_iff.1 hj).1; simpa using this
  rw [List.getElem?_map, List.getElem?_range hjn] at hj
  simp only [Option.map_some, Option.some.injEq] at hj
  subst hj
  have hi : i < 4 := (List.getElem?_eq_some_iff.1 hu).1
  rw [hc j i hjn hi]
  match i, hi with
  | 0, _ => exact hu
  | 1, _ => exact hu
  | 2, _ => exact hu
  | 3, _ => exact hu
end
theorem int_bd {n : Int} (h : (Lit.int .i64 n).wf = true) : -9223372036854775808 ≤ n ∧ n ≤ 9223372036854775807 := by
  simp [Lit.wf, IntKind.min, IntKind.max, IntKind.signed, IntKind.bits] at h
  omega
theorem rect_fields : ∀ (j : Nat) (f : Field), (match Try.prog.underlying 23 with | some (.struct fs) => fs | _ => #[])[j]? = some f → Try.prog.underlying f.type = some (.int .i64) := by
  rw [Try.underlying23]
  intro j f hf
  match j, hf with
  | 0, hf => simp at hf; subst hf; exact Try.underlying3
  | 1, hf => simp at hf; subst hf; exact Try.underlying3
  | 2, hf => simp at hf; subst hf; exact Try.underlying3
  | 3, hf => simp at hf; subst hf; exact Try.underlying3
  | j + 4, hf => simp at hf
end Go.Proofs.Ytgdlbaabdebclaa
