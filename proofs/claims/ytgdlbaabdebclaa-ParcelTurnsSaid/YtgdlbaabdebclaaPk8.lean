/- Texts laid together: ParLd, ParLe. Lemmas for the statements of this seat; no condition. -/
import Derived.Test.YtgdlbaabdebclaaPk7

/- ParcelEnds: no lot has a cut any more, and the lots are those of the two parts of the first cut: the walk. -/
namespace Go.Proofs.Ytgdlbaabdebclaa
open Go.RowKit
set_option linter.unusedVariables false
set_option linter.unusedSimpArgs false

theorem check_of {l x : Lot5} {p : Pl3} (h : checkL l p = 0) (hx : validL x) : checkL x p = 0 := by
  have hv := checkL_valid h
  unfold checkL at h ⊢
  rw [if_pos hv] at h
  rw [if_pos hx]
  exact h
theorem cutE_none {x : Lot5} {p : Pl3} (h : checkL x p = 0) (hc : cutL p x = none) : cutE x p = (zeroL, zeroL, 6) := by
  rw [cutE_ok h, cutR_none hc]
  rfl
theorem cutE_some {x a b : Lot5} {p : Pl3} (h : checkL x p = 0) (hc : cutL p x = some (a, b)) : cutE x p = (a, b, 0) := by
  rw [cutE_ok h, cutR_some hc]
  rfl
theorem splitR_ok {x : Lot5} {p : Pl3} (h : checkL x p = 0) (h4 : (leaves p x).length ≤ 400) : splitR x p = (leaves p x, 0) := by
  unfold splitR
  rw [if_pos h, if_pos h4]
theorem rd_litL_at {w : World} {B : Nat} (hB : w.heap.size = B) (l : List Lot5) (t : TypeId) (c : Nat) : RdK encL 5 (w.alloc (.cells (l.flatMap encL).toArray t)) (w.alloc (.cells (l.flatMap encL).toArray t)).heap.size (.slice (some ⟨B, 0, none⟩) l.length c) l := by
  subst hB
  exact rd_litL w l t c
theorem one_encL (l : List Lot5) : ∀ u ∈ l.flatMap encL, u.oneCell' = true := by
  intro u hu
  obtain ⟨r, _, hr⟩ := List.mem_flatMap.1 hu
  simp only [encL, List.mem_cons, List.not_mem_nil, or_false] at hr
  rcases hr with rfl | rfl | rfl | rfl | rfl <;> rfl
section
variable {P : Program} {α : Type} {enc : α → List Value} {k : Nat}
/-- An append of a list that is read, behind a guard that lets it through. -/
theorem wpList_app_rd_g {w : World} {ops : Array Oper} {rest : List Oper} {o : Oper} {a : Act} {Q : Exit → Act → World → Prop} (hgd : Region.wanted o (yielded ops a.tmps) = true) (henc : ∀ x, (enc x).length = k) (hint : ∀ (l : List α), ∀ u ∈ l.flatMap enc, u.oneCell' = true) (s x : Operand) (t : TypeId)
    (ho : o.op = .call { callee := .builtin .append, args := #[s, x], argTypes := #[t, t] }) (base : Nat) (e : TypeId) (i : TypeInfo) (z : Value) (bytes : Nat)
    (ht : P.underlying t = some (.slice e)) (hi : P.info? e = some i) (hz : i.zero = some z) (hsize : i.size = k) (hby : i.bytes = bytes) (hzs : z.cells.size = k) (hsz : 0 < k)
    (v : Value) (n : Nat) (xs : List Value) (hs : a.eval s = v) (hown : w.ownsRow base e k v n xs) (B : Nat) (l : List α) (hr : RdK enc k w B (a.eval x) l) (h63 : n + l.length ≤ maxLen) (hbytes : (n + l.length) * bytes ≤ 140737488355328) (hbase : base ≤ w.heap.size)
    (h : ∀ v' w', w'.ownsRow base e k v' (n + l.length) (xs ++ l.flatMap enc) → w.grownBy w' v.ownBlock → wpList P ops Q rest (a.put o.dst v') w') : wpList P ops Q (o :: rest) a w :=
  wpList_step fun K hK => by
    rw [if_pos hgd]
    exact wp_app_rd w henc hint s x t ho base e i z bytes ht hi hz hsize hby hzs hsz v n xs hs hown B l hr h63 hbytes hbase fun v' w' h2 h3 => hK _ _ (h v' w' h2 h3)
end
/-- Eight cells that a region's operations leave as they are. -/
def Keep8 (b o n : Nat) (x : Lot5) (p : Pl3) (w : World) : Prop :=
  (w.cell? ⟨b, o, none⟩ = some (.int .i64 x.r.x0) ∧ w.cell? ⟨b, o + 1, none⟩ = some (.int .i64 x.r.y0) ∧ w.cell? ⟨b, o + 2, none⟩ = some (.int .i64 x.r.x1) ∧ w.cell? ⟨b, o + 3, none⟩ = some (.int .i64 x.r.y1) ∧ w.cell? ⟨b, o + 4, none⟩ = some (.int .u8 x.f)) ∧
  w.cell? ⟨n, 0, none⟩ = some (.int .i64 p.mf) ∧ w.cell? ⟨n, 1, none⟩ = some (.int .i64 p.ms) ∧ w.cell? ⟨n, 2, none⟩ = some (.int .i64 p.ma)
theorem Keep8.below {b o n B : Nat} {x : Lot5} {p : Pl3} {w w' : World} (h : Keep8 b o n x p w) (hb : Below B w w') (h1 : b < B) (h2 : n < B) : Keep8 b o n x p w' := by
  obtain ⟨⟨a0, a1, a2, a3, a4⟩, c0, c1, c2⟩ := h
  exact ⟨⟨(hb.cell (p := ⟨b, _, none⟩) h1).trans a0, (hb.cell (p := ⟨b, _, none⟩) h1).trans a1, (hb.cell (p := ⟨b, _, none⟩) h1).trans a2, (hb.cell (p := ⟨b, _, none⟩) h1).trans a3, (hb.cell (p := ⟨b, _, none⟩) h1).trans a4⟩, (hb.cell (p := ⟨n, _, none⟩) h2).trans c0, (hb.cell (p := ⟨n, _, none⟩) h2).trans c1, (hb.cell (p := ⟨n, _, none⟩) h2).trans c2⟩
set_option maxRecDepth 100000 in
set_option maxHeartbeats 16000000 in
theorem ends_none (l : Lot5) (p : Pl3) (hf : 0 ≤ l.f ∧ l.f ≤ 255) (hc : cutL p l = none) (w : World) : Calls Try.prog 8 #[.agg (encL l).toArray, .agg (encP p).toArray] w fun e w' => e = .returned (.bool true) ∧ Below w.heap.size w w' := by
  have HV := hide (fun W => valid24_any l p hf W)
  have HAL := hide (fun W => alive24_any W)
  by_cases h0 : checkL l p = 0
  · have hv := checkL_valid h0
    have hS := fun W => psplit_any l p hf W
    rw [h0] at HV
    have HV1 : Hid (∀ W : World, Calls Try.prog 14 #[.agg #[.int .i64 l.r.x0, .int .i64 l.r.y0, .int .i64 l.r.x1, .int .i64 l.r.y1, .int .u8 l.f], .agg #[.int .i64 p.mf, .int .i64 p.ms, .int .i64 p.ma]] W fun e w' => e = .returned (.bool true) ∧ Below W.heap.size W w') := hide HV.out
    clear HV
    by_cases h4 : (leaves p l).length ≤ 400
    · have hR : splitR l p = (leaves p l, 0) := by unfold splitR; rw [if_pos h0, if_pos h4]
      rw [hR] at hS
      have HVL := hide (fun x hx => leaves_valid (p := p) hv x hx)
      have HCX : Hid (∀ x ∈ leaves p l, ∀ W : World, Calls Try.prog 23 #[.agg #[.int .i64 x.r.x0, .int .i64 x.r.y0, .int .i64 x.r.x1, .int .i64 x.r.y1, .int .u8 x.f], .agg #[.int .i64 p.mf, .int .i64 p.ms, .int .i64 p.ma]] W fun e w' => e = .returned (.tuple #[.agg #[.int .i64 0, .int .i64 0, .int .i64 0, .int .i64 0, .int .u8 0], .agg #[.int .i64 0, .int .i64 0, .int .i64 0, .int .i64 0, .int .u8 0], .int .i64 6]) ∧ Below W.heap.size W w') := hide (fun x hx W => by
        have := pcut_any x p (by have := (leaves_valid hv x hx).2; omega) W
        rw [cutE_none (check_of h0 (leaves_valid hv x hx)) (leaves_end p l x hx)] at this
        exact this)
      have hCL := fun W => pcut_any l p hf W
      rw [cutE_none h0 hc] at hCL
      have HCL : Hid (∀ W : World, Calls Try.prog 23 #[.agg #[.int .i64 l.r.x0, .int .i64 l.r.y0, .int .i64 l.r.x1, .int .i64 l.r.y1, .int .u8 l.f], .agg #[.int .i64 p.mf, .int .i64 p.ms, .int .i64 p.ma]] W fun e w' => e = .returned (.tuple #[.agg #[.int .i64 0, .int .i64 0, .int .i64 0, .int .i64 0, .int .u8 0], .agg #[.int .i64 0, .int .i64 0, .int .i64 0, .int .i64 0, .int .u8 0], .int .i64 6]) ∧ Below W.heap.size W w') := hide hCL
      have HQ := hide (leaves_none hc)
      clear hCL hc
      generalize leaves p l = Q at *
      have HS : Hid (∀ W : World, Calls Try.prog 11 #[.agg #[.int .i64 l.r.x0, .int .i64 l.r.y0, .int .i64 l.r.x1, .int .i64 l.r.y1, .int .u8 l.f], .agg #[.int .i64 p.mf, .int .i64 p.ms, .int .i64 p.ma]] W (LotsRet W (Q, 0))) := hide hS
      clear hS hR h0 hv hf
      show Calls Try.prog _ #[.agg #[.int .i64 l.r.x0, .int .i64 l.r.y0, .int .i64 l.r.x1, .int .i64 l.r.y1, .int .u8 l.f], .agg #[.int .i64 p.mf, .int .i64 p.ms, .int .i64 p.ma]] w _
      go_enter Try.func8, Try.ntmps8
      go_wp2_with (fail)
      obtain ⟨W, hW⟩ : ∃ x, x = (w.alloc (.cells #[.int .i64 l.r.x0, .int .i64 l.r.y0, .int .i64 l.r.x1, .int .i64 l.r.y1, .int .u8 l.f] 25)).alloc (.cells #[.int .i64 p.mf, .int .i64 p.ms, .int .i64 p.ma] 27) := ⟨_, rfl⟩
      rw [← hW]
      have hb0 : Below w.heap.size w W := by rw [hW]; exact ((Below.refl _ _).alloc (Nat.le_refl _) _).alloc (by simp) _
      have hs0 : w.heap.size + 2 ≤ W.heap.size := by rw [hW]; simp
      have HL : Box5L W w.heap.size l := by rw [hW]; refine ⟨?_, ?_, ?_, ?_, ?_, ?_, ?_, ?_, ?_, ?_⟩ <;> simp [go_sem]
      have HP : Box3 W (w.heap.size + 1) (.int .i64 p.mf) (.int .i64 p.ms) (.int .i64 p.ma) := by rw [hW]; refine ⟨?_, ?_, ?_⟩ <;> simp [go_sem]
      obtain ⟨n, hn⟩ : ∃ n, w.heap.size = n := ⟨_, rfl⟩
      have HN := hide hn
      rw [hn] at hb0 hs0 HL HP ⊢
      have K0 := hide hb0
      clear hW hb0 hn
      refine (HV1.out _).mono ?_
      rintro e w1 ⟨rfl, hb⟩
      have HL1 := HL.below hb
      have HP1 := HP.below hb
      have hs1 : n + 2 ≤ w1.heap.size := Nat.le_trans hs0 hb.size
      have K1 := hide (K0.out.trans (hb.mono (by omega)))
      clear hb HL HP K0 hs0
      try clear l0 l1 l2 l3 l4 p0 p1 p2
      obtain ⟨l0, l1, l2, l3, l4, -, -, -, -, -⟩ := id HL1
      obtain ⟨p0, p1, p2⟩ := id HP1
      go_wp2_with (fail)
      refine (HS.out _).mono ?_
      rintro e w2 ⟨⟨A1, c1, rfl, ho⟩, hb⟩
      have HL2 := HL1.below hb
      have HP2 := HP1.below hb
      have hs2 : n + 2 ≤ w2.heap.size := Nat.le_trans hs1 hb.size
      have K2 := hide (K1.out.trans (hb.mono (by omega)))
      have HO2 : Hid (RdK encL 5 w2 w2.heap.size (.slice A1 Q.length c1) Q) := hide (own_rd ho (fun _ => rfl))
      clear ho HV1 HS
      clear hb HL1 HP1 K1 hs1
      try clear l0 l1 l2 l3 l4 p0 p1 p2
      obtain ⟨l0, l1, l2, l3, l4, -, -, -, -, -⟩ := id HL2
      obtain ⟨p0, p1, p2⟩ := id HP2
      clear l0 l1 l2 l3 l4 p0 p1 p2
      go_wp2_with (fail)
      go_loopw [7] (fun i wr => ∃ m : Nat, m ≤ Q.length ∧ i = .int .i64 m ∧ Hid (Below w2.heap.size w2 wr)) (fun i _ => Q.length - (intOf i).toNat)
      case atStart => exact ⟨0, Nat.zero_le _, rfl, hide (Below.refl _ _)⟩
      case round =>
        obtain ⟨m, hm, rfl, HB⟩ := hrel
        have hsw := HB.out.size
        by_cases hlt : m < Q.length
        · obtain ⟨x, hx⟩ : ∃ x, Q[m]? = some x := ⟨_, List.getElem?_eq_getElem hlt⟩
          obtain ⟨b, o, rfl, hbl, k⟩ := HO2.out.cells5 (by intro e; rw [e] at hlt; simp at hlt)
          have d0 : wr.cell? ⟨b, o + m * 5, none⟩ = some (.int .i64 x.r.x0) := (HB.out.cell (p := ⟨b, _, none⟩) hbl).trans (k m _ hx 0 _ rfl)
          have d1 : wr.cell? ⟨b, o + m * 5 + 1, none⟩ = some (.int .i64 x.r.y0) := (HB.out.cell (p := ⟨b, _, none⟩) hbl).trans (k m _ hx 1 _ rfl)
          have d2 : wr.cell? ⟨b, o + m * 5 + 2, none⟩ = some (.int .i64 x.r.x1) := (HB.out.cell (p := ⟨b, _, none⟩) hbl).trans (k m _ hx 2 _ rfl)
          have d3 : wr.cell? ⟨b, o + m * 5 + 3, none⟩ = some (.int .i64 x.r.y1) := (HB.out.cell (p := ⟨b, _, none⟩) hbl).trans (k m _ hx 3 _ rfl)
          have d4 : wr.cell? ⟨b, o + m * 5 + 4, none⟩ = some (.int .u8 x.f) := (HB.out.cell (p := ⟨b, _, none⟩) hbl).trans (k m _ hx 4 _ rfl)
          have mz : (m : Int) < (Q.length : Int) := by omega
          have HX := hide hx
          clear k hx
          have HC := hide (HCX.out x (List.mem_of_getElem? HX.out))
          obtain ⟨p0, p1, p2⟩ := HP2.below HB.out
          have q0 : b < wr.heap.size := by omega
          have q1 : n + 1 < wr.heap.size := by omega
          have HK : Hid (Keep8 b (o + m * 5) (n + 1) x p wr) := hide ⟨⟨d0, d1, d2, d3, d4⟩, p0, p1, p2⟩
          clear HCX HX
          go_wp2_with (fail)
          go_cut [10] (fun s10 wx => s10 = .int .i64 6 ∧ Below wr.heap.size wr wx)
          case first =>
            go_region_held3 (fun w' => (w'.cell? ⟨b, o + m * 5, none⟩ = some (.int .i64 x.r.x0) ∧ w'.cell? ⟨b, o + m * 5 + 1, none⟩ = some (.int .i64 x.r.y0) ∧ w'.cell? ⟨b, o + m * 5 + 2, none⟩ = some (.int .i64 x.r.x1) ∧ w'.cell? ⟨b, o + m * 5 + 3, none⟩ = some (.int .i64 x.r.y1) ∧ w'.cell? ⟨b, o + m * 5 + 4, none⟩ = some (.int .u8 x.f)) ∧ w'.cell? ⟨n + 1, 0, none⟩ = some (.int .i64 p.mf) ∧ w'.cell? ⟨n + 1, 1, none⟩ = some (.int .i64 p.ms) ∧ w'.cell? ⟨n + 1, 2, none⟩ = some (.int .i64 p.ma)) ((refine HK.out.below (B := wr.heap.size) ?_ q0 q1; repeat (first | with_reducible exact Below.refl _ _ | with_reducible exact hbK | with_reducible refine Below.setCell ?_ (by first | omega | (simp; done) | (simp; omega)) _ | with_reducible refine Below.alloc ?_ (by first | omega | (simp; omega) | simp) _ | with_reducible refine Below.drew ?_)))
              (first
                | (go_at_call 23; refine (HC.out _).mono ?_; rintro e w10 ⟨rfl, hb10⟩; have hbK : Below wr.heap.size wr w10 := Below.trans (by repeat (first | with_reducible exact Below.refl _ _ | with_reducible refine Below.alloc ?_ (by first | omega | (simp; omega) | simp) _ | with_reducible refine Below.drew ?_)) (hb10.mono (by simp <;> omega)); have hsK := hbK.size; obtain ⟨hcK, hfK⟩ := bcell hb10; (try have z0 : wr.heap.size < w10.heap.size := by have := hb10.size; simp at this; omega); (try have z1 : wr.heap.size + 1 < w10.heap.size := by have := hb10.size; simp at this; omega); (try have y0 : ¬ wr.heap.size = w10.heap.size := by omega); (try have y1 : ¬ w10.heap.size = wr.heap.size := by omega); clear hb10))
            all_goals (go_wp2_with (fail); go_meet)
            all_goals
              refine ⟨rfl, ?_⟩
              repeat (first | with_reducible exact Below.refl _ _ | with_reducible exact hbK | with_reducible refine Below.setCell ?_ (by first | omega | (simp; done) | (simp; omega)) _ | with_reducible refine Below.alloc ?_ (by first | omega | (simp; omega) | simp) _ | with_reducible refine Below.drew ?_)
          case rest =>
            obtain ⟨rfl, hb⟩ := hcut
            have HB2 : Hid (Below w2.heap.size w2 wc) := hide (HB.out.trans (hb.mono hsw))
            clear hb HK HB d0 d1 d2 d3 d4 p0 p1 p2
            go_wp2_with (fail)
            go_roundw
            case rel => exact ⟨m + 1, by omega, by go_num, HB2⟩
            case measure => simp [intOf]; omega
        · obtain rfl : m = Q.length := by omega
          have mz : ¬ ((Q.length : Nat) : Int) < (Q.length : Int) := by omega
          have HL3 := HL2.below HB.out
          have HP3 := HP2.below HB.out
          have K3 := hide (K2.out.trans (HB.out.mono (by omega)))
          have hs3 : n + 2 ≤ wr.heap.size := by omega
          have HO3 := hide ((HO2.out.below HB.out).mono HB.out.size)
          obtain ⟨l0, l1, l2, l3, l4, -, -, -, -, -⟩ := id HL3
          obtain ⟨p0, p1, p2⟩ := id HP3
          clear HL2 HP2 K2 hs2 HO2 HB hsw HCX HVL
          go_wp2_with (fail)
          refine (HCL.out _).mono ?_
          rintro e w4 ⟨rfl, hb⟩
          have HL4 := HL3.below hb
          have HP4 := HP3.below hb
          have hs4 : n + 2 ≤ w4.heap.size := Nat.le_trans hs3 hb.size
          have K4 := hide (K3.out.trans (hb.mono (by omega)))
          have HO4 := hide ((HO3.out.below hb).mono hb.size)
          clear hb HL3 HP3 K3 hs3 HO3 HCL l0 l1 l2 l3 l4 p0 p1 p2
          obtain ⟨l0, l1, l2, l3, l4, -, -, -, -, -⟩ := id HL4
          obtain ⟨p0, p1, p2⟩ := id HP4
          have q0 : n < w4.heap.size := by omega
          have q1 : n < w4.heap.size + 1 := by omega
          have q2 : n + 1 < w4.heap.size := by omega
          have q3 : n + 1 < w4.heap.size + 1 := by omega
          go_wp2_with (fail)
          refine calls_name fun Z hZ => ?_
          have hbz : Below w4.heap.size w4 Z := by
            rw [hZ]
            repeat (first | with_reducible exact Below.refl _ _ | with_reducible refine Below.setCell ?_ (by first | (simp; done) | (simp; omega)) _ | with_reducible refine Below.alloc ?_ (by first | omega | (simp; omega) | simp) _)
          have HO5 : Hid (RdK encL 5 Z Z.heap.size (.slice (some ⟨w4.heap.size + 1 + 1, 0, none⟩) 1 1) [l]) := hide (by
            rw [hZ]
            exact rd_litL_at (by simp) [l] 25 1)
          have HO6 := hide ((HO4.out.below hbz).mono hbz.size)
          have K6 := hide (K4.out.trans (hbz.mono (by omega)))
          have hsz : n + 2 ≤ Z.heap.size := by have := hbz.size; omega
          have HSA := hide (rSameL_any HO6.out HO5.out (by omega) (Nat.le_refl _) (Nat.le_refl _))
          rw [decide_eq_true HQ.out] at HSA
          generalize w4.heap.size + 1 + 1 = g5 at *
          clear hZ hbz HO4 HO5 HO6 K4 HL4 HP4 l0 l1 l2 l3 l4 p0 p1 p2 q0 q1 q2 q3 HQ
          refine HSA.out.mono ?_
          rintro e w7 ⟨rfl, hb⟩
          have K7 := hide (K6.out.trans (hb.mono (by omega)))
          have hs7 : n + 2 ≤ w7.heap.size := by have := hb.size; omega
          clear hb HSA K6
          go_wp2_with (fail)
          refine (HAL.out _).mono ?_
          rintro e w8 ⟨rfl, hb⟩
          have K8 := hide (K7.out.trans (hb.mono (by omega)))
          clear hb
          go_wp2_with (fail)
          go_ret
          exact ⟨rfl, by rw [HN.out]; exact K8.out⟩
    · have hR : splitR l p = ([], 4) := by unfold splitR; rw [if_pos h0, if_neg h4]
      rw [hR] at hS
      have HS : Hid (∀ W : World, Calls Try.prog 11 #[.agg #[.int .i64 l.r.x0, .int .i64 l.r.y0, .int .i64 l.r.x1, .int .i64 l.r.y1, .int .u8 l.f], .agg #[.int .i64 p.mf, .int .i64 p.ms, .int .i64 p.ma]] W (LotsRet W ([], 4))) := hide hS
      clear hS hR h0 hv h4 hf
      show Calls Try.prog _ #[.agg #[.int .i64 l.r.x0, .int .i64 l.r.y0, .int .i64 l.r.x1, .int .i64 l.r.y1, .int .u8 l.f], .agg #[.int .i64 p.mf, .int .i64 p.ms, .int .i64 p.ma]] w _
      go_enter Try.func8, Try.ntmps8
      go_wp2_with (fail)
      obtain ⟨W, hW⟩ : ∃ x, x = (w.alloc (.cells #[.int .i64 l.r.x0, .int .i64 l.r.y0, .int .i64 l.r.x1, .int .i64 l.r.y1, .int .u8 l.f] 25)).alloc (.cells #[.int .i64 p.mf, .int .i64 p.ms, .int .i64 p.ma] 27) := ⟨_, rfl⟩
      rw [← hW]
      have hb0 : Below w.heap.size w W := by rw [hW]; exact ((Below.refl _ _).alloc (Nat.le_refl _) _).alloc (by simp) _
      have hs0 : w.heap.size + 2 ≤ W.heap.size := by rw [hW]; simp
      have HL : Box5L W w.heap.size l := by rw [hW]; refine ⟨?_, ?_, ?_, ?_, ?_, ?_, ?_, ?_, ?_, ?_⟩ <;> simp [go_sem]
      have HP : Box3 W (w.heap.size + 1) (.int .i64 p.mf) (.int .i64 p.ms) (.int .i64 p.ma) := by rw [hW]; refine ⟨?_, ?_, ?_⟩ <;> simp [go_sem]
      obtain ⟨n, hn⟩ : ∃ n, w.heap.size = n := ⟨_, rfl⟩
      have HN := hide hn
      rw [hn] at hb0 hs0 HL HP ⊢
      have K0 := hide hb0
      clear hW hb0 hn
      refine (HV1.out _).mono ?_
      rintro e w1 ⟨rfl, hb⟩
      have HL1 := HL.below hb
      have HP1 := HP.below hb
      have hs1 : n + 2 ≤ w1.heap.size := Nat.le_trans hs0 hb.size
      have K1 := hide (K0.out.trans (hb.mono (by omega)))
      clear hb HL HP K0 hs0
      try clear l0 l1 l2 l3 l4 p0 p1 p2
      obtain ⟨l0, l1, l2, l3, l4, -, -, -, -, -⟩ := id HL1
      obtain ⟨p0, p1, p2⟩ := id HP1
      go_wp2_with (fail)
      refine (HS.out _).mono ?_
      rintro e w2 ⟨⟨A1, c1, rfl, ho⟩, hb⟩
      clear ho
      have HL2 := HL1.below hb
      have HP2 := HP1.below hb
      have hs2 : n + 2 ≤ w2.heap.size := Nat.le_trans hs1 hb.size
      have K2 := hide (K1.out.trans (hb.mono (by omega)))
      clear hb HL1 HP1 K1 hs1
      try clear l0 l1 l2 l3 l4 p0 p1 p2
      go_wp2_with (fail)
      refine (HAL.out _).mono ?_
      rintro e w3 ⟨rfl, hb⟩
      have K3 := hide (K2.out.trans (hb.mono (by omega)))
      clear hb HL2 HP2
      go_wp2_with (fail)
      go_ret
      exact ⟨rfl, by rw [HN.out]; exact K3.out⟩
  · have hck : (checkL l p == 0) = false := by simpa using h0
    rw [hck] at HV
    have HV1 : Hid (∀ W : World, Calls Try.prog 14 #[.agg #[.int .i64 l.r.x0, .int .i64 l.r.y0, .int .i64 l.r.x1, .int .i64 l.r.y1, .int .u8 l.f], .agg #[.int .i64 p.mf, .int .i64 p.ms, .int .i64 p.ma]] W fun e w' => e = .returned (.bool false) ∧ Below W.heap.size W w') := hide HV.out
    clear HV hck h0 hf
    show Calls Try.prog _ #[.agg #[.int .i64 l.r.x0, .int .i64 l.r.y0, .int .i64 l.r.x1, .int .i64 l.r.y1, .int .u8 l.f], .agg #[.int .i64 p.mf, .int .i64 p.ms, .int .i64 p.ma]] w _
    go_enter Try.func8, Try.ntmps8
    go_wp2_with (fail)
    obtain ⟨W, hW⟩ : ∃ x, x = (w.alloc (.cells #[.int .i64 l.r.x0, .int .i64 l.r.y0, .int .i64 l.r.x1, .int .i64 l.r.y1, .int .u8 l.f] 25)).alloc (.cells #[.int .i64 p.mf, .int .i64 p.ms, .int .i64 p.ma] 27) := ⟨_, rfl⟩
    rw [← hW]
    have hb0 : Below w.heap.size w W := by rw [hW]; exact ((Below.refl _ _).alloc (Nat.le_refl _) _).alloc (by simp) _
    have hs0 : w.heap.size + 2 ≤ W.heap.size := by rw [hW]; simp
    have HL : Box5L W w.heap.size l := by rw [hW]; refine ⟨?_, ?_, ?_, ?_, ?_, ?_, ?_, ?_, ?_, ?_⟩ <;> simp [go_sem]
    have HP : Box3 W (w.heap.size + 1) (.int .i64 p.mf) (.int .i64 p.ms) (.int .i64 p.ma) := by rw [hW]; refine ⟨?_, ?_, ?_⟩ <;> simp [go_sem]
    obtain ⟨n, hn⟩ : ∃ n, w.heap.size = n := ⟨_, rfl⟩
    have HN := hide hn
    rw [hn] at hb0 hs0 HL HP ⊢
    have K0 := hide hb0
    clear hW hb0 hn
    refine (HV1.out _).mono ?_
    rintro e w1 ⟨rfl, hb⟩
    have HL1 := HL.below hb
    have HP1 := HP.below hb
    have hs1 : n + 2 ≤ w1.heap.size := Nat.le_trans hs0 hb.size
    have K1 := hide (K0.out.trans (hb.mono (by omega)))
    clear hb HL HP K0 hs0
    try clear l0 l1 l2 l3 l4 p0 p1 p2
    go_wp2_with (fail)
    refine (HAL.out _).mono ?_
    rintro e w2 ⟨rfl, hb⟩
    have K2 := hide (K1.out.trans (hb.mono (by omega)))
    clear hb HL1 HP1
    go_wp2_with (fail)
    go_ret
    exact ⟨rfl, by rw [HN.out]; exact K2.out⟩
set_option maxRecDepth 100000 in
set_option maxHeartbeats 16000000 in
theorem ends_some (l : Lot5) (p : Pl3) (hf : 0 ≤ l.f ∧ l.f ≤ 255) {a b : Lot5} (hc : cutL p l = some (a, b)) (w : World) : Calls Try.prog 8 #[.agg (encL l).toArray, .agg (encP p).toArray] w fun e w' => e = .returned (.bool true) ∧ Below w.heap.size w w' := by
  have HV := hide (fun W => valid24_any l p hf W)
  have HAL := hide (fun W => alive24_any W)
  by_cases h0 : checkL l p = 0
  · have hv := checkL_valid h0
    have hS := fun W => psplit_any l p hf W
    rw [h0] at HV
    have HV1 : Hid (∀ W : World, Calls Try.prog 14 #[.agg #[.int .i64 l.r.x0, .int .i64 l.r.y0, .int .i64 l.r.x1, .int .i64 l.r.y1, .int .u8 l.f], .agg #[.int .i64 p.mf, .int .i64 p.ms, .int .i64 p.ma]] W fun e w' => e = .returned (.bool true) ∧ Below W.heap.size W w') := hide HV.out
    clear HV
    by_cases h4 : (leaves p l).length ≤ 400
    · have hR : splitR l p = (leaves p l, 0) := by unfold splitR; rw [if_pos h0, if_pos h4]
      rw [hR] at hS
      have HVL := hide (fun x hx => leaves_valid (p := p) hv x hx)
      have HCX : Hid (∀ x ∈ leaves p l, ∀ W : World, Calls Try.prog 23 #[.agg #[.int .i64 x.r.x0, .int .i64 x.r.y0, .int .i64 x.r.x1, .int .i64 x.r.y1, .int .u8 x.f], .agg #[.int .i64 p.mf, .int .i64 p.ms, .int .i64 p.ma]] W fun e w' => e = .returned (.tuple #[.agg #[.int .i64 0, .int .i64 0, .int .i64 0, .int .i64 0, .int .u8 0], .agg #[.int .i64 0, .int .i64 0, .int .i64 0, .int .i64 0, .int .u8 0], .int .i64 6]) ∧ Below W.heap.size W w') := hide (fun x hx W => by
        have := pcut_any x p (by have := (leaves_valid hv x hx).2; omega) W
        rw [cutE_none (check_of h0 (leaves_valid hv x hx)) (leaves_end p l x hx)] at this
        exact this)
      have hCL := fun W => pcut_any l p hf W
      rw [cutE_some h0 hc] at hCL
      have HCL : Hid (∀ W : World, Calls Try.prog 23 #[.agg #[.int .i64 l.r.x0, .int .i64 l.r.y0, .int .i64 l.r.x1, .int .i64 l.r.y1, .int .u8 l.f], .agg #[.int .i64 p.mf, .int .i64 p.ms, .int .i64 p.ma]] W fun e w' => e = .returned (.tuple #[.agg #[.int .i64 a.r.x0, .int .i64 a.r.y0, .int .i64 a.r.x1, .int .i64 a.r.y1, .int .u8 a.f], .agg #[.int .i64 b.r.x0, .int .i64 b.r.y0, .int .i64 b.r.x1, .int .i64 b.r.y1, .int .u8 b.f], .int .i64 0]) ∧ Below W.heap.size W w') := hide hCL
      have hQ := leaves_some hc
      have hga := (cutL_some hc).2.1.1
      have hgb := (cutL_some hc).2.2.1.1
      have h4a : (leaves p a).length ≤ 400 := by rw [hQ, List.length_append] at h4; omega
      have h4b : (leaves p b).length ≤ 400 := by rw [hQ, List.length_append] at h4; omega
      have hsa := fun W => psplit_any a p (by have := hga.2; omega) W
      have hsb := fun W => psplit_any b p (by have := hgb.2; omega) W
      rw [splitR_ok (check_of h0 hga) h4a] at hsa
      rw [splitR_ok (check_of h0 hgb) h4b] at hsb
      have HQ := hide hQ
      clear hCL hc hQ hga hgb
      generalize leaves p l = Q at *
      generalize leaves p a = QA at *
      generalize leaves p b = QB at *
      have HSPA : Hid (∀ W : World, Calls Try.prog 11 #[.agg #[.int .i64 a.r.x0, .int .i64 a.r.y0, .int .i64 a.r.x1, .int .i64 a.r.y1, .int .u8 a.f], .agg #[.int .i64 p.mf, .int .i64 p.ms, .int .i64 p.ma]] W (LotsRet W (QA, 0))) := hide hsa
      have HSPB : Hid (∀ W : World, Calls Try.prog 11 #[.agg #[.int .i64 b.r.x0, .int .i64 b.r.y0, .int .i64 b.r.x1, .int .i64 b.r.y1, .int .u8 b.f], .agg #[.int .i64 p.mf, .int .i64 p.ms, .int .i64 p.ma]] W (LotsRet W (QB, 0))) := hide hsb
      clear hsa hsb
      have HS : Hid (∀ W : World, Calls Try.prog 11 #[.agg #[.int .i64 l.r.x0, .int .i64 l.r.y0, .int .i64 l.r.x1, .int .i64 l.r.y1, .int .u8 l.f], .agg #[.int .i64 p.mf, .int .i64 p.ms, .int .i64 p.ma]] W (LotsRet W (Q, 0))) := hide hS
      clear hS hR h0 hv hf
      show Calls Try.prog _ #[.agg #[.int .i64 l.r.x0, .int .i64 l.r.y0, .int .i64 l.r.x1, .int .i64 l.r.y1, .int .u8 l.f], .agg #[.int .i64 p.mf, .int .i64 p.ms, .int .i64 p.ma]] w _
      go_enter Try.func8, Try.ntmps8
      go_wp2_with (fail)
      obtain ⟨W, hW⟩ : ∃ x, x = (w.alloc (.cells #[.int .i64 l.r.x0, .int .i64 l.r.y0, .int .i64 l.r.x1, .int .i64 l.r.y1, .int .u8 l.f] 25)).alloc (.cells #[.int .i64 p.mf, .int .i64 p.ms, .int .i64 p.ma] 27) := ⟨_, rfl⟩
      rw [← hW]
      have hb0 : Below w.heap.size w W := by rw [hW]; exact ((Below.refl _ _).alloc (Nat.le_refl _) _).alloc (by simp) _
      have hs0 : w.heap.size + 2 ≤ W.heap.size := by rw [hW]; simp
      have HL : Box5L W w.heap.size l := by rw [hW]; refine ⟨?_, ?_, ?_, ?_, ?_, ?_, ?_, ?_, ?_, ?_⟩ <;> simp [go_sem]
      have HP : Box3 W (w.heap.size + 1) (.int .i64 p.mf) (.int .i64 p.ms) (.int .i64 p.ma) := by rw [hW]; refine ⟨?_, ?_, ?_⟩ <;> simp [go_sem]
      obtain ⟨n, hn⟩ : ∃ n, w.heap.size = n := ⟨_, rfl⟩
      have HN := hide hn
      rw [hn] at hb0 hs0 HL HP ⊢
      have K0 := hide hb0
      clear hW hb0 hn
      refine (HV1.out _).mono ?_
      rintro e w1 ⟨rfl, hb⟩
      have HL1 := HL.below hb
      have HP1 := HP.below hb
      have hs1 : n + 2 ≤ w1.heap.size := Nat.le_trans hs0 hb.size
      have K1 := hide (K0.out.trans (hb.mono (by omega)))
      clear hb HL HP K0 hs0
      try clear l0 l1 l2 l3 l4 p0 p1 p2
      obtain ⟨l0, l1, l2, l3, l4, -, -, -, -, -⟩ := id HL1
      obtain ⟨p0, p1, p2⟩ := id HP1
      go_wp2_with (fail)
      refine (HS.out _).mono ?_
      rintro e w2 ⟨⟨A1, c1, rfl, ho⟩, hb⟩
      have HL2 := HL1.below hb
      have HP2 := HP1.below hb
      have hs2 : n + 2 ≤ w2.heap.size := Nat.le_trans hs1 hb.size
      have K2 := hide (K1.out.trans (hb.mono (by omega)))
      have HO2 : Hid (RdK encL 5 w2 w2.heap.size (.slice A1 Q.length c1) Q) := hide (own_rd ho (fun _ => rfl))
      clear ho HV1 HS
      clear hb HL1 HP1 K1 hs1
      try clear l0 l1 l2 l3 l4 p0 p1 p2
      obtain ⟨l0, l1, l2, l3, l4, -, -, -, -, -⟩ := id HL2
      obtain ⟨p0, p1, p2⟩ := id HP2
      clear l0 l1 l2 l3 l4 p0 p1 p2
      go_wp2_with (fail)
      go_loopw [7] (fun i wr => ∃ m : Nat, m ≤ Q.length ∧ i = .int .i64 m ∧ Hid (Below w2.heap.size w2 wr)) (fun i _ => Q.length - (intOf i).toNat)
      case atStart => exact ⟨0, Nat.zero_le _, rfl, hide (Below.refl _ _)⟩
      case round =>
        obtain ⟨m, hm, rfl, HB⟩ := hrel
        have hsw := HB.out.size
        by_cases hlt : m < Q.length
        · obtain ⟨x, hx⟩ : ∃ x, Q[m]? = some x := ⟨_, List.getElem?_eq_getElem hlt⟩
          obtain ⟨b, o, rfl, hbl, k⟩ := HO2.out.cells5 (by intro e; rw [e] at hlt; simp at hlt)
          have d0 : wr.cell? ⟨b, o + m * 5, none⟩ = some (.int .i64 x.r.x0) := (HB.out.cell (p := ⟨b, _, none⟩) hbl).trans (k m _ hx 0 _ rfl)
          have d1 : wr.cell? ⟨b, o + m * 5 + 1, none⟩ = some (.int .i64 x.r.y0) := (HB.out.cell (p := ⟨b, _, none⟩) hbl).trans (k m _ hx 1 _ rfl)
          have d2 : wr.cell? ⟨b, o + m * 5 + 2, none⟩ = some (.int .i64 x.r.x1) := (HB.out.cell (p := ⟨b, _, none⟩) hbl).trans (k m _ hx 2 _ rfl)
          have d3 : wr.cell? ⟨b, o + m * 5 + 3, none⟩ = some (.int .i64 x.r.y1) := (HB.out.cell (p := ⟨b, _, none⟩) hbl).trans (k m _ hx 3 _ rfl)
          have d4 : wr.cell? ⟨b, o + m * 5 + 4, none⟩ = some (.int .u8 x.f) := (HB.out.cell (p := ⟨b, _, none⟩) hbl).trans (k m _ hx 4 _ rfl)
          have mz : (m : Int) < (Q.length : Int) := by omega
          have HX := hide hx
          clear k hx
          have HC := hide (HCX.out x (List.mem_of_getElem? HX.out))
          obtain ⟨p0, p1, p2⟩ := HP2.below HB.out
          have q0 : b < wr.heap.size := by omega
          have q1 : n + 1 < wr.heap.size := by omega
          have HK : Hid (Keep8 b (o + m * 5) (n + 1) x p wr) := hide ⟨⟨d0, d1, d2, d3, d4⟩, p0, p1, p2⟩
          clear HCX HX
          go_wp2_with (fail)
          go_cut [10] (fun s10 wx => s10 = .int .i64 6 ∧ Below wr.heap.size wr wx)
          case first =>
            go_region_held3 (fun w' => (w'.cell? ⟨b, o + m * 5, none⟩ = some (.int .i64 x.r.x0) ∧ w'.cell? ⟨b, o + m * 5 + 1, none⟩ = some (.int .i64 x.r.y0) ∧ w'.cell? ⟨b, o + m * 5 + 2, none⟩ = some (.int .i64 x.r.x1) ∧ w'.cell? ⟨b, o + m * 5 + 3, none⟩ = some (.int .i64 x.r.y1) ∧ w'.cell? ⟨b, o + m * 5 + 4, none⟩ = some (.int .u8 x.f)) ∧ w'.cell? ⟨n + 1, 0, none⟩ = some (.int .i64 p.mf) ∧ w'.cell? ⟨n + 1, 1, none⟩ = some (.int .i64 p.ms) ∧ w'.cell? ⟨n + 1, 2, none⟩ = some (.int .i64 p.ma)) ((refine HK.out.below (B := wr.heap.size) ?_ q0 q1; repeat (first | with_reducible exact Below.refl _ _ | with_reducible exact hbK | with_reducible refine Below.setCell ?_ (by first | omega | (simp; done) | (simp; omega)) _ | with_reducible refine Below.alloc ?_ (by first | omega | (simp; omega) | simp) _ | with_reducible refine Below.drew ?_)))
              (first
                | (go_at_call 23; refine (HC.out _).mono ?_; rintro e w10 ⟨rfl, hb10⟩; have hbK : Below wr.heap.size wr w10 := Below.trans (by repeat (first | with_reducible exact Below.refl _ _ | with_reducible refine Below.alloc ?_ (by first | omega | (simp; omega) | simp) _ | with_reducible refine Below.drew ?_)) (hb10.mono (by simp <;> omega)); have hsK := hbK.size; obtain ⟨hcK, hfK⟩ := bcell hb10; (try have z0 : wr.heap.size < w10.heap.size := by have := hb10.size; simp at this; omega); (try have z1 : wr.heap.size + 1 < w10.heap.size := by have := hb10.size; simp at this; omega); (try have y0 : ¬ wr.heap.size = w10.heap.size := by omega); (try have y1 : ¬ w10.heap.size = wr.heap.size := by omega); clear hb10))
            all_goals (go_wp2_with (fail); go_meet)
            all_goals
              refine ⟨rfl, ?_⟩
              repeat (first | with_reducible exact Below.refl _ _ | with_reducible exact hbK | with_reducible refine Below.setCell ?_ (by first | omega | (simp; done) | (simp; omega)) _ | with_reducible refine Below.alloc ?_ (by first | omega | (simp; omega) | simp) _ | with_reducible refine Below.drew ?_)
          case rest =>
            obtain ⟨rfl, hb⟩ := hcut
            have HB2 : Hid (Below w2.heap.size w2 wc) := hide (HB.out.trans (hb.mono hsw))
            clear hb HK HB d0 d1 d2 d3 d4 p0 p1 p2
            go_wp2_with (fail)
            go_roundw
            case rel => exact ⟨m + 1, by omega, by go_num, HB2⟩
            case measure => simp [intOf]; omega
        · obtain rfl : m = Q.length := by omega
          have mz : ¬ ((Q.length : Nat) : Int) < (Q.length : Int) := by omega
          have HL3 := HL2.below HB.out
          have HP3 := HP2.below HB.out
          have K3 := hide (K2.out.trans (HB.out.mono (by omega)))
          have hs3 : n + 2 ≤ wr.heap.size := by omega
          have HO3 := hide ((HO2.out.below HB.out).mono HB.out.size)
          obtain ⟨l0, l1, l2, l3, l4, -, -, -, -, -⟩ := id HL3
          obtain ⟨p0, p1, p2⟩ := id HP3
          clear HL2 HP2 K2 hs2 HO2 HB hsw HCX HVL
          go_wp2_with (fail)
          refine (HCL.out _).mono ?_
          rintro e w4 ⟨rfl, hb⟩
          have HL4 := HL3.below hb
          have HP4 := HP3.below hb
          have hs4 : n + 2 ≤ w4.heap.size := Nat.le_trans hs3 hb.size
          have K4 := hide (K3.out.trans (hb.mono (by omega)))
          have HO4 := hide ((HO3.out.below hb).mono hb.size)
          clear hb HL3 HP3 K3 hs3 HO3 HCL l0 l1 l2 l3 l4 p0 p1 p2
          obtain ⟨l0, l1, l2, l3, l4, -, -, -, -, -⟩ := id HL4
          obtain ⟨p0, p1, p2⟩ := id HP4
          have q0 : n < w4.heap.size := by omega
          have q1 : n < w4.heap.size + 1 := by omega
          have q2 : n + 1 < w4.heap.size := by omega
          have q3 : n + 1 < w4.heap.size + 1 := by omega
          go_wp2_with (fail)
          refine calls_name fun Z hZ => ?_
          have hbz : Below w4.heap.size w4 Z := by
            rw [hZ]
            repeat (first | with_reducible exact Below.refl _ _ | with_reducible refine Below.setCell ?_ (by first | (simp; done) | (simp; omega)) _ | with_reducible refine Below.alloc ?_ (by first | omega | (simp; omega) | simp) _)
          have HX5 : Box5L Z w4.heap.size a := by rw [hZ]; refine ⟨?_, ?_, ?_, ?_, ?_, ?_, ?_, ?_, ?_, ?_⟩ <;> simp [go_sem]
          have HY5 : Box5L Z (w4.heap.size + 1) b := by rw [hZ]; refine ⟨?_, ?_, ?_, ?_, ?_, ?_, ?_, ?_, ?_, ?_⟩ <;> simp [go_sem]
          have HP5 := HP4.below hbz
          have HO5 := hide ((HO4.out.below hbz).mono hbz.size)
          have K5 := hide (K4.out.trans (hbz.mono (by omega)))
          have hs5 : n + 2 ≤ Z.heap.size := by have := hbz.size; omega
          obtain ⟨g, hg⟩ : ∃ g, w4.heap.size = g := ⟨_, rfl⟩
          rw [hg] at HX5 HY5 hs4 ⊢
          clear hZ hbz HO4 K4 HL4 HP4 l0 l1 l2 l3 l4 p0 p1 p2 q0 q1 q2 q3 hg
          refine (HSPA.out _).mono ?_
          rintro e w6 ⟨⟨A6, c6, rfl, ho⟩, hb⟩
          have HOA : Hid (RdK encL 5 w6 w6.heap.size (.slice A6 QA.length c6) QA) := hide (own_rd ho (fun _ => rfl))
          have HY6 := HY5.below hb
          have HP6 := HP5.below hb
          have HO6 := hide ((HO5.out.below hb).mono hb.size)
          have K6 := hide (K5.out.trans (hb.mono (by omega)))
          have hs6 : n + 2 ≤ w6.heap.size := by have := hb.size; omega
          clear hb ho HX5 HY5 HP5 HO5 K5 HSPA hs5
          obtain ⟨y0, y1, y2, y3, y4, -, -, -, -, -⟩ := id HY6
          obtain ⟨p0, p1, p2⟩ := id HP6
          go_wp2_with (fail)
          refine (HSPB.out _).mono ?_
          rintro e w7 ⟨⟨A7, c7, rfl, ho⟩, hb⟩
          have HOB : Hid (RdK encL 5 w7 w7.heap.size (.slice A7 QB.length c7) QB) := hide (own_rd ho (fun _ => rfl))
          have HOA7 := hide ((HOA.out.below hb).mono hb.size)
          have HO7 := hide ((HO6.out.below hb).mono hb.size)
          have K7 := hide (K6.out.trans (hb.mono (by omega)))
          have hs7 : n + 2 ≤ w7.heap.size := by have := hb.size; omega
          clear hb ho HY6 HP6 HO6 K6 HSPB hs6 HOA y0 y1 y2 y3 y4 p0 p1 p2
          obtain ⟨i1, gi, gz0, gz1, gz2⟩ := info_parts infoLot
          have hbz : Below w7.heap.size w7 (w7.alloc (.cells #[] 25)) := (Below.refl _ _).alloc (Nat.le_refl _) _
          have HR0 : Hid ((w7.alloc (.cells #[] 25)).ownsRow w7.heap.size 25 5 (.slice (some ⟨w7.heap.size, 0, none⟩) 0 0) 0 []) := hide ⟨by simp, .inr ⟨w7.heap.size, 0, #[], rfl, Nat.le_refl _, World.alloc_heap_new _ _, Nat.le_refl _, by simp [maxLen], by simp, by simp⟩⟩
          have HOA8 := hide (HOA7.out.below hbz)
          have hs8 : n + 2 ≤ w7.heap.size := hs7
          go_wp2_with (at_builtin; go_loud (refine wpList_app_rd_g (enc := encL) (k := 5) (l := QA) rfl (fun _ => rfl) one_encL (.tmp 93) (.tmp 94) 28 rfl w7.heap.size 25 i1 (.agg #[.int .i64 0, .int .i64 0, .int .i64 0, .int .i64 0, .int .u8 0]) 40 Try.underlying28 gi gz0 gz1 gz2 rfl (by decide) (.slice (some ⟨w7.heap.size, 0, none⟩) 0 0) 0 [] rfl HR0.out w7.heap.size HOA8.out (by unfold maxLen; omega) (by omega) (by simp) ?_))
          intro v9 w9 hown hgrow
          have HB9 : Hid (Below w7.heap.size w7 w9) := hide (hbz.grown hgrow (by simp) (fun q hq => (HR0.out.lt q hq).1))
          have HR9 : Hid (w9.ownsRow w7.heap.size 25 5 v9 QA.length (QA.flatMap encL)) := hide (by simpa using hown)
          have HOB9 := hide (HOB.out.below HB9.out)
          clear hown hgrow HR0 HOA7 HOA8 HOB hbz
          have hsz9 := HB9.out.size
          go_wp2_with (at_builtin; go_loud (refine wpList_app_rd_g (enc := encL) (k := 5) (l := QB) rfl (fun _ => rfl) one_encL (.tmp 95) (.tmp 96) 28 rfl w7.heap.size 25 i1 (.agg #[.int .i64 0, .int .i64 0, .int .i64 0, .int .i64 0, .int .u8 0]) 40 Try.underlying28 gi gz0 gz1 gz2 rfl (by decide) v9 QA.length _ rfl HR9.out w7.heap.size HOB9.out (by unfold maxLen; omega) (by omega) (by omega) ?_))
          intro v10 w10 hown hgrow
          have HB10 : Hid (Below w7.heap.size w7 w10) := hide (HB9.out.grown hgrow hsz9 (fun q hq => (HR9.out.lt q hq).1))
          have HR10 : Hid (w10.ownsRow w7.heap.size 25 5 v10 (QA ++ QB).length ((QA ++ QB).flatMap encL)) := hide (by rw [List.length_append, List.flatMap_append]; exact hown)
          have HO10 := hide ((HO7.out.below HB10.out).mono HB10.out.size)
          have K10 := hide (K7.out.trans (HB10.out.mono (by omega)))
          have hs10 : n + 2 ≤ w10.heap.size := by have := HB10.out.size; omega
          clear hown hgrow HR9 HOB9 HB9 hsz9 HO7 K7 HB10
          have HSA := hide (rSameL_any (own_rd HR10.out (fun _ => rfl)) HO10.out (by rw [List.length_append]; omega) (Nat.le_refl _) (Nat.le_refl _))
          rw [decide_eq_true HQ.out.symm] at HSA
          clear HR10 HO10 HQ
          go_wp2_with (fail)
          refine HSA.out.mono ?_
          rintro e w11 ⟨rfl, hb⟩
          have K11 := hide (K10.out.trans (hb.mono (by omega)))
          have hs11 : n + 2 ≤ w11.heap.size := by have := hb.size; omega
          clear hb HSA K10
          go_wp2_with (fail)
          refine (HAL.out _).mono ?_
          rintro e w12 ⟨rfl, hb⟩
          have K12 := hide (K11.out.trans (hb.mono (by omega)))
          clear hb
          go_wp2_with (fail)
          go_ret
          exact ⟨rfl, by rw [HN.out]; exact K12.out⟩
    · have hR : splitR l p = ([], 4) := by unfold splitR; rw [if_pos h0, if_neg h4]
      rw [hR] at hS
      have HS : Hid (∀ W : World, Calls Try.prog 11 #[.agg #[.int .i64 l.r.x0, .int .i64 l.r.y0, .int .i64 l.r.x1, .int .i64 l.r.y1, .int .u8 l.f], .agg #[.int .i64 p.mf, .int .i64 p.ms, .int .i64 p.ma]] W (LotsRet W ([], 4))) := hide hS
      clear hS hR h0 hv h4 hf
      show Calls Try.prog _ #[.agg #[.int .i64 l.r.x0, .int .i64 l.r.y0, .int .i64 l.r.x1, .int .i64 l.r.y1, .int .u8 l.f], .agg #[.int .i64 p.mf, .int .i64 p.ms, .int .i64 p.ma]] w _
      go_enter Try.func8, Try.ntmps8
      go_wp2_with (fail)
      obtain ⟨W, hW⟩ : ∃ x, x = (w.alloc (.cells #[.int .i64 l.r.x0, .int .i64 l.r.y0, .int .i64 l.r.x1, .int .i64 l.r.y1, .int .u8 l.f] 25)).alloc (.cells #[.int .i64 p.mf, .int .i64 p.ms, .int .i64 p.ma] 27) := ⟨_, rfl⟩
      rw [← hW]
      have hb0 : Below w.heap.size w W := by rw [hW]; exact ((Below.refl _ _).alloc (Nat.le_refl _) _).alloc (by simp) _
      have hs0 : w.heap.size + 2 ≤ W.heap.size := by rw [hW]; simp
      have HL : Box5L W w.heap.size l := by rw [hW]; refine ⟨?_, ?_, ?_, ?_, ?_, ?_, ?_, ?_, ?_, ?_⟩ <;> simp [go_sem]
      have HP : Box3 W (w.heap.size + 1) (.int .i64 p.mf) (.int .i64 p.ms) (.int .i64 p.ma) := by rw [hW]; refine ⟨?_, ?_, ?_⟩ <;> simp [go_sem]
      obtain ⟨n, hn⟩ : ∃ n, w.heap.size = n := ⟨_, rfl⟩
      have HN := hide hn
      rw [hn] at hb0 hs0 HL HP ⊢
      have K0 := hide hb0
      clear hW hb0 hn
      refine (HV1.out _).mono ?_
      rintro e w1 ⟨rfl, hb⟩
      have HL1 := HL.below hb
      have HP1 := HP.below hb
      have hs1 : n + 2 ≤ w1.heap.size := Nat.le_trans hs0 hb.size
      have K1 := hide (K0.out.trans (hb.mono (by omega)))
      clear hb HL HP K0 hs0
      try clear l0 l1 l2 l3 l4 p0 p1 p2
      obtain ⟨l0, l1, l2, l3, l4, -, -, -, -, -⟩ := id HL1
      obtain ⟨p0, p1, p2⟩ := id HP1
      go_wp2_with (fail)
      refine (HS.out _).mono ?_
      rintro e w2 ⟨⟨A1, c1, rfl, ho⟩, hb⟩
      clear ho
      have HL2 := HL1.below hb
      have HP2 := HP1.below hb
      have hs2 : n + 2 ≤ w2.heap.size := Nat.le_trans hs1 hb.size
      have K2 := hide (K1.out.trans (hb.mono (by omega)))
      clear hb HL1 HP1 K1 hs1
      try clear l0 l1 l2 l3 l4 p0 p1 p2
      go_wp2_with (fail)
      refine (HAL.out _).mono ?_
      rintro e w3 ⟨rfl, hb⟩
      have K3 := hide (K2.out.trans (hb.mono (by omega)))
      clear hb HL2 HP2
      go_wp2_with (fail)
      go_ret
      exact ⟨rfl, by rw [HN.out]; exact K3.out⟩
  · have hck : (checkL l p == 0) = false := by simpa using h0
    rw [hck] at HV
    have HV1 : Hid (∀ W : World, Calls Try.prog 14 #[.agg #[.int .i64 l.r.x0, .int .i64 l.r.y0, .int .i64 l.r.x1, .int .i64 l.r.y1, .int .u8 l.f], .agg #[.int .i64 p.mf, .int .i64 p.ms, .int .i64 p.ma]] W fun e w' => e = .returned (.bool false) ∧ Below W.heap.size W w') := hide HV.out
    clear HV hck h0 hf
    show Calls Try.prog _ #[.agg #[.int .i64 l.r.x0, .int .i64 l.r.y0, .int .i64 l.r.x1, .int .i64 l.r.y1, .int .u8 l.f], .agg #[.int .i64 p.mf, .int .i64 p.ms, .int .i64 p.ma]] w _
    go_enter Try.func8, Try.ntmps8
    go_wp2_with (fail)
    obtain ⟨W, hW⟩ : ∃ x, x = (w.alloc (.cells #[.int .i64 l.r.x0, .int .i64 l.r.y0, .int .i64 l.r.x1, .int .i64 l.r.y1, .int .u8 l.f] 25)).alloc (.cells #[.int .i64 p.mf, .int .i64 p.ms, .int .i64 p.ma] 27) := ⟨_, rfl⟩
    rw [← hW]
    have hb0 : Below w.heap.size w W := by rw [hW]; exact ((Below.refl _ _).alloc (Nat.le_refl _) _).alloc (by simp) _
    have hs0 : w.heap.size + 2 ≤ W.heap.size := by rw [hW]; simp
    have HL : Box5L W w.heap.size l := by rw [hW]; refine ⟨?_, ?_, ?_, ?_, ?_, ?_, ?_, ?_, ?_, ?_⟩ <;> simp [go_sem]
    have HP : Box3 W (w.heap.size + 1) (.int .i64 p.mf) (.int .i64 p.ms) (.int .i64 p.ma) := by rw [hW]; refine ⟨?_, ?_, ?_⟩ <;> simp [go_sem]
    obtain ⟨n, hn⟩ : ∃ n, w.heap.size = n := ⟨_, rfl⟩
    have HN := hide hn
    rw [hn] at hb0 hs0 HL HP ⊢
    have K0 := hide hb0
    clear hW hb0 hn
    refine (HV1.out _).mono ?_
    rintro e w1 ⟨rfl, hb⟩
    have HL1 := HL.below hb
    have HP1 := HP.below hb
    have hs1 : n + 2 ≤ w1.heap.size := Nat.le_trans hs0 hb.size
    have K1 := hide (K0.out.trans (hb.mono (by omega)))
    clear hb HL HP K0 hs0
    try clear l0 l1 l2 l3 l4 p0 p1 p2
    go_wp2_with (fail)
    refine (HAL.out _).mono ?_
    rintro e w2 ⟨rfl, hb⟩
    have K2 := hide (K1.out.trans (hb.mono (by omega)))
    clear hb HL1 HP1
    go_wp2_with (fail)
    go_ret
    exact ⟨rfl, by rw [HN.out]; exact K2.out⟩
theorem ends_walk (l : Lot5) (p : Pl3) (hf : 0 ≤ l.f ∧ l.f ≤ 255) (w : World) : Calls Try.prog 8 #[.agg (encL l).toArray, .agg (encP p).toArray] w fun e w' => e = .returned (.bool true) ∧ Below w.heap.size w w' := by
  cases hc : cutL p l with
  | none => exact ends_none l p hf hc w
  | some x => exact ends_some l p hf hc w
end Go.Proofs.Ytgdlbaabdebclaa

/- ParcelMoves: the lots of a lot that was moved are its lots, moved: the walk. -/
namespace Go.Proofs.Ytgdlbaabdebclaa
open Go.RowKit
set_option linter.unusedVariables false
set_option linter.unusedSimpArgs false

set_option maxRecDepth 100000 in
set_option maxHeartbeats 4000000 in
theorem moved24_any (l : Lot5) (x y : Int) (hv : okR l.r) (hx : -1000 ≤ x ∧ x ≤ 1000) (hy : -1000 ≤ y ∧ y ≤ 1000) (w : World) : Calls Try.prog 18 #[.agg (encL l).toArray, .int .i64 x, .int .i64 y] w fun e w' => e = .returned (.agg #[.int .i64 (l.r.x0 + x), .int .i64 (l.r.y0 + y), .int .i64 (l.r.x1 + x), .int .i64 (l.r.y1 + y), .int .u8 l.f]) ∧ Below w.heap.size w w' := by
  obtain ⟨h1, h2, h3, h4, h5, h6⟩ := hv
  unfold inR at h3 h4 h5 h6
  obtain ⟨h3, h3'⟩ := h3
  obtain ⟨h4, h4'⟩ := h4
  obtain ⟨h5, h5'⟩ := h5
  obtain ⟨h6, h6'⟩ := h6
  obtain ⟨hx, hx'⟩ := hx
  obtain ⟨hy, hy'⟩ := hy
  show Calls Try.prog _ #[.agg #[.int .i64 l.r.x0, .int .i64 l.r.y0, .int .i64 l.r.x1, .int .i64 l.r.y1, .int .u8 l.f], .int .i64 x, .int .i64 y] w _
  go_enter Try.func18, Try.ntmps18
  go_wp2
  refine exit_name fun V hV => ?_
  have HA : Box5 V (w.heap.size + 1) (.int .i64 (l.r.x0 + x)) (.int .i64 (l.r.y0 + y)) (.int .i64 (l.r.x1 + x)) (.int .i64 (l.r.y1 + y)) (.int .u8 l.f) := by rw [hV]; refine ⟨?_, ?_, ?_, ?_, ?_, ?_, ?_, ?_, ?_, ?_⟩ <;> simp [go_sem]
  have KV : Below w.heap.size w V := by
    rw [hV]
    repeat (first | with_reducible exact Below.refl _ _ | with_reducible refine Below.setCell ?_ (by first | (simp; done) | (simp; omega)) _ | with_reducible refine Below.alloc ?_ (by first | omega | (simp; omega) | simp) _)
  clear hV
  obtain ⟨a0, a1, a2, a3, a4, -, -, -, -, -⟩ := HA
  refine bodyPost_ret (v := .agg #[.int .i64 (l.r.x0 + x), .int .i64 (l.r.y0 + y), .int .i64 (l.r.x1 + x), .int .i64 (l.r.y1 + y), .int .u8 l.f]) (by simp [results, Try.results18, go_sem, a0, a1, a2, a3, a4]) rfl ⟨rfl, KV⟩
theorem splitR_moved {l : Lot5} {p : Pl3} {x y : Int} (h1 : checkL l p = 0) (h2 : checkL (moveL x y l) p = 0) : ∃ Q c, splitR l p = (Q, c) ∧ splitR (moveL x y l) p = (Q.map (moveL x y), c) ∧ Q.length ≤ 400 ∧ ∀ z ∈ Q, validL z := by
  have hm := move_leaves p x y l (checkL_valid h1) (checkL_valid h2)
  unfold splitR
  rw [if_pos h1, if_pos h2, hm, List.length_map]
  by_cases h : (leaves p l).length ≤ 400
  · rw [if_pos h, if_pos h]
    exact ⟨_, _, rfl, rfl, h, leaves_valid (checkL_valid h1)⟩
  · rw [if_neg h, if_neg h]
    exact ⟨[], 4, rfl, rfl, by simp, by simp⟩
set_option maxRecDepth 100000 in
set_option maxHeartbeats 8000000 in
theorem moves_off (l : Lot5) (p : Pl3) (hf : 0 ≤ l.f ∧ l.f ≤ 255) (x y : Int) (ho : ¬ checkL l p = 0 ∨ x < -1000 ∨ 1000 < x ∨ y < -1000 ∨ 1000 < y) (w : World) : Calls Try.prog 5 #[.agg (encL l).toArray, .agg (encP p).toArray, .int .i64 x, .int .i64 y] w fun e w' => e = .returned (.bool true) ∧ Below w.heap.size w w' := by
  have HV := hide (fun W => valid24_any l p hf W)
  have HAL := hide (fun W => alive24_any W)
  generalize hck : (checkL l p == 0) = V at *
  have ho' : V = false ∨ V = true ∧ (x < -1000 ∨ 1000 < x ∨ y < -1000 ∨ 1000 < y) := by
    cases V with
    | false => exact .inl rfl
    | true => exact .inr ⟨rfl, ho.resolve_left (fun h => h (by simpa using hck))⟩
  clear ho hck hf
  simp only [encL, encP] at HV
  show Calls Try.prog _ #[.agg #[.int .i64 l.r.x0, .int .i64 l.r.y0, .int .i64 l.r.x1, .int .i64 l.r.y1, .int .u8 l.f], .agg #[.int .i64 p.mf, .int .i64 p.ms, .int .i64 p.ma], .int .i64 x, .int .i64 y] w _
  rcases ho' with rfl | ⟨rfl, ho'⟩
  · go_enter Try.func5, Try.ntmps5
    go_wp2_with (fail)
    obtain ⟨W, hW⟩ : ∃ x, x = (w.alloc (.cells #[.int .i64 l.r.x0, .int .i64 l.r.y0, .int .i64 l.r.x1, .int .i64 l.r.y1, .int .u8 l.f] 25)).alloc (.cells #[.int .i64 p.mf, .int .i64 p.ms, .int .i64 p.ma] 27) := ⟨_, rfl⟩
    rw [← hW]
    have hb0 : Below w.heap.size w W := by rw [hW]; exact ((Below.refl _ _).alloc (Nat.le_refl _) _).alloc (by simp) _
    have hs0 : w.heap.size + 2 ≤ W.heap.size := by rw [hW]; simp
    have HL : Box5L W w.heap.size l := by rw [hW]; refine ⟨?_, ?_, ?_, ?_, ?_, ?_, ?_, ?_, ?_, ?_⟩ <;> simp [go_sem]
    have HP : Box3 W (w.heap.size + 1) (.int .i64 p.mf) (.int .i64 p.ms) (.int .i64 p.ma) := by rw [hW]; refine ⟨?_, ?_, ?_⟩ <;> simp [go_sem]
    obtain ⟨n, hn⟩ : ∃ n, w.heap.size = n := ⟨_, rfl⟩
    have HN := hide hn
    rw [hn] at hb0 hs0 HL HP ⊢
    have K0 := hide hb0
    clear hW hb0 hn
    refine (HV.out _).mono ?_
    rintro e w1 ⟨rfl, hb⟩
    have HL1 := HL.below hb
    have HP1 := HP.below hb
    have hs1 : n + 2 ≤ w1.heap.size := Nat.le_trans hs0 hb.size
    have K1 := hide (K0.out.trans (hb.mono (by omega)))
    clear hb HL HP K0 hs0
    try clear l0 l1 l2 l3 l4 p0 p1 p2
    go_wp2_with (fail)
    refine (HAL.out _).mono ?_
    rintro e w2 ⟨rfl, hb⟩
    have K2 := hide (K1.out.trans (hb.mono (by omega)))
    clear hb
    go_wp2_with (fail)
    go_ret
    exact ⟨rfl, by rw [HN.out]; exact K2.out⟩
  · have hc : (x < -1000) ∨ (¬ x < -1000 ∧ 1000 < x) ∨ (¬ x < -1000 ∧ ¬ 1000 < x ∧ y < -1000) ∨ (¬ x < -1000 ∧ ¬ 1000 < x ∧ ¬ y < -1000 ∧ 1000 < y) := by omega
    clear ho'
    rcases hc with h1 | ⟨h1, h2⟩ | ⟨h1, h2, h3⟩ | ⟨h1, h2, h3, h4⟩
    · go_enter Try.func5, Try.ntmps5
      go_wp2_with (fail)
      obtain ⟨W, hW⟩ : ∃ x, x = (w.alloc (.cells #[.int .i64 l.r.x0, .int .i64 l.r.y0, .int .i64 l.r.x1, .int .i64 l.r.y1, .int .u8 l.f] 25)).alloc (.cells #[.int .i64 p.mf, .int .i64 p.ms, .int .i64 p.ma] 27) := ⟨_, rfl⟩
      rw [← hW]
      have hb0 : Below w.heap.size w W := by rw [hW]; exact ((Below.refl _ _).alloc (Nat.le_refl _) _).alloc (by simp) _
      have hs0 : w.heap.size + 2 ≤ W.heap.size := by rw [hW]; simp
      have HL : Box5L W w.heap.size l := by rw [hW]; refine ⟨?_, ?_, ?_, ?_, ?_, ?_, ?_, ?_, ?_, ?_⟩ <;> simp [go_sem]
      have HP : Box3 W (w.heap.size + 1) (.int .i64 p.mf) (.int .i64 p.ms) (.int .i64 p.ma) := by rw [hW]; refine ⟨?_, ?_, ?_⟩ <;> simp [go_sem]
      obtain ⟨n, hn⟩ : ∃ n, w.heap.size = n := ⟨_, rfl⟩
      have HN := hide hn
      rw [hn] at hb0 hs0 HL HP ⊢
      have K0 := hide hb0
      clear hW hb0 hn
      refine (HV.out _).mono ?_
      rintro e w1 ⟨rfl, hb⟩
      have HL1 := HL.below hb
      have HP1 := HP.below hb
      have hs1 : n + 2 ≤ w1.heap.size := Nat.le_trans hs0 hb.size
      have K1 := hide (K0.out.trans (hb.mono (by omega)))
      clear hb HL HP K0 hs0
      try clear l0 l1 l2 l3 l4 p0 p1 p2
      go_wp2_with (fail)
      refine (HAL.out _).mono ?_
      rintro e w2 ⟨rfl, hb⟩
      have K2 := hide (K1.out.trans (hb.mono (by omega)))
      clear hb
      go_wp2_with (fail)
      go_ret
      exact ⟨rfl, by rw [HN.out]; exact K2.out⟩
    · go_enter Try.func5, Try.ntmps5
      go_wp2_with (fail)
      obtain ⟨W, hW⟩ : ∃ x, x = (w.alloc (.cells #[.int .i64 l.r.x0, .int .i64 l.r.y0, .int .i64 l.r.x1, .int .i64 l.r.y1, .int .u8 l.f] 25)).alloc (.cells #[.int .i64 p.mf, .int .i64 p.ms, .int .i64 p.ma] 27) := ⟨_, rfl⟩
      rw [← hW]
      have hb0 : Below w.heap.size w W := by rw [hW]; exact ((Below.refl _ _).alloc (Nat.le_refl _) _).alloc (by simp) _
      have hs0 : w.heap.size + 2 ≤ W.heap.size := by rw [hW]; simp
      have HL : Box5L W w.heap.size l := by rw [hW]; refine ⟨?_, ?_, ?_, ?_, ?_, ?_, ?_, ?_, ?_, ?_⟩ <;> simp [go_sem]
      have HP : Box3 W (w.heap.size + 1) (.int .i64 p.mf) (.int .i64 p.ms) (.int .i64 p.ma) := by rw [hW]; refine ⟨?_, ?_, ?_⟩ <;> simp [go_sem]
      obtain ⟨n, hn⟩ : ∃ n, w.heap.size = n := ⟨_, rfl⟩
      have HN := hide hn
      rw [hn] at hb0 hs0 HL HP ⊢
      have K0 := hide hb0
      clear hW hb0 hn
      refine (HV.out _).mono ?_
      rintro e w1 ⟨rfl, hb⟩
      have HL1 := HL.below hb
      have HP1 := HP.below hb
      have hs1 : n + 2 ≤ w1.heap.size := Nat.le_trans hs0 hb.size
      have K1 := hide (K0.out.trans (hb.mono (by omega)))
      clear hb HL HP K0 hs0
      try clear l0 l1 l2 l3 l4 p0 p1 p2
      go_wp2_with (fail)
      refine (HAL.out _).mono ?_
      rintro e w2 ⟨rfl, hb⟩
      have K2 := hide (K1.out.trans (hb.mono (by omega)))
      clear hb
      go_wp2_with (fail)
      go_ret
      exact ⟨rfl, by rw [HN.out]; exact K2.out⟩
    · go_enter Try.func5, Try.ntmps5
      go_wp2_with (fail)
      obtain ⟨W, hW⟩ : ∃ x, x = (w.alloc (.cells #[.int .i64 l.r.x0, .int .i64 l.r.y0, .int .i64 l.r.x1, .int .i64 l.r.y1, .int .u8 l.f] 25)).alloc (.cells #[.int .i64 p.mf, .int .i64 p.ms, .int .i64 p.ma] 27) := ⟨_, rfl⟩
      rw [← hW]
      have hb0 : Below w.heap.size w W := by rw [hW]; exact ((Below.refl _ _).alloc (Nat.le_refl _) _).alloc (by simp) _
      have hs0 : w.heap.size + 2 ≤ W.heap.size := by rw [hW]; simp
      have HL : Box5L W w.heap.size l := by rw [hW]; refine ⟨?_, ?_, ?_, ?_, ?_, ?_, ?_, ?_, ?_, ?_⟩ <;> simp [go_sem]
      have HP : Box3 W (w.heap.size + 1) (.int .i64 p.mf) (.int .i64 p.ms) (.int .i64 p.ma) := by rw [hW]; refine ⟨?_, ?_, ?_⟩ <;> simp [go_sem]
      obtain ⟨n, hn⟩ : ∃ n, w.heap.size = n := ⟨_, rfl⟩
      have HN := hide hn
      rw [hn] at hb0 hs0 HL HP ⊢
      have K0 := hide hb0
      clear hW hb0 hn
      refine (HV.out _).mono ?_
      rintro e w1 ⟨rfl, hb⟩
      have HL1 := HL.below hb
      have HP1 := HP.below hb
      have hs1 : n + 2 ≤ w1.heap.size := Nat.le_trans hs0 hb.size
      have K1 := hide (K0.out.trans (hb.mono (by omega)))
      clear hb HL HP K0 hs0
      try clear l0 l1 l2 l3 l4 p0 p1 p2
      go_wp2_with (fail)
      refine (HAL.out _).mono ?_
      rintro e w2 ⟨rfl, hb⟩
      have K2 := hide (K1.out.trans (hb.mono (by omega)))
      clear hb
      go_wp2_with (fail)
      go_ret
      exact ⟨rfl, by rw [HN.out]; exact K2.out⟩
    · go_enter Try.func5, Try.ntmps5
      go_wp2_with (fail)
      obtain ⟨W, hW⟩ : ∃ x, x = (w.alloc (.cells #[.int .i64 l.r.x0, .int .i64 l.r.y0, .int .i64 l.r.x1, .int .i64 l.r.y1, .int .u8 l.f] 25)).alloc (.cells #[.int .i64 p.mf, .int .i64 p.ms, .int .i64 p.ma] 27) := ⟨_, rfl⟩
      rw [← hW]
      have hb0 : Below w.heap.size w W := by rw [hW]; exact ((Below.refl _ _).alloc (Nat.le_refl _) _).alloc (by simp) _
      have hs0 : w.heap.size + 2 ≤ W.heap.size := by rw [hW]; simp
      have HL : Box5L W w.heap.size l := by rw [hW]; refine ⟨?_, ?_, ?_, ?_, ?_, ?_, ?_, ?_, ?_, ?_⟩ <;> simp [go_sem]
      have HP : Box3 W (w.heap.size + 1) (.int .i64 p.mf) (.int .i64 p.ms) (.int .i64 p.ma) := by rw [hW]; refine ⟨?_, ?_, ?_⟩ <;> simp [go_sem]
      obtain ⟨n, hn⟩ : ∃ n, w.heap.size = n := ⟨_, rfl⟩
      have HN := hide hn
      rw [hn] at hb0 hs0 HL HP ⊢
      have K0 := hide hb0
      clear hW hb0 hn
      refine (HV.out _).mono ?_
      rintro e w1 ⟨rfl, hb⟩
      have HL1 := HL.below hb
      have HP1 := HP.below hb
      have hs1 : n + 2 ≤ w1.heap.size := Nat.le_trans hs0 hb.size
      have K1 := hide (K0.out.trans (hb.mono (by omega)))
      clear hb HL HP K0 hs0
      try clear l0 l1 l2 l3 l4 p0 p1 p2
      go_wp2_with (fail)
      refine (HAL.out _).mono ?_
      rintro e w2 ⟨rfl, hb⟩
      have K2 := hide (K1.out.trans (hb.mono (by omega)))
      clear hb
      go_wp2_with (fail)
      go_ret
      exact ⟨rfl, by rw [HN.out]; exact K2.out⟩
set_option maxRecDepth 100000 in
set_option maxHeartbeats 8000000 in
theorem moves_bad (l : Lot5) (p : Pl3) (hf : 0 ≤ l.f ∧ l.f ≤ 255) (x y : Int) (h0 : checkL l p = 0) (hx : -1000 ≤ x ∧ x ≤ 1000) (hy : -1000 ≤ y ∧ y ≤ 1000) (hm : ¬ checkL (moveL x y l) p = 0) (w : World) : Calls Try.prog 5 #[.agg (encL l).toArray, .agg (encP p).toArray, .int .i64 x, .int .i64 y] w fun e w' => e = .returned (.bool true) ∧ Below w.heap.size w w' := by
  have HV1 : Hid (∀ W : World, Calls Try.prog 14 #[.agg #[.int .i64 l.r.x0, .int .i64 l.r.y0, .int .i64 l.r.x1, .int .i64 l.r.y1, .int .u8 l.f], .agg #[.int .i64 p.mf, .int .i64 p.ms, .int .i64 p.ma]] W fun e w' => e = .returned (.bool true) ∧ Below W.heap.size W w') := hide (fun W => by
    have := valid24_any l p hf W
    rw [h0] at this
    exact this)
  have HAL := hide (fun W => alive24_any W)
  have hv := checkL_valid h0
  have HML : Hid (∀ W : World, Calls Try.prog 18 #[.agg #[.int .i64 l.r.x0, .int .i64 l.r.y0, .int .i64 l.r.x1, .int .i64 l.r.y1, .int .u8 l.f], .int .i64 x, .int .i64 y] W fun e w' => e = .returned (.agg #[.int .i64 (l.r.x0 + x), .int .i64 (l.r.y0 + y), .int .i64 (l.r.x1 + x), .int .i64 (l.r.y1 + y), .int .u8 l.f]) ∧ Below W.heap.size W w') := hide (fun W => moved24_any l x y hv.1 hx hy W)
  have HV2 : Hid (∀ W : World, Calls Try.prog 14 #[.agg #[.int .i64 (l.r.x0 + x), .int .i64 (l.r.y0 + y), .int .i64 (l.r.x1 + x), .int .i64 (l.r.y1 + y), .int .u8 l.f], .agg #[.int .i64 p.mf, .int .i64 p.ms, .int .i64 p.ma]] W fun e w' => e = .returned (.bool false) ∧ Below W.heap.size W w') := hide (fun W => by
    have := valid24_any (moveL x y l) p hf W
    rw [show (checkL (moveL x y l) p == 0) = false from by simpa using hm] at this
    exact this)
  clear hm h0 hf hv
  show Calls Try.prog _ #[.agg #[.int .i64 l.r.x0, .int .i64 l.r.y0, .int .i64 l.r.x1, .int .i64 l.r.y1, .int .u8 l.f], .agg #[.int .i64 p.mf, .int .i64 p.ms, .int .i64 p.ma], .int .i64 x, .int .i64 y] w _
  obtain ⟨hx, hx'⟩ := hx
  obtain ⟨hy, hy'⟩ := hy
  have g1 : ¬ x < -1000 := by omega
  have g2 : ¬ 1000 < x := by omega
  have g3 : ¬ y < -1000 := by omega
  have g4 : ¬ 1000 < y := by omega
  go_enter Try.func5, Try.ntmps5
  go_wp2_with (fail)
  obtain ⟨W, hW⟩ : ∃ x, x = (w.alloc (.cells #[.int .i64 l.r.x0, .int .i64 l.r.y0, .int .i64 l.r.x1, .int .i64 l.r.y1, .int .u8 l.f] 25)).alloc (.cells #[.int .i64 p.mf, .int .i64 p.ms, .int .i64 p.ma] 27) := ⟨_, rfl⟩
  rw [← hW]
  have hb0 : Below w.heap.size w W := by rw [hW]; exact ((Below.refl _ _).alloc (Nat.le_refl _) _).alloc (by simp) _
  have hs0 : w.heap.size + 2 ≤ W.heap.size := by rw [hW]; simp
  have HL : Box5L W w.heap.size l := by rw [hW]; refine ⟨?_, ?_, ?_, ?_, ?_, ?_, ?_, ?_, ?_, ?_⟩ <;> simp [go_sem]
  have HP : Box3 W (w.heap.size + 1) (.int .i64 p.mf) (.int .i64 p.ms) (.int .i64 p.ma) := by rw [hW]; refine ⟨?_, ?_, ?_⟩ <;> simp [go_sem]
  obtain ⟨n, hn⟩ : ∃ n, w.heap.size = n := ⟨_, rfl⟩
  have HN := hide hn
  rw [hn] at hb0 hs0 HL HP ⊢
  have K0 := hide hb0
  clear hW hb0 hn
  refine (HV1.out _).mono ?_
  rintro e w1 ⟨rfl, hb⟩
  have HL1 := HL.below hb
  have HP1 := HP.below hb
  have hs1 : n + 2 ≤ w1.heap.size := Nat.le_trans hs0 hb.size
  have K1 := hide (K0.out.trans (hb.mono (by omega)))
  clear hb HL HP K0 hs0
  try clear l0 l1 l2 l3 l4 p0 p1 p2
  obtain ⟨l0, l1, l2, l3, l4, -, -, -, -, -⟩ := id HL1
  obtain ⟨p0, p1, p2⟩ := id HP1
  go_wp2_with (fail)
  refine (HML.out _).mono ?_
  rintro e w2 ⟨rfl, hb⟩
  have HL2 := HL1.below hb
  have HP2 := HP1.below hb
  have hs2 : n + 2 ≤ w2.heap.size := Nat.le_trans hs1 hb.size
  have K2 := hide (K1.out.trans (hb.mono (by omega)))
  clear hb HL1 HP1 K1 hs1
  try clear l0 l1 l2 l3 l4 p0 p1 p2
  obtain ⟨l0, l1, l2, l3, l4, -, -, -, -, -⟩ := id HL2
  obtain ⟨p0, p1, p2⟩ := id HP2
  have q0 : n + 1 < w2.heap.size := by omega
  go_wp2_with (fail)
  refine calls_name fun Z hZ => ?_
  have hb : Below w2.heap.size w2 Z := by
    rw [hZ]
    repeat (first | with_reducible exact Below.refl _ _ | with_reducible refine Below.setCell ?_ (by first | (simp; done) | (simp; omega)) _ | with_reducible refine Below.alloc ?_ (by first | omega | (simp; omega) | simp) _)
  have HM3 : Box5 Z w2.heap.size (.int .i64 (l.r.x0 + x)) (.int .i64 (l.r.y0 + y)) (.int .i64 (l.r.x1 + x)) (.int .i64 (l.r.y1 + y)) (.int .u8 l.f) := by rw [hZ]; refine ⟨?_, ?_, ?_, ?_, ?_, ?_, ?_, ?_, ?_, ?_⟩ <;> simp [go_sem]
  have HL3 := HL2.below hb
  have HP3 := HP2.below hb
  have K3 := hide (K2.out.trans (hb.mono (by omega)))
  have hs3 : n + 2 ≤ Z.heap.size := by have := hb.size; omega
  obtain ⟨g, hg⟩ : ∃ g, w2.heap.size = g := ⟨_, rfl⟩
  rw [hg] at HM3 hs2 ⊢
  clear hZ hb HL2 HP2 K2 hg q0 l0 l1 l2 l3 l4 p0 p1 p2
  refine (HV2.out _).mono ?_
  rintro e w4 ⟨rfl, hb⟩
  have HM4 := HM3.below hb
  have HL4 := HL3.below hb
  have HP4 := HP3.below hb
  have hs4 : n + 2 ≤ w4.heap.size := Nat.le_trans hs3 hb.size
  have K4 := hide (K3.out.trans (hb.mono (by omega)))
  clear hb HL3 HP3 K3 hs3
  try clear l0 l1 l2 l3 l4 p0 p1 p2
  obtain ⟨l0, l1, l2, l3, l4, -, -, -, -, -⟩ := id HL4
  obtain ⟨p0, p1, p2⟩ := id HP4
  clear HM4 HL4 HP4 l0 l1 l2 l3 l4 p0 p1 p2
  go_wp2_with (fail)
  refine (HAL.out _).mono ?_
  rintro e w5 ⟨rfl, hb⟩
  have K5 := hide (K4.out.trans (hb.mono (by omega)))
  clear hb
  go_wp2_with (fail)
  go_ret
  exact ⟨rfl, by rw [HN.out]; exact K5.out⟩
set_option maxRecDepth 100000 in
set_option maxHeartbeats 8000000 in
theorem moves_main (l : Lot5) (p : Pl3) (hf : 0 ≤ l.f ∧ l.f ≤ 255) (x y : Int) (h0 : checkL l p = 0) (hx : -1000 ≤ x ∧ x ≤ 1000) (hy : -1000 ≤ y ∧ y ≤ 1000) (hm : checkL (moveL x y l) p = 0) (w : World) : Calls Try.prog 5 #[.agg (encL l).toArray, .agg (encP p).toArray, .int .i64 x, .int .i64 y] w fun e w' => e = .returned (.bool true) ∧ Below w.heap.size w w' := by
  have HV1 : Hid (∀ W : World, Calls Try.prog 14 #[.agg #[.int .i64 l.r.x0, .int .i64 l.r.y0, .int .i64 l.r.x1, .int .i64 l.r.y1, .int .u8 l.f], .agg #[.int .i64 p.mf, .int .i64 p.ms, .int .i64 p.ma]] W fun e w' => e = .returned (.bool true) ∧ Below W.heap.size W w') := hide (fun W => by
    have := valid24_any l p hf W
    rw [h0] at this
    exact this)
  have HAL := hide (fun W => alive24_any W)
  have hv := checkL_valid h0
  have HML : Hid (∀ W : World, Calls Try.prog 18 #[.agg #[.int .i64 l.r.x0, .int .i64 l.r.y0, .int .i64 l.r.x1, .int .i64 l.r.y1, .int .u8 l.f], .int .i64 x, .int .i64 y] W fun e w' => e = .returned (.agg #[.int .i64 (l.r.x0 + x), .int .i64 (l.r.y0 + y), .int .i64 (l.r.x1 + x), .int .i64 (l.r.y1 + y), .int .u8 l.f]) ∧ Below W.heap.size W w') := hide (fun W => moved24_any l x y hv.1 hx hy W)
  have HV2 : Hid (∀ W : World, Calls Try.prog 14 #[.agg #[.int .i64 (l.r.x0 + x), .int .i64 (l.r.y0 + y), .int .i64 (l.r.x1 + x), .int .i64 (l.r.y1 + y), .int .u8 l.f], .agg #[.int .i64 p.mf, .int .i64 p.ms, .int .i64 p.ma]] W fun e w' => e = .returned (.bool true) ∧ Below W.heap.size W w') := hide (fun W => by
    have := valid24_any (moveL x y l) p hf W
    rw [hm] at this
    exact this)
  obtain ⟨Q, ck, e1, e2, h4, hq⟩ := splitR_moved h0 hm
  have HS1 : Hid (∀ W : World, Calls Try.prog 11 #[.agg #[.int .i64 l.r.x0, .int .i64 l.r.y0, .int .i64 l.r.x1, .int .i64 l.r.y1, .int .u8 l.f], .agg #[.int .i64 p.mf, .int .i64 p.ms, .int .i64 p.ma]] W (LotsRet W (Q, ck))) := hide (fun W => by
    have := psplit_any l p hf W
    rw [e1] at this
    exact this)
  have HS2 : Hid (∀ W : World, Calls Try.prog 11 #[.agg #[.int .i64 (l.r.x0 + x), .int .i64 (l.r.y0 + y), .int .i64 (l.r.x1 + x), .int .i64 (l.r.y1 + y), .int .u8 l.f], .agg #[.int .i64 p.mf, .int .i64 p.ms, .int .i64 p.ma]] W (LotsRet W (Q.map (moveL x y), ck))) := hide (fun W => by
    have := psplit_any (moveL x y l) p hf W
    rw [e2] at this
    exact this)
  have HMV : Hid (∀ z ∈ Q, ∀ W : World, Calls Try.prog 18 #[.agg #[.int .i64 z.r.x0, .int .i64 z.r.y0, .int .i64 z.r.x1, .int .i64 z.r.y1, .int .u8 z.f], .int .i64 x, .int .i64 y] W fun e w' => e = .returned (.agg #[.int .i64 (z.r.x0 + x), .int .i64 (z.r.y0 + y), .int .i64 (z.r.x1 + x), .int .i64 (z.r.y1 + y), .int .u8 z.f]) ∧ Below W.heap.size W w') := hide (fun z hz W => moved24_any z x y (hq z hz).1 hx hy W)
  clear hm h0 hf hv e1 e2 hq
  show Calls Try.prog _ #[.agg #[.int .i64 l.r.x0, .int .i64 l.r.y0, .int .i64 l.r.x1, .int .i64 l.r.y1, .int .u8 l.f], .agg #[.int .i64 p.mf, .int .i64 p.ms, .int .i64 p.ma], .int .i64 x, .int .i64 y] w _
  obtain ⟨hx, hx'⟩ := hx
  obtain ⟨hy, hy'⟩ := hy
  have g1 : ¬ x < -1000 := by omega
  have g2 : ¬ 1000 < x := by omega
  have g3 : ¬ y < -1000 := by omega
  have g4 : ¬ 1000 < y := by omega
  go_enter Try.func5, Try.ntmps5
  go_wp2_with (fail)
  obtain ⟨W, hW⟩ : ∃ x, x = (w.alloc (.cells #[.int .i64 l.r.x0, .int .i64 l.r.y0, .int .i64 l.r.x1, .int .i64 l.r.y1, .int .u8 l.f] 25)).alloc (.cells #[.int .i64 p.mf, .int .i64 p.ms, .int .i64 p.ma] 27) := ⟨_, rfl⟩
  rw [← hW]
  have hb0 : Below w.heap.size w W := by rw [hW]; exact ((Below.refl _ _).alloc (Nat.le_refl _) _).alloc (by simp) _
  have hs0 : w.heap.size + 2 ≤ W.heap.size := by rw [hW]; simp
  have HL : Box5L W w.heap.size l := by rw [hW]; refine ⟨?_, ?_, ?_, ?_, ?_, ?_, ?_, ?_, ?_, ?_⟩ <;> simp [go_sem]
  have HP : Box3 W (w.heap.size + 1) (.int .i64 p.mf) (.int .i64 p.ms) (.int .i64 p.ma) := by rw [hW]; refine ⟨?_, ?_, ?_⟩ <;> simp [go_sem]
  obtain ⟨n, hn⟩ : ∃ n, w.heap.size = n := ⟨_, rfl⟩
  have HN := hide hn
  rw [hn] at hb0 hs0 HL HP ⊢
  have K0 := hide hb0
  clear hW hb0 hn
  refine (HV1.out _).mono ?_
  rintro e w1 ⟨rfl, hb⟩
  have HL1 := HL.below hb
  have HP1 := HP.below hb
  have hs1 : n + 2 ≤ w1.heap.size := Nat.le_trans hs0 hb.size
  have K1 := hide (K0.out.trans (hb.mono (by omega)))
  clear hb HL HP K0 hs0
  try clear l0 l1 l2 l3 l4 p0 p1 p2
  obtain ⟨l0, l1, l2, l3, l4, -, -, -, -, -⟩ := id HL1
  obtain ⟨p0, p1, p2⟩ := id HP1
  go_wp2_with (fail)
  refine (HML.out _).mono ?_
  rintro e w2 ⟨rfl, hb⟩
  have HL2 := HL1.below hb
  have HP2 := HP1.below hb
  have hs2 : n + 2 ≤ w2.heap.size := Nat.le_trans hs1 hb.size
  have K2 := hide (K1.out.trans (hb.mono (by omega)))
  clear hb HL1 HP1 K1 hs1
  try clear l0 l1 l2 l3 l4 p0 p1 p2
  obtain ⟨l0, l1, l2, l3, l4, -, -, -, -, -⟩ := id HL2
  obtain ⟨p0, p1, p2⟩ := id HP2
  have q0 : n + 1 < w2.heap.size := by omega
  go_wp2_with (fail)
  refine calls_name fun Z hZ => ?_
  have hb : Below w2.heap.size w2 Z := by
    rw [hZ]
    repeat (first | with_reducible exact Below.refl _ _ | with_reducible refine Below.setCell ?_ (by first | (simp; done) | (simp; omega)) _ | with_reducible refine Below.alloc ?_ (by first | omega | (simp; omega) | simp) _)
  have HM3 : Box5 Z w2.heap.size (.int .i64 (l.r.x0 + x)) (.int .i64 (l.r.y0 + y)) (.int .i64 (l.r.x1 + x)) (.int .i64 (l.r.y1 + y)) (.int .u8 l.f) := by rw [hZ]; refine ⟨?_, ?_, ?_, ?_, ?_, ?_, ?_, ?_, ?_, ?_⟩ <;> simp [go_sem]
  have HL3 := HL2.below hb
  have HP3 := HP2.below hb
  have K3 := hide (K2.out.trans (hb.mono (by omega)))
  have hs3 : n + 2 ≤ Z.heap.size := by have := hb.size; omega
  obtain ⟨g, hg⟩ : ∃ g, w2.heap.size = g := ⟨_, rfl⟩
  rw [hg] at HM3 hs2 ⊢
  clear hZ hb HL2 HP2 K2 hg q0 l0 l1 l2 l3 l4 p0 p1 p2
  refine (HV2.out _).mono ?_
  rintro e w4 ⟨rfl, hb⟩
  have HM4 := HM3.below hb
  have HL4 := HL3.below hb
  have HP4 := HP3.below hb
  have hs4 : n + 2 ≤ w4.heap.size := Nat.le_trans hs3 hb.size
  have K4 := hide (K3.out.trans (hb.mono (by omega)))
  clear hb HL3 HP3 K3 hs3
  try clear l0 l1 l2 l3 l4 p0 p1 p2
  obtain ⟨l0, l1, l2, l3, l4, -, -, -, -, -⟩ := id HL4
  obtain ⟨p0, p1, p2⟩ := id HP4
  go_wp2_with (fail)
  refine (HS1.out _).mono ?_
  rintro e w5 ⟨⟨A1, c1, rfl, ho⟩, hb⟩
  have HO5 : Hid (RdK encL 5 w5 w5.heap.size (.slice A1 Q.length c1) Q) := hide (own_rd ho (fun _ => rfl))
  have HM5 := HM4.below hb
  clear ho HS1 HM4
  have HL5 := HL4.below hb
  have HP5 := HP4.below hb
  have hs5 : n + 2 ≤ w5.heap.size := Nat.le_trans hs4 hb.size
  have K5 := hide (K4.out.trans (hb.mono (by omega)))
  clear hb HL4 HP4 K4 hs4
  try clear l0 l1 l2 l3 l4 p0 p1 p2
  obtain ⟨l0, l1, l2, l3, l4, -, -, -, -, -⟩ := id HL5
  obtain ⟨p0, p1, p2⟩ := id HP5
  obtain ⟨a0, a1, a2, a3, a4, -, -, -, -, -⟩ := id HM5
  go_wp2_with (fail)
  refine (HS2.out _).mono ?_
  rintro e w6 ⟨⟨A2, c2, rfl, ho⟩, hb⟩
  have HO6b : Hid (RdK encL 5 w6 w6.heap.size (.slice A2 Q.length c2) (Q.map (moveL x y))) := hide (by have := own_rd ho (fun _ => rfl); simpa using this)
  have HO6 := hide ((HO5.out.below hb).mono hb.size)
  have hlm : (Q.map (moveL x y)).length = Q.length := List.length_map _
  rw [hlm]
  clear ho HS2 HO5 HM5 a0 a1 a2 a3 a4 hlm
  have HL6 := HL5.below hb
  have HP6 := HP5.below hb
  have hs6 : n + 2 ≤ w6.heap.size := Nat.le_trans hs5 hb.size
  have K6 := hide (K5.out.trans (hb.mono (by omega)))
  clear hb HL5 HP5 K5 hs5
  try clear l0 l1 l2 l3 l4 p0 p1 p2
  go_wp2_with (fail)
  go_loopw [14] (fun i wr => ∃ m : Nat, m ≤ Q.length ∧ i = .int .i64 m ∧ Hid (Below w6.heap.size w6 wr)) (fun i _ => Q.length - (intOf i).toNat)
  case atStart => exact ⟨0, Nat.zero_le _, rfl, hide (Below.refl _ _)⟩
  case round =>
    obtain ⟨m, hm, rfl, HB⟩ := hrel
    have hsw := HB.out.size
    by_cases hlt : m < Q.length
    · obtain ⟨z, hz⟩ : ∃ z, Q[m]? = some z := ⟨_, List.getElem?_eq_getElem hlt⟩
      obtain ⟨b, o, rfl, hbl, k⟩ := HO6.out.cells5 (by intro e; rw [e] at hlt; simp at hlt)
      obtain ⟨b', o', rfl, hbl', k'⟩ := HO6b.out.cells5 (by intro e; rw [List.map_eq_nil_iff] at e; rw [e] at hlt; simp at hlt)
      have hz' : (Q.map (moveL x y))[m]? = some (moveL x y z) := by rw [List.getElem?_map, hz]; rfl
      have d0 : wr.cell? ⟨b, o + m * 5, none⟩ = some (.int .i64 z.r.x0) := (HB.out.cell (p := ⟨b, _, none⟩) hbl).trans (k m _ hz 0 _ rfl)
      have e0 : wr.cell? ⟨b', o' + m * 5, none⟩ = some (.int .i64 (z.r.x0 + x)) := (HB.out.cell (p := ⟨b', _, none⟩) hbl').trans (k' m _ hz' 0 _ rfl)
      have d1 : wr.cell? ⟨b, o + m * 5 + 1, none⟩ = some (.int .i64 z.r.y0) := (HB.out.cell (p := ⟨b, _, none⟩) hbl).trans (k m _ hz 1 _ rfl)
      have e1 : wr.cell? ⟨b', o' + m * 5 + 1, none⟩ = some (.int .i64 (z.r.y0 + y)) := (HB.out.cell (p := ⟨b', _, none⟩) hbl').trans (k' m _ hz' 1 _ rfl)
      have d2 : wr.cell? ⟨b, o + m * 5 + 2, none⟩ = some (.int .i64 z.r.x1) := (HB.out.cell (p := ⟨b, _, none⟩) hbl).trans (k m _ hz 2 _ rfl)
      have e2 : wr.cell? ⟨b', o' + m * 5 + 2, none⟩ = some (.int .i64 (z.r.x1 + x)) := (HB.out.cell (p := ⟨b', _, none⟩) hbl').trans (k' m _ hz' 2 _ rfl)
      have d3 : wr.cell? ⟨b, o + m * 5 + 3, none⟩ = some (.int .i64 z.r.y1) := (HB.out.cell (p := ⟨b, _, none⟩) hbl).trans (k m _ hz 3 _ rfl)
      have e3 : wr.cell? ⟨b', o' + m * 5 + 3, none⟩ = some (.int .i64 (z.r.y1 + y)) := (HB.out.cell (p := ⟨b', _, none⟩) hbl').trans (k' m _ hz' 3 _ rfl)
      have d4 : wr.cell? ⟨b, o + m * 5 + 4, none⟩ = some (.int .u8 z.f) := (HB.out.cell (p := ⟨b, _, none⟩) hbl).trans (k m _ hz 4 _ rfl)
      have e4 : wr.cell? ⟨b', o' + m * 5 + 4, none⟩ = some (.int .u8 z.f) := (HB.out.cell (p := ⟨b', _, none⟩) hbl').trans (k' m _ hz' 4 _ rfl)
      have mz : (m : Int) < (Q.length : Int) := by omega
      have HMZ := hide (HMV.out z (List.mem_of_getElem? hz))
      have q0 : b < wr.heap.size := by omega
      have q1 : b' < wr.heap.size := by omega
      have gq : Try.prog.eqGuardType Try.prog.depth 25 = false := by kernel_rfl
      clear k k' hz hz'
      go_upto_region 13 with fail
      refine wp_hab fun hab => ?_
      refine wp_region_above (by kernel_rfl) (by kernel_rfl) ?_
      repeat (go_big_quiet_step ((go_at_call 18; exact above_of (HMZ.out _))))
      refine wpQuiet_nil ?_
      refine above_ends fun w9 hb => ?_
      have HB9 : Hid (Below w6.heap.size w6 w9) := hide (HB.out.trans (hb.mono hsw))
      clear hab hb d0 d1 d2 d3 d4 e0 e1 e2 e3 e4 HB
      go_wp2_with (fail)
      go_roundw
      case rel => exact ⟨m + 1, by omega, by go_num, HB9⟩
      case measure => simp [intOf]; omega
    · have mz : ¬ (m : Int) < (Q.length : Int) := by omega
      have K7 := hide (K6.out.trans (HB.out.mono (by omega)))
      have hs7 : n + 2 ≤ wr.heap.size := by omega
      clear HB hsw
      go_wp2_with (fail)
      refine (HAL.out _).mono ?_
      rintro e w8 ⟨rfl, hb⟩
      have K8 := hide (K7.out.trans (hb.mono (by omega)))
      clear hb
      go_wp2_with (fail)
      go_ret
      exact ⟨rfl, by rw [HN.out]; exact K8.out⟩
theorem moves_walk (l : Lot5) (p : Pl3) (hf : 0 ≤ l.f ∧ l.f ≤ 255) (x y : Int) (w : World) : Calls Try.prog 5 #[.agg (encL l).toArray, .agg (encP p).toArray, .int .i64 x, .int .i64 y] w fun e w' => e = .returned (.bool true) ∧ Below w.heap.size w w' := by
  by_cases h0 : checkL l p = 0
  · by_cases hx : -1000 ≤ x ∧ x ≤ 1000
    · by_cases hy : -1000 ≤ y ∧ y ≤ 1000
      · by_cases hm : checkL (moveL x y l) p = 0
        · exact moves_main l p hf x y h0 hx hy hm w
        · exact moves_bad l p hf x y h0 hx hy hm w
      · exact moves_off l p hf x y (by omega) w
    · exact moves_off l p hf x y (by omega) w
  · exact moves_off l p hf x y (.inl h0) w
end Go.Proofs.Ytgdlbaabdebclaa
