/- Texts laid together: LotR, LotQ, Row, Open, Regs, LotL, ParI, OpenL, OpenP. Lemmas for the statements of this seat; no condition. -/
import Derived.Test.YtabogapiecciiaaPk7
import Derived.Test.YtabogapiecciiaaPk5
import Derived.Test.YtabogapiecciiaaPk1
import Derived.ProofKit
import Derived.Lib.SmallJoins
import Derived.Deep.Slices
import Derived.Deep.Fields
import Derived.ChangeSame
import Derived.Test.YtabogapiecciiaaPk6

/- The reference of lots: Beside, On, front, Fronts, Reached. -/
namespace Go.Proofs.Ytabogapiecciiaa
open Go.RowKit
set_option linter.unusedVariables false
set_option linter.unusedSimpArgs false

/-- The side as a number. -/
def sideN (i : Nat) : Int := match i with | 0 => 1 | 1 => 2 | 2 => 4 | _ => 8
set_option maxHeartbeats 4000000 in
theorem rbeside_any (r : R4) (i : Nat) (hi : i < 4) (h : okR r) (w : World) : Calls Try.prog 26 #[.agg (encR r).toArray, .int .u8 (sideN i)] w fun e w' => e = .returned (.agg (encR (besF r i)).toArray) ∧ Below w.heap.size w w' := by
  obtain ⟨x0, y0, x1, y1⟩ := r
  simp only [okR, inR] at h
  obtain ⟨h1, h2, ⟨h3, h4⟩, ⟨h5, h6⟩, ⟨h7, h8⟩, ⟨h9, h10⟩⟩ := h
  match i, hi with
  | 0, _ =>
    show Calls Try.prog _ #[.agg #[.int .i64 x0, .int .i64 y0, .int .i64 x1, .int .i64 y1], .int .u8 1] w fun e w' => e = .returned (.agg #[.int .i64 (x0 - 1), .int .i64 y0, .int .i64 x0, .int .i64 y1]) ∧ Below w.heap.size w w'
    go_enter Try.func26, Try.ntmps26
    go_wp2
    refine bodyPost_ret (v := .agg #[.int .i64 (x0 - 1), .int .i64 y0, .int .i64 x0, .int .i64 y1]) (by simp [results, Try.results26, go_sem]) rfl ⟨rfl, ?_⟩
    repeat (first | with_reducible exact Below.refl _ _ | with_reducible refine Below.setCell ?_ (by first | (simp; done) | (simp; omega)) _ | with_reducible refine Below.alloc ?_ (by first | omega | (simp; omega) | simp) _)
  | 1, _ =>
    show Calls Try.prog _ #[.agg #[.int .i64 x0, .int .i64 y0, .int .i64 x1, .int .i64 y1], .int .u8 2] w fun e w' => e = .returned (.agg #[.int .i64 x1, .int .i64 y0, .int .i64 (x1 + 1), .int .i64 y1]) ∧ Below w.heap.size w w'
    go_enter Try.func26, Try.ntmps26
    go_wp2
    refine bodyPost_ret (v := .agg #[.int .i64 x1, .int .i64 y0, .int .i64 (x1 + 1), .int .i64 y1]) (by simp [results, Try.results26, go_sem]) rfl ⟨rfl, ?_⟩
    repeat (first | with_reducible exact Below.refl _ _ | with_reducible refine Below.setCell ?_ (by first | (simp; done) | (simp; omega)) _ | with_reducible refine Below.alloc ?_ (by first | omega | (simp; omega) | simp) _)
  | 2, _ =>
    show Calls Try.prog _ #[.agg #[.int .i64 x0, .int .i64 y0, .int .i64 x1, .int .i64 y1], .int .u8 4] w fun e w' => e = .returned (.agg #[.int .i64 x0, .int .i64 (y0 - 1), .int .i64 x1, .int .i64 y0]) ∧ Below w.heap.size w w'
    go_enter Try.func26, Try.ntmps26
    go_wp2
    refine bodyPost_ret (v := .agg #[.int .i64 x0, .int .i64 (y0 - 1), .int .i64 x1, .int .i64 y0]) (by simp [results, Try.results26, go_sem]) rfl ⟨rfl, ?_⟩
    repeat (first | with_reducible exact Below.refl _ _ | with_reducible refine Below.setCell ?_ (by first | (simp; done) | (simp; omega)) _ | with_reducible refine Below.alloc ?_ (by first | omega | (simp; omega) | simp) _)
  | 3, _ =>
    show Calls Try.prog _ #[.agg #[.int .i64 x0, .int .i64 y0, .int .i64 x1, .int .i64 y1], .int .u8 8] w fun e w' => e = .returned (.agg #[.int .i64 x0, .int .i64 y1, .int .i64 x1, .int .i64 (y1 + 1)]) ∧ Below w.heap.size w w'
    go_enter Try.func26, Try.ntmps26
    go_wp2
    refine bodyPost_ret (v := .agg #[.int .i64 x0, .int .i64 y1, .int .i64 x1, .int .i64 (y1 + 1)]) (by simp [results, Try.results26, go_sem]) rfl ⟨rfl, ?_⟩
    repeat (first | with_reducible exact Below.refl _ _ | with_reducible refine Below.setCell ?_ (by first | (simp; done) | (simp; omega)) _ | with_reducible refine Below.alloc ?_ (by first | omega | (simp; omega) | simp) _)
set_option maxHeartbeats 1000000 in
theorem rWidth_mid (r : R4) (h : midR r) (w : World) : Calls Try.prog 63 #[.agg (encR r).toArray] w fun e w' => e = .returned (.int .i64 (r.x1 - r.x0)) ∧ Below w.heap.size w w' := by
  obtain ⟨x0, y0, x1, y1⟩ := r
  simp only [midR] at h
  obtain ⟨h1, h2, h3, h4, h5, h6, h7, h8, h9, h10⟩ := h
  show Calls Try.prog _ #[.agg #[.int .i64 x0, .int .i64 y0, .int .i64 x1, .int .i64 y1]] w fun e w' => e = .returned (.int .i64 (x1 - x0)) ∧ Below w.heap.size w w'
  go_enter Try.func63, Try.ntmps63
  go_wp2
  go_ret
  exact ⟨rfl, (Below.refl _ _).alloc (Nat.le_refl _) _⟩
set_option maxHeartbeats 1000000 in
theorem rHeight_mid (r : R4) (h : midR r) (w : World) : Calls Try.prog 64 #[.agg (encR r).toArray] w fun e w' => e = .returned (.int .i64 (r.y1 - r.y0)) ∧ Below w.heap.size w w' := by
  obtain ⟨x0, y0, x1, y1⟩ := r
  simp only [midR] at h
  obtain ⟨h1, h2, h3, h4, h5, h6, h7, h8, h9, h10⟩ := h
  show Calls Try.prog _ #[.agg #[.int .i64 x0, .int .i64 y0, .int .i64 x1, .int .i64 y1]] w fun e w' => e = .returned (.int .i64 (y1 - y0)) ∧ Below w.heap.size w w'
  go_enter Try.func64, Try.ntmps64
  go_wp2
  go_ret
  exact ⟨rfl, (Below.refl _ _).alloc (Nat.le_refl _) _⟩
set_option maxHeartbeats 2000000 in
theorem rArea_mid (r : R4) (h : midR r) (hw : wf4 r) (w : World) : Calls Try.prog 41 #[.agg (encR r).toArray] w fun e w' => e = .returned (.int .i64 (arQ r)) ∧ Below w.heap.size w w' := by
  have HW := hide (fun W => rWidth_mid r h W)
  have HH := hide (fun W => rHeight_mid r h W)
  obtain ⟨h1, h2⟩ := hw
  have h3 := h.2.2.2.2.2.2.2.2.1
  have h4 := h.2.2.2.2.2.2.2.2.2
  have hm : IntKind.i64.wrap ((r.x1 - r.x0) * (r.y1 - r.y0)) = (r.x1 - r.x0) * (r.y1 - r.y0) := by
    have a1 : 0 ≤ (r.x1 - r.x0) * (r.y1 - r.y0) := Int.mul_nonneg (by omega) (by omega)
    have a2 : (r.x1 - r.x0) * (r.y1 - r.y0) ≤ 2000000 * 2000000 := Int.mul_le_mul h3 h4 (by omega) (by omega)
    exact IntWalk.i64_in _ (by omega)
  unfold arQ
  clear h h1 h2 h3 h4
  generalize r.x1 - r.x0 = ww at *
  generalize r.y1 - r.y0 = hh at *
  obtain ⟨x0, y0, x1, y1⟩ := r
  show Calls Try.prog _ #[.agg #[.int .i64 x0, .int .i64 y0, .int .i64 x1, .int .i64 y1]] w _
  simp only [encR] at HW HH
  go_enter Try.func41, Try.ntmps41
  go_wp2
  refine wp_hab fun hab => ?_
  refine wp_region_above (by kernel_rfl) (by kernel_rfl) ?_
  repeat (go_big_quiet_step (((first | (go_at_call 63; exact above_of (HW.out _)) | (go_at_call 64; exact above_of (HH.out _))))))
  refine wpQuiet_nil ?_
  refine above_ends fun w3 hb3 => ?_
  clear hab
  have HB := hide (((Below.refl w.heap.size w).alloc (Nat.le_refl _) (.cells #[.int .i64 x0, .int .i64 y0, .int .i64 x1, .int .i64 y1] 23)).trans (hb3.mono (by simp)))
  have HM := hide hm
  clear hb3 hm
  go_wp2_with (fail)
  go_ret
  exact ⟨by first | rfl | rw [HM.out], HB.out⟩
theorem hk_one : hk 1 = hAnd := by funext a b; simp [hk, hAnd]
theorem on_piece {r : R4} {s : List R4} (hr : midR r) (hw : wf4 r) (hs : RCan s) : ∀ q ∈ rjoin hAnd [r] s, wf4 q ∧ midR q := fun q hq => by
  have h1 : ∀ q ∈ [r], wf4 q := fun q hq => by rw [List.mem_singleton] at hq; subst hq; exact hw
  obtain ⟨hc, hp⟩ := rjoin_ok (h := hAnd) rfl h1 (can_wf hs)
  have hq' := can_wf hc q hq
  have a1 : pmem (rjoin hAnd [r] s) q.x0 q.y0 := ⟨q, hq, by unfold rin; unfold wf4 at hq'; omega⟩
  have a2 : pmem (rjoin hAnd [r] s) (q.x1 - 1) (q.y1 - 1) := ⟨q, hq, by unfold rin; unfold wf4 at hq'; omega⟩
  rw [hp] at a1 a2
  simp only [hAnd, Bool.and_eq_true, decide_eq_true_eq] at a1 a2
  obtain ⟨⟨p, hp1, hp2⟩, _⟩ := a1
  obtain ⟨⟨p', hp1', hp2'⟩, _⟩ := a2
  rw [List.mem_singleton] at hp1 hp1'
  subst hp1; subst hp1'
  unfold rin at hp2 hp2'
  refine ⟨hq', ?_⟩
  unfold midR at hr ⊢
  omega
theorem sum_part {α : Type} {f : α → Int} : ∀ (L : List α) (m : Nat), (∀ x ∈ L, 0 ≤ f x) → 0 ≤ ((L.take m).map f).sum ∧ ((L.take m).map f).sum ≤ (L.map f).sum
  | [], m, _ => by simp
  | a :: L, 0, h => by
    have h1 := h a (by simp)
    have h2 := (sum_part L L.length fun x hx => h x (List.mem_cons_of_mem _ hx)).1
    rw [List.take_length] at h2
    simp only [List.take_zero, List.map_nil, List.sum_nil, List.map_cons, List.sum_cons]
    omega
  | a :: L, m + 1, h => by
    have h1 := h a (by simp)
    have h2 := sum_part L m fun x hx => h x (List.mem_cons_of_mem _ hx)
    simp only [List.take_succ_cons, List.map_cons, List.sum_cons]
    omega
theorem sumQ_at {α : Type} {f : α → Int} {L : List α} {m : Nat} {x : α} (h : L[m]? = some x) : ((L.take (m + 1)).map f).sum = ((L.take m).map f).sum + f x := by
  rw [List.take_add_one, h, List.map_append, List.sum_append]
  simp
theorem arQ_nn {r : R4} (h : wf4 r) : 0 ≤ arQ r := by
  unfold wf4 at h
  exact Int.mul_nonneg (by omega) (by omega)
set_option maxRecDepth 100000 in
set_option maxHeartbeats 4000000 in
theorem rOn_any (r : R4) (hr : midR r) (hw : wf4 r) {w : World} {v : Value} {s : List R4} (hs : RdK encR 4 w w.heap.size v s) (hc : checkF s = 0) :
    Calls Try.prog 25 #[.agg (encR r).toArray, v] w fun e w' => e = .returned (.int .i64 (onF r s)) ∧ Below w.heap.size w w' := by
  have hl := (checkF_ok hc).1
  have hsum : ((rjoin hAnd [r] s).map arQ).sum = onF r s := on_ref (m := 1000001) (by unfold midR at hr; unfold inFr; omega) hw (check_rcan hc) (check_frame hc (by omega))
  have htot : onF r s ≤ 4000000000000000 := by
    have h1 := onF_bd (r := r) hr.2.2.2.2.2.2.2.2.1 hr.2.2.2.2.2.2.2.2.2 s
    omega
  have hpc := on_piece hr hw (check_rcan hc)
  have hln := rjoin_len2 hAnd [r] s (by simp) hl
  have HJ : Hid (∀ (W : World) (v1 : Value), Below w.heap.size w W → RdK encR 4 W W.heap.size v1 [r] → Calls Try.prog 39 #[.int .i64 1, v1, v] W fun e w' => ∃ vo, e = .returned vo ∧ w'.ownsRow W.heap.size 23 4 vo (rjoin hAnd [r] s).length ((rjoin hAnd [r] s).flatMap encR) ∧ Below W.heap.size W w') := hide (fun W v1 hb r1 => by
    have := rJoined_any 1 (.inl rfl) r1 ((hs.below hb).mono hb.size) (Nat.le_refl _) (by simp) (by omega)
    rw [ref_join (h := hk 1) rfl (fun q hq => by rw [List.mem_singleton] at hq; subst hq; exact hw) (check_wf hc), hk_one] at this
    exact this)
  have HA : Hid (∀ q ∈ rjoin hAnd [r] s, ∀ W : World, Calls Try.prog 41 #[.agg #[.int .i64 q.x0, .int .i64 q.y0, .int .i64 q.x1, .int .i64 q.y1]] W fun e w' => e = .returned (.int .i64 (arQ q)) ∧ Below W.heap.size W w') := hide (fun q hq W => rArea_mid q (hpc q hq).2 (hpc q hq).1 W)
  have HBD : Hid (∀ m : Nat, 0 ≤ (((rjoin hAnd [r] s).take m).map arQ).sum ∧ (((rjoin hAnd [r] s).take m).map arQ).sum ≤ 4000000000000000) := hide (fun m => by
    have := sum_part (f := arQ) (rjoin hAnd [r] s) m fun x hx => arQ_nn (hpc x hx).1
    omega)
  obtain ⟨A, c, rfl, _⟩ := hs
  rw [← hsum]
  clear hsum htot hpc hc hr hw
  generalize rjoin hAnd [r] s = L at *
  obtain ⟨x0, y0, x1, y1⟩ := r
  show Calls Try.prog _ #[.agg #[.int .i64 x0, .int .i64 y0, .int .i64 x1, .int .i64 y1], .slice A s.length c] w _
  go_enter Try.func25, Try.ntmps25
  go_wp2_with (fail)
  obtain ⟨W, hW⟩ : ∃ x, x = (w.alloc (.cells #[.int .i64 x0, .int .i64 y0, .int .i64 x1, .int .i64 y1] 23)).alloc (.cells #[.int .i64 x0, .int .i64 y0, .int .i64 x1, .int .i64 y1] 23) := ⟨_, rfl⟩
  rw [← hW]
  have hb0 : Below w.heap.size w W := by rw [hW]; exact ((Below.refl _ _).alloc (Nat.le_refl _) _).alloc (by simp) _
  have hr1 : RdK encR 4 W W.heap.size (.slice (some ⟨w.heap.size + 1, 0, none⟩) 1 1) [⟨x0, y0, x1, y1⟩] := by
    try rw [hW]
    exact rd_lit_at (by simp) [⟨x0, y0, x1, y1⟩] 23 1
  refine (HJ.out W _ hb0 hr1).mono ?_
  rintro e w1 ⟨vo, rfl, ho, hb⟩
  have HB0 := hide (hb0.trans (hb.mono hb0.size))
  have hrd := own_rd ho (fun _ => rfl)
  obtain ⟨A2, c2, rfl, hcells⟩ := hrd
  have HRC := hide hcells
  clear hW hb0 hr1 hb ho hcells HJ
  go_wp2_with (fail)
  go_loopw [6, 7] (fun t i wr => ∃ m : Nat, m ≤ L.length ∧ i = .int .i64 m ∧ t = .int .i64 (((L.take m).map arQ).sum) ∧ Hid (Below w1.heap.size w1 wr)) (fun _ i _ => L.length - (intOf i).toNat)
  case atStart => exact ⟨0, Nat.zero_le _, rfl, by simp, hide (Below.refl _ _)⟩
  case round =>
    obtain ⟨m, hm, rfl, rfl, HB⟩ := hrel
    by_cases hlt : m < L.length
    · obtain ⟨q, hp⟩ : ∃ p, L[m]? = some p := ⟨_, List.getElem?_eq_getElem hlt⟩
      obtain ⟨b, o, rfl, hbl, k⟩ := HRC.out (by intro e; rw [e] at hlt; simp at hlt)
      have d0 : wr.cell? ⟨b, o + m * 4, none⟩ = some (.int .i64 q.x0) := (HB.out.cell (p := ⟨b, _, none⟩) hbl).trans (k m _ hp 0 _ rfl)
      have d1 : wr.cell? ⟨b, o + m * 4 + 1, none⟩ = some (.int .i64 q.y0) := (HB.out.cell (p := ⟨b, _, none⟩) hbl).trans (k m _ hp 1 _ rfl)
      have d2 : wr.cell? ⟨b, o + m * 4 + 2, none⟩ = some (.int .i64 q.x1) := (HB.out.cell (p := ⟨b, _, none⟩) hbl).trans (k m _ hp 2 _ rfl)
      have d3 : wr.cell? ⟨b, o + m * 4 + 3, none⟩ = some (.int .i64 q.y1) := (HB.out.cell (p := ⟨b, _, none⟩) hbl).trans (k m _ hp 3 _ rfl)
      have HQ := hide (HA.out q (List.mem_of_getElem? hp))
      have hsa := sumQ_at (f := arQ) hp
      obtain ⟨u1, u2⟩ := HBD.out m
      obtain ⟨u3, u4⟩ := HBD.out (m + 1)
      rw [hsa] at u3 u4
      have HS := hide hsa
      clear hsa
      generalize ((L.take m).map arQ).sum = T at *
      have t1 : IntKind.i64.wrap (T + arQ q) = T + arQ q := IntWalk.i64_in _ (by omega)
      have mz : (m : Int) < (L.length : Int) := by omega
      have lz : (L.length : Int) ≤ 100000000 := by omega
      clear k hp
      go_wp2_with (go_at_call 41; refine (HQ.out _).mono ?_; rintro e w2 ⟨rfl, hb2⟩; have HB2 := hide (HB.out.trans (hb2.mono HB.out.size)); clear hb2)
      go_roundw
      case rel => exact ⟨m + 1, by omega, by go_num, by rw [HS.out], HB2⟩
      case measure => simp [intOf]; omega
    · obtain rfl : m = L.length := by omega
      have HT : Hid (L.take L.length = L) := hide (List.take_length)
      go_wp2
      go_ret
      exact ⟨by rw [HT.out]; rfl, HB0.out.trans (HB.out.mono HB0.out.size)⟩
/-! The reference's front. -/
set_option maxRecDepth 100000 in
set_option maxHeartbeats 8000000 in
theorem rfront_any (r : R4) (hr : okR r) {w : World} {v : Value} {s : List R4} (hs : RdK encR 4 w w.heap.size v s) (hc : checkF s = 0) :
    Calls Try.prog 21 #[.agg (encR r).toArray, v] w fun e w' => e = .returned (.int .u8 (frF r s)) ∧ Below w.heap.size w w' := by
  have hw : wf4 r := ⟨hr.1, hr.2.1⟩
  have HBES : Hid (∀ (i : Nat), i < 4 → ∀ W : World, Calls Try.prog 26 #[.agg #[.int .i64 r.x0, .int .i64 r.y0, .int .i64 r.x1, .int .i64 r.y1], .int .u8 (sideN i)] W fun e w' => e = .returned (.agg #[.int .i64 (besF r i).x0, .int .i64 (besF r i).y0, .int .i64 (besF r i).x1, .int .i64 (besF r i).y1]) ∧ Below W.heap.size W w') := hide (fun i hi W => rbeside_any r i hi hr W)
  have HON : Hid (∀ (i : Nat) (W : World), Below w.heap.size w W → Calls Try.prog 25 #[.agg #[.int .i64 (besF r i).x0, .int .i64 (besF r i).y0, .int .i64 (besF r i).x1, .int .i64 (besF r i).y1], v] W fun e w' => e = .returned (.int .i64 (onF (besF r i) s)) ∧ Below W.heap.size W w') := hide (fun i W hb => rOn_any (besF r i) (bes_mid hr i) (bes_wf hw i) ((hs.below hb).mono hb.size) hc)
  have HAR : Hid (∀ (i : Nat) (W : World), Calls Try.prog 41 #[.agg #[.int .i64 (besF r i).x0, .int .i64 (besF r i).y0, .int .i64 (besF r i).x1, .int .i64 (besF r i).y1]] W fun e w' => e = .returned (.int .i64 (arQ (besF r i))) ∧ Below W.heap.size W w') := hide (fun i W => rArea_mid (besF r i) (bes_mid hr i) (bes_wf hw i) W)
  have HP := hide (frP_at r s)
  have HF := hide (frP_four r s)
  have HP0 : Hid (frP r s 0 = 0) := hide rfl
  have HBIT : Hid (∀ i, bitF r s i = (onF (besF r i) s == arQ (besF r i))) := hide (fun i => by unfold bitF; rfl)
  have HST : Hid (∀ m, frP r s (m + 1) = frP r s m + if bitF r s m = true then 2 ^ m else 0) := hide (fun m => rfl)
  obtain ⟨A, c, rfl, _⟩ := hs
  clear hr hw hc
  generalize hn : w.heap.size = n at *
  have HN := hide hn
  show Calls Try.prog _ #[.agg #[.int .i64 r.x0, .int .i64 r.y0, .int .i64 r.x1, .int .i64 r.y1], .slice A s.length c] w _
  go_enter Try.func21, Try.ntmps21
  go_upto_region 2 with fail
  refine wp_name5 fun w2 hw2 => ?_
  have HB : Hid (BoxR n w r w2) := hide (by rw [hw2, ← hn]; exact box_new w r _)
  clear hw2 hn
  generalize frP r s = P at *
  generalize bitF r s = bt at *
  go_wp2_with (fail)
  go_loopw [5, 6] (fun o i wr => ∃ m : Nat, m ≤ 4 ∧ i = .int .u8 (2 ^ m) ∧ o = .int .u8 (P m) ∧ Hid (BoxR n w r wr)) (fun _ i _ => 16 - (intOf i).toNat)
  case atStart => exact ⟨0, Nat.zero_le _, rfl, by rw [HP0.out], HB⟩
  case round =>
    clear HB
    obtain ⟨m, hm, rfl, rfl, HB⟩ := hrel
    have hm5 : m = 0 ∨ m = 1 ∨ m = 2 ∨ m = 3 ∨ m = 4 := by omega
    rcases hm5 with rfl | rfl | rfl | rfl | rfl
    · have HC : Hid (∀ W : World, Calls Try.prog 26 #[.agg #[.int .i64 r.x0, .int .i64 r.y0, .int .i64 r.x1, .int .i64 r.y1], .int .u8 1] W fun e w' => e = .returned (.agg #[.int .i64 (besF r 0).x0, .int .i64 (besF r 0).y0, .int .i64 (besF r 0).x1, .int .i64 (besF r 0).y1]) ∧ Below W.heap.size W w') := hide (HBES.out 0 (by omega))
      have HO := hide (HON.out 0)
      have HA := hide (HAR.out 0)
      have HBm := hide (HBIT.out 0)
      have HSm := hide (HST.out 0)
      have hpk := HP.out.1
      generalize besF r 0 = B at *
      generalize onF B s = N at *
      generalize arQ B = Q at *
      obtain ⟨d0, d1, d2, d3, -, -⟩ := id HB.out
      simp only [Nat.reduceAdd, Nat.zero_add, Int.reducePow] at HSm ⊢
      go_wp2_with (fail)
      refine (HC.out _).mono ?_
      rintro e w3 ⟨rfl, hb⟩
      have HB3 := hide (HB.out.keep hb)
      clear hb d0 d1 d2 d3 HB HC
      go_upto_region 6 with fail
      refine wp_name5 fun Z hZ => ?_
      have hbz : BoxR w3.heap.size w3 B Z := by rw [hZ]; exact box_new w3 B _
      have HBZ := hide (HB3.out.keep hbz.below)
      have HOZ : Hid (∀ x : Above Z, Calls Try.prog 25 #[.agg #[.int .i64 B.x0, .int .i64 B.y0, .int .i64 B.x1, .int .i64 B.y1], .slice A s.length c] x.get fun e w'' => e = .returned (.int .i64 N) ∧ ∃ y : Above Z, w'' = y.get) := hide (fun x => above_of (HO.out x.get (HBZ.out.below.trans (x.keeps.mono (by have := HBZ.out.size; omega)))))
      have HAZ : Hid (∀ x : Above Z, Calls Try.prog 41 #[.agg #[.int .i64 B.x0, .int .i64 B.y0, .int .i64 B.x1, .int .i64 B.y1]] x.get fun e w'' => e = .returned (.int .i64 Q) ∧ ∃ y : Above Z, w'' = y.get) := hide (fun x => above_of (HA.out x.get))
      obtain ⟨c0, c1, c2, c3, -, hk⟩ := hbz
      generalize w3.heap.size = k at *
      clear hZ HB3 HO HA
      refine wp_hab fun hab => ?_
      refine wp_region_above (by kernel_rfl) (by kernel_rfl) ?_
      repeat (go_big_quiet_step ((first | (go_at_call 25; exact HOZ.out _) | (go_at_call 41; exact HAZ.out _))))
      refine wpQuiet_nil ?_
      refine above_ends fun w4 hb4 => ?_
      have HB4 := hide (HBZ.out.keep hb4)
      clear hab hb4 HBZ HOZ HAZ c0 c1 c2 c3 hk
      cases hbm : bt 0 with
      | true =>
        have he : (N == Q) = true := by rw [← HBm.out]; exact hbm
        rw [hbm] at HSm
        have t1 : IntKind.u8.wrap (P 0 + 1) = P 0 + 1 := by simp [IntKind.wrap, IntKind.bits, IntKind.signed]; omega
        clear HBm hbm hpk
        go_wp2_with (fail)
        go_roundw
        case rel => exact ⟨1, by omega, rfl, by rw [HSm.out]; simp, HB4⟩
        case measure => simp [intOf]
      | false =>
        have he : (N == Q) = false := by rw [← HBm.out]; exact hbm
        rw [hbm] at HSm
        clear HBm hbm hpk
        go_wp2_with (fail)
        go_roundw
        case rel => exact ⟨1, by omega, rfl, by rw [HSm.out]; simp, HB4⟩
        case measure => simp [intOf]
    · have HC : Hid (∀ W : World, Calls Try.prog 26 #[.agg #[.int .i64 r.x0, .int .i64 r.y0, .int .i64 r.x1, .int .i64 r.y1], .int .u8 2] W fun e w' => e = .returned (.agg #[.int .i64 (besF r 1).x0, .int .i64 (besF r 1).y0, .int .i64 (besF r 1).x1, .int .i64 (besF r 1).y1]) ∧ Below W.heap.size W w') := hide (HBES.out 1 (by omega))
      have HO := hide (HON.out 1)
      have HA := hide (HAR.out 1)
      have HBm := hide (HBIT.out 1)
      have HSm := hide (HST.out 1)
      have hpk := HP.out.2.1
      generalize besF r 1 = B at *
      generalize onF B s = N at *
      generalize arQ B = Q at *
      obtain ⟨d0, d1, d2, d3, -, -⟩ := id HB.out
      simp only [Nat.reduceAdd, Nat.zero_add, Int.reducePow] at HSm ⊢
      go_wp2_with (fail)
      refine (HC.out _).mono ?_
      rintro e w3 ⟨rfl, hb⟩
      have HB3 := hide (HB.out.keep hb)
      clear hb d0 d1 d2 d3 HB HC
      go_upto_region 6 with fail
      refine wp_name5 fun Z hZ => ?_
      have hbz : BoxR w3.heap.size w3 B Z := by rw [hZ]; exact box_new w3 B _
      have HBZ := hide (HB3.out.keep hbz.below)
      have HOZ : Hid (∀ x : Above Z, Calls Try.prog 25 #[.agg #[.int .i64 B.x0, .int .i64 B.y0, .int .i64 B.x1, .int .i64 B.y1], .slice A s.length c] x.get fun e w'' => e = .returned (.int .i64 N) ∧ ∃ y : Above Z, w'' = y.get) := hide (fun x => above_of (HO.out x.get (HBZ.out.below.trans (x.keeps.mono (by have := HBZ.out.size; omega)))))
      have HAZ : Hid (∀ x : Above Z, Calls Try.prog 41 #[.agg #[.int .i64 B.x0, .int .i64 B.y0, .int .i64 B.x1, .int .i64 B.y1]] x.get fun e w'' => e = .returned (.int .i64 Q) ∧ ∃ y : Above Z, w'' = y.get) := hide (fun x => above_of (HA.out x.get))
      obtain ⟨c0, c1, c2, c3, -, hk⟩ := hbz
      generalize w3.heap.size = k at *
      clear hZ HB3 HO HA
      refine wp_hab fun hab => ?_
      refine wp_region_above (by kernel_rfl) (by kernel_rfl) ?_
      repeat (go_big_quiet_step ((first | (go_at_call 25; exact HOZ.out _) | (go_at_call 41; exact HAZ.out _))))
      refine wpQuiet_nil ?_
      refine above_ends fun w4 hb4 => ?_
      have HB4 := hide (HBZ.out.keep hb4)
      clear hab hb4 HBZ HOZ HAZ c0 c1 c2 c3 hk
      cases hbm : bt 1 with
      | true =>
        have he : (N == Q) = true := by rw [← HBm.out]; exact hbm
        rw [hbm] at HSm
        have t1 : IntKind.u8.wrap (P 1 + 2) = P 1 + 2 := by simp [IntKind.wrap, IntKind.bits, IntKind.signed]; omega
        clear HBm hbm hpk
        go_wp2_with (fail)
        go_roundw
        case rel => exact ⟨2, by omega, rfl, by rw [HSm.out]; simp, HB4⟩
        case measure => simp [intOf]
      | false =>
        have he : (N == Q) = false := by rw [← HBm.out]; exact hbm
        rw [hbm] at HSm
        clear HBm hbm hpk
        go_wp2_with (fail)
        go_roundw
        case rel => exact ⟨2, by omega, rfl, by rw [HSm.out]; simp, HB4⟩
        case measure => simp [intOf]
    · have HC : Hid (∀ W : World, Calls Try.prog 26 #[.agg #[.int .i64 r.x0, .int .i64 r.y0, .int .i64 r.x1, .int .i64 r.y1], .int .u8 4] W fun e w' => e = .returned (.agg #[.int .i64 (besF r 2).x0, .int .i64 (besF r 2).y0, .int .i64 (besF r 2).x1, .int .i64 (besF r 2).y1]) ∧ Below W.heap.size W w') := hide (HBES.out 2 (by omega))
      have HO := hide (HON.out 2)
      have HA := hide (HAR.out 2)
      have HBm := hide (HBIT.out 2)
      have HSm := hide (HST.out 2)
      have hpk := HP.out.2.2.1
      generalize besF r 2 = B at *
      generalize onF B s = N at *
      generalize arQ B = Q at *
      obtain ⟨d0, d1, d2, d3, -, -⟩ := id HB.out
      simp only [Nat.reduceAdd, Nat.zero_add, Int.reducePow] at HSm ⊢
      go_wp2_with (fail)
      refine (HC.out _).mono ?_
      rintro e w3 ⟨rfl, hb⟩
      have HB3 := hide (HB.out.keep hb)
      clear hb d0 d1 d2 d3 HB HC
      go_upto_region 6 with fail
      refine wp_name5 fun Z hZ => ?_
      have hbz : BoxR w3.heap.size w3 B Z := by rw [hZ]; exact box_new w3 B _
      have HBZ := hide (HB3.out.keep hbz.below)
      have HOZ : Hid (∀ x : Above Z, Calls Try.prog 25 #[.agg #[.int .i64 B.x0, .int .i64 B.y0, .int .i64 B.x1, .int .i64 B.y1], .slice A s.length c] x.get fun e w'' => e = .returned (.int .i64 N) ∧ ∃ y : Above Z, w'' = y.get) := hide (fun x => above_of (HO.out x.get (HBZ.out.below.trans (x.keeps.mono (by have := HBZ.out.size; omega)))))
      have HAZ : Hid (∀ x : Above Z, Calls Try.prog 41 #[.agg #[.int .i64 B.x0, .int .i64 B.y0, .int .i64 B.x1, .int .i64 B.y1]] x.get fun e w'' => e = .returned (.int .i64 Q) ∧ ∃ y : Above Z, w'' = y.get) := hide (fun x => above_of (HA.out x.get))
      obtain ⟨c0, c1, c2, c3, -, hk⟩ := hbz
      generalize w3.heap.size = k at *
      clear hZ HB3 HO HA
      refine wp_hab fun hab => ?_
      refine wp_region_above (by kernel_rfl) (by kernel_rfl) ?_
      repeat (go_big_quiet_step ((first | (go_at_call 25; exact HOZ.out _) | (go_at_call 41; exact HAZ.out _))))
      refine wpQuiet_nil ?_
      refine above_ends fun w4 hb4 => ?_
      have HB4 := hide (HBZ.out.keep hb4)
      clear hab hb4 HBZ HOZ HAZ c0 c1 c2 c3 hk
      cases hbm : bt 2 with
      | true =>
        have he : (N == Q) = true := by rw [← HBm.out]; exact hbm
        rw [hbm] at HSm
        have t1 : IntKind.u8.wrap (P 2 + 4) = P 2 + 4 := by simp [IntKind.wrap, IntKind.bits, IntKind.signed]; omega
        clear HBm hbm hpk
        go_wp2_with (fail)
        go_roundw
        case rel => exact ⟨3, by omega, rfl, by rw [HSm.out]; simp, HB4⟩
        case measure => simp [intOf]
      | false =>
        have he : (N == Q) = false := by rw [← HBm.out]; exact hbm
        rw [hbm] at HSm
        clear HBm hbm hpk
        go_wp2_with (fail)
        go_roundw
        case rel => exact ⟨3, by omega, rfl, by rw [HSm.out]; simp, HB4⟩
        case measure => simp [intOf]
    · have HC : Hid (∀ W : World, Calls Try.prog 26 #[.agg #[.int .i64 r.x0, .int .i64 r.y0, .int .i64 r.x1, .int .i64 r.y1], .int .u8 8] W fun e w' => e = .returned (.agg #[.int .i64 (besF r 3).x0, .int .i64 (besF r 3).y0, .int .i64 (besF r 3).x1, .int .i64 (besF r 3).y1]) ∧ Below W.heap.size W w') := hide (HBES.out 3 (by omega))
      have HO := hide (HON.out 3)
      have HA := hide (HAR.out 3)
      have HBm := hide (HBIT.out 3)
      have HSm := hide (HST.out 3)
      have hpk := HP.out.2.2.2
      generalize besF r 3 = B at *
      generalize onF B s = N at *
      generalize arQ B = Q at *
      obtain ⟨d0, d1, d2, d3, -, -⟩ := id HB.out
      simp only [Nat.reduceAdd, Nat.zero_add, Int.reducePow] at HSm ⊢
      go_wp2_with (fail)
      refine (HC.out _).mono ?_
      rintro e w3 ⟨rfl, hb⟩
      have HB3 := hide (HB.out.keep hb)
      clear hb d0 d1 d2 d3 HB HC
      go_upto_region 6 with fail
      refine wp_name5 fun Z hZ => ?_
      have hbz : BoxR w3.heap.size w3 B Z := by rw [hZ]; exact box_new w3 B _
      have HBZ := hide (HB3.out.keep hbz.below)
      have HOZ : Hid (∀ x : Above Z, Calls Try.prog 25 #[.agg #[.int .i64 B.x0, .int .i64 B.y0, .int .i64 B.x1, .int .i64 B.y1], .slice A s.length c] x.get fun e w'' => e = .returned (.int .i64 N) ∧ ∃ y : Above Z, w'' = y.get) := hide (fun x => above_of (HO.out x.get (HBZ.out.below.trans (x.keeps.mono (by have := HBZ.out.size; omega)))))
      have HAZ : Hid (∀ x : Above Z, Calls Try.prog 41 #[.agg #[.int .i64 B.x0, .int .i64 B.y0, .int .i64 B.x1, .int .i64 B.y1]] x.get fun e w'' => e = .returned (.int .i64 Q) ∧ ∃ y : Above Z, w'' = y.get) := hide (fun x => above_of (HA.out x.get))
      obtain ⟨c0, c1, c2, c3, -, hk⟩ := hbz
      generalize w3.heap.size = k at *
      clear hZ HB3 HO HA
      refine wp_hab fun hab => ?_
      refine wp_region_above (by kernel_rfl) (by kernel_rfl) ?_
      repeat (go_big_quiet_step ((first | (go_at_call 25; exact HOZ.out _) | (go_at_call 41; exact HAZ.out _))))
      refine wpQuiet_nil ?_
      refine above_ends fun w4 hb4 => ?_
      have HB4 := hide (HBZ.out.keep hb4)
      clear hab hb4 HBZ HOZ HAZ c0 c1 c2 c3 hk
      cases hbm : bt 3 with
      | true =>
        have he : (N == Q) = true := by rw [← HBm.out]; exact hbm
        rw [hbm] at HSm
        have t1 : IntKind.u8.wrap (P 3 + 8) = P 3 + 8 := by simp [IntKind.wrap, IntKind.bits, IntKind.signed]; omega
        clear HBm hbm hpk
        go_wp2_with (fail)
        go_roundw
        case rel => exact ⟨4, by omega, rfl, by rw [HSm.out]; simp, HB4⟩
        case measure => simp [intOf]
      | false =>
        have he : (N == Q) = false := by rw [← HBm.out]; exact hbm
        rw [hbm] at HSm
        clear HBm hbm hpk
        go_wp2_with (fail)
        go_roundw
        case rel => exact ⟨4, by omega, rfl, by rw [HSm.out]; simp, HB4⟩
        case measure => simp [intOf]
    · have HBE := hide HB.out.below
      simp only [Int.reducePow]
      go_wp2_with (fail)
      go_ret
      exact ⟨by rw [HF.out]; rfl, by first | exact HBE.out | (rw [HN.out]; exact HBE.out)⟩
set_option maxRecDepth 100000 in
set_option maxHeartbeats 4000000 in
theorem rFronts_any (r : R4) {w : World} {v : Value} {s : List R4} (hs : RdK encR 4 w w.heap.size v s) (hl : s.length ≤ 100000000) :
    Calls Try.prog 7 #[.agg (encR r).toArray, v] w fun e w' => e = .returned (.tuple #[.int .u8 (frontsF r s).1, .int .i64 (frontsF r s).2]) ∧ Below w.heap.size w w' := by
  have HCK : Hid (∀ W : World, Below w.heap.size w W → Calls Try.prog 19 #[v] W fun e w' => e = .returned (.int .i64 (checkF s)) ∧ Below W.heap.size W w') := hide (fun W hb => rCheck_any ((hs.below hb).mono hb.size) hl)
  have HFI : Hid (∀ W : World, Calls Try.prog 20 #[.agg #[.int .i64 r.x0, .int .i64 r.y0, .int .i64 r.x1, .int .i64 r.y1]] W fun e w' => e = .returned (.bool (decide (okR r))) ∧ Below W.heap.size W w') := hide (fun W => by have := rValid_any r W; rwa [decide_eq_decide.2 (ok_valid r).symm] at this)
  have HFR : Hid (checkF s = 0 → okR r → ∀ W : World, Below w.heap.size w W → Calls Try.prog 21 #[.agg #[.int .i64 r.x0, .int .i64 r.y0, .int .i64 r.x1, .int .i64 r.y1], v] W fun e w' => e = .returned (.int .u8 (frF r s)) ∧ Below W.heap.size W w') := hide (fun hc hr W hb => rfront_any r hr ((hs.below hb).mono hb.size) hc)
  obtain ⟨A, c, rfl, _⟩ := hs
  have HW := box_new w r 23
  have HB := hide HW
  generalize hW : w.alloc (.cells #[.int .i64 r.x0, .int .i64 r.y0, .int .i64 r.x1, .int .i64 r.y1] 23) = W at *
  show Calls Try.prog _ #[.agg #[.int .i64 r.x0, .int .i64 r.y0, .int .i64 r.x1, .int .i64 r.y1], .slice A s.length c] w _
  by_cases hc : checkF s = 0
  · by_cases hr : okR r
    · have HFR2 := hide (HFR.out hc hr)
      have HF : Hid (frontsF r s = (frF r s, 0)) := hide (by unfold frontsF; rw [if_neg (by simpa using hc), if_pos hr])
      rw [hc] at HCK
      rw [decide_eq_true hr] at HFI
      clear HFR hc hr HW
      go_enter Try.func7, Try.ntmps7
      go_wp2_with (fail)
      try rw [hW]
      refine (HCK.out _ HB.out.below).mono ?_
      rintro e w1 ⟨rfl, hb⟩
      have HB1 := hide (HB.out.keep hb)
      obtain ⟨d0, d1, d2, d3, -, -⟩ := id HB1.out
      clear hb HB hW
      go_wp2_with (fail)
      refine (HFI.out _).mono ?_
      rintro e w2 ⟨rfl, hb⟩
      have HB2 := hide (HB1.out.keep hb)
      clear hb d0 d1 d2 d3 HB1
      obtain ⟨d0, d1, d2, d3, -, -⟩ := id HB2.out
      go_wp2_with (fail)
      refine (HFR2.out _ HB2.out.below).mono ?_
      rintro e w3 ⟨rfl, hb⟩
      have HB3 := hide (HB2.out.keep hb).below
      clear hb d0 d1 d2 d3 HB2
      go_wp2_with (fail)
      go_ret2
      exact ⟨by rw [HF.out]; rfl, by first | exact HB3.out | (rw [HN.out]; exact HB3.out)⟩
    · have HF : Hid (frontsF r s = (0, 8)) := hide (by unfold frontsF; rw [if_neg (by simpa using hc), if_neg hr])
      rw [hc] at HCK
      rw [decide_eq_false hr] at HFI
      clear HFR hc hr HW
      go_enter Try.func7, Try.ntmps7
      go_wp2_with (fail)
      try rw [hW]
      refine (HCK.out _ HB.out.below).mono ?_
      rintro e w1 ⟨rfl, hb⟩
      have HB1 := hide (HB.out.keep hb)
      obtain ⟨d0, d1, d2, d3, -, -⟩ := id HB1.out
      clear hb HB hW
      go_wp2_with (fail)
      refine (HFI.out _).mono ?_
      rintro e w2 ⟨rfl, hb⟩
      have HB2 := hide (HB1.out.keep hb).below
      clear hb d0 d1 d2 d3 HB1
      go_wp2_with (fail)
      go_ret2
      exact ⟨by rw [HF.out]; rfl, by first | exact HB2.out | (rw [HN.out]; exact HB2.out)⟩
  · have HF : Hid (frontsF r s = (0, checkF s)) := hide (if_pos hc)
    have hne : (checkF s != 0) = true := by simpa using hc
    clear HFR HW hc
    generalize checkF s = ck at *
    go_enter Try.func7, Try.ntmps7
    go_wp2_with (fail)
    try rw [hW]
    refine (HCK.out _ HB.out.below).mono ?_
    rintro e w1 ⟨rfl, hb⟩
    have HB1 := hide (HB.out.keep hb)
    clear hb HB hW
    go_wp2_with (fail)
    refine (HCK.out _ HB1.out.below).mono ?_
    rintro e w2 ⟨rfl, hb⟩
    have HB2 := hide (HB1.out.keep hb).below
    clear hb HB1
    go_wp2_with (fail)
    go_ret2
    exact ⟨by rw [HF.out]; rfl, by first | exact HB2.out | (rw [HN.out]; exact HB2.out)⟩
end Go.Proofs.Ytabogapiecciiaa

/- Reached: of the code, and of the reference. -/
namespace Go.Proofs.Ytabogapiecciiaa
open Go.RowKit
set_option linter.unusedVariables false
set_option linter.unusedSimpArgs false

/-- A parcel in a box of its own. -/
structure BoxQ (n : Nat) (w : World) (x : Par6) (wr : World) : Prop where
  b0 : wr.cell? ⟨n, 0, none⟩ = some (.int .i64 x.b)
  d0 : wr.cell? ⟨n, 1, none⟩ = some (.int .i64 x.l.r.x0)
  d1 : wr.cell? ⟨n, 2, none⟩ = some (.int .i64 x.l.r.y0)
  d2 : wr.cell? ⟨n, 3, none⟩ = some (.int .i64 x.l.r.x1)
  d3 : wr.cell? ⟨n, 4, none⟩ = some (.int .i64 x.l.r.y1)
  d4 : wr.cell? ⟨n, 5, none⟩ = some (.int .u8 x.l.f)
  below : Below n w wr
  size : n < wr.heap.size
theorem BoxQ.keep {n : Nat} {w wr w' : World} {x : Par6} (h : BoxQ n w x wr) (hb : Below wr.heap.size wr w') : BoxQ n w x w' := by
  have := h.size
  exact ⟨(hb.cell (p := ⟨n, 0, none⟩) (by simp; omega)).trans h.b0, (hb.cell (p := ⟨n, 1, none⟩) (by simp; omega)).trans h.d0, (hb.cell (p := ⟨n, 2, none⟩) (by simp; omega)).trans h.d1, (hb.cell (p := ⟨n, 3, none⟩) (by simp; omega)).trans h.d2, (hb.cell (p := ⟨n, 4, none⟩) (by simp; omega)).trans h.d3, (hb.cell (p := ⟨n, 5, none⟩) (by simp; omega)).trans h.d4, h.below.trans (hb.mono (by omega)), by have := hb.size; omega⟩
theorem boxQ_new (w : World) (x : Par6) (t : TypeId) : BoxQ w.heap.size w x (w.alloc (.cells #[.int .i64 x.b, .int .i64 x.l.r.x0, .int .i64 x.l.r.y0, .int .i64 x.l.r.x1, .int .i64 x.l.r.y1, .int .u8 x.l.f] t)) :=
  ⟨by simp [go_sem], by simp [go_sem], by simp [go_sem], by simp [go_sem], by simp [go_sem], by simp [go_sem], (Below.refl _ _).alloc (Nat.le_refl _) _, by simp⟩
theorem bits_sh : ∀ n ∈ List.range 16, (bits .and .u8 (n : Int) 1 == 1) = hasS (n : Int) 1 ∧ (bits .and .u8 ((n : Int) / 2) 1 == 1) = hasS (n : Int) 2 ∧ (bits .and .u8 ((n : Int) / 4) 1 == 1) = hasS (n : Int) 4 ∧ (bits .and .u8 ((n : Int) / 8) 1 == 1) = hasS (n : Int) 8 := by decide
theorem sh_at {f : Int} (h : 0 ≤ f ∧ f ≤ 15) : (bits .and .u8 f 1 == 1) = hasS f 1 ∧ (bits .and .u8 (f / 2) 1 == 1) = hasS f 2 ∧ (bits .and .u8 (f / 4) 1 == 1) = hasS f 4 ∧ (bits .and .u8 (f / 8) 1 == 1) = hasS f 8 := by
  obtain ⟨n, hn, rfl⟩ := f16 h
  exact bits_sh n hn
/-- What is reached at the first sides. -/
def rcP (l : Lot5) (s : List R4) : Nat → Int
  | 0 => 0
  | m + 1 => rcP l s m + if hasS l.f (2 ^ m) = true then onF (besF l.r m) s else 0
theorem rcP_four (l : Lot5) (s : List R4) : rcP l s 4 = rchF l s := by
  unfold rchF
  simp [rcP]
theorem rcP_bd {l : Lot5} {s : List R4} (h : okR l.r) (hl : s.length ≤ 400) (m : Nat) : 0 ≤ onF (besF l.r m) s ∧ onF (besF l.r m) s ≤ 1600000000000000 ∧ 0 ≤ rcP l s m ∧ rcP l s m ≤ 1600000000000000 * m := by
  have hq : ∀ i, 0 ≤ onF (besF l.r i) s ∧ onF (besF l.r i) s ≤ 1600000000000000 := fun i => by
    have hm := bes_mid h i
    have := onF_bd (r := besF l.r i) hm.2.2.2.2.2.2.2.2.1 hm.2.2.2.2.2.2.2.2.2 s
    omega
  refine ⟨(hq m).1, (hq m).2, ?_⟩
  induction m with
  | zero => simp [rcP]
  | succ m ih =>
    have := hq m
    simp only [rcP]
    split <;> omega
set_option maxRecDepth 100000 in
set_option maxHeartbeats 8000000 in
theorem lReached_any (x : Par6) (hf : 0 ≤ x.l.f ∧ x.l.f ≤ 255) {w : World} {v : Value} {s : List R4} (hs : RdK encR 4 w w.heap.size v s) (hl : s.length ≤ 100000000) :
    Calls Try.prog 8 #[.agg (encQ x).toArray, v] w fun e w' => e = .returned (.tuple #[.int .i64 (reachedF x.l s).1, .int .i64 (reachedF x.l s).2]) ∧ Below w.heap.size w w' := by
  have HCK : Hid (∀ W : World, Below w.heap.size w W → Calls Try.prog 16 #[v] W fun e w' => e = .returned (.int .i64 (checkF s)) ∧ Below W.heap.size W w') := hide (fun W hb => check_any ((hs.below hb).mono hb.size) hl)
  have HFI : Hid (∀ W : World, Calls Try.prog 17 #[.agg #[.int .i64 x.l.r.x0, .int .i64 x.l.r.y0, .int .i64 x.l.r.x1, .int .i64 x.l.r.y1]] W fun e w' => e = .returned (.bool (decide (okR x.l.r))) ∧ Below W.heap.size W w') := hide (fun W => fine_any x.l.r W)
  have HBES : Hid (okR x.l.r → ∀ (i : Nat), i < 4 → ∀ W : World, Calls Try.prog 23 #[.agg #[.int .i64 x.l.r.x0, .int .i64 x.l.r.y0, .int .i64 x.l.r.x1, .int .i64 x.l.r.y1], .int .i64 i] W fun e w' => e = .returned (.agg #[.int .i64 (besF x.l.r i).x0, .int .i64 (besF x.l.r i).y0, .int .i64 (besF x.l.r i).x1, .int .i64 (besF x.l.r i).y1]) ∧ Below W.heap.size W w') := hide (fun hr i hi W => lbeside_any x.l.r i hi hr W)
  have HON : Hid (checkF s = 0 → okR x.l.r → ∀ (i : Nat) (W : World), Below w.heap.size w W → Calls Try.prog 22 #[.agg #[.int .i64 (besF x.l.r i).x0, .int .i64 (besF x.l.r i).y0, .int .i64 (besF x.l.r i).x1, .int .i64 (besF x.l.r i).y1], v] W fun e w' => e = .returned (.int .i64 (onF (besF x.l.r i) s)) ∧ Below W.heap.size W w') := hide (fun hc hr i W hb => on_any (besF x.l.r i) (bes_mid hr i) ((hs.below hb).mono hb.size) (fun q hq => (ok_valid q).2 ((checkF_ok hc).2.1 q hq)) (checkF_ok hc).1)
  have HBD : Hid (checkF s = 0 → okR x.l.r → ∀ m : Nat, 0 ≤ onF (besF x.l.r m) s ∧ onF (besF x.l.r m) s ≤ 1600000000000000 ∧ 0 ≤ rcP x.l s m ∧ rcP x.l s m ≤ 1600000000000000 * m) := hide (fun hc hr m => rcP_bd hr (checkF_ok hc).1 m)
  obtain ⟨A, c, rfl, _⟩ := hs
  have HB := hide (boxQ_new w x 27)
  generalize hW : w.alloc (.cells #[.int .i64 x.b, .int .i64 x.l.r.x0, .int .i64 x.l.r.y0, .int .i64 x.l.r.x1, .int .i64 x.l.r.y1, .int .u8 x.l.f] 27) = W at *
  generalize hn : w.heap.size = n at *
  have HN := hide hn
  obtain ⟨f1, f2⟩ := hf
  show Calls Try.prog _ #[.agg #[.int .i64 x.b, .int .i64 x.l.r.x0, .int .i64 x.l.r.y0, .int .i64 x.l.r.x1, .int .i64 x.l.r.y1, .int .u8 x.l.f], .slice A s.length c] w _
  by_cases hc : checkF s = 0
  · by_cases hr : okR x.l.r
    · by_cases h15 : x.l.f ≤ 15
      · have HON2 := hide (HON.out hc hr)
        have HBES2 := hide (HBES.out hr)
        have HBD2 := hide (HBD.out hc hr)
        have HF : Hid (reachedF x.l s = (rcP x.l s 4, 0)) := hide (by unfold reachedF; rw [if_neg (by simpa using hc), if_pos ⟨hr, h15⟩, rcP_four])
        have HP0 : Hid (rcP x.l s 0 = 0) := hide rfl
        have HST : Hid (∀ m, rcP x.l s (m + 1) = rcP x.l s m + if hasS x.l.f (2 ^ m) = true then onF (besF x.l.r m) s else 0) := hide (fun m => rfl)
        have HSH := hide (sh_at ⟨f1, h15⟩)
        rw [hc] at HCK
        rw [decide_eq_true hr] at HFI
        clear HON HBES HBD hc hr
        generalize rcP x.l s = P at *
        go_enter Try.func8, Try.ntmps8
        go_wp2_with (fail)
        try rw [hW]
        refine (HCK.out _ HB.out.below).mono ?_
        rintro e w1 ⟨rfl, hb⟩
        have HB1 := hide (HB.out.keep hb)
        obtain ⟨b0, d0, d1, d2, d3, d4, -, -⟩ := id HB1.out
        clear hb HB hW
        go_wp2_with (fail)
        refine (HFI.out _).mono ?_
        rintro e w2 ⟨rfl, hb⟩
        have HB2 := hide (HB1.out.keep hb)
        clear hb b0 d0 d1 d2 d3 d4 HB1
        obtain ⟨b0, d0, d1, d2, d3, d4, -, -⟩ := id HB2.out
        go_upto_region 7 with fail
        go_wp2_with (fail)
        go_loopw [7, 25] (fun o i wr => ∃ m : Nat, m ≤ 4 ∧ i = .int .i64 m ∧ o = .int .i64 (P m) ∧ Hid (BoxQ n w x wr)) (fun _ i _ => 4 - (intOf i).toNat)
        case atStart => exact ⟨0, Nat.zero_le _, rfl, by rw [HP0.out], HB2⟩
        case round =>
          clear HB2 b0 d0 d1 d2 d3 d4
          obtain ⟨m, hm, rfl, rfl, HB⟩ := hrel
          obtain ⟨b0, d0, d1, d2, d3, d4, -, -⟩ := id HB.out
          have hm5 : m = 0 ∨ m = 1 ∨ m = 2 ∨ m = 3 ∨ m = 4 := by omega
          rcases hm5 with rfl | rfl | rfl | rfl | rfl
          · have HC : Hid (∀ W : World, Calls Try.prog 23 #[.agg #[.int .i64 x.l.r.x0, .int .i64 x.l.r.y0, .int .i64 x.l.r.x1, .int .i64 x.l.r.y1], .int .i64 0] W fun e w' => e = .returned (.agg #[.int .i64 (besF x.l.r 0).x0, .int .i64 (besF x.l.r 0).y0, .int .i64 (besF x.l.r 0).x1, .int .i64 (besF x.l.r 0).y1]) ∧ Below W.heap.size W w') := hide (HBES2.out 0 (by omega))
            have HO := hide (HON2.out 0)
            have HSm : Hid (P 1 = P 0 + if hasS x.l.f 1 = true then onF (besF x.l.r 0) s else 0) := hide (HST.out 0)
            have hsh := HSH.out.1
            obtain ⟨q1, q2, q3, q4⟩ := HBD2.out 0
            generalize besF x.l.r 0 = B at *
            generalize onF B s = N at *
            have t1 : IntKind.i64.wrap (P 0 + N) = P 0 + N := IntWalk.i64_in _ (by omega)
            clear HST HSH HBES2 HON2
            cases hbm : hasS x.l.f 1 with
            | true =>
              rw [hbm] at hsh HSm
              go_wp2_with (fail)
              refine (HC.out _).mono ?_
              rintro e w3 ⟨rfl, hb⟩
              have HB3 := hide (HB.out.keep hb)
              clear hb b0 d0 d1 d2 d3 d4 HB HC
              go_wp2_with (fail)
              refine (HO.out _ HB3.out.below).mono ?_
              rintro e w4 ⟨rfl, hb⟩
              have HB4 := hide (HB3.out.keep hb)
              clear hb HB3 HO
              go_wp2_with (fail)
              go_roundw
              case rel => exact ⟨1, by omega, rfl, by rw [HSm.out]; simp, HB4⟩
              case measure => simp [intOf]
            | false =>
              rw [hbm] at hsh HSm
              go_wp2_with (fail)
              go_roundw
              case rel => exact ⟨1, by omega, rfl, by rw [HSm.out]; simp, HB⟩
              case measure => simp [intOf]
          · have HC : Hid (∀ W : World, Calls Try.prog 23 #[.agg #[.int .i64 x.l.r.x0, .int .i64 x.l.r.y0, .int .i64 x.l.r.x1, .int .i64 x.l.r.y1], .int .i64 1] W fun e w' => e = .returned (.agg #[.int .i64 (besF x.l.r 1).x0, .int .i64 (besF x.l.r 1).y0, .int .i64 (besF x.l.r 1).x1, .int .i64 (besF x.l.r 1).y1]) ∧ Below W.heap.size W w') := hide (HBES2.out 1 (by omega))
            have HO := hide (HON2.out 1)
            have HSm : Hid (P 2 = P 1 + if hasS x.l.f 2 = true then onF (besF x.l.r 1) s else 0) := hide (HST.out 1)
            have hsh := HSH.out.2.1
            obtain ⟨q1, q2, q3, q4⟩ := HBD2.out 1
            generalize besF x.l.r 1 = B at *
            generalize onF B s = N at *
            have t1 : IntKind.i64.wrap (P 1 + N) = P 1 + N := IntWalk.i64_in _ (by omega)
            clear HST HSH HBES2 HON2
            cases hbm : hasS x.l.f 2 with
            | true =>
              rw [hbm] at hsh HSm
              go_wp2_with (fail)
              refine (HC.out _).mono ?_
              rintro e w3 ⟨rfl, hb⟩
              have HB3 := hide (HB.out.keep hb)
              clear hb b0 d0 d1 d2 d3 d4 HB HC
              go_wp2_with (fail)
              refine (HO.out _ HB3.out.below).mono ?_
              rintro e w4 ⟨rfl, hb⟩
              have HB4 := hide (HB3.out.keep hb)
              clear hb HB3 HO
              go_wp2_with (fail)
              go_roundw
              case rel => exact ⟨2, by omega, rfl, by rw [HSm.out]; simp, HB4⟩
              case measure => simp [intOf]
            | false =>
              rw [hbm] at hsh HSm
              go_wp2_with (fail)
              go_roundw
              case rel => exact ⟨2, by omega, rfl, by rw [HSm.out]; simp, HB⟩
              case measure => simp [intOf]
          · have HC : Hid (∀ W : World, Calls Try.prog 23 #[.agg #[.int .i64 x.l.r.x0, .int .i64 x.l.r.y0, .int .i64 x.l.r.x1, .int .i64 x.l.r.y1], .int .i64 2] W fun e w' => e = .returned (.agg #[.int .i64 (besF x.l.r 2).x0, .int .i64 (besF x.l.r 2).y0, .int .i64 (besF x.l.r 2).x1, .int .i64 (besF x.l.r 2).y1]) ∧ Below W.heap.size W w') := hide (HBES2.out 2 (by omega))
            have HO := hide (HON2.out 2)
            have HSm : Hid (P 3 = P 2 + if hasS x.l.f 4 = true then onF (besF x.l.r 2) s else 0) := hide (HST.out 2)
            have hsh := HSH.out.2.2.1
            obtain ⟨q1, q2, q3, q4⟩ := HBD2.out 2
            generalize besF x.l.r 2 = B at *
            generalize onF B s = N at *
            have t1 : IntKind.i64.wrap (P 2 + N) = P 2 + N := IntWalk.i64_in _ (by omega)
            clear HST HSH HBES2 HON2
            cases hbm : hasS x.l.f 4 with
            | true =>
              rw [hbm] at hsh HSm
              go_wp2_with (fail)
              refine (HC.out _).mono ?_
              rintro e w3 ⟨rfl, hb⟩
              have HB3 := hide (HB.out.keep hb)
              clear hb b0 d0 d1 d2 d3 d4 HB HC
              go_wp2_with (fail)
              refine (HO.out _ HB3.out.below).mono ?_
              rintro e w4 ⟨rfl, hb⟩
              have HB4 := hide (HB3.out.keep hb)
              clear hb HB3 HO
              go_wp2_with (fail)
              go_roundw
              case rel => exact ⟨3, by omega, rfl, by rw [HSm.out]; simp, HB4⟩
              case measure => simp [intOf]
            | false =>
              rw [hbm] at hsh HSm
              go_wp2_with (fail)
              go_roundw
              case rel => exact ⟨3, by omega, rfl, by rw [HSm.out]; simp, HB⟩
              case measure => simp [intOf]
          · have HC : Hid (∀ W : World, Calls Try.prog 23 #[.agg #[.int .i64 x.l.r.x0, .int .i64 x.l.r.y0, .int .i64 x.l.r.x1, .int .i64 x.l.r.y1], .int .i64 3] W fun e w' => e = .returned (.agg #[.int .i64 (besF x.l.r 3).x0, .int .i64 (besF x.l.r 3).y0, .int .i64 (besF x.l.r 3).x1, .int .i64 (besF x.l.r 3).y1]) ∧ Below W.heap.size W w') := hide (HBES2.out 3 (by omega))
            have HO := hide (HON2.out 3)
            have HSm : Hid (P 4 = P 3 + if hasS x.l.f 8 = true then onF (besF x.l.r 3) s else 0) := hide (HST.out 3)
            have hsh := HSH.out.2.2.2
            obtain ⟨q1, q2, q3, q4⟩ := HBD2.out 3
            generalize besF x.l.r 3 = B at *
            generalize onF B s = N at *
            have t1 : IntKind.i64.wrap (P 3 + N) = P 3 + N := IntWalk.i64_in _ (by omega)
            clear HST HSH HBES2 HON2
            cases hbm : hasS x.l.f 8 with
            | true =>
              rw [hbm] at hsh HSm
              go_wp2_with (fail)
              refine (HC.out _).mono ?_
              rintro e w3 ⟨rfl, hb⟩
              have HB3 := hide (HB.out.keep hb)
              clear hb b0 d0 d1 d2 d3 d4 HB HC
              go_wp2_with (fail)
              refine (HO.out _ HB3.out.below).mono ?_
              rintro e w4 ⟨rfl, hb⟩
              have HB4 := hide (HB3.out.keep hb)
              clear hb HB3 HO
              go_wp2_with (fail)
              go_roundw
              case rel => exact ⟨4, by omega, rfl, by rw [HSm.out]; simp, HB4⟩
              case measure => simp [intOf]
            | false =>
              rw [hbm] at hsh HSm
              go_wp2_with (fail)
              go_roundw
              case rel => exact ⟨4, by omega, rfl, by rw [HSm.out]; simp, HB⟩
              case measure => simp [intOf]
          · have HBE := hide HB.out.below
            clear HST HSH HBES2 HON2 b0 d0 d1 d2 d3 d4
            try simp only [Int.reducePow]
            go_wp2_with (fail)
            go_ret2
            exact ⟨by rw [HF.out]; rfl, by first | exact HBE.out | (rw [HN.out]; exact HBE.out)⟩
      · have h16 : 15 < x.l.f := by omega
        have HF : Hid (reachedF x.l s = (0, 8)) := hide (by unfold reachedF; rw [if_neg (by simpa using hc), if_neg (fun h => h15 h.2)])
        rw [hc] at HCK
        rw [decide_eq_true hr] at HFI
        clear HON HBES HBD hc hr h15
        go_enter Try.func8, Try.ntmps8
        go_wp2_with (fail)
        try rw [hW]
        refine (HCK.out _ HB.out.below).mono ?_
        rintro e w1 ⟨rfl, hb⟩
        have HB1 := hide (HB.out.keep hb)
        obtain ⟨b0, d0, d1, d2, d3, d4, -, -⟩ := id HB1.out
        clear hb HB hW
        go_wp2_with (fail)
        refine (HFI.out _).mono ?_
        rintro e w2 ⟨rfl, hb⟩
        have HB2 := hide (HB1.out.keep hb)
        clear hb b0 d0 d1 d2 d3 d4 HB1
        obtain ⟨b0, d0, d1, d2, d3, d4, -, -⟩ := id HB2.out
        have HB3 := hide HB2.out.below
        go_wp2_with (fail)
        go_ret2
        exact ⟨by rw [HF.out]; rfl, by first | exact HB3.out | (rw [HN.out]; exact HB3.out)⟩
    · have HF : Hid (reachedF x.l s = (0, 8)) := hide (by unfold reachedF; rw [if_neg (by simpa using hc), if_neg (fun h => hr h.1)])
      rw [hc] at HCK
      rw [decide_eq_false hr] at HFI
      clear HON HBES HBD hc hr
      go_enter Try.func8, Try.ntmps8
      go_wp2_with (fail)
      try rw [hW]
      refine (HCK.out _ HB.out.below).mono ?_
      rintro e w1 ⟨rfl, hb⟩
      have HB1 := hide (HB.out.keep hb)
      obtain ⟨b0, d0, d1, d2, d3, d4, -, -⟩ := id HB1.out
      clear hb HB hW
      go_wp2_with (fail)
      refine (HFI.out _).mono ?_
      rintro e w2 ⟨rfl, hb⟩
      have HB2 := hide (HB1.out.keep hb)
      clear hb b0 d0 d1 d2 d3 d4 HB1
      obtain ⟨b0, d0, d1, d2, d3, d4, -, -⟩ := id HB2.out
      have HB3 := hide HB2.out.below
      go_wp2_with (fail)
      go_ret2
      exact ⟨by rw [HF.out]; rfl, by first | exact HB3.out | (rw [HN.out]; exact HB3.out)⟩
  · have HF : Hid (reachedF x.l s = (0, checkF s)) := hide (if_pos hc)
    have hne : (checkF s != 0) = true := by simpa using hc
    clear HON HBES HBD hc
    generalize checkF s = ck at *
    go_enter Try.func8, Try.ntmps8
    go_wp2_with (fail)
    try rw [hW]
    refine (HCK.out _ HB.out.below).mono ?_
    rintro e w1 ⟨rfl, hb⟩
    have HB1 := hide (HB.out.keep hb)
    obtain ⟨b0, d0, d1, d2, d3, d4, -, -⟩ := id HB1.out
    clear hb HB hW
    have HB2 := hide HB1.out.below
    go_wp2_with (fail)
    go_ret2
    exact ⟨by rw [HF.out]; rfl, by first | exact HB2.out | (rw [HN.out]; exact HB2.out)⟩
set_option maxRecDepth 100000 in
set_option maxHeartbeats 8000000 in
theorem rReached_any (x : Par6) (hf : 0 ≤ x.l.f ∧ x.l.f ≤ 255) {w : World} {v : Value} {s : List R4} (hs : RdK encR 4 w w.heap.size v s) (hl : s.length ≤ 100000000) :
    Calls Try.prog 9 #[.agg (encQ x).toArray, v] w fun e w' => e = .returned (.tuple #[.int .i64 (reachedF x.l s).1, .int .i64 (reachedF x.l s).2]) ∧ Below w.heap.size w w' := by
  have HCK : Hid (∀ W : World, Below w.heap.size w W → Calls Try.prog 19 #[v] W fun e w' => e = .returned (.int .i64 (checkF s)) ∧ Below W.heap.size W w') := hide (fun W hb => rCheck_any ((hs.below hb).mono hb.size) hl)
  have HFI : Hid (∀ W : World, Calls Try.prog 20 #[.agg #[.int .i64 x.l.r.x0, .int .i64 x.l.r.y0, .int .i64 x.l.r.x1, .int .i64 x.l.r.y1]] W fun e w' => e = .returned (.bool (decide (okR x.l.r))) ∧ Below W.heap.size W w') := hide (fun W => by have := rValid_any x.l.r W; rwa [decide_eq_decide.2 (ok_valid x.l.r).symm] at this)
  have HBES : Hid (okR x.l.r → ∀ (i : Nat), i < 4 → ∀ W : World, Calls Try.prog 26 #[.agg #[.int .i64 x.l.r.x0, .int .i64 x.l.r.y0, .int .i64 x.l.r.x1, .int .i64 x.l.r.y1], .int .u8 (sideN i)] W fun e w' => e = .returned (.agg #[.int .i64 (besF x.l.r i).x0, .int .i64 (besF x.l.r i).y0, .int .i64 (besF x.l.r i).x1, .int .i64 (besF x.l.r i).y1]) ∧ Below W.heap.size W w') := hide (fun hr i hi W => rbeside_any x.l.r i hi hr W)
  have HON : Hid (checkF s = 0 → okR x.l.r → ∀ (i : Nat) (W : World), Below w.heap.size w W → Calls Try.prog 25 #[.agg #[.int .i64 (besF x.l.r i).x0, .int .i64 (besF x.l.r i).y0, .int .i64 (besF x.l.r i).x1, .int .i64 (besF x.l.r i).y1], v] W fun e w' => e = .returned (.int .i64 (onF (besF x.l.r i) s)) ∧ Below W.heap.size W w') := hide (fun hc hr i W hb => rOn_any (besF x.l.r i) (bes_mid hr i) (bes_wf ⟨hr.1, hr.2.1⟩ i) ((hs.below hb).mono hb.size) hc)
  have HBD : Hid (checkF s = 0 → okR x.l.r → ∀ m : Nat, 0 ≤ onF (besF x.l.r m) s ∧ onF (besF x.l.r m) s ≤ 1600000000000000 ∧ 0 ≤ rcP x.l s m ∧ rcP x.l s m ≤ 1600000000000000 * m) := hide (fun hc hr m => rcP_bd hr (checkF_ok hc).1 m)
  obtain ⟨A, c, rfl, _⟩ := hs
  have HB := hide (boxQ_new w x 27)
  generalize hW : w.alloc (.cells #[.int .i64 x.b, .int .i64 x.l.r.x0, .int .i64 x.l.r.y0, .int .i64 x.l.r.x1, .int .i64 x.l.r.y1, .int .u8 x.l.f] 27) = W at *
  generalize hn : w.heap.size = n at *
  have HN := hide hn
  obtain ⟨f1, f2⟩ := hf
  show Calls Try.prog _ #[.agg #[.int .i64 x.b, .int .i64 x.l.r.x0, .int .i64 x.l.r.y0, .int .i64 x.l.r.x1, .int .i64 x.l.r.y1, .int .u8 x.l.f], .slice A s.length c] w _
  by_cases hc : checkF s = 0
  · by_cases hr : okR x.l.r
    · by_cases h15 : x.l.f ≤ 15
      · have HON2 := hide (HON.out hc hr)
        have HBES2 := hide (HBES.out hr)
        have HBD2 := hide (HBD.out hc hr)
        have HF : Hid (reachedF x.l s = (rcP x.l s 4, 0)) := hide (by unfold reachedF; rw [if_neg (by simpa using hc), if_pos ⟨hr, h15⟩, rcP_four])
        have HP0 : Hid (rcP x.l s 0 = 0) := hide rfl
        have HST : Hid (∀ m, rcP x.l s (m + 1) = rcP x.l s m + if hasS x.l.f (2 ^ m) = true then onF (besF x.l.r m) s else 0) := hide (fun m => rfl)
        have HSH := hide (sh_at ⟨f1, h15⟩)
        rw [hc] at HCK
        rw [decide_eq_true hr] at HFI
        clear HON HBES HBD hc hr
        generalize rcP x.l s = P at *
        go_enter Try.func9, Try.ntmps9
        go_wp2_with (fail)
        try rw [hW]
        refine (HCK.out _ HB.out.below).mono ?_
        rintro e w1 ⟨rfl, hb⟩
        have HB1 := hide (HB.out.keep hb)
        obtain ⟨b0, d0, d1, d2, d3, d4, -, -⟩ := id HB1.out
        clear hb HB hW
        go_wp2_with (fail)
        refine (HFI.out _).mono ?_
        rintro e w2 ⟨rfl, hb⟩
        have HB2 := hide (HB1.out.keep hb)
        clear hb b0 d0 d1 d2 d3 d4 HB1
        obtain ⟨b0, d0, d1, d2, d3, d4, -, -⟩ := id HB2.out
        go_upto_region 6 with fail
        go_wp2_with (fail)
        go_loopw [6, 7] (fun o i wr => ∃ m : Nat, m ≤ 4 ∧ i = .int .u8 (2 ^ m) ∧ o = .int .i64 (P m) ∧ Hid (BoxQ n w x wr)) (fun _ i _ => 16 - (intOf i).toNat)
        case atStart => exact ⟨0, Nat.zero_le _, rfl, by rw [HP0.out], HB2⟩
        case round =>
          clear HB2 b0 d0 d1 d2 d3 d4
          obtain ⟨m, hm, rfl, rfl, HB⟩ := hrel
          obtain ⟨b0, d0, d1, d2, d3, d4, -, -⟩ := id HB.out
          have hm5 : m = 0 ∨ m = 1 ∨ m = 2 ∨ m = 3 ∨ m = 4 := by omega
          rcases hm5 with rfl | rfl | rfl | rfl | rfl
          · have HC : Hid (∀ W : World, Calls Try.prog 26 #[.agg #[.int .i64 x.l.r.x0, .int .i64 x.l.r.y0, .int .i64 x.l.r.x1, .int .i64 x.l.r.y1], .int .u8 1] W fun e w' => e = .returned (.agg #[.int .i64 (besF x.l.r 0).x0, .int .i64 (besF x.l.r 0).y0, .int .i64 (besF x.l.r 0).x1, .int .i64 (besF x.l.r 0).y1]) ∧ Below W.heap.size W w') := hide (HBES2.out 0 (by omega))
            have HO := hide (HON2.out 0)
            have HSm : Hid (P 1 = P 0 + if hasS x.l.f 1 = true then onF (besF x.l.r 0) s else 0) := hide (HST.out 0)
            have hsh := HSH.out.1
            obtain ⟨q1, q2, q3, q4⟩ := HBD2.out 0
            generalize besF x.l.r 0 = B at *
            generalize onF B s = N at *
            have t1 : IntKind.i64.wrap (P 0 + N) = P 0 + N := IntWalk.i64_in _ (by omega)
            clear HST HSH HBES2 HON2
            cases hbm : hasS x.l.f 1 with
            | true =>
              rw [hbm] at hsh HSm
              have HH := hide (fun W => rHasS_any (f := x.l.f) (s := 1) ⟨f1, f2⟩ (by simp [isSide]) W)
              rw [hbm] at HH
              go_wp2_with (fail)
              refine (HH.out _).mono ?_
              rintro e w7 ⟨rfl, hb⟩
              obtain rfl := hb
              go_wp2_with (fail)
              refine (HC.out _).mono ?_
              rintro e w3 ⟨rfl, hb⟩
              have HB3 := hide (HB.out.keep hb)
              clear hb b0 d0 d1 d2 d3 d4 HB HC
              go_wp2_with (fail)
              refine (HO.out _ HB3.out.below).mono ?_
              rintro e w4 ⟨rfl, hb⟩
              have HB4 := hide (HB3.out.keep hb)
              clear hb HB3 HO
              go_wp2_with (fail)
              go_roundw
              case rel => exact ⟨1, by omega, rfl, by rw [HSm.out]; simp, HB4⟩
              case measure => simp [intOf]
            | false =>
              rw [hbm] at hsh HSm
              have HH := hide (fun W => rHasS_any (f := x.l.f) (s := 1) ⟨f1, f2⟩ (by simp [isSide]) W)
              rw [hbm] at HH
              go_wp2_with (fail)
              refine (HH.out _).mono ?_
              rintro e w7 ⟨rfl, hb⟩
              obtain rfl := hb
              go_wp2_with (fail)
              go_roundw
              case rel => exact ⟨1, by omega, rfl, by rw [HSm.out]; simp, HB⟩
              case measure => simp [intOf]
          · have HC : Hid (∀ W : World, Calls Try.prog 26 #[.agg #[.int .i64 x.l.r.x0, .int .i64 x.l.r.y0, .int .i64 x.l.r.x1, .int .i64 x.l.r.y1], .int .u8 2] W fun e w' => e = .returned (.agg #[.int .i64 (besF x.l.r 1).x0, .int .i64 (besF x.l.r 1).y0, .int .i64 (besF x.l.r 1).x1, .int .i64 (besF x.l.r 1).y1]) ∧ Below W.heap.size W w') := hide (HBES2.out 1 (by omega))
            have HO := hide (HON2.out 1)
            have HSm : Hid (P 2 = P 1 + if hasS x.l.f 2 = true then onF (besF x.l.r 1) s else 0) := hide (HST.out 1)
            have hsh := HSH.out.2.1
            obtain ⟨q1, q2, q3, q4⟩ := HBD2.out 1
            generalize besF x.l.r 1 = B at *
            generalize onF B s = N at *
            have t1 : IntKind.i64.wrap (P 1 + N) = P 1 + N := IntWalk.i64_in _ (by omega)
            clear HST HSH HBES2 HON2
            cases hbm : hasS x.l.f 2 with
            | true =>
              rw [hbm] at hsh HSm
              have HH := hide (fun W => rHasS_any (f := x.l.f) (s := 2) ⟨f1, f2⟩ (by simp [isSide]) W)
              rw [hbm] at HH
              go_wp2_with (fail)
              refine (HH.out _).mono ?_
              rintro e w7 ⟨rfl, hb⟩
              obtain rfl := hb
              go_wp2_with (fail)
              refine (HC.out _).mono ?_
              rintro e w3 ⟨rfl, hb⟩
              have HB3 := hide (HB.out.keep hb)
              clear hb b0 d0 d1 d2 d3 d4 HB HC
              go_wp2_with (fail)
              refine (HO.out _ HB3.out.below).mono ?_
              rintro e w4 ⟨rfl, hb⟩
              have HB4 := hide (HB3.out.keep hb)
              clear hb HB3 HO
              go_wp2_with (fail)
              go_roundw
              case rel => exact ⟨2, by omega, rfl, by rw [HSm.out]; simp, HB4⟩
              case measure => simp [intOf]
            | false =>
              rw [hbm] at hsh HSm
              have HH := hide (fun W => rHasS_any (f := x.l.f) (s := 2) ⟨f1, f2⟩ (by simp [isSide]) W)
              rw [hbm] at HH
              go_wp2_with (fail)
              refine (HH.out _).mono ?_
              rintro e w7 ⟨rfl, hb⟩
              obtain rfl := hb
              go_wp2_with (fail)
              go_roundw
              case rel => exact ⟨2, by omega, rfl, by rw [HSm.out]; simp, HB⟩
              case measure => simp [intOf]
          · have HC : Hid (∀ W : World, Calls Try.prog 26 #[.agg #[.int .i64 x.l.r.x0, .int .i64 x.l.r.y0, .int .i64 x.l.r.x1, .int .i64 x.l.r.y1], .int .u8 4] W fun e w' => e = .returned (.agg #[.int .i64 (besF x.l.r 2).x0, .int .i64 (besF x.l.r 2).y0, .int .i64 (besF x.l.r 2).x1, .int .i64 (besF x.l.r 2).y1]) ∧ Below W.heap.size W w') := hide (HBES2.out 2 (by omega))
            have HO := hide (HON2.out 2)
            have HSm : Hid (P 3 = P 2 + if hasS x.l.f 4 = true then onF (besF x.l.r 2) s else 0) := hide (HST.out 2)
            have hsh := HSH.out.2.2.1
            obtain ⟨q1, q2, q3, q4⟩ := HBD2.out 2
            generalize besF x.l.r 2 = B at *
            generalize onF B s = N at *
            have t1 : IntKind.i64.wrap (P 2 + N) = P 2 + N := IntWalk.i64_in _ (by omega)
            clear HST HSH HBES2 HON2
            cases hbm : hasS x.l.f 4 with
            | true =>
              rw [hbm] at hsh HSm
              have HH := hide (fun W => rHasS_any (f := x.l.f) (s := 4) ⟨f1, f2⟩ (by simp [isSide]) W)
              rw [hbm] at HH
              go_wp2_with (fail)
              refine (HH.out _).mono ?_
              rintro e w7 ⟨rfl, hb⟩
              obtain rfl := hb
              go_wp2_with (fail)
              refine (HC.out _).mono ?_
              rintro e w3 ⟨rfl, hb⟩
              have HB3 := hide (HB.out.keep hb)
              clear hb b0 d0 d1 d2 d3 d4 HB HC
              go_wp2_with (fail)
              refine (HO.out _ HB3.out.below).mono ?_
              rintro e w4 ⟨rfl, hb⟩
              have HB4 := hide (HB3.out.keep hb)
              clear hb HB3 HO
              go_wp2_with (fail)
              go_roundw
              case rel => exact ⟨3, by omega, rfl, by rw [HSm.out]; simp, HB4⟩
              case measure => simp [intOf]
            | false =>
              rw [hbm] at hsh HSm
              have HH := hide (fun W => rHasS_any (f := x.l.f) (s := 4) ⟨f1, f2⟩ (by simp [isSide]) W)
              rw [hbm] at HH
              go_wp2_with (fail)
              refine (HH.out _).mono ?_
              rintro e w7 ⟨rfl, hb⟩
              obtain rfl := hb
              go_wp2_with (fail)
              go_roundw
              case rel => exact ⟨3, by omega, rfl, by rw [HSm.out]; simp, HB⟩
              case measure => simp [intOf]
          · have HC : Hid (∀ W : World, Calls Try.prog 26 #[.agg #[.int .i64 x.l.r.x0, .int .i64 x.l.r.y0, .int .i64 x.l.r.x1, .int .i64 x.l.r.y1], .int .u8 8] W fun e w' => e = .returned (.agg #[.int .i64 (besF x.l.r 3).x0, .int .i64 (besF x.l.r 3).y0, .int .i64 (besF x.l.r 3).x1, .int .i64 (besF x.l.r 3).y1]) ∧ Below W.heap.size W w') := hide (HBES2.out 3 (by omega))
            have HO := hide (HON2.out 3)
            have HSm : Hid (P 4 = P 3 + if hasS x.l.f 8 = true then onF (besF x.l.r 3) s else 0) := hide (HST.out 3)
            have hsh := HSH.out.2.2.2
            obtain ⟨q1, q2, q3, q4⟩ := HBD2.out 3
            generalize besF x.l.r 3 = B at *
            generalize onF B s = N at *
            have t1 : IntKind.i64.wrap (P 3 + N) = P 3 + N := IntWalk.i64_in _ (by omega)
            clear HST HSH HBES2 HON2
            cases hbm : hasS x.l.f 8 with
            | true =>
              rw [hbm] at hsh HSm
              have HH := hide (fun W => rHasS_any (f := x.l.f) (s := 8) ⟨f1, f2⟩ (by simp [isSide]) W)
              rw [hbm] at HH
              go_wp2_with (fail)
              refine (HH.out _).mono ?_
              rintro e w7 ⟨rfl, hb⟩
              obtain rfl := hb
              go_wp2_with (fail)
              refine (HC.out _).mono ?_
              rintro e w3 ⟨rfl, hb⟩
              have HB3 := hide (HB.out.keep hb)
              clear hb b0 d0 d1 d2 d3 d4 HB HC
              go_wp2_with (fail)
              refine (HO.out _ HB3.out.below).mono ?_
              rintro e w4 ⟨rfl, hb⟩
              have HB4 := hide (HB3.out.keep hb)
              clear hb HB3 HO
              go_wp2_with (fail)
              go_roundw
              case rel => exact ⟨4, by omega, rfl, by rw [HSm.out]; simp, HB4⟩
              case measure => simp [intOf]
            | false =>
              rw [hbm] at hsh HSm
              have HH := hide (fun W => rHasS_any (f := x.l.f) (s := 8) ⟨f1, f2⟩ (by simp [isSide]) W)
              rw [hbm] at HH
              go_wp2_with (fail)
              refine (HH.out _).mono ?_
              rintro e w7 ⟨rfl, hb⟩
              obtain rfl := hb
              go_wp2_with (fail)
              go_roundw
              case rel => exact ⟨4, by omega, rfl, by rw [HSm.out]; simp, HB⟩
              case measure => simp [intOf]
          · have HBE := hide HB.out.below
            clear HST HSH HBES2 HON2 b0 d0 d1 d2 d3 d4
            try simp only [Int.reducePow]
            go_wp2_with (fail)
            go_ret2
            exact ⟨by rw [HF.out]; rfl, by first | exact HBE.out | (rw [HN.out]; exact HBE.out)⟩
      · have h16 : 15 < x.l.f := by omega
        have HF : Hid (reachedF x.l s = (0, 8)) := hide (by unfold reachedF; rw [if_neg (by simpa using hc), if_neg (fun h => h15 h.2)])
        rw [hc] at HCK
        rw [decide_eq_true hr] at HFI
        clear HON HBES HBD hc hr h15
        go_enter Try.func9, Try.ntmps9
        go_wp2_with (fail)
        try rw [hW]
        refine (HCK.out _ HB.out.below).mono ?_
        rintro e w1 ⟨rfl, hb⟩
        have HB1 := hide (HB.out.keep hb)
        obtain ⟨b0, d0, d1, d2, d3, d4, -, -⟩ := id HB1.out
        clear hb HB hW
        go_wp2_with (fail)
        refine (HFI.out _).mono ?_
        rintro e w2 ⟨rfl, hb⟩
        have HB2 := hide (HB1.out.keep hb)
        clear hb b0 d0 d1 d2 d3 d4 HB1
        obtain ⟨b0, d0, d1, d2, d3, d4, -, -⟩ := id HB2.out
        have HB3 := hide HB2.out.below
        go_wp2_with (fail)
        go_ret2
        exact ⟨by rw [HF.out]; rfl, by first | exact HB3.out | (rw [HN.out]; exact HB3.out)⟩
    · have HF : Hid (reachedF x.l s = (0, 8)) := hide (by unfold reachedF; rw [if_neg (by simpa using hc), if_neg (fun h => hr h.1)])
      rw [hc] at HCK
      rw [decide_eq_false hr] at HFI
      clear HON HBES HBD hc hr
      go_enter Try.func9, Try.ntmps9
      go_wp2_with (fail)
      try rw [hW]
      refine (HCK.out _ HB.out.below).mono ?_
      rintro e w1 ⟨rfl, hb⟩
      have HB1 := hide (HB.out.keep hb)
      obtain ⟨b0, d0, d1, d2, d3, d4, -, -⟩ := id HB1.out
      clear hb HB hW
      go_wp2_with (fail)
      refine (HFI.out _).mono ?_
      rintro e w2 ⟨rfl, hb⟩
      have HB2 := hide (HB1.out.keep hb)
      clear hb b0 d0 d1 d2 d3 d4 HB1
      obtain ⟨b0, d0, d1, d2, d3, d4, -, -⟩ := id HB2.out
      have HB3 := hide HB2.out.below
      go_wp2_with (fail)
      go_ret2
      exact ⟨by rw [HF.out]; rfl, by first | exact HB3.out | (rw [HN.out]; exact HB3.out)⟩
  · have HF : Hid (reachedF x.l s = (0, checkF s)) := hide (if_pos hc)
    have hne : (checkF s != 0) = true := by simpa using hc
    clear HON HBES HBD hc
    generalize checkF s = ck at *
    go_enter Try.func9, Try.ntmps9
    go_wp2_with (fail)
    try rw [hW]
    refine (HCK.out _ HB.out.below).mono ?_
    rintro e w1 ⟨rfl, hb⟩
    have HB1 := hide (HB.out.keep hb)
    obtain ⟨b0, d0, d1, d2, d3, d4, -, -⟩ := id HB1.out
    clear hb HB hW
    go_wp2_with (fail)
    refine (HCK.out _ HB1.out.below).mono ?_
    rintro e w2 ⟨rfl, hb⟩
    have HB2 := hide (HB1.out.keep hb).below
    go_wp2_with (fail)
    go_ret2
    exact ⟨by rw [HF.out]; rfl, by first | exact HB2.out | (rw [HN.out]; exact HB2.out)⟩
end Go.Proofs.Ytabogapiecciiaa

/- The last step from a walk to a given statement, for every law of the seat: the call returns true, and what lay in memory lies as it lay. -/
namespace Go.Proofs.Ytabogapiecciiaa
open Go.ChangeShapes Go.WideShapes Go.ChangeAt Go.RowKit Go.Joins Go.Deep
set_option linter.unusedVariables false
set_option linter.unusedSimpArgs false

theorem own : ownKnob Try.prog.godebug = none := by kernel_rfl
theorem laidOut : laidOutB Try.prog = true := by kernel_rfl

section
variable {H : Type} {enc : TypeId × Value → H}
theorem trodAll_carry {P : Program} (hl : laidOutB P = true) {W W' : World} (hb : Below W.heap.size W W') :
    ∀ (ts : List TypeId) (vs : List Value) (ds : List (DataW H)) (ps : List MemPlace), (ts.all fun t => P.readableRec t && decide (t < P.types.size)) = true →
      DataW.TrodAll enc P W 0 (fun _ => true) true ts vs ds ps → (∀ x ∈ ps, x.block < W.heap.size) → DataW.TrodAll enc P W' 0 (fun b => decide (b < W.heap.size)) true ts vs ds ps
  | [], [], [], ps, _, h, _ => h
  | [], [], _ :: _, _, _, h, _ => h.elim
  | [], _ :: _, _, _, _, h, _ => h.elim
  | _ :: _, [], _, _, _, h, _ => h.elim
  | _ :: _, _ :: _, [], _, _, h, _ => h.elim
  | t :: ts, v :: vs, d :: ds, ps, hr, h, hlt => by
    obtain ⟨p, q, h1, h2, rfl⟩ := h
    simp only [List.all_cons, Bool.and_eq_true, decide_eq_true_eq] at hr
    refine ⟨p, q, Below.trod hl hr.1.1 hr.1.2 h1 hb (fun x hx => hlt x (by simp [hx])), trodAll_carry hl hb ts vs ds q ?_ h2 (fun x hx => hlt x (by simp [hx])), rfl⟩
    simpa using hr.2

theorem law_post {P : Program} {f : Func} {s : ChangeSpec} {W W' : World} {args : Array Value} {ds gs : List (DataW H)} {before : List MemPlace} {tb : TypeId}
    (hl : laidOutB P = true) (hr : (f.params.toList.all fun t => P.readableRec t && decide (t < P.types.size)) = true) (hres : f.resultTypes = #[tb]) (hbool : P.underlying tb = some .bool)
    (hvars : s.vars = []) (hW : DataW.Whole enc P f.params.toList s.vars false W args.toList ds gs before)
    (hsr : (s.fn H (ds ++ gs)).results = [.lit (.bool true)]) (hsa : (s.fn H (ds ++ gs)).args = ds) (hsv : (s.fn H (ds ++ gs)).vars = [])
    (hb : Below W.heap.size W W') : s.post enc P f false true false false W args (.bool true) W' := by
  have hlt : ∀ p ∈ before, p.block < W.heap.size := fun p hp => hW.lt p hp
  have hW0 := hW
  obtain ⟨p, q, hA, hV, rfl, hz, hn⟩ := hW
  refine ⟨ds, gs, p ++ q, [], p, [], hW0, ?_, ?_, ?_, hb.frame _, fun h => by cases h⟩
  · rw [hsr, hres]
    exact trodAll_mk1 (shut_bool hbool true)
  · rw [hsa]
    exact trodAll_carry hl hb _ _ _ _ hr hA (fun x hx => hlt x (by simp [hx]))
  · rw [hsv, hvars]
    rfl
end
end Go.Proofs.Ytabogapiecciiaa

/- An argument that is a list of structs of ints, read as a list. -/
namespace Go.Proofs.Ytabogapiecciiaa
open Go.ChangeShapes Go.WideShapes Go.ChangeAt Go.RowKit Go.Joins Go.Deep
set_option linter.unusedVariables false
set_option linter.unusedSimpArgs false

section
variable {H : Type} {enc : TypeId × Value → H} {P : Program} {w : World} {base : Nat} {spare : Nat → Bool} {held : Bool}
/-- The fields of a struct of ints: each one cell, an int. -/
theorem trod_int_fields {t : TypeId} {fs : Array Field} {n : Nat} {cs : List Value} {y : DataW H × List MemPlace} (he : P.underlying t = some (.struct fs)) (hone : oneCellFields P fs = true) (hint : ∀ (j : Nat) (f : Field), fs[j]? = some f → P.underlying f.type = some (.int .i64))
    (hl : cs.length = fs.size) (h : DataW.trod enc P w base spare held n t cs = some y) : ∀ j, j < fs.size → ∃ z : Int, cs[j]? = some (.int .i64 z) := by
  obtain ⟨ys, n', _, _, _, hyl, hf⟩ := DataW.trod_struct he h
  intro j hj
  have hjf : fs[j]? = some fs[j] := Array.getElem?_eq_getElem hj
  obtain ⟨ho, hk⟩ := hone_of hone j _ hjf
  have h1 := hf j _ hjf
  rw [ho, hk] at h1
  have hd : (cs.drop j).take 1 = [cs[j]'(by omega)] := by rw [List.drop_eq_getElem_cons (by omega)]; rfl
  rw [hd] at h1
  have hy : ys[j]? = some (ys[j]'(by omega)) := List.getElem?_eq_getElem (by omega)
  rw [hy] at h1
  obtain ⟨z, hz, _⟩ := DataW.trod_int (hint j _ hjf) h1
  have hz' : cs[j]'(by omega) = .int .i64 z := by simpa using hz
  exact ⟨z, by rw [List.getElem?_eq_getElem (by omega), hz']⟩
/-- A slice of structs of k ints: its cells. -/
theorem trod_rows {t e : TypeId} {fs : Array Field} {v : Value} {d : DataW H} {p : List MemPlace} {r : Reach} {b0 : Nat} (ht : P.underlying t = some (.slice e)) (he : P.underlying e = some (.struct fs)) (hone : oneCellFields P fs = true)
    (hint : ∀ (j : Nat) (f : Field), fs[j]? = some f → P.underlying f.type = some (.int .i64)) (hC : P.cellsOf e = fs.size) (hk : 0 < fs.size) (hv : Value.okWide P w r b0 t v) (h : DataW.Trod enc P w base spare held t v d p) :
    ∃ (A : Option Addr) (n c : Nat) (F : Nat → Nat → Int), v = .slice A n c ∧ n ≤ maxLen ∧ (0 < n → ∃ b off, A = some ⟨b, off, none⟩ ∧ b < w.heap.size ∧ ∀ i j, i < n → j < fs.size → w.cell? ⟨b, off + i * fs.size + j, none⟩ = some (.int .i64 (F i j))) := by
  obtain ⟨A, n, c, rfl⟩ := okWide_slice ht hv
  obtain ⟨fuel, hf⟩ := h
  rcases open_slice ht hf with ⟨hcs, _⟩ | ⟨a, len, cap, m, nn, D, Pl, hcs, hb, hl, hm, hmm, hx, hi⟩
  · simp [Value.cells] at hcs
    obtain ⟨rfl, rfl, rfl⟩ := hcs
    exact ⟨none, 0, 0, fun _ _ => 0, rfl, Nat.zero_le _, fun h => absurd h (Nat.lt_irrefl 0)⟩
  · simp [Value.cells] at hcs
    obtain ⟨rfl, rfl, rfl⟩ := hcs
    have hlm : n ≤ m := by rw [hmm]; split <;> omega
    have key : ∀ i, i < n → ∀ j, j < fs.size → ∃ z : Int, w.cell? (a.add (i * fs.size + j)) = some (.int .i64 z) := by
      intro i hin j hj
      obtain ⟨cs', hc, ht'⟩ := hi i (by omega)
      rw [hC] at hc
      obtain ⟨_, hcl, hat⟩ := World.cells?_some hc
      obtain ⟨z, hz⟩ := trod_int_fields he hone hint hcl ht' j hj
      have := hat j hj
      rw [← Go.Deep.add_add, this, hz]
      exact ⟨z, rfl⟩
    refine ⟨some a, n, c, fun i j => if h : i < n ∧ j < fs.size then Classical.choose (key i h.1 j h.2) else 0, rfl, by omega, fun hn => ?_⟩
    obtain ⟨z0, h0⟩ := key 0 hn 0 hk
    have hadd0 : a.add (0 * fs.size + 0) = a := by simp [Addr.add]
    rw [hadd0] at h0
    obtain ⟨b, off, sp⟩ := a
    have hsp : sp = none := by
      unfold World.cell? at h0
      cases sp with
      | none => rfl
      | some x => split at h0 <;> simp at h0
    subst hsp
    refine ⟨b, off, rfl, ?_, fun i j hin hj => ?_⟩
    · unfold World.cell? at h0
      split at h0
      · rename_i hh
        exact (Array.getElem?_eq_some_iff.1 hh).1
      · cases h0
    · have hz := Classical.choose_spec (key i hin j hj)
      have e1 : (⟨b, off, none⟩ : Addr).add (i * fs.size + j) = ⟨b, off + i * fs.size + j, none⟩ := by unfold Addr.add; split <;> simp_all [Nat.add_assoc]
      rw [← e1]
      simp only [dif_pos (And.intro hin hj)]
      exact hz
/-- .. rectangles. -/
theorem trod_rects {t e : TypeId} {fs : Array Field} {v : Value} {d : DataW H} {p : List MemPlace} {r : Reach} {b0 : Nat} (ht : P.underlying t = some (.slice e)) (he : P.underlying e = some (.struct fs)) (hone : oneCellFields P fs = true)
    (hint : ∀ (j : Nat) (f : Field), fs[j]? = some f → P.underlying f.type = some (.int .i64)) (hC : P.cellsOf e = 4) (hk : fs.size = 4) (hv : Value.okWide P w r b0 t v) (h : DataW.Trod enc P w base spare held t v d p) :
    ∃ l : List R4, RdK encR 4 w w.heap.size v l ∧ l.length ≤ maxLen := by
  obtain ⟨A, n, c, F, rfl, hn, hF⟩ := trod_rows ht he hone hint (hC.trans hk.symm) (by omega) hv h
  rw [hk] at hF
  refine ⟨(List.range n).map fun i => ⟨F i 0, F i 1, F i 2, F i 3⟩, ⟨A, c, by simp, fun hl => ?_⟩, by simpa using hn⟩
  have hn0 : 0 < n := by
    rcases Nat.eq_zero_or_pos n with h | h
    · subst h; exact absurd rfl hl
    · exact h
  obtain ⟨b, off, hA, hb, hc⟩ := hF hn0
  refine ⟨b, off, hA, hb, fun j x hj i u hu => ?_⟩
  have hjn : j < n := by have := (List.getElem?_eq_some_iff.1 hj).1; simpa using this
  rw [List.getElem?_map, List.getElem?_range hjn] at hj
  simp only [Option.map_some, Option.some.injEq] at hj
  subst hj
  have hi : i < 4 := (List.getElem?_eq_some_iff.1 hu).1
  rw [hc j i hjn hi]
  match i, hi with
  | 0, _ => exact hu
  | 1, _ => exact hu
  | 2, _ => exact hu
  | 3, _ => exact hu
end
theorem int_bd {n : Int} (h : (Lit.int .i64 n).wf = true) : -9223372036854775808 ≤ n ∧ n ≤ 9223372036854775807 := by
  simp [Lit.wf, IntKind.min, IntKind.max, IntKind.signed, IntKind.bits] at h
  omega
theorem rect_fields : ∀ (j : Nat) (f : Field), (match Try.prog.underlying 23 with | some (.struct fs) => fs | _ => #[])[j]? = some f → Try.prog.underlying f.type = some (.int .i64) := by
  rw [Try.underlying23]
  intro j f hf
  match j, hf with
  | 0, hf => simp at hf; subst hf; exact Try.underlying3
  | 1, hf => simp at hf; subst hf; exact Try.underlying3
  | 2, hf => simp at hf; subst hf; exact Try.underlying3
  | 3, hf => simp at hf; subst hf; exact Try.underlying3
  | j + 4, hf => simp at hf
end Go.Proofs.Ytabogapiecciiaa

/- A slice that reads as a list of lists of rectangles; an argument that is one, read as such. -/
namespace Go.Proofs.Ytabogapiecciiaa
open Go.ChangeShapes Go.WideShapes Go.ChangeAt Go.RowKit Go.Joins Go.Deep
set_option linter.unusedVariables false
set_option linter.unusedSimpArgs false

/-- The slice v reads as the lists bs, all of it below block B. -/
def RdRR (w : World) (B : Nat) (v : Value) (bs : List (List R4)) : Prop :=
  ∃ A c, v = .slice A bs.length c ∧ (bs ≠ [] → ∃ b off, A = some ⟨b, off, none⟩ ∧ b < B ∧ ∀ j x, bs[j]? = some x → ∃ u, w.cell? ⟨b, off + j, none⟩ = some u ∧ RdK encR 4 w B u x)
theorem RdRR.keep {w w' : World} {B : Nat} {v : Value} {bs : List (List R4)} (h : RdRR w B v bs) (hk : ∀ b o, b < B → w'.cell? ⟨b, o, none⟩ = w.cell? ⟨b, o, none⟩) : RdRR w' B v bs := by
  obtain ⟨A, c, hv, h⟩ := h
  refine ⟨A, c, hv, fun hl => ?_⟩
  obtain ⟨b, off, hA, hb, hc⟩ := h hl
  refine ⟨b, off, hA, hb, fun j x hx => ?_⟩
  obtain ⟨u, h1, h2⟩ := hc j x hx
  exact ⟨u, (hk b _ hb).trans h1, h2.keep hk⟩
theorem RdRR.mono {w : World} {B B' : Nat} {v : Value} {bs : List (List R4)} (h : RdRR w B v bs) (hB : B ≤ B') : RdRR w B' v bs := by
  obtain ⟨A, c, hv, h⟩ := h
  refine ⟨A, c, hv, fun hl => ?_⟩
  obtain ⟨b, off, hA, hb, hc⟩ := h hl
  refine ⟨b, off, hA, by omega, fun j x hx => ?_⟩
  obtain ⟨u, h1, h2⟩ := hc j x hx
  exact ⟨u, h1, h2.mono hB⟩
theorem RdRR.below {w w' : World} {B : Nat} {v : Value} {bs : List (List R4)} (h : RdRR w B v bs) (hb : Below B w w') : RdRR w' B v bs := h.keep fun b o hlt => hb.cell (p := ⟨b, o, none⟩) hlt
section
variable {H : Type} {enc : TypeId × Value → H} {P : Program} {w : World} {base : Nat} {spare : Nat → Bool} {held : Bool}
theorem cell_plain {a : Addr} {u : Value} (h : w.cell? a = some u) : ∃ b off, a = ⟨b, off, none⟩ ∧ b < w.heap.size := by
  obtain ⟨b, off, sp⟩ := a
  have hsp : sp = none := by
    unfold World.cell? at h
    cases sp with
    | none => rfl
    | some x => split at h <;> simp at h
  subst hsp
  refine ⟨b, off, rfl, ?_⟩
  unfold World.cell? at h
  split at h
  · rename_i hh
    exact (Array.getElem?_eq_some_iff.1 hh).1
  · cases h
/-- One value that reads as a list of rectangles. -/
theorem trod_rects1 {t e : TypeId} {fs : Array Field} {v : Value} {fuel : Nat} {x : DataW H × List MemPlace} (ht : P.underlying t = some (.slice e)) (he : P.underlying e = some (.struct fs)) (hone : oneCellFields P fs = true)
    (hint : ∀ (j : Nat) (f : Field), fs[j]? = some f → P.underlying f.type = some (.int .i64)) (hC : P.cellsOf e = 4) (hk : fs.size = 4) (hf : DataW.trod enc P w base spare held fuel t [v] = some x) :
    ∃ l : List R4, RdK encR 4 w w.heap.size v l ∧ l.length ≤ maxLen := by
  rcases open_slice ht hf with ⟨hcs, _⟩ | ⟨a, n, cap, m, nn, D, Pl, hcs, hb, hl, hm, hmm, hx, hi⟩
  · simp at hcs
    subst hcs
    exact ⟨[], RdK.nil _ _, Nat.zero_le _⟩
  · simp at hcs
    subst hcs
    have hlm : n ≤ m := by rw [hmm]; split <;> omega
    have key : ∀ i, i < n → ∀ j, j < 4 → ∃ z : Int, w.cell? (a.add (i * 4 + j)) = some (.int .i64 z) := by
      intro i hin j hj
      obtain ⟨cs', hc, ht'⟩ := hi i (by omega)
      rw [hC] at hc
      obtain ⟨_, hcl, hat⟩ := World.cells?_some hc
      obtain ⟨z, hz⟩ := trod_int_fields he hone hint (by rw [hk]; exact hcl) ht' j (by omega)
      have := hat j hj
      rw [← Go.Deep.add_add, this, hz]
      exact ⟨z, rfl⟩
    refine ⟨(List.range n).map fun i => ⟨if h : i < n then Classical.choose (key i h 0 (by omega)) else 0, if h : i < n then Classical.choose (key i h 1 (by omega)) else 0, if h : i < n then Classical.choose (key i h 2 (by omega)) else 0, if h : i < n then Classical.choose (key i h 3 (by omega)) else 0⟩, ⟨some a, cap, by simp, fun hl0 => ?_⟩, by simp; omega⟩
    have hn : 0 < n := by
      rcases Nat.eq_zero_or_pos n with h | h
      · subst h; exact absurd rfl hl0
      · exact h
    obtain ⟨z0, h0⟩ := key 0 hn 0 (by omega)
    have hadd0 : a.add (0 * 4 + 0) = a := by simp [Addr.add]
    rw [hadd0] at h0
    obtain ⟨b, off, rfl, hbs⟩ := cell_plain h0
    refine ⟨b, off, rfl, hbs, fun j x hj i u hu => ?_⟩
    have hjn : j < n := by have := (List.getElem?_eq_some_iff.1 hj).1; simpa using this
    rw [List.getElem?_map, List.getElem?_range hjn] at hj
    simp only [Option.map_some, Option.some.injEq, dif_pos hjn] at hj
    subst hj
    have e1 : ∀ k, (⟨b, off, none⟩ : Addr).add (j * 4 + k) = ⟨b, off + j * 4 + k, none⟩ := fun k => by unfold Addr.add; split <;> simp_all [Nat.add_assoc]
    have hi : i < 4 := (List.getElem?_eq_some_iff.1 hu).1
    rw [← e1]
    match i, hi with
    | 0, _ => rw [Classical.choose_spec (key j hjn 0 (by omega))]; exact hu
    | 1, _ => rw [Classical.choose_spec (key j hjn 1 (by omega))]; exact hu
    | 2, _ => rw [Classical.choose_spec (key j hjn 2 (by omega))]; exact hu
    | 3, _ => rw [Classical.choose_spec (key j hjn 3 (by omega))]; exact hu
/-- An argument that is a list of lists of rectangles. -/
theorem trod_regs {t e ee : TypeId} {fs : Array Field} {v : Value} {d : DataW H} {p : List MemPlace} {r : Reach} {b0 : Nat} (ht : P.underlying t = some (.slice e)) (hE : P.underlying e = some (.slice ee)) (hC1 : P.cellsOf e = 1) (he : P.underlying ee = some (.struct fs)) (hone : oneCellFields P fs = true)
    (hint : ∀ (j : Nat) (f : Field), fs[j]? = some f → P.underlying f.type = some (.int .i64)) (hC : P.cellsOf ee = 4) (hk : fs.size = 4) (hv : Value.okWide P w r b0 t v) (h : DataW.Trod enc P w base spare held t v d p) :
    ∃ bs : List (List R4), RdRR w w.heap.size v bs ∧ bs.length ≤ maxLen ∧ ∀ b ∈ bs, b.length ≤ maxLen := by
  obtain ⟨A, n, c, rfl⟩ := okWide_slice ht hv
  obtain ⟨fuel, hf⟩ := h
  rcases open_slice1 ht hC1 hf with ⟨hcs, _⟩ | ⟨a, len, cap, m, nn, V, D, Pl, hcs, hb, hl, hm, hmm, hx, hi⟩
  · simp [Value.cells] at hcs
    obtain ⟨rfl, rfl, rfl⟩ := hcs
    exact ⟨[], ⟨none, 0, rfl, fun h => absurd rfl h⟩, Nat.zero_le _, by simp⟩
  · simp [Value.cells] at hcs
    obtain ⟨rfl, rfl, rfl⟩ := hcs
    have hlm : n ≤ m := by rw [hmm]; split <;> omega
    have key : ∀ i, ∃ l : List R4, i < n → RdK encR 4 w w.heap.size (V i) l ∧ l.length ≤ maxLen := fun i => by
      by_cases h : i < n
      · obtain ⟨l, h1⟩ := trod_rects1 hE he hone hint hC hk (hi i (by omega)).2
        exact ⟨l, fun _ => h1⟩
      · exact ⟨[], fun g => absurd g h⟩
    refine ⟨(List.range n).map fun i => Classical.choose (key i), ⟨some a, c, by simp, fun hl0 => ?_⟩, by simp; omega, fun b hb => ?_⟩
    · have hn : 0 < n := by
        rcases Nat.eq_zero_or_pos n with h | h
        · subst h; exact absurd rfl hl0
        · exact h
      have h0 := (hi 0 (by omega)).1
      have hadd0 : a.add 0 = a := by simp [Addr.add]
      rw [hadd0] at h0
      obtain ⟨b, off, rfl, hbs⟩ := cell_plain h0
      refine ⟨b, off, rfl, hbs, fun j x hj => ?_⟩
      have hjn : j < n := by have := (List.getElem?_eq_some_iff.1 hj).1; simpa using this
      rw [List.getElem?_map, List.getElem?_range hjn] at hj
      simp only [Option.map_some, Option.some.injEq] at hj
      subst hj
      have e1 : (⟨b, off, none⟩ : Addr).add j = ⟨b, off + j, none⟩ := by unfold Addr.add; split <;> simp_all
      exact ⟨V j, e1 ▸ (hi j (by omega)).1, (Classical.choose_spec (key j) hjn).1⟩
    · obtain ⟨i, hi', rfl⟩ := List.mem_map.1 hb
      exact (Classical.choose_spec (key i) (by simpa using hi')).2
end
end Go.Proofs.Ytabogapiecciiaa

/- Great, and the law LotsFronts. -/
namespace Go.Proofs.Ytabogapiecciiaa
open Go.RowKit
set_option linter.unusedVariables false
set_option linter.unusedSimpArgs false

/-- Great comes back; a false says that all is small. -/
def GreatRet (bs : List (List R4)) (n : Nat) (e : Ending) : Prop := ∃ g, e = .returned (.bool g) ∧ (g = false → bs.length ≤ 410 ∧ (∀ b ∈ bs, b.length ≤ 420) ∧ n ≤ 420)
set_option maxRecDepth 100000 in
set_option maxHeartbeats 8000000 in
theorem rGreatB_any {w : World} {vb : Value} {bs : List (List R4)} (hb : RdRR w w.heap.size vb bs) (hl : bs.length ≤ maxLen) (hm : ∀ b ∈ bs, b.length ≤ maxLen) (A : Option Addr) (n c : Nat) (hn : n ≤ maxLen) :
    Calls Try.prog 5 #[vb, .slice A n c] w fun e w' => GreatRet bs n e ∧ Below w.heap.size w w' := by
  obtain ⟨Ab, cb, rfl, hc⟩ := hb
  have HRC := hide hc
  have HM := hide hm
  clear hc hm
  unfold maxLen at hl hn
  go_enter Try.func5, Try.ntmps5
  go_wp2
  go_loopw [5] (fun i wr => ∃ m : Nat, m ≤ bs.length ∧ m ≤ 410 ∧ i = .int .i64 m ∧ Hid (∀ j x, j < m → bs[j]? = some x → x.length ≤ 420) ∧ Hid (Below w.heap.size w wr)) (fun i _ => 410 - (intOf i).toNat)
  case atStart => exact ⟨0, Nat.zero_le _, Nat.zero_le _, rfl, hide (fun j x hj => absurd hj (Nat.not_lt_zero _)), hide (Below.refl _ _)⟩
  case round =>
    obtain ⟨m, hmb, hm4, rfl, HI, HB⟩ := hrel
    by_cases hlt : m < bs.length
    · by_cases h41 : m < 410
      · obtain ⟨b, hp⟩ : ∃ p, bs[m]? = some p := ⟨_, List.getElem?_eq_getElem hlt⟩
        obtain ⟨g, o, rfl, hbl, k⟩ := HRC.out (by intro e; rw [e] at hlt; simp at hlt)
        obtain ⟨u, d0, Ax, cx, rfl, _⟩ := k m _ hp
        have hbm : b.length ≤ maxLen := HM.out b (List.mem_of_getElem? hp)
        unfold maxLen at hbm
        have d0 := (HB.out.cell (p := ⟨g, o + m, none⟩) hbl).trans d0
        have HIS : Hid (b.length ≤ 420 → ∀ j x, j < m + 1 → bs[j]? = some x → x.length ≤ 420) := hide (fun h4 j x hj hx => by
          rcases Nat.lt_or_ge j m with h | h
          · exact HI.out j x h hx
          · obtain rfl : j = m := by omega
            rw [hp] at hx
            cases hx
            exact h4)
        have mz : (m : Int) < (bs.length : Int) := by omega
        have mz4 : (m : Int) < 410 := by omega
        clear k hp HI
        generalize b.length = q at *
        go_wp2
        all_goals first
          | (go_ret; exact ⟨⟨true, rfl, fun h => by cases h⟩, HB.out⟩)
          | exact ⟨⟨m + 1, by omega, by omega, by go_num, hide (HIS.out (by omega)), HB⟩, by simp [intOf]; omega⟩
      · obtain rfl : m = 410 := by omega
        have mz4 : (410 : Int) < (bs.length : Int) := by omega
        clear HI
        go_wp2
        all_goals
          go_ret
          exact ⟨⟨_, rfl, fun h => by first | omega | (simp at h; done) | (simp at h; omega)⟩, HB.out⟩
    · obtain rfl : m = bs.length := by omega
      have HA : Hid (∀ b ∈ bs, b.length ≤ 420) := hide (fun b hb => by
        obtain ⟨j, hj⟩ := List.getElem?_of_mem hb
        exact HI.out j b (List.getElem?_eq_some_iff.1 hj).1 hj)
      clear HI
      go_wp2
      all_goals
        go_ret
        exact ⟨⟨_, rfl, fun h => ⟨by first | omega | (simp at h; done) | (simp at h; omega), HA.out, by first | omega | (simp at h; done) | (simp at h; omega)⟩⟩, HB.out⟩
end Go.Proofs.Ytabogapiecciiaa

/- The walk of parcel.Split. -/
namespace Go.Proofs.Ytabogapiecciiaa
open Go.RowKit
set_option linter.unusedVariables false
set_option linter.unusedSimpArgs false

set_option maxRecDepth 100000 in
set_option maxHeartbeats 8000000 in
theorem psplit_any (l : Lot5) (p : Pl3) (hf : 0 ≤ l.f ∧ l.f ≤ 255) (w : World) : Calls Try.prog 30 #[.agg (encL l).toArray, .agg (encP p).toArray] w (LotsRet w (splitR l p)) := by
  have HCK := hide (fun W => checkL_any l p hf W)
  obtain ⟨i1, gi, gz0, gz1, gz2⟩ := info_parts infoLot
  obtain ⟨i2, fi, fz0, fz1, fz2⟩ := info_parts infoLand
  by_cases h0 : checkL l p = 0
  · have hv := checkL_valid h0
    have hsz := sizeL_le hv
    have HST := hide (StackOk.start (p := p) hv)
    have hnd : nodesS p [l] = nodes p l := by simp [nodesS]
    have HND := hide hnd
    have HCU : Hid (∀ x, validL x → ∀ W, Calls Try.prog 50 #[.agg (encL x).toArray, .agg (encP p).toArray] W fun e w' => e = .returned (.tuple #[.agg (encL (cutR x p).1).toArray, .agg (encL (cutR x p).2.1).toArray, .bool (cutR x p).2.2]) ∧ Below W.heap.size W w') := hide (fun x hx W => cut_any x p hx W)
    have HR : Hid (splitR l p = if (leaves p l).length ≤ 400 then (leaves p l, 0) else ([], 4)) := hide (if_pos h0)
    have HTOP : Hid (sizeL l ≤ 4000000) := hide hsz
    rw [h0] at HCK
    clear h0 hv hf hsz hnd
    show Calls Try.prog _ #[.agg #[.int .i64 l.r.x0, .int .i64 l.r.y0, .int .i64 l.r.x1, .int .i64 l.r.y1, .int .u8 l.f], .agg #[.int .i64 p.mf, .int .i64 p.ms, .int .i64 p.ma]] w (LotsRet w (splitR l p))
    simp only [encL, encP] at HCK HCU
    go_enter Try.func30, Try.ntmps30
    go_wp2_with (fail)
    obtain ⟨W, hW⟩ : ∃ x, x = (w.alloc (.cells #[.int .i64 l.r.x0, .int .i64 l.r.y0, .int .i64 l.r.x1, .int .i64 l.r.y1, .int .u8 l.f] 25)).alloc (.cells #[.int .i64 p.mf, .int .i64 p.ms, .int .i64 p.ma] 50) := ⟨_, rfl⟩
    rw [← hW]
    have hb0 : Below w.heap.size w W := by rw [hW]; exact ((Below.refl _ _).alloc (Nat.le_refl _) _).alloc (by simp) _
    have hs0 : w.heap.size + 2 ≤ W.heap.size := by rw [hW]; simp
    have HL : Box5L W w.heap.size l := by rw [hW]; refine ⟨?_, ?_, ?_, ?_, ?_, ?_, ?_, ?_, ?_, ?_⟩ <;> simp [go_sem]
    have HP : Box3 W (w.heap.size + 1) (.int .i64 p.mf) (.int .i64 p.ms) (.int .i64 p.ma) := by rw [hW]; refine ⟨?_, ?_, ?_⟩ <;> simp [go_sem]
    obtain ⟨n, hn⟩ : ∃ n, w.heap.size = n := ⟨_, rfl⟩
    rw [hn] at hb0 hs0 HL HP ⊢
    have K0 := hide hb0
    have HN := hide hn
    clear hW hb0 hn
    refine (HCK.out _).mono ?_
    rintro e w1 ⟨rfl, hb⟩
    have HL1 := HL.below hb
    have HP1 := HP.below hb
    have K1 := hide (K0.out.trans (hb.mono (by omega)))
    have hs1 : n + 2 ≤ w1.heap.size := Nat.le_trans hs0 hb.size
    clear hb HL HP K0 hs0
    obtain ⟨l0, l1, l2, l3, l4, -, -, -, -, -⟩ := id HL1
    go_wp2_with (fail)
    refine wp_name5 fun w2 hw2 => ?_
    have HRW : Hid (Rows2 n w p [] [l] (.slice none 0 0) (.slice (some ⟨w1.heap.size, 0, none⟩) 1 1) 0 1 w2) := hide (by
      rw [hw2]
      exact ⟨World.ownsRow_nil _ _ _ _, World.ownsRow_lit (base := n + 2) (size := 5) w1 _ 1 hs1 (by simp [maxLen]) rfl, K1.out.alloc (by omega) _, by simp; omega, HP1.below ((Below.refl _ _).alloc (Nat.le_refl _) _)⟩)
    generalize w1.heap.size = g0 at *
    clear hw2 HL1 HP1 K1 hs1 l0 l1 l2 l3 l4 HCK
    go_loopg [7, 8] (nodes p l) (fun gg ov sv wr => ∃ (O S : List Lot5) (A : Option Addr) (c g cp no ns : Nat), ov = .slice A no c ∧ sv = .slice (some ⟨g, 0, none⟩) ns cp ∧ Hid (Rows2 n w p O S ov sv no ns wr) ∧ Hid (StackOk l p O S ∧ nodesS p S ≤ gg))
    case atStart => exact ⟨[], [l], none, 0, g0, 1, 0, 1, rfl, rfl, HRW, hide ⟨HST.out, by rw [HND.out]; exact Nat.le_refl _⟩⟩
    case round =>
      clear HRW HST HND
      obtain ⟨O, S, A, c, g, cp, no, ns, rfl, rfl, HRW, HS⟩ := hrel
      have hno : no = O.length := own_len HRW.out.rowO (fun _ => rfl) (by omega)
      have hns : ns = S.length := own_len HRW.out.rowS (fun _ => rfl) (by omega)
      have hno4 : no ≤ 400 := by rw [hno]; exact HS.out.1.lenO
      have HNO := hide hno
      have HNS := hide hns
      clear hno hns
      rcases List.eq_nil_or_concat S with hS | ⟨S', x, hS⟩
      · subst hS
        obtain rfl : ns = 0 := HNS.out
        have HE : Hid (O = leaves p l) := hide (by have := HS.out.1.eq; simpa [stackL] using this)
        have HB := hide HRW.out.below
        go_wp2
        go_ret2
        refine ⟨⟨A, c, ?_, ?_⟩, ?_⟩
        · rw [HR.out, if_pos (by rw [← HE.out, ← HNO.out]; exact hno4)]
          show _ = Ending.returned (.tuple #[.slice A (leaves p l).length c, .int .i64 0])
          rw [← HE.out, ← HNO.out]
          rfl
        · rw [HR.out, if_pos (by rw [← HE.out, ← HNO.out]; exact hno4)]
          show World.ownsRow _ _ _ _ (.slice A (leaves p l).length c) (leaves p l).length ((leaves p l).flatMap encL)
          rw [← HE.out, ← HNO.out, HN.out]
          exact own_base HRW.out.rowO (by omega)
        · rw [HN.out]; exact HB.out
      · rw [List.concat_eq_append] at hS
        subst hS
        obtain ⟨k, rfl⟩ : ∃ k, ns = k + 1 := ⟨S'.length, by rw [HNS.out]; simp⟩
        obtain ⟨hk, hcell⟩ := HRW.out.top
        obtain ⟨hvx, hkx⟩ := HS.out.1.top
        have hkz : k ≤ 4000000 := by have := HTOP.out; omega
        have c0 := hcell 0 _ rfl
        have c1 := hcell 1 _ rfl
        have c2 := hcell 2 _ rfl
        have c3 := hcell 3 _ rfl
        have c4 := hcell 4 _ rfl
        simp only [Nat.add_zero] at c0
        have HX := hide (HCU.out x hvx)
        obtain ⟨⟨X, Y, ok⟩, hC⟩ : ∃ C, cutR x p = C := ⟨_, rfl⟩
        rw [hC] at HX
        simp only at HX
        have HC := hide hC
        have HPOP := hide HRW.out.pop
        obtain ⟨p0, p1, p2⟩ := HRW.out.box
        have hn1 : n + 1 < wr.heap.size := by have := HRW.out.size; omega
        have hcp : k + 1 ≤ cp := row_cap HRW.out.rowS
        have hcp1 : k ≤ cp := by omega
        have hcp2 : ¬ cp = 0 := by omega
        have hcp3 : (k : Int) ≤ (cp : Int) := by omega
        clear hcell hvx hkx hk hC HRW HNS
        go_wp2_with (fail)
        refine calls_name fun w7 hw7 => ?_
        have hb7 : Below wr.heap.size wr w7 := by
          rw [hw7]
          repeat (first | with_reducible exact Below.refl _ _ | with_reducible refine Below.setCell ?_ (by simp) _ | with_reducible refine Below.alloc ?_ (by simp) _)
        have HBX : Box5L w7 wr.heap.size x := by rw [hw7]; refine ⟨?_, ?_, ?_, ?_, ?_, ?_, ?_, ?_, ?_, ?_⟩ <;> simp [go_sem]
        have HR7 := hide (HPOP.out.keep hb7)
        generalize wr.heap.size = m at *
        clear hw7 hb7 HPOP c0 c1 c2 c3 c4 p0 p1 p2 hn1
        refine (HX.out _).mono ?_
        rintro e w8 ⟨rfl, hb⟩
        have HBX8 := HBX.below hb
        have HR8 := hide (HR7.out.keep hb)
        clear hb HBX HR7 HX
        cases ok with
        | true =>
          have HCT := hide (cutR_true HC.out)
          go_upto_region 11 with fail
          refine wp_name5 fun Z hZ => ?_
          have HXZ : Box5L Z w8.heap.size X := by rw [hZ]; refine ⟨?_, ?_, ?_, ?_, ?_, ?_, ?_, ?_, ?_, ?_⟩ <;> simp [go_sem]
          have HYZ : Box5L Z (w8.heap.size + 1) Y := by rw [hZ]; refine ⟨?_, ?_, ?_, ?_, ?_, ?_, ?_, ?_, ?_, ?_⟩ <;> simp [go_sem]
          have hbz : Below w8.heap.size w8 Z := by
            rw [hZ]
            repeat (first | with_reducible exact Below.refl _ _ | with_reducible refine Below.setCell ?_ (by first | (simp; done) | (simp; omega)) _ | with_reducible refine Below.alloc ?_ (by first | omega | (simp; omega) | simp) _)
          have HRZ := hide (HR8.out.keep hbz)
          have hnz : n + 2 ≤ Z.heap.size := HRZ.out.size
          generalize w8.heap.size = q at *
          clear hZ hbz HR8 HBX8
          obtain ⟨a0, a1, a2, a3, a4, -, -, -, -, -⟩ := HXZ
          obtain ⟨b0, b1, b2, b3, b4, -, -, -, -, -⟩ := HYZ
          go_wp2_with (at_builtin; go_loud (refine wpList_append_lies _ rfl (.tmp 43) (.tmp 46) 93 rfl (n + 2) 92 i2 (.agg #[.int .i64 0, .int .i64 0, .int .i64 0, .int .i64 0, .int .u8 0]) 5 40 Try.underlying93 fi fz0 fz1 fz2 rfl (by decide) _ k _ rfl (World.ownsRow.alloc HRZ.out.rowS _) ⟨Z.heap.size, 0, none⟩ 2 2 [.int .i64 Y.r.x0, .int .i64 Y.r.y0, .int .i64 Y.r.x1, .int .i64 Y.r.y1, .int .u8 Y.f, .int .i64 X.r.x0, .int .i64 X.r.y0, .int .i64 X.r.x1, .int .i64 X.r.y1, .int .u8 X.f] rfl rfl (news_new Z _ _ _ rfl) (ints_one rfl) (by omega) (by unfold maxLen; omega) (by omega) (by simp; omega) _ rfl ?_))
          intro g2 cp2 w9 hown hgrow hg2 hlt
          have HR9 : Hid (Rows2 n w p O (S' ++ [Y, X]) (.slice A no c) (.slice (some ⟨g2, 0, none⟩) (k + 2) cp2) no (k + 2) w9) := hide ((HRZ.out.keep ((Below.refl _ _).alloc (Nat.le_refl _) _)).pushS hgrow (by rw [List.flatMap_append]; exact hown))
          clear hown hgrow hg2 hlt a0 a1 a2 a3 a4 b0 b1 b2 b3 b4
          go_wp2
          go_roundg (nodesS p (S' ++ [Y, X]))
          case measure => have h1 := nodes_cut (S := S') HCT.out; have h2 := HS.out.2; omega
          case rel => exact ⟨O, S' ++ [Y, X], A, c, g2, cp2, no, k + 2, rfl, rfl, HR9, hide ⟨HS.out.1.cut HCT.out, Nat.le_refl _⟩⟩
        | false =>
          have HCF := hide (cutR_false HC.out)
          go_upto_region 12 with fail
          refine wp_name5 fun Z hZ => ?_
          have hbz : Below w8.heap.size w8 Z := by
            rw [hZ]
            repeat (first | with_reducible exact Below.refl _ _ | with_reducible refine Below.setCell ?_ (by first | (simp; done) | (simp; omega)) _ | with_reducible refine Below.alloc ?_ (by first | omega | (simp; omega) | simp) _)
          have HBZ := HBX8.below hbz
          have HRZ := hide (HR8.out.keep hbz)
          have hnz : n + 2 ≤ Z.heap.size := HRZ.out.size
          clear hZ hbz HR8 HBX8
          obtain ⟨a0, a1, a2, a3, a4, -, -, -, -, -⟩ := HBZ
          by_cases hmany : no + 1 ≤ 400
          · go_wp2_with (at_builtin; go_loud (refine wpList_append_lies _ rfl (.tmp 48) (.tmp 50) 64 rfl (n + 2) 25 i1 (.agg #[.int .i64 0, .int .i64 0, .int .i64 0, .int .i64 0, .int .u8 0]) 5 40 Try.underlying64 gi gz0 gz1 gz2 rfl (by decide) _ no _ rfl (World.ownsRow.alloc HRZ.out.rowO _) ⟨Z.heap.size, 0, none⟩ 1 1 [.int .i64 x.r.x0, .int .i64 x.r.y0, .int .i64 x.r.x1, .int .i64 x.r.y1, .int .u8 x.f] rfl rfl (news_new Z _ _ _ rfl) (ints_one rfl) (by omega) (by unfold maxLen; omega) (by omega) (by simp; omega) _ rfl ?_))
            intro g2 cp2 w9 hown hgrow hg2 hlt
            have HR9 : Hid (Rows2 n w p (O ++ [x]) S' (.slice (some ⟨g2, 0, none⟩) (no + 1) cp2) (.slice (some ⟨g, 0, none⟩) k cp) (no + 1) k w9) := hide ((HRZ.out.keep ((Below.refl _ _).alloc (Nat.le_refl _) _)).pushO hgrow (by rw [List.flatMap_append]; exact hown))
            clear hown hgrow hg2 hlt a0 a1 a2 a3 a4
            go_wp2
            go_roundg (nodesS p S')
            case measure => have h1 := nodes_leaf (S := S') HCF.out; have h2 := HS.out.2; omega
            case rel => exact ⟨O ++ [x], S', _, cp2, g, cp, no + 1, k, rfl, rfl, HR9, hide ⟨HS.out.1.leaf HCF.out (by rw [← HNO.out]; exact hmany), Nat.le_refl _⟩⟩
          · have hmz : 400 < no + 1 := by omega
            have HM := hide (HS.out.1.many (by rw [← HNO.out]; exact hmz))
            go_wp2_with (at_builtin; go_loud (refine wpList_append_lies _ rfl (.tmp 48) (.tmp 50) 64 rfl (n + 2) 25 i1 (.agg #[.int .i64 0, .int .i64 0, .int .i64 0, .int .i64 0, .int .u8 0]) 5 40 Try.underlying64 gi gz0 gz1 gz2 rfl (by decide) _ no _ rfl (World.ownsRow.alloc HRZ.out.rowO _) ⟨Z.heap.size, 0, none⟩ 1 1 [.int .i64 x.r.x0, .int .i64 x.r.y0, .int .i64 x.r.x1, .int .i64 x.r.y1, .int .u8 x.f] rfl rfl (news_new Z _ _ _ rfl) (ints_one rfl) (by omega) (by unfold maxLen; omega) (by omega) (by simp; omega) _ rfl ?_))
            intro g2 cp2 w9 hown hgrow hg2 hlt
            have HR9 : Hid (Rows2 n w p (O ++ [x]) S' (.slice (some ⟨g2, 0, none⟩) (no + 1) cp2) (.slice (some ⟨g, 0, none⟩) k cp) (no + 1) k w9) := hide ((HRZ.out.keep ((Below.refl _ _).alloc (Nat.le_refl _) _)).pushO hgrow (by rw [List.flatMap_append]; exact hown))
            clear hown hgrow hg2 hlt a0 a1 a2 a3 a4
            go_wp2
            go_ret2
            have hr : splitR l p = ([], 4) := by rw [HR.out, if_neg (by have := HM.out; omega)]
            exact ⟨⟨none, 0, by rw [hr]; rfl, by rw [hr]; exact World.ownsRow_nil _ _ _ _⟩, by rw [HN.out]; exact HR9.out.below⟩
  · have HR : Hid (splitR l p = ([], checkL l p)) := hide (if_neg h0)
    clear hf
    generalize splitR l p = R at *
    generalize checkL l p = ck at *
    have hne : (ck != 0) = true := by simpa using h0
    clear h0
    obtain ⟨⟨x0, y0, x1, y1⟩, f⟩ := l
    obtain ⟨mf, ms, ma⟩ := p
    show Calls Try.prog _ #[.agg #[.int .i64 x0, .int .i64 y0, .int .i64 x1, .int .i64 y1, .int .u8 f], .agg #[.int .i64 mf, .int .i64 ms, .int .i64 ma]] w (LotsRet w R)
    simp only [encL, encP] at HCK
    go_enter Try.func30, Try.ntmps30
    go_wp2_with (fail)
    obtain ⟨W, hW⟩ : ∃ x, x = (w.alloc (.cells #[.int .i64 x0, .int .i64 y0, .int .i64 x1, .int .i64 y1, .int .u8 f] 25)).alloc (.cells #[.int .i64 mf, .int .i64 ms, .int .i64 ma] 50) := ⟨_, rfl⟩
    rw [← hW]
    have hb0 : Below w.heap.size w W := by rw [hW]; exact ((Below.refl _ _).alloc (Nat.le_refl _) _).alloc (by simp) _
    have hs0 : w.heap.size + 2 ≤ W.heap.size := by rw [hW]; simp
    have HL : Box5L W w.heap.size ⟨⟨x0, y0, x1, y1⟩, f⟩ := by rw [hW]; refine ⟨?_, ?_, ?_, ?_, ?_, ?_, ?_, ?_, ?_, ?_⟩ <;> simp [go_sem]
    have HP : Box3 W (w.heap.size + 1) (.int .i64 mf) (.int .i64 ms) (.int .i64 ma) := by rw [hW]; refine ⟨?_, ?_, ?_⟩ <;> simp [go_sem]
    obtain ⟨n, hn⟩ : ∃ n, w.heap.size = n := ⟨_, rfl⟩
    rw [hn] at hb0 hs0 HL HP
    have K0 := hide hb0
    clear hW hb0
    refine (HCK.out _).mono ?_
    rintro e w1 ⟨rfl, hb⟩
    have K1 := hide (K0.out.trans (hb.mono (by omega)))
    clear hb
    go_wp2_with (fail)
    go_ret2
    exact ⟨⟨none, 0, by rw [HR.out]; rfl, by rw [HR.out]; exact World.ownsRow_nil _ _ _ _⟩, by rw [hn]; exact K1.out⟩
end Go.Proofs.Ytabogapiecciiaa

/- Arguments that are a lot, or wishes, read as such. -/
namespace Go.Proofs.Ytabogapiecciiaa
open Go.ChangeShapes Go.WideShapes Go.ChangeAt Go.RowKit Go.Joins Go.Deep
set_option linter.unusedVariables false
set_option linter.unusedSimpArgs false

theorem u8_bd {n : Int} (h : (Lit.int .u8 n).wf = true) : 0 ≤ n ∧ n ≤ 255 := by
  simp [Lit.wf, IntKind.min, IntKind.max, IntKind.signed, IntKind.bits] at h
  omega
section
variable {H : Type} {enc : TypeId × Value → H} {w : World} {base : Nat} {spare : Nat → Bool} {held : Bool}
theorem array5 {α : Type} {a : Array α} (h : a.size = 5) : ∃ x0 x1 x2 x3 x4, a = #[x0, x1, x2, x3, x4] := by
  obtain ⟨l⟩ := a
  match l, h with
  | [x0, x1, x2, x3, x4], _ => exact ⟨x0, x1, x2, x3, x4, rfl⟩
set_option maxRecDepth 100000 in
theorem open_lot {v : Value} {d : DataW H} {p : List MemPlace} {r : Reach} {b0 : Nat} (hv : Value.okWide Try.prog w r b0 25 v) (h : DataW.Trod enc Try.prog w base spare held 25 v d p) : ∃ l : Lot5, v = .agg (encL l).toArray ∧ 0 ≤ l.f ∧ l.f ≤ 255 := by
  obtain ⟨cs, rfl, hsz⟩ := okWide_struct Try.underlying25 hv
  have h5 : Try.prog.cellsOf 25 = 5 := by kernel_rfl
  have h4 : Try.prog.cellsOf 23 = 4 := by kernel_rfl
  have h1c : Try.prog.cellsOf 5 = 1 := by kernel_rfl
  obtain ⟨v0, v1, v2, v3, v4, rfl⟩ := array5 (hsz.trans h5)
  obtain ⟨fuel, hf⟩ := h
  obtain ⟨y0, y1, n, _, _, hy0, hy1⟩ := trod_struct2 Try.underlying25 hf
  simp only [h4, h1c, Value.cells] at hy0 hy1
  have hr := trod_int_fields Try.underlying23 (by kernel_rfl) rect_fields rfl hy0
  obtain ⟨z0, e0⟩ := hr 0 (by decide)
  obtain ⟨z1, e1⟩ := hr 1 (by decide)
  obtain ⟨z2, e2⟩ := hr 2 (by decide)
  obtain ⟨z3, e3⟩ := hr 3 (by decide)
  obtain ⟨f, e4, _, wf⟩ := DataW.trod_int Try.underlying5 hy1
  simp at e0 e1 e2 e3 e4
  subst e0 e1 e2 e3 e4
  exact ⟨⟨⟨z0, z1, z2, z3⟩, f⟩, rfl, u8_bd wf⟩
set_option maxRecDepth 100000 in
theorem open_plat {v : Value} {d : DataW H} {p : List MemPlace} {r : Reach} {b0 : Nat} (hv : Value.okWide Try.prog w r b0 50 v) (h : DataW.Trod enc Try.prog w base spare held 50 v d p) : ∃ q : Pl3, v = .agg (encP q).toArray := by
  have h3 : Try.prog.cellsOf 50 = 3 := by kernel_rfl
  obtain ⟨c0, c1, c2, y0, y1, y2, m, rfl, _, _, hy0, hy1, hy2⟩ := open_agg3 Try.underlying50 (by kernel_rfl) h3 hv h
  obtain ⟨a, e0, _, _⟩ := DataW.trod_int Try.underlying3 hy0
  obtain ⟨b, e1, _, _⟩ := DataW.trod_int Try.underlying3 hy1
  obtain ⟨c, e2, _, _⟩ := DataW.trod_int Try.underlying2 hy2
  simp at e0 e1 e2
  subst e0 e1 e2
  exact ⟨⟨a, b, c⟩, rfl⟩
end
end Go.Proofs.Ytabogapiecciiaa

/- Arguments that are a rectangle, or a parcel, read as such. -/
namespace Go.Proofs.Ytabogapiecciiaa
open Go.ChangeShapes Go.WideShapes Go.ChangeAt Go.RowKit Go.Joins Go.Deep
set_option linter.unusedVariables false
set_option linter.unusedSimpArgs false

section
variable {H : Type} {enc : TypeId × Value → H} {w : World} {base : Nat} {spare : Nat → Bool} {held : Bool}
theorem array4 {α : Type} {a : Array α} (h : a.size = 4) : ∃ x0 x1 x2 x3, a = #[x0, x1, x2, x3] := by
  obtain ⟨l⟩ := a
  match l, h with
  | [x0, x1, x2, x3], _ => exact ⟨x0, x1, x2, x3, rfl⟩
theorem array6 {α : Type} {a : Array α} (h : a.size = 6) : ∃ x0 x1 x2 x3 x4 x5, a = #[x0, x1, x2, x3, x4, x5] := by
  obtain ⟨l⟩ := a
  match l, h with
  | [x0, x1, x2, x3, x4, x5], _ => exact ⟨x0, x1, x2, x3, x4, x5, rfl⟩
set_option maxRecDepth 100000 in
theorem open_rect {v : Value} {d : DataW H} {p : List MemPlace} {r : Reach} {b0 : Nat} (hv : Value.okWide Try.prog w r b0 23 v) (h : DataW.Trod enc Try.prog w base spare held 23 v d p) : ∃ q : R4, v = .agg (encR q).toArray := by
  obtain ⟨cs, rfl, hsz⟩ := okWide_struct Try.underlying23 hv
  have h4 : Try.prog.cellsOf 23 = 4 := by kernel_rfl
  obtain ⟨v0, v1, v2, v3, rfl⟩ := array4 (hsz.trans h4)
  obtain ⟨fuel, hf⟩ := h
  simp only [Value.cells] at hf
  have hr := trod_int_fields Try.underlying23 (by kernel_rfl) rect_fields rfl hf
  obtain ⟨z0, e0⟩ := hr 0 (by decide)
  obtain ⟨z1, e1⟩ := hr 1 (by decide)
  obtain ⟨z2, e2⟩ := hr 2 (by decide)
  obtain ⟨z3, e3⟩ := hr 3 (by decide)
  simp at e0 e1 e2 e3
  subst e0 e1 e2 e3
  exact ⟨⟨z0, z1, z2, z3⟩, rfl⟩
set_option maxRecDepth 100000 in
theorem open_parcel {v : Value} {d : DataW H} {p : List MemPlace} {r : Reach} {b0 : Nat} (hv : Value.okWide Try.prog w r b0 27 v) (h : DataW.Trod enc Try.prog w base spare held 27 v d p) : ∃ x : Par6, v = .agg (encQ x).toArray ∧ 0 ≤ x.l.f ∧ x.l.f ≤ 255 := by
  obtain ⟨cs, rfl, hsz⟩ := okWide_struct Try.underlying27 hv
  have h6 : Try.prog.cellsOf 27 = 6 := by kernel_rfl
  have h5 : Try.prog.cellsOf 25 = 5 := by kernel_rfl
  have h4 : Try.prog.cellsOf 23 = 4 := by kernel_rfl
  have h1i : Try.prog.cellsOf 3 = 1 := by kernel_rfl
  have h1c : Try.prog.cellsOf 5 = 1 := by kernel_rfl
  obtain ⟨vb, v0, v1, v2, v3, v4, rfl⟩ := array6 (hsz.trans h6)
  obtain ⟨fuel, hf⟩ := h
  obtain ⟨x0, x1, n0, _, _, hx0, hx1⟩ := trod_struct2 Try.underlying27 hf
  simp only [h1i, h5, Value.cells] at hx0 hx1
  obtain ⟨i, ei, _, wi⟩ := DataW.trod_int Try.underlying3 hx0
  obtain ⟨y0, y1, n, _, _, hy0, hy1⟩ := trod_struct2 Try.underlying25 hx1
  simp only [h4, h1c, Value.cells] at hy0 hy1
  have hr := trod_int_fields Try.underlying23 (by kernel_rfl) rect_fields rfl hy0
  obtain ⟨z0, e0⟩ := hr 0 (by decide)
  obtain ⟨z1, e1⟩ := hr 1 (by decide)
  obtain ⟨z2, e2⟩ := hr 2 (by decide)
  obtain ⟨z3, e3⟩ := hr 3 (by decide)
  obtain ⟨f, e4, _, wf⟩ := DataW.trod_int Try.underlying5 hy1
  simp at ei e0 e1 e2 e3 e4
  subst ei e0 e1 e2 e3 e4
  exact ⟨⟨i, ⟨⟨z0, z1, z2, z3⟩, f⟩⟩, rfl, u8_bd wf⟩
end
end Go.Proofs.Ytabogapiecciiaa
