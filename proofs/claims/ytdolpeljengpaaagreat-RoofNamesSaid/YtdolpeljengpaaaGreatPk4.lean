/- Texts laid together: IdxA, IdxB, Chk, RefK, LookA, JoinA, MLook, MAlg, MLots, MRoof, MRoofP, MOff, MOffB, MOffC, SortO. Lemmas for the statements of this seat; no condition. -/
import Derived.Test.YtdolpeljengpaaaGreatPk1
import Derived.Deep.LoopGhost
import Derived.Shelf.Abstract
import Derived.Test.YtdolpeljengpaaaGreatPk3
import Derived.Test.YtdolpeljengpaaaGreatPk2
import Derived.Test.YtdolpeljengpaaaGreatShelf

/- slices.IndexFunc and slices.ContainsFunc at the program's structs. -/
namespace Go.Proofs.YtdolpeljengpaaaGreat
open Go.RowKit Go.Shelf
set_option linter.unusedVariables false
set_option linter.unusedSimpArgs false

set_option maxHeartbeats 1000000 in
/-- slices.IndexFunc here: the first place at which p holds, or -1. -/
theorem cfRect_idx {w : World} {v : Value} {l : List R4} (h : RdK encR 4 w w.heap.size v l) (hl : l.length ≤ 1000000000) (g : Nat) (lb : Array Value) (p : R4 → Bool)
    (eg : ∀ args w, (callFunc g args).run Tryz.prog w = .ok (.enter g args) w)
    (hp : ∀ (W : World) (x : R4), x ∈ l → Below w.heap.size w W → Calls Tryz.prog g (#[.agg (encR x).toArray] ++ lb) W fun e w' => e = .returned (.bool (p x)) ∧ Below W.heap.size W w') :
    Calls Tryz.prog 140 #[v, .func (.func g) #[] lb] w fun e w' => e = .returned (.int .i64 (idxI p l)) ∧ Below w.heap.size w w' := by
  obtain ⟨A, c, rfl, hc⟩ := h
  go_enter Tryz.func140, Tryz.ntmps140
  go_wp2
  go_loopg [5, 8] l.length (fun gg _ s8 wr => ∃ kk : Nat, kk ≤ l.length ∧ l.length - kk ≤ gg ∧ s8 = .int .i64 kk ∧ Hid (Below w.heap.size w wr) ∧ Hid (∀ x ∈ l.take kk, p x = false))
  case atStart => exact ⟨0, Nat.zero_le _, by omega, rfl, hide (Below.refl _ w), hide (by simp)⟩
  case round =>
    obtain ⟨kk, hkk, hg, rfl, BW, A'⟩ := hrel
    by_cases hlt : kk < l.length
    · have hltz : (kk : Int) < (l.length : Int) := by omega
      obtain ⟨b, off, rfl, hb, hcell⟩ := hc (by intro e; rw [e] at hlt; simp at hlt)
      have hx : l[kk]? = some l[kk] := List.getElem?_eq_getElem hlt
      have hcall := hp wr l[kk] (List.getElem_mem hlt) BW.out
      have hfi : l.take (kk + 1) = l.take kk ++ [l[kk]] := List.take_succ_eq_append_getElem hlt
      have c0 : wr.cell? ⟨b, off + kk * 4, none⟩ = some (.int .i64 l[kk].x0) := (BW.out.cell (p := ⟨b, off + kk * 4, none⟩) hb).trans (hcell kk _ hx 0 _ rfl)
      have c1 : wr.cell? ⟨b, off + kk * 4 + 1, none⟩ = some (.int .i64 l[kk].y0) := (BW.out.cell (p := ⟨b, off + kk * 4 + 1, none⟩) hb).trans (hcell kk _ hx 1 _ rfl)
      have c2 : wr.cell? ⟨b, off + kk * 4 + 2, none⟩ = some (.int .i64 l[kk].x1) := (BW.out.cell (p := ⟨b, off + kk * 4 + 2, none⟩) hb).trans (hcell kk _ hx 2 _ rfl)
      have c3 : wr.cell? ⟨b, off + kk * 4 + 3, none⟩ = some (.int .i64 l[kk].y1) := (BW.out.cell (p := ⟨b, off + kk * 4 + 3, none⟩) hb).trans (hcell kk _ hx 3 _ rfl)
      clear hc hcell hp
      obtain ⟨x, hxe⟩ : ∃ x, l[kk] = x := ⟨_, rfl⟩
      have XE := hide hxe
      have FI := hide hfi
      rw [hxe] at hcall c0 c1 c2 c3
      clear hx hxe hfi
      cases hq : p x with
      | true =>
        have HQ := hide hq
        rw [hq] at hcall
        clear hq
        go_wp2_with (go_at_fn g; refine hcall.mono ?_; rintro e w' ⟨rfl, hb'⟩)
        go_ret
        refine ⟨ret_eq (int_eq ?_), BW.out.trans (hb'.mono BW.out.size)⟩
        have hxl : p l[kk] = true := by rw [XE.out]; exact HQ.out
        unfold idxI
        rw [if_pos (List.any_eq_true.2 ⟨l[kk], List.getElem_mem hlt, hxl⟩)]
        have : l.findIdx p = kk := by
          rw [List.findIdx_eq hlt]
          refine ⟨hxl, fun j hj => ?_⟩
          have := A'.out l[j] (by rw [List.mem_take_iff_getElem]; exact ⟨j, by omega, rfl⟩)
          simpa using this
        rw [this]
      | false =>
        have HQ := hide hq
        rw [hq] at hcall
        clear hq
        go_wp2_with (go_at_fn g; refine hcall.mono ?_; rintro e w' ⟨rfl, hb'⟩)
        go_roundg (l.length - (kk + 1))
        case measure => omega
        case rel =>
          refine ⟨kk + 1, by omega, by omega, by go_num, hide (BW.out.trans (hb'.mono BW.out.size)), hide fun y hy => ?_⟩
          rw [FI.out, List.mem_append] at hy
          rcases hy with hy | hy
          · exact A'.out y hy
          · simp only [List.mem_singleton] at hy
            rw [hy, XE.out]; exact HQ.out
    · have hltz : ¬ (kk : Int) < (l.length : Int) := by omega
      have hk : kk = l.length := by omega
      go_wp2
      go_ret
      refine ⟨ret_eq (int_eq ?_), BW.out⟩
      have hA := A'.out
      rw [hk, List.take_length] at hA
      unfold idxI
      rw [if_neg (by rw [List.any_eq_true]; rintro ⟨y, hy, hpy⟩; rw [hA y hy] at hpy; cases hpy)]

end Go.Proofs.YtdolpeljengpaaaGreat

/- slices.IndexFunc and slices.ContainsFunc at the program's structs. -/
namespace Go.Proofs.YtdolpeljengpaaaGreat
open Go.RowKit Go.Shelf
set_option linter.unusedVariables false
set_option linter.unusedSimpArgs false

set_option maxHeartbeats 1000000 in
/-- slices.IndexFunc here: the first place at which p holds, or -1. -/
theorem cfReg_idx {w : World} {v : Value} {l : List R4} (h : RdK encR 4 w w.heap.size v l) (hl : l.length ≤ 1000000000) (g : Nat) (lb : Array Value) (p : R4 → Bool)
    (eg : ∀ args w, (callFunc g args).run Tryz.prog w = .ok (.enter g args) w)
    (hp : ∀ (W : World) (x : R4), x ∈ l → Below w.heap.size w W → Calls Tryz.prog g (#[.agg (encR x).toArray] ++ lb) W fun e w' => e = .returned (.bool (p x)) ∧ Below W.heap.size W w') :
    Calls Tryz.prog 163 #[v, .func (.func g) #[] lb] w fun e w' => e = .returned (.int .i64 (idxI p l)) ∧ Below w.heap.size w w' := by
  obtain ⟨A, c, rfl, hc⟩ := h
  go_enter Tryz.func163, Tryz.ntmps163
  go_wp2
  go_loopg [5, 8] l.length (fun gg _ s8 wr => ∃ kk : Nat, kk ≤ l.length ∧ l.length - kk ≤ gg ∧ s8 = .int .i64 kk ∧ Hid (Below w.heap.size w wr) ∧ Hid (∀ x ∈ l.take kk, p x = false))
  case atStart => exact ⟨0, Nat.zero_le _, by omega, rfl, hide (Below.refl _ w), hide (by simp)⟩
  case round =>
    obtain ⟨kk, hkk, hg, rfl, BW, A'⟩ := hrel
    by_cases hlt : kk < l.length
    · have hltz : (kk : Int) < (l.length : Int) := by omega
      obtain ⟨b, off, rfl, hb, hcell⟩ := hc (by intro e; rw [e] at hlt; simp at hlt)
      have hx : l[kk]? = some l[kk] := List.getElem?_eq_getElem hlt
      have hcall := hp wr l[kk] (List.getElem_mem hlt) BW.out
      have hfi : l.take (kk + 1) = l.take kk ++ [l[kk]] := List.take_succ_eq_append_getElem hlt
      have c0 : wr.cell? ⟨b, off + kk * 4, none⟩ = some (.int .i64 l[kk].x0) := (BW.out.cell (p := ⟨b, off + kk * 4, none⟩) hb).trans (hcell kk _ hx 0 _ rfl)
      have c1 : wr.cell? ⟨b, off + kk * 4 + 1, none⟩ = some (.int .i64 l[kk].y0) := (BW.out.cell (p := ⟨b, off + kk * 4 + 1, none⟩) hb).trans (hcell kk _ hx 1 _ rfl)
      have c2 : wr.cell? ⟨b, off + kk * 4 + 2, none⟩ = some (.int .i64 l[kk].x1) := (BW.out.cell (p := ⟨b, off + kk * 4 + 2, none⟩) hb).trans (hcell kk _ hx 2 _ rfl)
      have c3 : wr.cell? ⟨b, off + kk * 4 + 3, none⟩ = some (.int .i64 l[kk].y1) := (BW.out.cell (p := ⟨b, off + kk * 4 + 3, none⟩) hb).trans (hcell kk _ hx 3 _ rfl)
      clear hc hcell hp
      obtain ⟨x, hxe⟩ : ∃ x, l[kk] = x := ⟨_, rfl⟩
      have XE := hide hxe
      have FI := hide hfi
      rw [hxe] at hcall c0 c1 c2 c3
      clear hx hxe hfi
      cases hq : p x with
      | true =>
        have HQ := hide hq
        rw [hq] at hcall
        clear hq
        go_wp2_with (go_at_fn g; refine hcall.mono ?_; rintro e w' ⟨rfl, hb'⟩)
        go_ret
        refine ⟨ret_eq (int_eq ?_), BW.out.trans (hb'.mono BW.out.size)⟩
        have hxl : p l[kk] = true := by rw [XE.out]; exact HQ.out
        unfold idxI
        rw [if_pos (List.any_eq_true.2 ⟨l[kk], List.getElem_mem hlt, hxl⟩)]
        have : l.findIdx p = kk := by
          rw [List.findIdx_eq hlt]
          refine ⟨hxl, fun j hj => ?_⟩
          have := A'.out l[j] (by rw [List.mem_take_iff_getElem]; exact ⟨j, by omega, rfl⟩)
          simpa using this
        rw [this]
      | false =>
        have HQ := hide hq
        rw [hq] at hcall
        clear hq
        go_wp2_with (go_at_fn g; refine hcall.mono ?_; rintro e w' ⟨rfl, hb'⟩)
        go_roundg (l.length - (kk + 1))
        case measure => omega
        case rel =>
          refine ⟨kk + 1, by omega, by omega, by go_num, hide (BW.out.trans (hb'.mono BW.out.size)), hide fun y hy => ?_⟩
          rw [FI.out, List.mem_append] at hy
          rcases hy with hy | hy
          · exact A'.out y hy
          · simp only [List.mem_singleton] at hy
            rw [hy, XE.out]; exact HQ.out
    · have hltz : ¬ (kk : Int) < (l.length : Int) := by omega
      have hk : kk = l.length := by omega
      go_wp2
      go_ret
      refine ⟨ret_eq (int_eq ?_), BW.out⟩
      have hA := A'.out
      rw [hk, List.take_length] at hA
      unfold idxI
      rw [if_neg (by rw [List.any_eq_true]; rintro ⟨y, hy, hpy⟩; rw [hA y hy] at hpy; cases hpy)]

set_option maxHeartbeats 400000 in
/-- slices.ContainsFunc here. -/
theorem cfReg_any {w : World} {v : Value} {l : List R4} (h : RdK encR 4 w w.heap.size v l) (hl : l.length ≤ 1000000000) (g : Nat) (lb : Array Value) (p : R4 → Bool)
    (eg : ∀ args w, (callFunc g args).run Tryz.prog w = .ok (.enter g args) w)
    (hp : ∀ (W : World) (x : R4), x ∈ l → Below w.heap.size w W → Calls Tryz.prog g (#[.agg (encR x).toArray] ++ lb) W fun e w' => e = .returned (.bool (p x)) ∧ Below W.heap.size W w') :
    Calls Tryz.prog 113 #[v, .func (.func g) #[] lb] w fun e w' => e = .returned (.bool (l.any p)) ∧ Below w.heap.size w w' := by
  have hi := cfReg_idx h hl g lb p eg hp
  obtain ⟨A, c, rfl, hc⟩ := h
  clear hp hc eg
  cases ha : l.any p with
  | true =>
    simp only [idxI, ha, if_true] at hi
    clear ha
    obtain ⟨n, hn⟩ : ∃ n, l.findIdx p = n := ⟨_, rfl⟩
    rw [hn] at hi
    clear hn
    have hn0 : decide ((0 : Int) ≤ (n : Int)) = true := by simp
    go_enter Tryz.func113, Tryz.ntmps113
    go_wp2_with (go_at_call 163; refine hi.mono ?_; rintro e w1 ⟨rfl, hb1⟩)
    go_ret
    exact ⟨rfl, hb1⟩
  | false =>
    simp only [idxI, ha, Bool.false_eq_true, if_false] at hi
    clear ha
    go_enter Tryz.func113, Tryz.ntmps113
    go_wp2_with (go_at_call 163; refine hi.mono ?_; rintro e w1 ⟨rfl, hb1⟩)
    go_ret
    exact ⟨rfl, hb1⟩
end Go.Proofs.YtdolpeljengpaaaGreat

/- region.Make, region.Check, region.Has, region.Same, region.Area. -/
namespace Go.Proofs.YtdolpeljengpaaaGreat
open Go.RowKit
set_option linter.unusedVariables false
set_option linter.unusedSimpArgs false

def makeF (l : List R4) : List R4 × Int := if 400 < l.length then ([], 4) else if l.any (fun r => !decide (valid4 r)) then ([], 8) else madeF l
def checkF (l : List R4) : Int := if 400 < l.length then 4 else if l.any (fun r => !decide (valid4 r)) then 8 else if (madeF l).2 = 0 ∧ (madeF l).1 = l then 0 else 8
def area4 (r : R4) : Int := (r.x1 - r.x0) * (r.y1 - r.y0)
def areaS (l : List R4) : Int := (l.map area4).sum
def areaF (l : List R4) : Int × Int := if checkF l = 0 then (areaS l, 0) else (0, checkF l)

theorem all_valid {l : List R4} (h : l.any (fun r => !decide (valid4 r)) = false) : ∀ r ∈ l, valid4 r := by
  intro r hr
  have := List.any_eq_false.1 h r hr
  simpa using this
theorem madeF_code (l : List R4) : (madeF l).2 = 0 ∨ (madeF l).2 = 4 := by
  unfold madeF
  split
  · exact .inr rfl
  · exact .inl rfl
theorem RegRet.mono {B B' : Nat} {x : List R4 × Int} {e : Ending} {w' : World} (h : RegRet B' x e w') (hb : B ≤ B') : RegRet B x e w' := by
  obtain ⟨A, c, h1, h2⟩ := h
  exact ⟨A, c, h1, own_base h2 hb⟩

set_option maxHeartbeats 1000000 in
theorem ckInv_any (r : R4) (w : World) :
    Calls Tryz.prog 114 #[.agg (encR r).toArray] w fun e w' => e = .returned (.bool (!decide (valid4 r))) ∧ Below w.heap.size w w' := by
  have hv := fun W => valid_any r W
  obtain ⟨a, b, c, d⟩ := r
  generalize decide (valid4 ⟨a, b, c, d⟩) = r at hv ⊢
  show Calls Tryz.prog 114 #[.agg #[.int .i64 a, .int .i64 b, .int .i64 c, .int .i64 d]] w _
  change ∀ W, Calls Tryz.prog 92 #[.agg #[.int .i64 a, .int .i64 b, .int .i64 c, .int .i64 d]] W _ at hv
  go_enter Tryz.func114, Tryz.ntmps114
  go_wp2_with (go_at_call 92; refine (hv _).mono ?_; rintro e w1 ⟨rfl, hb⟩)
  go_ret
  exact ⟨rfl, ((Below.refl _ _).alloc (Nat.le_refl _) _).trans (hb.mono (by simp))⟩
theorem enter_ckInv : ∀ args w, (callFunc 114 args).run Tryz.prog w = .ok (.enter 114 args) w := enters_of Tryz.func114 (by kernel_rfl) rfl

set_option maxHeartbeats 1000000 in
/-- **region.Check.** -/
theorem check_any {w : World} {v : Value} {l : List R4} (hr : RdK encR 4 w w.heap.size v l) (hl : l.length ≤ 100000000) :
    Calls Tryz.prog 68 #[v] w fun e w' => e = .returned (.int .i64 (checkF l)) ∧ Below w.heap.size w w' := by
  have hcf := cfReg_any hr (by omega) 114 #[] (fun r => !decide (valid4 r)) enter_ckInv (fun W x _ _ => ckInv_any x W)
  obtain ⟨A, c, hv, _⟩ := id hr
  subst hv
  have HR := hide hr
  have HCF := hide hcf
  clear hcf hr
  by_cases h4 : 400 < l.length
  · have hz : (400 : Int) < (l.length : Int) := by omega
    have hm : checkF l = 4 := if_pos h4
    have HM := hide hm
    clear hm
    go_enter Tryz.func68, Tryz.ntmps68
    go_wp2
    go_ret
    exact ⟨ret_eq (int_eq HM.out.symm), Below.refl _ _⟩
  · have hz : (l.length : Int) ≤ 400 := by omega
    cases ha : l.any (fun r => !decide (valid4 r)) with
    | true =>
      have hm : checkF l = 8 := by unfold checkF; rw [if_neg h4, ha]; rfl
      rw [ha] at HCF
      have HM := hide hm
      clear hm ha
      go_enter Tryz.func68, Tryz.ntmps68
      go_wp2_with (first
        | (go_at_call 113; refine HCF.out.mono ?_; rintro e w1 ⟨rfl, hb1⟩))
      go_ret
      exact ⟨ret_eq (int_eq HM.out.symm), hb1⟩
    | false =>
      have hm : checkF l = if (madeF l).2 = 0 ∧ (madeF l).1 = l then 0 else 8 := by unfold checkF; rw [if_neg h4, ha]; rfl
      have HV := hide (all_valid ha)
      have hcode := madeF_code l
      have hmd : ∀ W, Below w.heap.size w W → _ := fun W hb => made_any ((HR.out.below hb).mono hb.size) (by omega) HV.out
      have heq : ∀ (W : World) (vs : Value), Below w.heap.size w W → RdK encR 4 W W.heap.size vs (madeF l).1 → (madeF l).1.length ≤ 100000000 → _ := fun W vs hb h1 h2 => eqRect_any h1 ((HR.out.below hb).mono hb.size) h2 (Nat.le_refl _) (Nat.le_refl _)
      have hlen : (madeF l).1.length ≤ 400 := by unfold madeF; split; · simp
                                                 · simp only; omega
      rw [ha] at HCF
      generalize madeF l = R at *
      obtain ⟨R1, R2⟩ := R
      simp only at *
      have HMD := hide hmd
      have HEQ := hide heq
      have HM := hide hm
      clear hm ha hmd heq
      rcases hcode with rfl | rfl
      · cases hd : decide (R1 = l) with
        | true =>
          have HD := hide hd
          clear hd
          go_enter Tryz.func68, Tryz.ntmps68
          go_wp2_with (first
            | (go_at_call 113; refine HCF.out.mono ?_; rintro e w1 ⟨rfl, hb1⟩)
            | (go_at_call 93; refine (HMD.out _ hb1).mono ?_; rintro e w2 ⟨⟨A2, c2, rfl, ho2⟩, hb2⟩; have HO := hide ho2; clear ho2)
            | (go_at_call 115; refine (HEQ.out _ _ (hb1.trans (hb2.mono hb1.size)) (own_rd HO.out (fun _ => rfl)) (by omega)).mono ?_; rintro e w3 ⟨rfl, hb3⟩; rw [HD.out]))
          go_ret
          exact ⟨ret_eq (int_eq (by rw [HM.out, if_pos ⟨trivial, of_decide_eq_true HD.out⟩])), (hb1.trans (hb2.mono hb1.size)).trans (hb3.mono (Nat.le_trans hb1.size hb2.size))⟩
        | false =>
          have HD := hide hd
          clear hd
          go_enter Tryz.func68, Tryz.ntmps68
          go_wp2_with (first
            | (go_at_call 113; refine HCF.out.mono ?_; rintro e w1 ⟨rfl, hb1⟩)
            | (go_at_call 93; refine (HMD.out _ hb1).mono ?_; rintro e w2 ⟨⟨A2, c2, rfl, ho2⟩, hb2⟩; have HO := hide ho2; clear ho2)
            | (go_at_call 115; refine (HEQ.out _ _ (hb1.trans (hb2.mono hb1.size)) (own_rd HO.out (fun _ => rfl)) (by omega)).mono ?_; rintro e w3 ⟨rfl, hb3⟩; rw [HD.out]))
          go_ret
          exact ⟨ret_eq (int_eq (by rw [HM.out, if_neg (fun h => of_decide_eq_false HD.out h.2)])), (hb1.trans (hb2.mono hb1.size)).trans (hb3.mono (Nat.le_trans hb1.size hb2.size))⟩
      · go_enter Tryz.func68, Tryz.ntmps68
        go_wp2_with (first
          | (go_at_call 113; refine HCF.out.mono ?_; rintro e w1 ⟨rfl, hb1⟩)
          | (go_at_call 93; refine (HMD.out _ hb1).mono ?_; rintro e w2 ⟨⟨A2, c2, rfl, ho2⟩, hb2⟩; have HO := hide ho2; clear ho2))
        go_ret
        exact ⟨ret_eq (int_eq (by rw [HM.out, if_neg (fun h => by simp at h)])), hb1.trans (hb2.mono hb1.size)⟩

theorem areaS_take {l : List R4} {m : Nat} {r : R4} (h : l[m]? = some r) : areaS (l.take (m + 1)) = areaS (l.take m) + area4 r := by
  obtain ⟨hm, hp⟩ := List.getElem?_eq_some_iff.1 h
  rw [List.take_succ_eq_append_getElem hm, hp]
  simp [areaS]
theorem area4_bd {r : R4} (h : valid4 r) : 0 ≤ area4 r ∧ area4 r ≤ 4000000000000 := by
  obtain ⟨h1, h2, ⟨a, b⟩, ⟨c, d⟩, ⟨e, f⟩, ⟨g, i⟩⟩ := h
  unfold area4
  have k1 : 0 ≤ r.x1 - r.x0 := by omega
  have k2 : 0 ≤ r.y1 - r.y0 := by omega
  refine ⟨Int.mul_nonneg k1 k2, ?_⟩
  have := Int.mul_le_mul (show r.x1 - r.x0 ≤ 2000000 by omega) (show r.y1 - r.y0 ≤ 2000000 by omega) k2 (by omega)
  omega
theorem areaS_bd : ∀ {l : List R4}, (∀ r ∈ l, valid4 r) → 0 ≤ areaS l ∧ areaS l ≤ 4000000000000 * l.length
  | [], _ => by simp [areaS]
  | r :: l, h => by
    have h1 := areaS_bd (l := l) fun r hr => h r (by simp [hr])
    have h2 := area4_bd (h r (by simp))
    have e : areaS (r :: l) = area4 r + areaS l := by simp [areaS]
    rw [e, List.length_cons]
    omega
theorem checkF_ok {l : List R4} (h : checkF l = 0) : l.length ≤ 400 ∧ (∀ r ∈ l, valid4 r) ∧ madeF l = (l, 0) := by
  unfold checkF at h
  by_cases h4 : 400 < l.length
  · rw [if_pos h4] at h; simp at h
  rw [if_neg h4] at h
  cases ha : l.any (fun r => !decide (valid4 r)) with
  | true => rw [ha] at h; simp at h
  | false =>
    rw [ha] at h
    refine ⟨by omega, all_valid ha, ?_⟩
    by_cases hm : (madeF l).2 = 0 ∧ (madeF l).1 = l
    · exact Prod.ext hm.2 hm.1
    · simp [hm] at h
set_option maxHeartbeats 2000000 in
/-- region.Area. -/
theorem area_any {w : World} {v : Value} {l : List R4} (hr : RdK encR 4 w w.heap.size v l) (hl : l.length ≤ 100000000) :
    Calls Tryz.prog 30 #[v] w fun e w' => e = .returned (.tuple #[.int .i64 (areaF l).1, .int .i64 (areaF l).2]) ∧ Below w.heap.size w w' := by
  have hck := check_any hr hl
  obtain ⟨A, c, hv, hc⟩ := id hr
  subst hv
  have HCK := hide hck
  clear hck
  by_cases h0 : checkF l = 0
  · obtain ⟨k1, k2, _⟩ := checkF_ok h0
    have hf : areaF l = (areaS l, 0) := if_pos h0
    have HF := hide hf
    rw [h0] at HCK
    have HV := hide k2
    have HRC := hide hc
    clear hf h0 k2 hr hc
    go_enter Tryz.func30, Tryz.ntmps30
    go_wp2_with (go_at_call 68; refine HCK.out.mono ?_; rintro e w1 ⟨rfl, hb1⟩)
    go_loopw [5, 15] (fun s i wr => ∃ m : Nat, m ≤ l.length ∧ i = .int .i64 m ∧ s = .int .i64 (areaS (l.take m)) ∧ Below w.heap.size w wr) (fun _ i _ => l.length - (intOf i).toNat)
    case atStart => exact ⟨0, Nat.zero_le _, rfl, by simp [areaS], hb1⟩
    case round =>
      clear hb1
      obtain ⟨m, hm, rfl, rfl, hb⟩ := hrel
      by_cases hlt : m < l.length
      · obtain ⟨⟨x0, y0, x1, y1⟩, hp⟩ : ∃ p, l[m]? = some p := ⟨_, List.getElem?_eq_getElem hlt⟩
        obtain ⟨b, o, rfl, hbl, k⟩ := HRC.out (by intro e; rw [e] at hlt; simp at hlt)
        have d0 : wr.cell? ⟨b, o + m * 4, none⟩ = some (.int .i64 x0) := (hb.cell (p := ⟨b, _, none⟩) hbl).trans (k m _ hp 0 _ rfl)
        have d1 : wr.cell? ⟨b, o + m * 4 + 1, none⟩ = some (.int .i64 y0) := (hb.cell (p := ⟨b, _, none⟩) hbl).trans (k m _ hp 1 _ rfl)
        have d2 : wr.cell? ⟨b, o + m * 4 + 2, none⟩ = some (.int .i64 x1) := (hb.cell (p := ⟨b, _, none⟩) hbl).trans (k m _ hp 2 _ rfl)
        have d3 : wr.cell? ⟨b, o + m * 4 + 3, none⟩ = some (.int .i64 y1) := (hb.cell (p := ⟨b, _, none⟩) hbl).trans (k m _ hp 3 _ rfl)
        obtain ⟨v1, v2, ⟨v3, v4⟩, ⟨v5, v6⟩, ⟨v7, v8⟩, ⟨v9, v10⟩⟩ := HV.out _ (List.mem_of_getElem? hp)
        have ba := area4_bd (HV.out _ (List.mem_of_getElem? hp))
        have bs := areaS_bd (l := l.take m) fun r hr => HV.out r (List.mem_of_mem_take hr)
        rw [List.length_take] at bs
        have HT := hide (areaS_take hp)
        have mz : (m : Int) < (l.length : Int) := by omega
        have lz : (l.length : Int) ≤ 400 := by omega
        simp only [area4] at ba v1 v2 v3 v4 v5 v6 v7 v8 v9 v10
        clear k hp
        generalize areaS (l.take m) = s at *
        have bs1 := bs.1
        have bs2 : s ≤ 1600000000000000 := by omega
        have ba1 := ba.1
        have ba2 := ba.2
        clear bs ba
        go_wp2
        go_roundw
        case rel => exact ⟨m + 1, by omega, by go_num, by rw [HT.out]; rfl, hb.alloc hb.size _⟩
        case measure => simp [intOf]; omega
      · have mz : ¬ (m : Int) < (l.length : Int) := by omega
        have ht : l.take m = l := List.take_of_length_le (by omega)
        have HT := hide ht
        clear ht
        go_wp2
        go_ret2
        exact ⟨by rw [HF.out, HT.out]; rfl, hb⟩
  · have hf : areaF l = (0, checkF l) := if_neg h0
    have HF := hide hf
    clear hf
    generalize checkF l = ck at *
    have hne : (ck != 0) = true := by simpa using h0
    clear h0
    go_enter Tryz.func30, Tryz.ntmps30
    go_wp2_with (go_at_call 68; refine HCK.out.mono ?_; rintro e w1 ⟨rfl, hb1⟩)
    go_ret2
    exact ⟨by rw [HF.out]; rfl, hb1⟩
end Go.Proofs.YtdolpeljengpaaaGreat

/- The reference's Check, Make, Area. -/
namespace Go.Proofs.YtdolpeljengpaaaGreat
open Go.RowKit
set_option linter.unusedVariables false
set_option linter.unusedSimpArgs false

theorem checkF_valid {l : List R4} (h4 : ¬ 400 < l.length) (ha : l.any (fun r => !decide (valid4 r)) = false) : checkF l = if rjoin hFst l [] = l then 0 else 8 := by
  unfold checkF
  rw [if_neg h4, ha]
  simp only [Bool.false_eq_true, if_false]
  unfold madeF
  by_cases hr : rjoin hFst l [] = l
  · rw [hr, if_neg h4, if_pos rfl, if_pos ⟨rfl, rfl⟩]
  · rw [if_neg hr]
    by_cases h5 : 400 < (rjoin hFst l []).length
    · rw [if_pos h5, if_neg (by simp)]
    · rw [if_neg h5, if_neg (fun h => hr h.2)]

end Go.Proofs.YtdolpeljengpaaaGreat

/- region.Cross, region.Move, region.Flip. -/
namespace Go.Proofs.YtdolpeljengpaaaGreat
open Go.RowKit
set_option linter.unusedVariables false
set_option linter.unusedSimpArgs false

/-- A list of spans and an error code come back. -/
def SpnRet (B : Nat) (x : List Sp × Int) (e : Ending) (w' : World) : Prop :=
  ∃ A c, e = .returned (.tuple #[.slice A x.1.length c, .int .i64 x.2]) ∧ w'.ownsRow B 188 2 (.slice A x.1.length c) x.1.length (x.1.flatMap encS)
def crossF (l : List R4) (x : Int) : List Sp × Int := if checkF l = 0 then (crossL l x, 0) else ([], checkF l)
def mv (x y : Int) (r : R4) : R4 := ⟨r.x0 + x, r.y0 + y, r.x1 + x, r.y1 + y⟩
def inMv (x : Int) : Prop := -2000000 ≤ x ∧ x ≤ 2000000
instance (x : Int) : Decidable (inMv x) := by unfold inMv; infer_instance
def moveF (l : List R4) (x y : Int) : List R4 × Int := if checkF l = 0 then (if l = [] ∨ (inMv x ∧ inMv y ∧ ∀ r ∈ l, valid4 (mv x y r)) then (l.map (mv x y), 0) else ([], 16)) else ([], checkF l)
def flip4 (r : R4) : R4 := ⟨r.y0, r.x0, r.y1, r.x1⟩
def flipF (l : List R4) : List R4 × Int := if checkF l = 0 then madeF (l.map flip4) else ([], checkF l)
theorem map_take {α β : Type} (f : α → β) {l : List α} {m : Nat} {r : α} (h : l[m]? = some r) : (l.take (m + 1)).map f = (l.take m).map f ++ [f r] := by
  obtain ⟨hm, hp⟩ := List.getElem?_eq_some_iff.1 h
  rw [List.take_succ_eq_append_getElem hm, hp]
  simp
end Go.Proofs.YtdolpeljengpaaaGreat

/- span.Check at a canonical set; span.checked; span.Union, Meet, Minus; region.both and the reference's Both and Join. -/
namespace Go.Proofs.YtdolpeljengpaaaGreat
open Go.RowKit
set_option linter.unusedVariables false
set_option linter.unusedSimpArgs false

/-- What span.checked returns for canonical sets. -/
def sjF (h : Bool → Bool → Bool) (a b : List Sp) : List Sp × Int := if 400 < (sjoin h a b).length then ([], 4) else (sjoin h a b, 0)
/-- The contract of a joining function: at canonical sets. -/
def SpJoin (f : Nat) (h : Bool → Bool → Bool) : Prop := ∀ (a b : List Sp) (va vb : Value) (w : World), RdK encS 2 w w.heap.size va a → RdK encS 2 w w.heap.size vb b → a.length ≤ 400 → b.length ≤ 400 → SCan a → SCan b → (∀ p ∈ a, validS p) → (∀ p ∈ b, validS p) →
  Calls Tryz.prog f #[va, vb] w fun e w' => SpnRet w.heap.size (sjF h a b) e w' ∧ Below w.heap.size w w'
/-- The error of two regions. -/
def bothF (a b : List R4) : Int := if checkF a = 0 then checkF b else checkF a
def joinF (h : Bool → Bool → Bool) (a b : List R4) : List R4 × Int := if bothF a b = 0 then (if 400 < (rjoin h a b).length then ([], 4) else (rjoin h a b, 0)) else ([], bothF a b)
theorem check_wf {l : List R4} (h : checkF l = 0) : ∀ r ∈ l, wf4 r := fun r hr => ⟨((checkF_ok h).2.1 r hr).1, ((checkF_ok h).2.1 r hr).2.1⟩
end Go.Proofs.YtdolpeljengpaaaGreat

/- Plain law: cross-sections of a canonical region; hulls; moved regions. -/
namespace Go.Proofs.YtdolpeljengpaaaGreat
set_option linter.unusedVariables false
set_option linter.unusedSimpArgs false

theorem check_rcan {l : List R4} (h : checkF l = 0) : RCan l := by
  obtain ⟨h1, h2, h3⟩ := checkF_ok h
  have hr : rjoin hFst l [] = l := by
    unfold madeF at h3
    split at h3
    · simp at h3
    · exact (Prod.mk.inj h3).1
  rw [← hr]
  exact (rjoin_ok (h := hFst) rfl (fun r hr => ⟨(h2 r hr).1, (h2 r hr).2.1⟩) (by simp)).1
/-! ### Hulls -/
def hullS (h r : R4) : R4 := ⟨min h.x0 r.x0, min h.y0 r.y0, max h.x1 r.x1, max h.y1 r.y1⟩
def hullL : List R4 → R4
  | [] => ⟨0, 0, 0, 0⟩
  | r :: l => (r :: l).foldl hullS r
/-- h is the hull of the rectangles. -/
structure IsHull (l : List R4) (h : R4) : Prop where
  a0 : ∃ r ∈ l, r.x0 = h.x0
  a1 : ∃ r ∈ l, r.y0 = h.y0
  a2 : ∃ r ∈ l, r.x1 = h.x1
  a3 : ∃ r ∈ l, r.y1 = h.y1
  b : ∀ r ∈ l, h.x0 ≤ r.x0 ∧ h.y0 ≤ r.y0 ∧ r.x1 ≤ h.x1 ∧ r.y1 ≤ h.y1
theorem IsHull.step {l : List R4} {h r : R4} (hh : IsHull l h) : IsHull (l ++ [r]) (hullS h r) := by
  obtain ⟨⟨p0, q0, e0⟩, ⟨p1, q1, e1⟩, ⟨p2, q2, e2⟩, ⟨p3, q3, e3⟩, hb⟩ := hh
  refine ⟨?_, ?_, ?_, ?_, ?_⟩
  · by_cases c : h.x0 ≤ r.x0
    · exact ⟨p0, by simp [q0], by simp only [hullS]; omega⟩
    · exact ⟨r, by simp, by simp only [hullS]; omega⟩
  · by_cases c : h.y0 ≤ r.y0
    · exact ⟨p1, by simp [q1], by simp only [hullS]; omega⟩
    · exact ⟨r, by simp, by simp only [hullS]; omega⟩
  · by_cases c : r.x1 ≤ h.x1
    · exact ⟨p2, by simp [q2], by simp only [hullS]; omega⟩
    · exact ⟨r, by simp, by simp only [hullS]; omega⟩
  · by_cases c : r.y1 ≤ h.y1
    · exact ⟨p3, by simp [q3], by simp only [hullS]; omega⟩
    · exact ⟨r, by simp, by simp only [hullS]; omega⟩
  · intro q hq
    rcases List.mem_append.1 hq with hq | hq
    · have := hb q hq
      simp only [hullS]; omega
    · rw [List.mem_singleton] at hq
      subst hq
      simp only [hullS]; omega
theorem IsHull.one (r : R4) : IsHull [r] r := ⟨⟨r, by simp, rfl⟩, ⟨r, by simp, rfl⟩, ⟨r, by simp, rfl⟩, ⟨r, by simp, rfl⟩, by simp⟩
theorem hullS_self (r : R4) : hullS r r = r := by simp [hullS]
theorem hull_from : ∀ (l pre : List R4) (h : R4), IsHull pre h → IsHull (pre ++ l) (l.foldl hullS h)
  | [], pre, h, hh => by simpa using hh
  | r :: l, pre, h, hh => by
    have := hull_from l (pre ++ [r]) (hullS h r) hh.step
    simpa using this
theorem hullL_ok {l : List R4} (h : l ≠ []) : IsHull l (hullL l) := by
  cases l with
  | nil => exact absurd rfl h
  | cons r l =>
    show IsHull _ (l.foldl hullS (hullS r r))
    rw [hullS_self]
    exact hull_from l [r] r (IsHull.one r)
/-- Behind m rectangles; ahead of all, the first one. -/
def hullP (l : List R4) (m : Nat) : R4 := (l.take m).foldl hullS (l.headD ⟨0, 0, 0, 0⟩)
theorem hullP_step {l : List R4} {m : Nat} {r : R4} (h : l[m]? = some r) : hullP l (m + 1) = hullS (hullP l m) r := by
  obtain ⟨hm, hp⟩ := List.getElem?_eq_some_iff.1 h
  unfold hullP
  rw [List.take_succ_eq_append_getElem hm, hp, List.foldl_append]
  rfl
theorem hullP_all {l : List R4} {m : Nat} (hm : l.length ≤ m) : hullP l m = hullL l := by
  unfold hullP
  rw [List.take_of_length_le hm]
  cases l <;> rfl
def hullF (l : List R4) : R4 × Int := if checkF l = 0 then (if l = [] then (⟨0, 0, 0, 0⟩, 6) else (hullL l, 0)) else (⟨0, 0, 0, 0⟩, checkF l)
end Go.Proofs.YtdolpeljengpaaaGreat

/- Plain law: what makes a list a region; joins of regions are regions; areas count points. -/
namespace Go.Proofs.YtdolpeljengpaaaGreat
set_option linter.unusedVariables false
set_option linter.unusedSimpArgs false

theorem can_wf {l : List R4} (h : RCan l) : ∀ r ∈ l, wf4 r := by
  obtain ⟨S, hS, rfl⟩ := h
  intro r hr
  obtain ⟨a, ha, hr⟩ := List.mem_flatMap.1 hr
  obtain ⟨p, hp, rfl⟩ := List.mem_map.1 hr
  have := hS.all a ha
  exact ⟨this.1, this.2.2.1 p hp⟩
/-- A list whose points belong to valid rectangles has valid rectangles. -/
theorem sub_valid {l m : List R4} (hl : ∀ r ∈ l, wf4 r) (hm : ∀ r ∈ m, valid4 r) (h : ∀ x y, pmem l x y → pmem m x y) : ∀ r ∈ l, valid4 r := by
  intro r hr
  obtain ⟨w1, w2⟩ := hl r hr
  obtain ⟨s, hs, h1⟩ := h r.x0 r.y0 ⟨r, hr, by simp only [rin]; omega⟩
  obtain ⟨t, ht, h2⟩ := h (r.x1 - 1) (r.y1 - 1) ⟨r, hr, by simp only [rin]; omega⟩
  have v1 := hm s hs
  have v2 := hm t ht
  simp only [rin, valid4, fineP] at h1 h2 v1 v2 ⊢
  omega
theorem made_self {l : List R4} (hc : RCan l) : rjoin hFst l [] = l :=
  (rjoin_eq (h := hFst) rfl (can_wf hc) (by simp) hc fun x y => by simp [hFst]).symm
theorem can_check {l : List R4} (hc : RCan l) (hv : ∀ r ∈ l, valid4 r) (hn : l.length ≤ 400) : checkF l = 0 := by
  have ha : l.any (fun r => !decide (valid4 r)) = false := by
    rw [List.any_eq_false]
    intro r hr
    simp [hv r hr]
  rw [checkF_valid (by omega) ha, if_pos (made_self hc)]
theorem check_frame {l : List R4} (h : checkF l = 0) {m : Nat} (hm : 1000000 ≤ m) : ∀ r ∈ l, inFr m r := fun r hr => by
  have := (checkF_ok h).2.1 r hr
  simp only [valid4, fineP, inFr] at this ⊢
  omega
theorem area_vol {l : List R4} (h : checkF l = 0) {m : Nat} (hm : 1000000 ≤ m) : areaS l = vol m (one l) := by
  have e : vol m (one l) = vol m (cntP l) := vol_congr fun x y _ _ _ _ => (cntP_ind (check_rcan h).apart x y).symm
  rw [e, vol_cntP (check_frame h hm)]
  unfold areaS
  congr 1
  refine List.map_congr_left fun r hr => ?_
  obtain ⟨w1, w2⟩ := check_wf h r hr
  unfold area4 box
  rw [Int.max_eq_right (by omega), Int.max_eq_right (by omega)]
end Go.Proofs.YtdolpeljengpaaaGreat

/- Plain: how many points of a rectangle a canonical region has; the front of a rectangle; what is reached. -/
namespace Go.Proofs.YtdolpeljengpaaaGreat
open Go.RowKit
set_option linter.unusedVariables false
set_option linter.unusedSimpArgs false

/-- The points next to a side. -/
def besF (r : R4) (i : Nat) : R4 := match i with
  | 0 => ⟨r.x0 - 1, r.y0, r.x0, r.y1⟩
  | 1 => ⟨r.x1, r.y0, r.x1 + 1, r.y1⟩
  | 2 => ⟨r.x0, r.y0 - 1, r.x1, r.y0⟩
  | _ => ⟨r.x0, r.y1, r.x1, r.y1 + 1⟩
def onQ (r q : R4) : Int := if 0 < min r.x1 q.x1 - max r.x0 q.x0 ∧ 0 < min r.y1 q.y1 - max r.y0 q.y0 then (min r.x1 q.x1 - max r.x0 q.x0) * (min r.y1 q.y1 - max r.y0 q.y0) else 0
def onF (r : R4) (s : List R4) : Int := (s.map (onQ r)).sum
def arQ (r : R4) : Int := (r.x1 - r.x0) * (r.y1 - r.y0)
def bitF (r : R4) (s : List R4) (i : Nat) : Bool := decide (onF (besF r i) s = arQ (besF r i))
def frF (r : R4) (s : List R4) : Int := (if bitF r s 0 = true then 1 else 0) + (if bitF r s 1 = true then 2 else 0) + (if bitF r s 2 = true then 4 else 0) + (if bitF r s 3 = true then 8 else 0)
theorem onQ_box (r q : R4) : onQ r q = box (meet4 r q) := by
  unfold onQ box meet4
  simp only
  by_cases h : 0 < min r.x1 q.x1 - max r.x0 q.x0 ∧ 0 < min r.y1 q.y1 - max r.y0 q.y0
  · rw [if_pos h, show max 0 (min r.x1 q.x1 - max r.x0 q.x0) = min r.x1 q.x1 - max r.x0 q.x0 by omega, show max 0 (min r.y1 q.y1 - max r.y0 q.y0) = min r.y1 q.y1 - max r.y0 q.y0 by omega]
  · rw [if_neg h]
    by_cases h1 : 0 < min r.x1 q.x1 - max r.x0 q.x0
    · rw [show max 0 (min r.y1 q.y1 - max r.y0 q.y0) = 0 by omega, Int.mul_zero]
    · rw [show max 0 (min r.x1 q.x1 - max r.x0 q.x0) = 0 by omega, Int.zero_mul]
theorem onF_vol {m : Nat} {r : R4} {s : List R4} (hr : inFr m r) (hs : s.Pairwise apart4) : onF r s = vol m (fun x y => ind (rin r x y) * one s x y) := by
  have e : onF r s = (s.map fun q => box (meet4 r q)).sum := by
    unfold onF
    congr 1
    exact List.map_congr_left fun q _ => onQ_box r q
  rw [e, ← vol_rect_cnt hr]
  exact vol_congr fun x y _ _ _ _ => by rw [cntP_ind hs]; rfl
theorem arQ_box {r : R4} (h : wf4 r) : arQ r = box r := by
  unfold arQ box
  obtain ⟨h1, h2⟩ := h
  rw [Int.max_eq_right (by omega), Int.max_eq_right (by omega)]
theorem arQ_vol {m : Nat} {r : R4} (hr : inFr m r) (h : wf4 r) : arQ r = vol m (fun x y => ind (rin r x y)) := by
  obtain ⟨h1, h2, h3, h4⟩ := hr
  rw [arQ_box h, vol_rect h1 h2 h3 h4]
theorem sumZ_all {f : Int → Int} {lo : Int} : ∀ {n : Nat}, (∀ i, lo ≤ i → i < lo + n → 0 ≤ f i) → sumZ f lo n = 0 → ∀ i, lo ≤ i → i < lo + n → f i = 0
  | 0, _, _, i, a, b => by omega
  | n + 1, h, e, i, a, b => by
    have h0 := sumZ_nonneg (f := f) (lo := lo) (n := n) fun i a b => h i a (by omega)
    have h1 := h (lo + n) (by omega) (by omega)
    have e' : sumZ f lo n + f (lo + n) = 0 := e
    by_cases hi : i < lo + n
    · exact sumZ_all (fun i a b => h i a (by omega)) (by omega) i a hi
    · have : i = lo + n := by omega
      subst this
      omega
theorem vol_all {m : Nat} {f : Int → Int → Int} (h : ∀ x y, 0 ≤ f x y) (e : vol m f = 0) : ∀ x y, -(m : Int) ≤ x → x < m → -(m : Int) ≤ y → y < m → f x y = 0 := fun x y a b c d =>
  sumZ_all (fun j _ _ => h x j) (sumZ_all (fun i _ _ => sumZ_nonneg fun j _ _ => h i j) e x a (by omega)) y c (by omega)
/-- A rectangle is full exactly if the region has all its points. -/
theorem full_iff {m : Nat} {r : R4} {s : List R4} (hr : inFr m r) (hw : wf4 r) (hs : s.Pairwise apart4) : onF r s = arQ r ↔ ∀ x y, rin r x y → pmem s x y := by
  rw [onF_vol hr hs, arQ_vol hr hw]
  constructor
  · intro e x y hx
    have e' : vol m (fun x y => ind (rin r x y) - ind (rin r x y) * one s x y) = 0 := by rw [vol_sub, e]; omega
    have hz := vol_all (m := m) (fun x y => by
      rcases one_01 s x y with h | h <;> rcases ind_01 (rin r x y) with g | g <;> simp [h, g]) e' x y (by unfold inFr at hr; unfold rin at hx; omega) (by unfold inFr at hr; unfold rin at hx; omega) (by unfold inFr at hr; unfold rin at hx; omega) (by unfold inFr at hr; unfold rin at hx; omega)
    rw [ind_t hx] at hz
    by_cases hp : pmem s x y
    · exact hp
    · have : one s x y = 0 := ind_f hp
      rw [this] at hz
      omega
  · intro h
    refine vol_congr fun x y _ _ _ _ => ?_
    by_cases hx : rin r x y
    · have : one s x y = 1 := ind_t (h x y hx)
      rw [this, Int.mul_one]
    · rw [ind_f hx, Int.zero_mul]
/-- What is reached: over the sides of a front. -/
def rchF (l : Lot5) (s : List R4) : Int := (if hasS l.f 1 = true then onF (besF l.r 0) s else 0) + (if hasS l.f 2 = true then onF (besF l.r 1) s else 0) + (if hasS l.f 4 = true then onF (besF l.r 2) s else 0) + (if hasS l.f 8 = true then onF (besF l.r 3) s else 0)
theorem onF_take {r q : R4} {s : List R4} {m : Nat} (h : s[m]? = some q) : onF r (s.take (m + 1)) = onF r (s.take m) + onQ r q := by
  unfold onF
  rw [List.take_add_one, h, List.map_append, List.sum_append]
  simp
end Go.Proofs.YtdolpeljengpaaaGreat

/- Plain: the height of a roof: the square that fits, and the distance from what is missing. -/
namespace Go.Proofs.YtdolpeljengpaaaGreat
open Go.RowKit
set_option linter.unusedVariables false
set_option linter.unusedSimpArgs false

def dbl (r : R4) : R4 := ⟨2 * r.x0, 2 * r.y0, 2 * r.x1, 2 * r.y1⟩
def sqr (x y d : Int) : R4 := ⟨x - d, y - d, x + d, y + d⟩
/-- The covered area, by twice the coordinates. -/
def covF (l : List R4) (x y d : Int) : Int := onF (sqr x y d) (l.map dbl)
def notF (l : List R4) (x y : Int) (i : Nat) : Bool := decide (covF l x y ((i : Int) + 1) < 2 * ((i : Int) + 1) * (2 * ((i : Int) + 1)))
def heightF (l : List R4) (x y : Int) : Nat := (List.range 2000001).countP fun i => !notF l x y i
def cellM (l : List R4) (p q : Int × Int) : Option R4 := if pmem l p.1 q.1 then none else some ⟨p.1, q.1, p.2, q.2⟩
def colM (l : List R4) (ys : List Int) (p : Int × Int) : List R4 := (prs ys).filterMap (cellM l p)
def ringM (a b c d : Int) : List R4 := [⟨-4000000, -4000000, a, 4000000⟩, ⟨c, -4000000, 4000000, 4000000⟩, ⟨-4000000, -4000000, 4000000, b⟩, ⟨-4000000, d, 4000000, 4000000⟩]
def missG (l : List R4) (xs ys : List Int) : List R4 := if xs.length = 0 then [⟨-4000000, -4000000, 4000000, 4000000⟩] else
  (prs xs).flatMap (colM l ys) ++ ringM (xs.getD 0 0) (ys.getD 0 0) (xs.getD (xs.length - 1) 0) (ys.getD (ys.length - 1) 0)
def missF (l : List R4) : List R4 := missG l (srt (cutsL l)) (srt (cutsY l))
def highQ (m : R4) (x y : Int) : Int := max (max (max (max 0 (2 * m.x0 - x)) (x - 2 * m.x1)) (2 * m.y0 - y)) (y - 2 * m.y1)
def highF (ms : List R4) (x y : Int) : Int := ms.foldl (fun b m => min b (highQ m x y)) 8000000
theorem high_from (x y d : Int) : ∀ (ms : List R4) (b : Int), ms.foldl (fun b m => min b (highQ m x y)) b ≤ d ↔ b ≤ d ∨ ∃ m ∈ ms, highQ m x y ≤ d
  | [], b => by simp
  | m :: ms, b => by
    rw [List.foldl_cons, high_from x y d ms]
    simp only [List.mem_cons]
    constructor
    · rintro (h | ⟨q, hq, h⟩)
      · by_cases hb : b ≤ d
        · exact .inl hb
        · exact .inr ⟨m, .inl rfl, by omega⟩
      · exact .inr ⟨q, .inr hq, h⟩
    · rintro (h | ⟨q, rfl | hq, h⟩)
      · exact .inl (by omega)
      · exact .inl (by omega)
      · exact .inr ⟨q, hq, h⟩
theorem high_le {ms : List R4} {x y d : Int} (hd : d < 8000000) : highF ms x y ≤ d ↔ ∃ m ∈ ms, highQ m x y ≤ d := by
  unfold highF
  rw [high_from]
  constructor
  · rintro (h | h)
    · omega
    · exact h
  · exact .inr
theorem high_nn (x y : Int) : ∀ (ms : List R4) (b : Int), 0 ≤ b → 0 ≤ ms.foldl (fun b m => min b (highQ m x y)) b
  | [], b, h => h
  | m :: ms, b, h => by
    rw [List.foldl_cons]
    refine high_nn x y ms _ ?_
    have : 0 ≤ highQ m x y := by unfold highQ; omega
    omega
/-- A strictly ordered list's pairs hold every number between its ends. -/
theorem prs_at : ∀ (cs : List Int), cs.Pairwise (· < ·) → ∀ x : Int, 0 < cs.length → cs.getD 0 0 ≤ x → x < cs.getD (cs.length - 1) 0 → ∃ p ∈ prs cs, p.1 ≤ x ∧ x < p.2
  | [], _, _, h, _, _ => absurd h (by simp)
  | [a], _, x, _, h1, h2 => by simp at h1 h2; omega
  | a :: b :: cs, hs, x, _, h1, h2 => by
    by_cases hb : x < b
    · exact ⟨(a, b), by simp [prs], by simpa using h1, hb⟩
    · obtain ⟨p, hp, h⟩ := prs_at (b :: cs) (List.pairwise_cons.1 hs).2 x (by simp) (by simp; omega) (by simpa using h2)
      exact ⟨p, by simp only [prs, List.mem_cons]; exact .inr hp, h⟩
theorem prs_gap2 : ∀ {cs : List Int}, cs.Pairwise (· < ·) → ∀ p ∈ prs cs, p.1 < p.2 ∧ p.1 ∈ cs ∧ p.2 ∈ cs ∧ ∀ e ∈ cs, e ≤ p.1 ∨ p.2 ≤ e
  | [], _, p, hp => by simp [prs] at hp
  | [a], _, p, hp => by simp [prs] at hp
  | a :: b :: cs, hs, p, hp => by
    obtain ⟨h1, h2⟩ := List.pairwise_cons.1 hs
    simp only [prs, List.mem_cons] at hp
    rcases hp with rfl | hp
    · refine ⟨h1 b (by simp), by simp, by simp, fun e he => ?_⟩
      rcases List.mem_cons.1 he with rfl | he
      · exact .inl (Int.le_refl _)
      · right
        rcases List.mem_cons.1 he with rfl | he
        · exact Int.le_refl _
        · exact Int.le_of_lt ((List.pairwise_cons.1 h2).1 e he)
    · obtain ⟨g1, g2, g3, g4⟩ := prs_gap2 h2 p (by simpa [prs] using hp)
      refine ⟨g1, List.mem_cons_of_mem _ g2, List.mem_cons_of_mem _ g3, fun e he => ?_⟩
      rcases List.mem_cons.1 he with rfl | he
      · exact .inl (Int.le_of_lt (h1 p.1 g2))
      · exact g4 e he
theorem pmem_sameX {l : List R4} {cs : List Int} (hcs : ∀ c ∈ cutsL l, c ∈ cs) {c d x y : Int} (hgap : ∀ e ∈ cs, e ≤ c ∨ d ≤ e) (h1 : c ≤ x) (h2 : x < d) : pmem l x y ↔ pmem l c y := by
  unfold pmem
  refine exists_congr fun r => and_congr_right fun hr => ?_
  obtain ⟨m1, m2⟩ := mem_cutsL hr
  have := hgap _ (hcs _ m1)
  have := hgap _ (hcs _ m2)
  unfold rin
  omega
theorem srt_get {l : List Int} {x : Int} (h : x ∈ l) : 0 < (srt l).length ∧ (srt l).getD 0 0 ≤ x ∧ x ≤ (srt l).getD ((srt l).length - 1) 0 := by
  obtain ⟨h1, h2⟩ := srt_ok l
  have hm := (h2 x).2 h
  obtain ⟨i, hi, rfl⟩ := List.getElem_of_mem hm
  have hs := List.pairwise_iff_getElem.1 h1
  refine ⟨by omega, ?_, ?_⟩
  · rw [List.getD_eq_getElem?_getD, List.getElem?_eq_getElem (by omega), Option.getD_some]
    rcases Nat.eq_zero_or_pos i with e | e
    · subst e; exact Int.le_refl _
    · exact Int.le_of_lt (hs 0 i (by omega) hi e)
  · rw [List.getD_eq_getElem?_getD, List.getElem?_eq_getElem (by omega), Option.getD_some]
    rcases Nat.lt_or_ge i ((srt l).length - 1) with e | e
    · exact Int.le_of_lt (hs i _ hi (by omega) e)
    · have : i = (srt l).length - 1 := by omega
      subst this
      exact Int.le_refl _
theorem srt_rim {l : List Int} (h : 0 < (srt l).length) : (srt l).getD 0 0 ∈ l ∧ (srt l).getD ((srt l).length - 1) 0 ∈ l := by
  have h2 := (srt_ok l).2
  refine ⟨(h2 _).1 ?_, (h2 _).1 ?_⟩
  · rw [List.getD_eq_getElem?_getD, List.getElem?_eq_getElem h, Option.getD_some]; exact List.getElem_mem _
  · rw [List.getD_eq_getElem?_getD, List.getElem?_eq_getElem (by omega), Option.getD_some]; exact List.getElem_mem _
theorem cut_bd {l : List R4} (hv : ∀ r ∈ l, valid4 r) : (∀ c ∈ cutsL l, -1000000 ≤ c ∧ c ≤ 1000000) ∧ (∀ c ∈ cutsY l, -1000000 ≤ c ∧ c ≤ 1000000) := by
  constructor
  · intro c hc
    obtain ⟨r, hr, hm⟩ := List.mem_flatMap.1 hc
    obtain ⟨_, _, h1, h2, h3, h4⟩ := hv r hr
    simp only [fineP] at h1 h2 h3 h4
    simp only [List.mem_cons, List.not_mem_nil, or_false] at hm
    rcases hm with rfl | rfl <;> omega
  · intro c hc
    obtain ⟨r, hr, hm⟩ := List.mem_flatMap.1 hc
    obtain ⟨_, _, h1, h2, h3, h4⟩ := hv r hr
    simp only [fineP] at h1 h2 h3 h4
    simp only [List.mem_cons, List.not_mem_nil, or_false] at hm
    rcases hm with rfl | rfl <;> omega
theorem len_cuts {l : List R4} (h : l ≠ []) : 0 < (srt (cutsL l)).length ∧ 0 < (srt (cutsY l)).length := by
  obtain ⟨r, hr⟩ := List.exists_mem_of_ne_nil l h
  exact ⟨(srt_get (mem_cutsL hr).1).1, (srt_get (mem_cutsY hr).1).1⟩
/-- What is missing has exactly the points that the region has not. -/
theorem cover_miss {l : List R4} (hv : ∀ r ∈ l, valid4 r) {X Y : Int} (hX : -4000000 ≤ X ∧ X < 4000000) (hY : -4000000 ≤ Y ∧ Y < 4000000) : pmem (missF l) X Y ↔ ¬ pmem l X Y := by
  unfold missF missG
  by_cases hl : l = []
  · subst hl
    have e : (srt (cutsL [])).length = 0 := by decide
    rw [if_pos e]
    refine ⟨fun _ => pmem_nil, fun _ => ⟨_, List.mem_singleton.2 rfl, ?_⟩⟩
    unfold rin
    simp only
    omega
  · obtain ⟨nx, ny⟩ := len_cuts hl
    rw [if_neg (by omega)]
    obtain ⟨sx, mx⟩ := srt_ok (cutsL l)
    obtain ⟨sy, my⟩ := srt_ok (cutsY l)
    obtain ⟨bx, bY⟩ := cut_bd hv
    constructor
    · rintro ⟨m, hm, hin⟩ hp
      rw [List.mem_append] at hm
      rcases hm with hm | hm
      · obtain ⟨p, hp1, hm⟩ := List.mem_flatMap.1 hm
        obtain ⟨q, hq1, hm⟩ := List.mem_filterMap.1 hm
        obtain ⟨_, _, _, g1⟩ := prs_gap2 sx p hp1
        obtain ⟨_, _, _, g2⟩ := prs_gap2 sy q hq1
        unfold cellM at hm
        split at hm
        · cases hm
        · rename_i hno
          simp only [Option.some.injEq] at hm
          subst hm
          unfold rin at hin
          simp only at hin
          rw [pmem_sameX (fun c hc => (mx c).2 hc) g1 hin.1 hin.2.1, pmem_sameY (fun c hc => (my c).2 hc) g2 hin.2.2.1 hin.2.2.2] at hp
          exact hno hp
      · obtain ⟨r, hr, hp⟩ := hp
        obtain ⟨a1, a2⟩ := mem_cutsL hr
        obtain ⟨a3, a4⟩ := mem_cutsY hr
        have b1 := srt_get a1
        have b2 := srt_get a2
        have b3 := srt_get a3
        have b4 := srt_get a4
        unfold ringM at hm
        simp only [List.mem_cons, List.not_mem_nil, or_false] at hm
        unfold rin at hin hp
        rcases hm with rfl | rfl | rfl | rfl <;> simp only at hin <;> omega
    · intro hno
      by_cases h1 : X < (srt (cutsL l)).getD 0 0
      · exact ⟨_, List.mem_append.2 (.inr (by unfold ringM; exact List.mem_cons_self)), by unfold rin; simp only; omega⟩
      by_cases h2 : (srt (cutsL l)).getD ((srt (cutsL l)).length - 1) 0 ≤ X
      · exact ⟨_, List.mem_append.2 (.inr (by unfold ringM; exact List.mem_cons_of_mem _ List.mem_cons_self)), by unfold rin; simp only; omega⟩
      by_cases h3 : Y < (srt (cutsY l)).getD 0 0
      · exact ⟨_, List.mem_append.2 (.inr (by unfold ringM; exact List.mem_cons_of_mem _ (List.mem_cons_of_mem _ List.mem_cons_self))), by unfold rin; simp only; omega⟩
      by_cases h4 : (srt (cutsY l)).getD ((srt (cutsY l)).length - 1) 0 ≤ Y
      · exact ⟨_, List.mem_append.2 (.inr (by unfold ringM; exact List.mem_cons_of_mem _ (List.mem_cons_of_mem _ (List.mem_cons_of_mem _ List.mem_cons_self)))), by unfold rin; simp only; omega⟩
      obtain ⟨p, hp, p1, p2⟩ := prs_at _ sx X nx (by omega) (by omega)
      obtain ⟨q, hq, q1, q2⟩ := prs_at _ sy Y ny (by omega) (by omega)
      obtain ⟨_, _, _, g1⟩ := prs_gap2 sx p hp
      obtain ⟨_, _, _, g2⟩ := prs_gap2 sy q hq
      rw [pmem_sameX (fun c hc => (mx c).2 hc) g1 p1 p2, pmem_sameY (fun c hc => (my c).2 hc) g2 q1 q2] at hno
      refine ⟨⟨p.1, q.1, p.2, q.2⟩, List.mem_append.2 (.inl (List.mem_flatMap.2 ⟨p, hp, List.mem_filterMap.2 ⟨q, hq, ?_⟩⟩)), ⟨p1, p2, q1, q2⟩⟩
      unfold cellM
      rw [if_neg hno]
theorem wf_miss {l : List R4} (hv : ∀ r ∈ l, valid4 r) : ∀ m ∈ missF l, (m.x0 < m.x1 ∧ m.y0 < m.y1) ∧ -4000000 ≤ m.x0 ∧ m.x1 ≤ 4000000 ∧ -4000000 ≤ m.y0 ∧ m.y1 ≤ 4000000 := by
  intro m hm
  unfold missF missG at hm
  by_cases hl : l = []
  · subst hl
    have e : (srt (cutsL [])).length = 0 := by decide
    rw [if_pos e, List.mem_singleton] at hm
    subst hm
    simp
  · obtain ⟨nx, ny⟩ := len_cuts hl
    rw [if_neg (by omega), List.mem_append] at hm
    obtain ⟨bx, bY⟩ := cut_bd hv
    rcases hm with hm | hm
    · obtain ⟨p, hp1, hm⟩ := List.mem_flatMap.1 hm
      obtain ⟨q, hq1, hm⟩ := List.mem_filterMap.1 hm
      obtain ⟨sx, mx⟩ := srt_ok (cutsL l)
      obtain ⟨sy, my⟩ := srt_ok (cutsY l)
      obtain ⟨a1, a2, a3, _⟩ := prs_gap2 sx p hp1
      obtain ⟨b1, b2, b3, _⟩ := prs_gap2 sy q hq1
      have := bx _ ((mx _).1 a2)
      have := bx _ ((mx _).1 a3)
      have := bY _ ((my _).1 b2)
      have := bY _ ((my _).1 b3)
      unfold cellM at hm
      split at hm
      · cases hm
      · simp only [Option.some.injEq] at hm
        subst hm
        simp only
        omega
    · obtain ⟨e1, e2⟩ := srt_rim nx
      obtain ⟨e3, e4⟩ := srt_rim ny
      have := bx _ e1
      have := bx _ e2
      have := bY _ e3
      have := bY _ e4
      unfold ringM at hm
      simp only [List.mem_cons, List.not_mem_nil, or_false] at hm
      rcases hm with rfl | rfl | rfl | rfl <;> simp only <;> omega
theorem rin_dbl (r : R4) (X Y : Int) : rin (dbl r) X Y ↔ rin r (X / 2) (Y / 2) := by
  unfold rin dbl
  simp only
  omega
theorem pmem_dbl (l : List R4) (X Y : Int) : pmem (l.map dbl) X Y ↔ pmem l (X / 2) (Y / 2) := by
  unfold pmem
  constructor
  · rintro ⟨z, hz, h⟩
    obtain ⟨r, hr, rfl⟩ := List.mem_map.1 hz
    exact ⟨r, hr, (rin_dbl r X Y).1 h⟩
  · rintro ⟨r, hr, h⟩
    exact ⟨dbl r, List.mem_map_of_mem hr, (rin_dbl r X Y).2 h⟩
theorem apart_dbl {l : List R4} (h : l.Pairwise apart4) : (l.map dbl).Pairwise apart4 := by
  rw [List.pairwise_map]
  refine h.imp fun {a b} hab X Y hh => hab (X / 2) (Y / 2) ⟨(rin_dbl a X Y).1 hh.1, (rin_dbl b X Y).1 hh.2⟩
theorem onF_le {m : Nat} {r : R4} {s : List R4} (hr : inFr m r) (hw : wf4 r) (hs : s.Pairwise apart4) : onF r s ≤ arQ r := by
  have e1 := onF_vol hr hs
  have e2 := arQ_vol hr hw
  have e3 : 0 ≤ vol m (fun x y => ind (rin r x y) - ind (rin r x y) * one s x y) := sumZ_nonneg fun i _ _ => sumZ_nonneg fun j _ _ => by
    rcases one_01 s i j with h | h <;> rcases ind_01 (rin r i j) with g | g <;> simp [h, g]
  rw [vol_sub] at e3
  omega
theorem not_iff {l : List R4} (hv : ∀ r ∈ l, valid4 r) (hs : l.Pairwise apart4) {x y : Int} (hx : -2000001 ≤ x ∧ x ≤ 2000001) (hy : -2000001 ≤ y ∧ y ≤ 2000001) {d : Nat} (hd : d ≤ 2000000) :
    notF l x y d = true ↔ ∃ m ∈ missF l, highQ m x y ≤ d := by
  have hw : wf4 (sqr x y ((d : Int) + 1)) := by unfold wf4 sqr; simp only; omega
  have hf : inFr 5000000 (sqr x y ((d : Int) + 1)) := by unfold inFr sqr; simp only; omega
  have ha : arQ (sqr x y ((d : Int) + 1)) = 2 * ((d : Int) + 1) * (2 * ((d : Int) + 1)) := by
    unfold arQ sqr
    simp only
    rw [show x + ((d : Int) + 1) - (x - ((d : Int) + 1)) = 2 * ((d : Int) + 1) by omega, show y + ((d : Int) + 1) - (y - ((d : Int) + 1)) = 2 * ((d : Int) + 1) by omega]
  have hle := onF_le hf hw (apart_dbl hs)
  have hfull := full_iff hf hw (apart_dbl hs)
  unfold notF covF
  rw [decide_eq_true_eq, ← ha]
  constructor
  · intro hlt
    have hne : ¬ ∀ X Y, rin (sqr x y ((d : Int) + 1)) X Y → pmem (l.map dbl) X Y := fun h => by
      have := hfull.2 h
      omega
    rw [Classical.not_forall] at hne
    obtain ⟨X, hne⟩ := hne
    rw [Classical.not_forall] at hne
    obtain ⟨Y, hne⟩ := hne
    rw [Classical.not_imp] at hne
    obtain ⟨hin, hno⟩ := hne
    rw [pmem_dbl] at hno
    unfold rin sqr at hin
    simp only at hin
    obtain ⟨m, hm, hmin⟩ := (cover_miss hv (X := X / 2) (Y := Y / 2) (by omega) (by omega)).2 hno
    refine ⟨m, hm, ?_⟩
    unfold rin at hmin
    unfold highQ
    omega
  · rintro ⟨m, hm, hq⟩
    obtain ⟨⟨w1, w2⟩, w3, w4, w5, w6⟩ := wf_miss hv m hm
    unfold highQ at hq
    have hno : ¬ ∀ X Y, rin (sqr x y ((d : Int) + 1)) X Y → pmem (l.map dbl) X Y := fun h => by
      have hp := h (max (2 * m.x0) (x - d - 1)) (max (2 * m.y0) (y - d - 1)) (by unfold rin sqr; simp only; omega)
      rw [pmem_dbl] at hp
      exact (cover_miss hv (by omega) (by omega)).1 ⟨m, hm, by unfold rin; omega⟩ hp
    rw [← hfull] at hno
    omega
theorem count_lt (K : Nat) : ∀ N, (List.range N).countP (fun i => decide (i < K)) = min N K
  | 0 => by simp
  | N + 1 => by
    rw [List.range_succ, List.countP_append, count_lt K N, List.countP_singleton]
    by_cases h : N < K
    · rw [decide_eq_true h]; simp; omega
    · rw [decide_eq_false h]; simp; omega
theorem high_top {l : List R4} (hv : ∀ r ∈ l, valid4 r) {x y : Int} (hx : -2000001 ≤ x ∧ x ≤ 2000001) (hy : -2000001 ≤ y ∧ y ≤ 2000001) : highF (missF l) x y ≤ 2000000 := by
  rw [high_le (by omega)]
  unfold missF missG
  by_cases hl : l = []
  · subst hl
    have e : (srt (cutsL [])).length = 0 := by decide
    rw [if_pos e]
    exact ⟨_, List.mem_singleton.2 rfl, by unfold highQ; simp only; omega⟩
  · obtain ⟨nx, ny⟩ := len_cuts hl
    rw [if_neg (by omega)]
    obtain ⟨bx, bY⟩ := cut_bd hv
    obtain ⟨e1, e2⟩ := srt_rim nx
    have b1 := bx _ e1
    have b2 := bx _ e2
    have b3 := (srt_get e2).2.1
    by_cases h : x ≤ (srt (cutsL l)).getD 0 0 + (srt (cutsL l)).getD ((srt (cutsL l)).length - 1) 0
    · exact ⟨_, List.mem_append.2 (.inr (by unfold ringM; exact List.mem_cons_self)), by unfold highQ; simp only; omega⟩
    · exact ⟨_, List.mem_append.2 (.inr (by unfold ringM; exact List.mem_cons_of_mem _ List.mem_cons_self)), by unfold highQ; simp only; omega⟩
/-- The height of the square that fits is the distance from what is missing. -/
theorem height_eq {l : List R4} (hc : checkF l = 0) {x y : Int} (hx : -2000001 ≤ x ∧ x ≤ 2000001) (hy : -2000001 ≤ y ∧ y ≤ 2000001) : ((heightF l x y : Nat) : Int) = highF (missF l) x y := by
  have hv := (checkF_ok hc).2.1
  have hs := (check_rcan hc).apart
  have htop := high_top hv hx hy
  have hnn : 0 ≤ highF (missF l) x y := high_nn x y _ _ (by omega)
  have e : (List.range 2000001).countP (fun i => !notF l x y i) = (List.range 2000001).countP (fun i => decide (i < (highF (missF l) x y).toNat)) := by
    refine List.countP_congr fun i hi => ?_
    have hi' : i < 2000001 := List.mem_range.1 hi
    have := not_iff hv hs hx hy (d := i) (by omega)
    rw [← high_le (by omega)] at this
    cases hn : notF l x y i
    · rw [hn] at this
      simp only [Bool.false_eq_true, false_iff] at this
      simp
      omega
    · rw [hn] at this
      simp only [true_iff] at this
      simp
      omega
  unfold heightF
  rw [e, count_lt]
  omega
theorem not_mono {l : List R4} (hc : checkF l = 0) {x y : Int} (hx : -2000001 ≤ x ∧ x ≤ 2000001) (hy : -2000001 ≤ y ∧ y ≤ 2000001) : ∀ a b, a ≤ b → b < 2000001 → notF l x y a = true → notF l x y b = true := by
  have hv := (checkF_ok hc).2.1
  have hs := (check_rcan hc).apart
  intro a b hab hb h
  obtain ⟨m, hm, h⟩ := (not_iff hv hs hx hy (by omega)).1 h
  exact (not_iff hv hs hx hy (by omega)).2 ⟨m, hm, by omega⟩
end Go.Proofs.YtdolpeljengpaaaGreat

/- Plain: the peak of a roof: the greatest square that fits, with its corner at cuts; the greatest height of all half points. -/
namespace Go.Proofs.YtdolpeljengpaaaGreat
open Go.RowKit
set_option linter.unusedVariables false
set_option linter.unusedSimpArgs false

/-- The square of a side fits with its least corner at (a, b). -/
def sqIn (l : List R4) (a b s : Int) : Prop := ∀ X Y, a ≤ X → X < a + s → b ≤ Y → Y < b + s → pmem l X Y
def covE (l : List R4) (x y s : Int) : Bool := decide (covF l (2 * x + s) (2 * y + s) s = 2 * s * (2 * s))
def fitsQ (l : List R4) (s : Int) (a b : R4) : Bool := covE l a.x0 b.y0 s || covE l a.x0 b.y1 s || covE l a.x1 b.y0 s || covE l a.x1 b.y1 s
def fitsF (l : List R4) (s : Int) : Bool := l.any fun a => l.any fun b => fitsQ l s a b
def peakF (l : List R4) : Nat := (List.range 2000001).countP fun (i : Nat) => fitsF l ((i : Int) + 1)
theorem covE_iff {l : List R4} (hs : l.Pairwise apart4) {x y s : Int} (hx : -2000000 ≤ x ∧ x ≤ 2000000) (hy : -2000000 ≤ y ∧ y ≤ 2000000) (h0 : 1 ≤ s) (h1 : s ≤ 2000001) : covE l x y s = true ↔ sqIn l x y s := by
  have hw : wf4 (sqr (2 * x + s) (2 * y + s) s) := by unfold wf4 sqr; simp only; omega
  have hf : inFr 10000000 (sqr (2 * x + s) (2 * y + s) s) := by unfold inFr sqr; simp only; omega
  have ha : arQ (sqr (2 * x + s) (2 * y + s) s) = 2 * s * (2 * s) := by
    unfold arQ sqr
    simp only
    rw [show 2 * x + s + s - (2 * x + s - s) = 2 * s by omega, show 2 * y + s + s - (2 * y + s - s) = 2 * s by omega]
  have hfull := full_iff hf hw (apart_dbl hs)
  unfold covE covF
  rw [decide_eq_true_eq, ← ha, hfull]
  constructor
  · intro h X Y a1 a2 a3 a4
    have := h (2 * X) (2 * Y) (by unfold rin sqr; simp only; omega)
    rw [pmem_dbl] at this
    rwa [show 2 * X / 2 = X by omega, show 2 * Y / 2 = Y by omega] at this
  · intro h X Y hin
    unfold rin sqr at hin
    simp only at hin
    rw [pmem_dbl]
    exact h _ _ (by omega) (by omega) (by omega) (by omega)
/-- The least number from a bound on that has a property. -/
theorem least_from {P : Int → Prop} {lo a : Int} (ha : P a) (hlo : ∀ x, P x → lo ≤ x) : ∃ x, P x ∧ x ≤ a ∧ ¬ P (x - 1) := by
  have key : ∀ (n : Nat) (a : Int), P a → a < lo + n → ∃ x, P x ∧ x ≤ a ∧ ¬ P (x - 1) := by
    intro n
    induction n with
    | zero =>
      intro a h1 h2
      have := hlo a h1
      omega
    | succ n ih =>
      intro a h1 h2
      by_cases h : P (a - 1)
      · obtain ⟨x, e1, e2, e3⟩ := ih (a - 1) h (by omega)
        exact ⟨x, e1, by omega, e3⟩
      · exact ⟨a, h1, Int.le_refl _, h⟩
  have := hlo a ha
  exact key (a - lo + 1).toNat a ha (by omega)
theorem sq_bds {l : List R4} (hv : ∀ r ∈ l, valid4 r) {a b s : Int} (h0 : 1 ≤ s) (h : sqIn l a b s) : (-1000000 ≤ a ∧ a + s ≤ 1000000) ∧ (-1000000 ≤ b ∧ b + s ≤ 1000000) := by
  obtain ⟨r, hr, h1⟩ := h a b (by omega) (by omega) (by omega) (by omega)
  obtain ⟨t, ht, h2⟩ := h (a + s - 1) (b + s - 1) (by omega) (by omega) (by omega) (by omega)
  obtain ⟨_, _, ⟨v1, v2⟩, ⟨v3, v4⟩, ⟨v5, v6⟩, v7, v8⟩ := hv r hr
  obtain ⟨_, _, ⟨u1, u2⟩, ⟨u3, u4⟩, ⟨u5, u6⟩, u7, u8⟩ := hv t ht
  unfold rin at h1 h2
  omega
theorem fits_iff {l : List R4} (hv : ∀ r ∈ l, valid4 r) (hs : l.Pairwise apart4) {s : Int} (h0 : 1 ≤ s) (h1 : s ≤ 2000001) : fitsF l s = true ↔ ∃ a b, sqIn l a b s := by
  have bd : ∀ r ∈ l, (-2000000 ≤ r.x0 ∧ r.x0 ≤ 2000000) ∧ (-2000000 ≤ r.x1 ∧ r.x1 ≤ 2000000) ∧ (-2000000 ≤ r.y0 ∧ r.y0 ≤ 2000000) ∧ (-2000000 ≤ r.y1 ∧ r.y1 ≤ 2000000) := fun r hr => by
    obtain ⟨_, _, ⟨v1, v2⟩, ⟨v3, v4⟩, ⟨v5, v6⟩, v7, v8⟩ := hv r hr
    omega
  constructor
  · intro h
    unfold fitsF at h
    rw [List.any_eq_true] at h
    obtain ⟨a, ha, h⟩ := h
    rw [List.any_eq_true] at h
    obtain ⟨b, hb, h⟩ := h
    obtain ⟨a0, a1, _, _⟩ := bd a ha
    obtain ⟨_, _, b0, b1⟩ := bd b hb
    unfold fitsQ at h
    simp only [Bool.or_eq_true] at h
    rcases h with ((h | h) | h) | h
    · exact ⟨_, _, (covE_iff hs a0 b0 h0 h1).1 h⟩
    · exact ⟨_, _, (covE_iff hs a0 b1 h0 h1).1 h⟩
    · exact ⟨_, _, (covE_iff hs a1 b0 h0 h1).1 h⟩
    · exact ⟨_, _, (covE_iff hs a1 b1 h0 h1).1 h⟩
  · rintro ⟨a, b, h⟩
    obtain ⟨x, hx, _, nx⟩ := least_from (P := fun x => sqIn l x b s) (lo := -1000000) h fun x hx => (sq_bds hv h0 hx).1.1
    obtain ⟨y, hy, _, ny⟩ := least_from (P := fun y => sqIn l x y s) (lo := -1000000) hx fun y hy => (sq_bds hv h0 hy).2.1
    have cx : ∃ r ∈ l, r.x0 = x := by
      unfold sqIn at nx
      simp only [Classical.not_forall, not_imp] at nx
      obtain ⟨X, Y, g1, g2, g3, g4, hno⟩ := nx
      have hX : X = x - 1 := by
        by_cases e : x ≤ X
        · exact absurd (hx X Y e (by omega) g3 g4) hno
        · omega
      subst hX
      obtain ⟨r, hr, hin⟩ := hx x Y (by omega) (by omega) g3 g4
      refine ⟨r, hr, ?_⟩
      by_cases e : r.x0 = x
      · exact e
      · exact absurd ⟨r, hr, by unfold rin at hin ⊢; omega⟩ hno
    have cy : ∃ r ∈ l, r.y0 = y := by
      unfold sqIn at ny
      simp only [Classical.not_forall, not_imp] at ny
      obtain ⟨X, Y, g1, g2, g3, g4, hno⟩ := ny
      have hY : Y = y - 1 := by
        by_cases e : y ≤ Y
        · exact absurd (hy X Y g1 g2 e (by omega)) hno
        · omega
      subst hY
      obtain ⟨r, hr, hin⟩ := hy X y g1 g2 (by omega) (by omega)
      refine ⟨r, hr, ?_⟩
      by_cases e : r.y0 = y
      · exact e
      · exact absurd ⟨r, hr, by unfold rin at hin ⊢; omega⟩ hno
    obtain ⟨r, hr, rfl⟩ := cx
    obtain ⟨t, ht, rfl⟩ := cy
    obtain ⟨a0, _⟩ := bd r hr
    obtain ⟨_, _, b0, _⟩ := bd t ht
    unfold fitsF
    rw [List.any_eq_true]
    refine ⟨r, hr, ?_⟩
    rw [List.any_eq_true]
    refine ⟨t, ht, ?_⟩
    unfold fitsQ
    rw [(covE_iff hs a0 b0 h0 h1).2 hy]
    simp
theorem fits_mono {l : List R4} (hv : ∀ r ∈ l, valid4 r) (hs : l.Pairwise apart4) : ∀ a b : Nat, a ≤ b → b < 2000001 → (!fitsF l ((a : Int) + 1)) = true → (!fitsF l ((b : Int) + 1)) = true := by
  intro a b hab hb h
  rw [Bool.not_eq_true', ← Bool.not_eq_true] at h ⊢
  intro hf
  refine h ?_
  rw [fits_iff hv hs (by omega) (by omega)] at hf ⊢
  obtain ⟨x, y, h2⟩ := hf
  exact ⟨x, y, fun X Y g1 g2 g3 g4 => h2 X Y g1 (by omega) g3 (by omega)⟩
theorem countP_down {p : Nat → Bool} : ∀ N : Nat, (∀ a b, a ≤ b → b < N → p b = true → p a = true) → ∀ s, s < N → (s < (List.range N).countP p ↔ p s = true)
  | 0, _, s, hs => by omega
  | N + 1, hm, s, hs => by
    have ih := countP_down N fun a b hab hb => hm a b hab (by omega)
    have hle := List.countP_le_length (p := p) (l := List.range N)
    rw [List.length_range] at hle
    rw [List.range_succ, List.countP_append, List.countP_singleton]
    by_cases h : p N = true
    · have hall : (List.range N).countP p = N := by
        rw [List.countP_eq_length.2 fun i hi => hm i N (Nat.le_of_lt (List.mem_range.1 hi)) (by omega) h, List.length_range]
      rw [if_pos h, hall]
      refine ⟨fun _ => hm s N (by omega) (by omega) h, fun _ => by omega⟩
    · rw [if_neg h, Nat.add_zero]
      by_cases e : s = N
      · subst e
        refine ⟨fun h2 => by omega, fun h2 => absurd h2 h⟩
      · exact ih s (by omega)
theorem peak_lt {l : List R4} (hv : ∀ r ∈ l, valid4 r) (hs : l.Pairwise apart4) {s : Nat} (h : s < 2000001) : s < peakF l ↔ ∃ a b, sqIn l a b ((s : Int) + 1) := by
  rw [← fits_iff hv hs (by omega) (by omega)]
  refine countP_down (p := fun (i : Nat) => fitsF l ((i : Int) + 1)) 2000001 (fun a b hab hb hp => ?_) s h
  cases he : fitsF l ((a : Int) + 1)
  · have := fits_mono hv hs a b hab hb (by rw [he]; rfl)
    rw [hp] at this
    cases this
  · rfl
/-- A height is that of a square of lattice points. -/
theorem height_sq {l : List R4} (hc : checkF l = 0) {x y : Int} (hx : -2000001 ≤ x ∧ x ≤ 2000001) (hy : -2000001 ≤ y ∧ y ≤ 2000001) {h : Nat} (h0 : 1 ≤ h) (h1 : h ≤ 2000001) : h ≤ heightF l x y ↔ ∀ X Y, x - h ≤ X → X < x + h → y - h ≤ Y → Y < y + h → pmem l (X / 2) (Y / 2) := by
  have hv := (checkF_ok hc).2.1
  have hs := (check_rcan hc).apart
  have hdn := countP_down (p := fun i => !notF l x y i) 2000001 (fun a b hab hb hp => by
    cases he : notF l x y a
    · rfl
    · have := not_mono hc hx hy a b hab hb he
      rw [this] at hp
      cases hp) (h - 1) (by omega)
  have e1 : h ≤ heightF l x y ↔ h - 1 < (List.range 2000001).countP (fun i => !notF l x y i) := by unfold heightF; omega
  rw [e1, hdn]
  have hw : wf4 (sqr x y h) := by unfold wf4 sqr; simp only; omega
  have hf : inFr 10000000 (sqr x y h) := by unfold inFr sqr; simp only; omega
  have ha : arQ (sqr x y h) = 2 * (h : Int) * (2 * (h : Int)) := by
    unfold arQ sqr
    simp only
    rw [show x + (h : Int) - (x - h) = 2 * (h : Int) by omega, show y + (h : Int) - (y - h) = 2 * (h : Int) by omega]
  have hle := onF_le hf hw (apart_dbl hs)
  have hfull := full_iff hf hw (apart_dbl hs)
  have e2 : (!notF l x y (h - 1)) = true ↔ ¬ covF l x y h < 2 * (h : Int) * (2 * (h : Int)) := by
    unfold notF
    rw [show (((h - 1 : Nat) : Int) + 1) = (h : Int) by omega]
    simp
  rw [e2]
  unfold covF
  rw [← ha]
  constructor
  · intro h2 X Y g1 g2 g3 g4
    have := hfull.1 (by omega) X Y (by unfold rin sqr; simp only; omega)
    rwa [pmem_dbl] at this
  · intro h2
    have := hfull.2 fun X Y hin => by
      unfold rin sqr at hin
      simp only at hin
      rw [pmem_dbl]
      exact h2 X Y hin.1 hin.2.1 hin.2.2.1 hin.2.2.2
    omega
end Go.Proofs.YtdolpeljengpaaaGreat

/- Plain: growing and shrinking of regions. -/
namespace Go.Proofs.YtdolpeljengpaaaGreat
set_option linter.unusedVariables false
set_option linter.unusedSimpArgs false

def growR (d : Int) (r : R4) : R4 := ⟨r.x0 - d, r.y0 - d, r.x1 + d, r.y1 + d⟩
/-- All points of the square of a point. -/
def full (l : List R4) (d x y : Int) : Prop := ∀ u v, x - d ≤ u → u ≤ x + d → y - d ≤ v → v ≤ y + d → pmem l u v
def near (l : List R4) (d x y : Int) : Prop := ∃ u v, x - d ≤ u ∧ u ≤ x + d ∧ y - d ≤ v ∧ v ≤ y + d ∧ pmem l u v
theorem rin_grow {r : R4} (hw : wf4 r) {d : Int} (hd : 0 ≤ d) (x y : Int) : rin (growR d r) x y ↔ ∃ u v, x - d ≤ u ∧ u ≤ x + d ∧ y - d ≤ v ∧ v ≤ y + d ∧ rin r u v := by
  obtain ⟨h1, h2⟩ := hw
  unfold rin growR
  constructor
  · rintro ⟨a, b, c, e⟩
    simp only at a b c e
    exact ⟨max r.x0 (min x (r.x1 - 1)), max r.y0 (min y (r.y1 - 1)), by omega, by omega, by omega, by omega, by omega, by omega, by omega, by omega⟩
  · rintro ⟨u, v, a, b, c, e, f, g, i, j⟩
    simp only
    omega
theorem near_grow {l : List R4} (hw : ∀ r ∈ l, wf4 r) {d : Int} (hd : 0 ≤ d) (x y : Int) : near l d x y ↔ pmem (l.map (growR d)) x y := by
  unfold near pmem
  constructor
  · rintro ⟨u, v, a, b, c, e, r, hr, h⟩
    exact ⟨growR d r, List.mem_map_of_mem hr, (rin_grow (hw r hr) hd x y).2 ⟨u, v, a, b, c, e, h⟩⟩
  · rintro ⟨z, hz, h⟩
    obtain ⟨r, hr, rfl⟩ := List.mem_map.1 hz
    obtain ⟨u, v, a, b, c, e, h⟩ := (rin_grow (hw r hr) hd x y).1 h
    exact ⟨u, v, a, b, c, e, r, hr, h⟩
theorem grow_wf {r : R4} (h : wf4 r) {d : Int} (hd : 0 ≤ d) : wf4 (growR d r) := by
  unfold wf4 growR at *
  simp only
  omega
/-! ### The rectangles of the hull that a region does not have -/
def Nx (p q : R4) : Prop := (p.x0 = q.x0 ∧ p.x1 = q.x1 ∧ p.y1 < q.y0) ∨ p.x1 ≤ q.x0
def CHN : List R4 → Prop
  | [] => True
  | [_] => True
  | a :: b :: r => Nx a b ∧ CHN (b :: r)
theorem CHN.tail {a : R4} : ∀ {l : List R4}, CHN (a :: l) → CHN l
  | [], _ => trivial
  | _ :: _, h => h.2
theorem CHN.append : ∀ {A B : List R4}, CHN A → CHN B → (∀ a b, A.getLast? = some a → B.head? = some b → Nx a b) → CHN (A ++ B)
  | [], B, _, hB, _ => hB
  | [a], [], _, _, _ => trivial
  | [a], b :: B, _, hB, h => ⟨h a b rfl rfl, hB⟩
  | a :: c :: A, B, hA, hB, h => ⟨hA.1, CHN.append (A := c :: A) hA.2 hB fun x y hx hy => h x y (by simpa using hx) hy⟩
theorem chn_flat1 {f t : Int} : ∀ {s : List Sp}, SCan s → CHN (s.map fun p => (⟨f, p.1, t, p.2⟩ : R4))
  | [], _ => trivial
  | [_], _ => trivial
  | p :: q :: s, h => ⟨.inl ⟨rfl, rfl, (List.pairwise_cons.1 h.2).1 q (by simp)⟩, chn_flat1 h.tail⟩
theorem chn_flat : ∀ {S : List Slab}, SOK S → CHN (flat S)
  | [], _ => trivial
  | a :: S, h => by
    have e : flat (a :: S) = flat1 a ++ flat S := by simp [flat]
    rw [e]
    refine CHN.append (chn_flat1 h.head.2.2) (chn_flat h.tail) fun p q hp hq => .inr ?_
    have hp' := List.mem_of_getLast? hp
    have hq' : q ∈ flat S := by
      cases hS : flat S with
      | nil => rw [hS] at hq; cases hq
      | cons z l => rw [hS] at hq; simp at hq; subst hq; simp
    unfold flat1 at hp'
    obtain ⟨u, _, rfl⟩ := List.mem_map.1 hp'
    unfold flat at hq'
    obtain ⟨b, hb, hq2⟩ := List.mem_flatMap.1 hq'
    unfold flat1 at hq2
    obtain ⟨v, _, rfl⟩ := List.mem_map.1 hq2
    exact h.after b hb
theorem chn_can {l : List R4} (h : RCan l) : CHN l := by
  obtain ⟨S, hS, rfl⟩ := h
  exact chn_flat hS
/-- A rectangle, unless it is empty. -/
def nz (z : R4) : List R4 := if z.x0 < z.x1 ∧ z.y0 < z.y1 then [z] else []
theorem pmem_nz (z : R4) (x y : Int) : pmem (nz z) x y ↔ rin z x y := by
  unfold nz
  split
  · simp [pmem]
  · rename_i h
    unfold pmem rin
    simp
    omega
def gapX (h : R4) : Option R4 → R4 → List R4
  | none, _ => []
  | some p, x => if p.x0 = x.x0 then [] else nz ⟨p.x1, h.y0, x.x0, h.y1⟩
def lowY (h : R4) : Option R4 → R4 → Int
  | none, _ => h.y0
  | some p, x => if p.x0 = x.x0 then p.y1 else h.y0
def topY (h : R4) (x : R4) : Option R4 → List R4
  | none => nz ⟨x.x0, x.y1, x.x1, h.y1⟩
  | some q => if q.x0 = x.x0 then [] else nz ⟨x.x0, x.y1, x.x1, h.y1⟩
def missAt (h : R4) (p : Option R4) (x : R4) (q : Option R4) : List R4 := gapX h p x ++ (nz ⟨x.x0, lowY h p x, x.x1, x.y0⟩ ++ topY h x q)
def missL (h : R4) : Option R4 → List R4 → List R4
  | _, [] => []
  | p, x :: r => missAt h p x r.head? ++ missL h (some x) r
/-- Where the points behind a rectangle lie. -/
theorem chn_behind {q : R4} : ∀ {r : List R4}, CHN (q :: r) → (∀ z ∈ q :: r, wf4 z) → ∀ {x y : Int}, pmem r x y → (q.x0 ≤ x ∧ x < q.x1 ∧ q.y1 < y ∧ ∃ z, r.head? = some z ∧ z.x0 = q.x0) ∨ q.x1 ≤ x
  | [], _, _, x, y, h => (pmem_nil h).elim
  | z :: r, hc, hw, x, y, h => by
    have hz := hw z (by simp)
    have hq := hw q (by simp)
    unfold wf4 at hz hq
    have hn := hc.1
    unfold Nx at hn
    rcases pmem_cons.1 h with h | h
    · unfold rin at h
      rcases hn with hn | hn
      · exact .inl ⟨by omega, by omega, by omega, z, rfl, by omega⟩
      · exact .inr (by omega)
    · rcases chn_behind hc.tail (fun w hw' => hw w (List.mem_cons_of_mem _ hw')) h with ⟨a, b, c, _⟩ | a
      · rcases hn with hn | hn
        · exact .inl ⟨by omega, by omega, by omega, z, rfl, by omega⟩
        · exact .inr (by omega)
      · rcases hn with hn | hn
        · exact .inr (by omega)
        · exact .inr (by omega)
/-- What is missing behind a rectangle. -/
theorem miss_behind {h : R4} : ∀ {r : List R4} {p : R4}, CHN (p :: r) → (∀ z ∈ p :: r, wf4 z) → (∀ z ∈ p :: r, h.y0 ≤ z.y0 ∧ z.y1 ≤ h.y1) → ∀ x y : Int,
    (pmem (missL h (some p) r) x y ↔ h.y0 ≤ y ∧ y < h.y1 ∧ ¬ pmem r x y ∧ (∃ z ∈ r, x < z.x1) ∧ ((p.x0 ≤ x ∧ x < p.x1 ∧ p.y1 ≤ y ∧ ∃ z, r.head? = some z ∧ z.x0 = p.x0) ∨ p.x1 ≤ x))
  | [], p, _, _, _, x, y => by simp [missL, pmem]
  | q :: r, p, hc, hw, hh, x, y => by
    have ih := miss_behind (h := h) (r := r) (p := q) hc.tail (fun z hz => hw z (List.mem_cons_of_mem _ hz)) (fun z hz => hh z (List.mem_cons_of_mem _ hz)) x y
    have hb : pmem r x y → _ := chn_behind hc.tail (fun z hz => hw z (List.mem_cons_of_mem _ hz)) (x := x) (y := y)
    have hp := hw p (by simp)
    have hq := hw q (by simp)
    have hq2 := hh q (by simp)
    have hp2 := hh p (by simp)
    have hn := hc.1
    unfold Nx at hn
    unfold wf4 at hp hq
    show pmem (missAt h (some p) q r.head? ++ missL h (some q) r) x y ↔ _
    unfold missAt
    rw [pmem_append, pmem_append, pmem_append, pmem_nz, ih]
    have e1 : (∃ z ∈ q :: r, x < z.x1) ↔ x < q.x1 ∨ ∃ z ∈ r, x < z.x1 := by simp
    have e2 : pmem (q :: r) x y ↔ rin q x y ∨ pmem r x y := pmem_cons
    have e3 : (∃ z, (q :: r).head? = some z ∧ z.x0 = p.x0) ↔ q.x0 = p.x0 := by simp
    rw [e1, e2, e3]
    have g1 : pmem (gapX h (some p) q) x y ↔ p.x0 ≠ q.x0 ∧ p.x1 ≤ x ∧ x < q.x0 ∧ h.y0 ≤ y ∧ y < h.y1 := by
      show pmem (if p.x0 = q.x0 then [] else nz ⟨p.x1, h.y0, q.x0, h.y1⟩) x y ↔ _
      split
      · rename_i e; simp [pmem, e]
      · rename_i e; rw [pmem_nz]; unfold rin; simp only; omega
    have g2 : lowY h (some p) q = if p.x0 = q.x0 then p.y1 else h.y0 := rfl
    have g3 : pmem (topY h q r.head?) x y ↔ (¬ ∃ z, r.head? = some z ∧ z.x0 = q.x0) ∧ q.x0 ≤ x ∧ x < q.x1 ∧ q.y1 ≤ y ∧ y < h.y1 := by
      cases hr : r.head? with
      | none => unfold topY; rw [pmem_nz]; unfold rin; simp
      | some z =>
        unfold topY
        simp only
        split
        · rename_i e; simp [pmem, e]
        · rename_i e; rw [pmem_nz]; unfold rin; simp [e]
    rw [g1, g2, g3]
    have hend : (∃ z, r.head? = some z ∧ z.x0 = q.x0) → ∃ z ∈ r, x < q.x1 → x < z.x1 := by
      rintro ⟨z, hz, hzx⟩
      cases r with
      | nil => cases hz
      | cons w r =>
        simp at hz
        subst hz
        have := hc.2.1
        unfold Nx at this
        have hw' := hw w (by simp)
        unfold wf4 at hw'
        exact ⟨w, by simp, fun _ => by omega⟩
    generalize (∃ z, r.head? = some z ∧ z.x0 = q.x0) = S at *
    generalize hE : (∃ z ∈ r, x < z.x1) = E at *
    have hend2 : S → x < q.x1 → E := fun s hx => by
      obtain ⟨z, hz, hzx⟩ := hend s
      rw [← hE]
      exact ⟨z, hz, hzx hx⟩
    generalize pmem r x y = M at *
    unfold rin
    simp only
    clear ih e1 e2 e3 g1 g2 g3 hend hE hc hw hh
    by_cases hS : S <;> by_cases hEE : E <;> by_cases hM : M <;> by_cases hpq : p.x0 = q.x0 <;> simp only [hS, hEE, hM, hpq, if_true, if_false, not_true, not_false_iff, true_and, and_true, false_and, and_false, or_false, false_or, true_or, or_true, ne_eq, true_implies, false_implies, iff_false, imp_false, implies_true] at hb hend2 ⊢ <;> omega
/-- **The hull's missing rectangles have just the hull's points that the region does not have.** -/
theorem miss_cover {l : List R4} (hc : RCan l) (hne : l ≠ []) {h : R4} (hh : IsHull l h) (x y : Int) : pmem (missL h none l) x y ↔ rin h x y ∧ ¬ pmem l x y := by
  cases l with
  | nil => exact absurd rfl hne
  | cons q r =>
    have hch := chn_can hc
    have hw := can_wf hc
    have hb : pmem r x y → _ := chn_behind hch hw (x := x) (y := y)
    have ih := miss_behind (h := h) hch hw (fun z hz => ⟨(hh.b z hz).2.1, (hh.b z hz).2.2.2⟩) x y
    have hq := hw q (by simp)
    have hq2 := hh.b q (by simp)
    unfold wf4 at hq
    have hx0 : h.x0 = q.x0 := by
      obtain ⟨z, hz, e⟩ := hh.a0
      have h1 := hq2.1
      have h2 : q.x0 ≤ z.x0 := by
        rcases List.mem_cons.1 hz with rfl | hz'
        · exact Int.le_refl _
        · have hzw := hw z hz
          unfold wf4 at hzw
          have := chn_behind hch hw (x := z.x0) (y := z.y0) ⟨z, hz', by unfold rin; omega⟩
          rcases this with ⟨a, _⟩ | a <;> omega
      omega
    have hx1 : x < h.x1 ↔ x < q.x1 ∨ ∃ z ∈ r, x < z.x1 := by
      constructor
      · intro hx
        obtain ⟨z, hz, e⟩ := hh.a2
        rcases List.mem_cons.1 hz with rfl | hz'
        · exact .inl (by omega)
        · exact .inr ⟨z, hz', by omega⟩
      · rintro (hx | ⟨z, hz, hx⟩)
        · omega
        · have := hh.b z (List.mem_cons_of_mem _ hz); omega
    have hend : (∃ z, r.head? = some z ∧ z.x0 = q.x0) → ∃ z ∈ r, x < q.x1 → x < z.x1 := by
      rintro ⟨z, hz, hzx⟩
      cases r with
      | nil => cases hz
      | cons w r =>
        simp at hz
        subst hz
        have := hch.1
        unfold Nx at this
        have hw' := hw w (by simp)
        unfold wf4 at hw'
        exact ⟨w, by simp, fun _ => by omega⟩
    show pmem (missAt h none q r.head? ++ missL h (some q) r) x y ↔ _
    unfold missAt
    rw [pmem_append, pmem_append, pmem_append, pmem_nz, ih]
    have e2 : pmem (q :: r) x y ↔ rin q x y ∨ pmem r x y := pmem_cons
    have g1 : pmem (gapX h none q) x y ↔ False := by simp [gapX, pmem]
    have g2 : lowY h none q = h.y0 := rfl
    have g3 : pmem (topY h q r.head?) x y ↔ (¬ ∃ z, r.head? = some z ∧ z.x0 = q.x0) ∧ q.x0 ≤ x ∧ x < q.x1 ∧ q.y1 ≤ y ∧ y < h.y1 := by
      cases hr : r.head? with
      | none => unfold topY; rw [pmem_nz]; unfold rin; simp
      | some z =>
        unfold topY
        simp only
        split
        · rename_i e; simp [pmem, e]
        · rename_i e; rw [pmem_nz]; unfold rin; simp [e]
    rw [e2, g1, g2, g3]
    have e4 : rin h x y ↔ h.x0 ≤ x ∧ (x < q.x1 ∨ ∃ z ∈ r, x < z.x1) ∧ h.y0 ≤ y ∧ y < h.y1 := by unfold rin; rw [hx1]
    rw [e4]
    generalize (∃ z, r.head? = some z ∧ z.x0 = q.x0) = S at *
    generalize hE : (∃ z ∈ r, x < z.x1) = E at *
    have hend2 : S → x < q.x1 → E := fun s hx => by
      obtain ⟨z, hz, hzx⟩ := hend s
      rw [← hE]
      exact ⟨z, hz, hzx hx⟩
    generalize pmem r x y = M at *
    unfold rin
    simp only
    clear ih e2 g1 g2 g3 e4 hend hE hch hw hh hx1 hne hc
    by_cases hS : S <;> by_cases hEE : E <;> by_cases hM : M <;> simp only [hS, hEE, hM, not_true, not_false_iff, true_and, and_true, false_and, and_false, or_false, false_or, true_or, or_true, true_implies, false_implies, iff_false, imp_false, implies_true] at hb hend2 ⊢ <;> omega
end Go.Proofs.YtdolpeljengpaaaGreat

/- Plain: what growing and shrinking give, in the code's way and in the reference's. -/
namespace Go.Proofs.YtdolpeljengpaaaGreat
set_option linter.unusedVariables false
set_option linter.unusedSimpArgs false

theorem nz_ok {z w : R4} (h : w ∈ nz z) : w = z ∧ wf4 z := by
  unfold nz at h
  split at h
  · rename_i g
    rw [List.mem_singleton] at h
    exact ⟨h, g⟩
  · cases h
theorem miss_all {h : R4} {C D : List Int} (h0 : h.y0 ∈ D) (h1 : h.y1 ∈ D) : ∀ {l : List R4} {p : Option R4}, (∀ q, p = some q → q.x1 ∈ C ∧ q.y1 ∈ D) → (∀ z ∈ l, z.x0 ∈ C ∧ z.x1 ∈ C ∧ z.y0 ∈ D ∧ z.y1 ∈ D) →
    ∀ z ∈ missL h p l, wf4 z ∧ z.x0 ∈ C ∧ z.x1 ∈ C ∧ z.y0 ∈ D ∧ z.y1 ∈ D
  | [], p, _, _, z, hz => by cases hz
  | x :: l, p, hp, hl, z, hz => by
    obtain ⟨a, b, c, e⟩ := hl x (by simp)
    have hz' : z ∈ missAt h p x l.head? ++ missL h (some x) l := hz
    rcases List.mem_append.1 hz' with hz | hz
    · unfold missAt at hz
      rcases List.mem_append.1 hz with hz | hz
      · cases p with
        | none => cases hz
        | some q =>
          obtain ⟨q1, q2⟩ := hp q rfl
          have hz2 : z ∈ if q.x0 = x.x0 then [] else nz ⟨q.x1, h.y0, x.x0, h.y1⟩ := hz
          split at hz2
          · cases hz2
          · obtain ⟨rfl, hw⟩ := nz_ok hz2
            exact ⟨hw, q1, a, h0, h1⟩
      · rcases List.mem_append.1 hz with hz | hz
        · obtain ⟨rfl, hw⟩ := nz_ok hz
          refine ⟨hw, a, b, ?_, c⟩
          show lowY h p x ∈ D
          cases p with
          | none => exact h0
          | some q =>
            show (if q.x0 = x.x0 then q.y1 else h.y0) ∈ D
            split
            · exact (hp q rfl).2
            · exact h0
        · have k : z ∈ nz ⟨x.x0, x.y1, x.x1, h.y1⟩ → wf4 z ∧ z.x0 ∈ C ∧ z.x1 ∈ C ∧ z.y0 ∈ D ∧ z.y1 ∈ D := fun hz => by
            obtain ⟨rfl, hw⟩ := nz_ok hz
            exact ⟨hw, a, b, e, h1⟩
          cases hq : l.head? with
          | none => rw [hq] at hz; exact k hz
          | some q =>
            rw [hq] at hz
            have hz2 : z ∈ if q.x0 = x.x0 then [] else nz ⟨x.x0, x.y1, x.x1, h.y1⟩ := hz
            split at hz2
            · cases hz2
            · exact k hz2
    · exact miss_all h0 h1 (fun q hq => by cases hq; exact ⟨b, e⟩) (fun w hw => hl w (List.mem_cons_of_mem _ hw)) z hz
theorem miss_ok {l : List R4} {h : R4} (hh : IsHull l h) : ∀ z ∈ missL h none l, wf4 z ∧ z.x0 ∈ cutsL l ∧ z.x1 ∈ cutsL l ∧ z.y0 ∈ cutsY l ∧ z.y1 ∈ cutsY l := by
  obtain ⟨r1, m1, e1⟩ := hh.a1
  obtain ⟨r3, m3, e3⟩ := hh.a3
  exact miss_all (e1 ▸ (mem_cutsY m1).1) (e3 ▸ (mem_cutsY m3).2) (fun q hq => by cases hq) fun z hz => ⟨(mem_cutsL hz).1, (mem_cutsL hz).2, (mem_cutsY hz).1, (mem_cutsY hz).2⟩
/-- **All points of the square belong to a region exactly if it lies in the hull and no missing rectangle is near.** -/
theorem full_miss {l : List R4} (hc : RCan l) (hne : l ≠ []) {h : R4} (hh : IsHull l h) {d : Int} (hd : 0 ≤ d) (x y : Int) : full l d x y ↔ rin (growR (-d) h) x y ∧ ¬ pmem ((missL h none l).map (growR d)) x y := by
  have hm := miss_cover hc hne hh
  have hin : ∀ u v, pmem l u v → rin h u v := fun u v ⟨r, hr, hin⟩ => by
    have := hh.b r hr
    unfold rin at *
    omega
  rw [← near_grow (fun z hz => (miss_ok hh z hz).1) hd]
  constructor
  · intro hf
    have a := hin _ _ (hf (x - d) (y - d) (by omega) (by omega) (by omega) (by omega))
    have b := hin _ _ (hf (x + d) (y + d) (by omega) (by omega) (by omega) (by omega))
    refine ⟨by unfold rin growR at *; simp only at *; omega, ?_⟩
    rintro ⟨u, v, h1, h2, h3, h4, hp⟩
    exact ((hm u v).1 hp).2 (hf u v h1 h2 h3 h4)
  · rintro ⟨a, b⟩ u v h1 h2 h3 h4
    by_cases hp : pmem l u v
    · exact hp
    · exact absurd ⟨u, v, h1, h2, h3, h4, (hm u v).2 ⟨by unfold rin growR at *; simp only at *; omega, hp⟩⟩ b
def growL (l : List R4) (d : Int) : List R4 := rjoin hSub (l.map (growR d)) []
theorem grow_ok {l : List R4} (hw : ∀ r ∈ l, wf4 r) {d : Int} (hd : 0 ≤ d) : RCan (growL l d) ∧ ∀ x y, pmem (growL l d) x y ↔ near l d x y := by
  have hg : ∀ r ∈ l.map (growR d), wf4 r := fun r hr => by
    obtain ⟨q, hq, rfl⟩ := List.mem_map.1 hr
    exact grow_wf (hw q hq) hd
  obtain ⟨h1, h2⟩ := rjoin_ok (h := hSub) rfl hg (b := []) (by simp)
  refine ⟨h1, fun x y => ?_⟩
  rw [growL, h2, near_grow hw hd]
  simp only [hSub, Bool.and_eq_true, Bool.not_eq_true', decide_eq_true_eq, decide_eq_false_iff_not]
  exact ⟨fun h => h.1, fun h => ⟨h, pmem_nil⟩⟩
/-- The holes, cut to the frame in x. -/
def outX (k z : R4) : Bool := decide (z.x1 ≤ k.x0) || decide (k.x1 ≤ z.x0)
def clip1 (k z : R4) : R4 := ⟨max z.x0 k.x0, z.y0, min z.x1 k.x1, z.y1⟩
def clipH (k : R4) (L : List R4) : List R4 := (L.filter fun z => !outX k z).map (clip1 k)
theorem clip_wf {k : R4} (hk : k.x0 < k.x1) {L : List R4} (hL : ∀ z ∈ L, wf4 z) : ∀ z ∈ clipH k L, wf4 z := fun z hz => by
  unfold clipH at hz
  obtain ⟨q, hq, rfl⟩ := List.mem_map.1 hz
  obtain ⟨h1, h2⟩ := List.mem_filter.1 hq
  have := hL q h1
  unfold outX at h2
  simp at h2
  unfold wf4 clip1 at *
  simp only
  omega
theorem clip_in {k : R4} {L : List R4} {x y : Int} (h : rin k x y) : pmem (clipH k L) x y ↔ pmem L x y := by
  unfold pmem clipH
  constructor
  · rintro ⟨z, hz, hr⟩
    obtain ⟨q, hq, rfl⟩ := List.mem_map.1 hz
    obtain ⟨h1, h2⟩ := List.mem_filter.1 hq
    refine ⟨q, h1, ?_⟩
    unfold rin clip1 at *
    simp only at hr
    omega
  · rintro ⟨q, hq, hr⟩
    refine ⟨clip1 k q, List.mem_map_of_mem (List.mem_filter.2 ⟨hq, ?_⟩), ?_⟩
    · unfold rin at *
      unfold outX
      simp
      omega
    · unfold rin clip1 at *
      simp only
      omega
def shrR (l : List R4) (d : Int) : List R4 := if l = [] then [] else if (growR (-d) (hullL l)).x1 ≤ (growR (-d) (hullL l)).x0 ∨ (growR (-d) (hullL l)).y1 ≤ (growR (-d) (hullL l)).y0 then []
  else rjoin hSub [growR (-d) (hullL l)] (clipH (growR (-d) (hullL l)) ((missL (hullL l) none l).map (growR d)))
theorem shr_ok {l : List R4} (hc : RCan l) {d : Int} (hd : 0 ≤ d) : RCan (shrR l d) ∧ ∀ x y, pmem (shrR l d) x y ↔ full l d x y := by
  unfold shrR
  split
  · rename_i hl
    subst hl
    refine ⟨RCan.nil, fun x y => ⟨fun h => (pmem_nil h).elim, fun h => ?_⟩⟩
    exact h x y (by omega) (by omega) (by omega) (by omega)
  · rename_i hne
    have hh := hullL_ok hne
    generalize hullL l = h at *
    have hf := full_miss hc hne hh hd
    split
    · rename_i he
      refine ⟨RCan.nil, fun x y => ⟨fun h => (pmem_nil h).elim, fun h => ?_⟩⟩
      have := ((hf x y).1 h).1
      unfold rin at this
      omega
    · rename_i he
      have hk : ∀ z ∈ [growR (-d) h], wf4 z := fun z hz => by
        rw [List.mem_singleton] at hz
        subst hz
        unfold wf4
        omega
      have hcl := clip_wf (k := growR (-d) h) (by omega) (L := (missL h none l).map (growR d)) fun z hz => by
        obtain ⟨q, hq, rfl⟩ := List.mem_map.1 hz
        exact grow_wf (miss_ok hh q hq).1 hd
      obtain ⟨h1, h2⟩ := rjoin_ok (h := hSub) rfl hk hcl
      refine ⟨h1, fun x y => ?_⟩
      rw [h2, hf]
      have e : pmem [growR (-d) h] x y ↔ rin (growR (-d) h) x y := by simp [pmem]
      simp only [hSub, Bool.and_eq_true, Bool.not_eq_true', decide_eq_true_eq, decide_eq_false_iff_not, e]
      constructor
      · rintro ⟨a, b⟩
        exact ⟨a, fun g => b ((clip_in a).2 g)⟩
      · rintro ⟨a, b⟩
        exact ⟨a, fun g => b ((clip_in a).1 g)⟩
/-! ### The reference's grid -/
def arnd (cs : List Int) (d : Int) : List Int := cs.flatMap fun c => [c - d, c + d]
def colG (ys : List Int) (p : Int → Int → Bool) (q : Int × Int) : List R4 := (canF ys (ys.map (p q.1))).map fun s => ⟨q.1, s.1, q.2, s.2⟩
def gridL (xs ys : List Int) (p : Int → Int → Bool) : List R4 := (prs xs).flatMap (colG ys p)
/-! ### Points counted in squares -/
def sqP (x y d : Int) : R4 := ⟨x - d, y - d, x + d + 1, y + d + 1⟩
def cntF (l : List R4) (x y d : Int) : Int := onF (sqP x y d) l
def areaD (d : Int) : Int := (2 * d + 1) * (2 * d + 1)
/-- The reference's region. -/
def refGrid (l : List R4) (d low high : Int) : List R4 :=
  gridL (srt (arnd (srt (cutsL l ++ cutsL [])) d)) (srt (arnd (srt (cutsY l ++ cutsY [])) d)) fun x y => decide (low ≤ cntF l x y d) && decide (cntF l x y d ≤ high)
/-! ### Depths -/
def dist1 (x y : Int) (g : R4) : Int := max (max (max (g.x0 - x) (x - g.x1 + 1)) (g.y0 - y)) (y - g.y1 + 1) - 1
def depB (h : R4) (x y : Int) : Int := min (min (min (x - h.x0) (h.x1 - 1 - x)) (y - h.y0)) (h.y1 - 1 - y)
def depP (h : R4) (L : List R4) (x y : Int) : Int := L.foldl (fun b g => min b (dist1 x y g)) (depB h x y)
end Go.Proofs.YtdolpeljengpaaaGreat

/- Plain: the sweep over the ends of spans that are kept and of holes, as the code does it. -/
namespace Go.Proofs.YtdolpeljengpaaaGreat
set_option linter.unusedVariables false
set_option linter.unusedSimpArgs false

def by0 (e : En) : Int := if e.2.1 = 0 then e.2.2 else 0
def by1 (e : En) : Int := if e.2.1 = 1 then e.2.2 else 0
def kz (x : Int) (e : En) : Int := if e.2.1 = 1 then (if e.1 < x then e.2.2 else if e.1 = x then min e.2.2 0 else 0) else 0
theorem sum_perm {α : Type} {f : α → Int} {A B : List α} (h : A.Perm B) : (A.map f).sum = (B.map f).sum := by
  induction h with
  | nil => rfl
  | cons a _ ih => simp [ih]
  | swap a b l => simp; omega
  | trans _ _ h1 h2 => rw [h1, h2]
theorem kz_evs0 (x : Int) : ∀ s : List Sp, ((evs 0 s).map (kz x)).sum = 0
  | [] => rfl
  | p :: s => by simp [evs, kz, kz_evs0 x s]
theorem kz_evs1 (x : Int) : ∀ s : List Sp, (∀ p ∈ s, p.1 < p.2) → 0 ≤ ((evs 1 s).map (kz x)).sum
  | [], _ => by simp [evs]
  | p :: s, h => by
    have ih := kz_evs1 x s fun q hq => h q (by simp [hq])
    have hp := h p (by simp)
    simp only [evs, List.map_cons, List.sum_cons, kz, if_true]
    repeat' split
    all_goals omega
theorem sum_le {α : Type} {f g : α → Int} : ∀ {L : List α}, (∀ x ∈ L, f x ≤ g x) → (L.map f).sum ≤ (L.map g).sum
  | [], _ => by simp
  | a :: L, h => by
    have h1 := h a (by simp)
    have h2 := sum_le (f := f) (g := g) (L := L) fun x hx => h x (by simp [hx])
    simp only [List.map_cons, List.sum_cons]
    omega
/-- **Behind any first part of the ends, in order, as many holes have begun as have ended, or more.** -/
theorem prefix_nn {a b : List Sp} (hb : ∀ p ∈ b, p.1 < p.2) {E P R : List En} (hp : E.Perm (evs 0 a ++ evs 1 b)) (hs : E.Pairwise (fun a b => a.1 ≤ b.1)) (hE : E = P ++ R) : 0 ≤ (P.map by1).sum := by
  rcases List.eq_nil_or_concat P with h | ⟨P', q, h⟩
  · subst h; simp
  · rw [List.concat_eq_append] at h
    have hs' := hs
    rw [hE, List.pairwise_append] at hs'
    have h1 : ∀ e ∈ P, e.1 ≤ q.1 := fun e he => by
      rw [h] at he hs'
      rcases List.mem_append.1 he with g | g
      · exact (List.pairwise_append.1 hs'.1).2.2 e g q (by simp)
      · simp at g; subst g; exact Int.le_refl _
    have h2 : ∀ e ∈ R, q.1 ≤ e.1 := fun e he => hs'.2.2 q (by rw [h]; simp) e he
    have e1 : (E.map (kz q.1)).sum = ((evs 0 a).map (kz q.1)).sum + ((evs 1 b).map (kz q.1)).sum := by rw [sum_perm hp, List.map_append, List.sum_append]
    have e2 : (E.map (kz q.1)).sum = (P.map (kz q.1)).sum + (R.map (kz q.1)).sum := by rw [hE, List.map_append, List.sum_append]
    have e3 := kz_evs0 q.1 a
    have e4 := kz_evs1 q.1 b hb
    have e5 : (P.map (kz q.1)).sum ≤ (P.map by1).sum := sum_le fun e he => by
      have := h1 e he
      unfold kz by1
      repeat' split
      all_goals omega
    have e6 : (R.map (kz q.1)).sum ≤ (R.map (fun _ => (0 : Int))).sum := sum_le fun e he => by
      have := h2 e he
      unfold kz
      repeat' split
      all_goals omega
    have e7 : ∀ L : List En, (L.map (fun _ => (0 : Int))).sum = 0 := fun L => by
      induction L with
      | nil => rfl
      | cons a L ih => simp [ih]
    rw [e7] at e6
    omega
theorem jf_counts (h : Bool → Bool → Bool) : ∀ (P : List En) (st : JS), (P.foldl (jstep h) st).o0 = st.o0 + (P.map by0).sum ∧ (P.foldl (jstep h) st).o1 = st.o1 + (P.map by1).sum
  | [], st => by simp
  | e :: P, st => by
    rw [List.foldl_cons]
    obtain ⟨h1, h2⟩ := jf_counts h P (jstep h st e)
    rw [h1, h2]
    simp only [jstep, List.map_cons, List.sum_cons, by0, by1]
    constructor <;> split <;> omega
theorem jf_at (h : Bool → Bool → Bool) {E : List En} {k : Nat} {e : En} (he : E[k]? = some e) : jfold h (E.take (k + 1)) = jstep h (jfold h (E.take k)) e := by
  unfold jfold
  rw [List.take_add_one, he, List.foldl_append]
  rfl
theorem by_bd : ∀ {P : List En}, (∀ e ∈ P, e.2.2 = 1 ∨ e.2.2 = -1) → -(P.length : Int) ≤ (P.map by0).sum ∧ (P.map by0).sum ≤ P.length ∧ -(P.length : Int) ≤ (P.map by1).sum ∧ (P.map by1).sum ≤ P.length
  | [], _ => by simp
  | e :: P, h => by
    have h1 := h e (by simp)
    have h2 := by_bd (P := P) fun x hx => h x (by simp [hx])
    simp only [List.map_cons, List.sum_cons, List.length_cons, by0, by1]
    repeat' split
    all_goals omega
theorem evs_by (i : Int) : ∀ (s : List Sp), ∀ e ∈ evs i s, (e.2.1 = i ∧ (e.2.2 = 1 ∨ e.2.2 = -1)) ∧ ∃ p ∈ s, e.1 = p.1 ∨ e.1 = p.2
  | [], e, he => by cases he
  | p :: s, e, he => by
    simp only [evs, List.mem_cons] at he
    rcases he with rfl | rfl | he
    · exact ⟨⟨rfl, .inl rfl⟩, p, by simp, .inl rfl⟩
    · exact ⟨⟨rfl, .inr rfl⟩, p, by simp, .inr rfl⟩
    · obtain ⟨h1, q, hq, h2⟩ := evs_by i s e he
      exact ⟨h1, q, by simp [hq], h2⟩
/-- What the walk's loop is told of the ends. -/
structure EvOk (E : List En) : Prop where
  sorted : E.Pairwise (fun a b => a.1 ≤ b.1)
  by1 : ∀ e ∈ E, e.2.2 = 1 ∨ e.2.2 = -1
  kind : ∀ e ∈ E, e.2.1 = 0 ∨ e.2.1 = 1
  nn : ∀ k, 0 ≤ (jfold hSub (E.take k)).o1
theorem ev_ok {a b : List Sp} (hb : ∀ p ∈ b, p.1 < p.2) {E : List En} (hp : E.Perm (evs 0 a ++ evs 1 b)) (hs : E.Pairwise (fun a b => a.1 ≤ b.1)) : EvOk E := by
  have hm : ∀ e ∈ E, (e.2.2 = 1 ∨ e.2.2 = -1) ∧ (e.2.1 = 0 ∨ e.2.1 = 1) := fun e he => by
    rcases List.mem_append.1 (hp.mem_iff.1 he) with h | h
    · have := (evs_by 0 a e h).1; exact ⟨this.2, .inl this.1⟩
    · have := (evs_by 1 b e h).1; exact ⟨this.2, .inr this.1⟩
  refine ⟨hs, fun e he => (hm e he).1, fun e he => (hm e he).2, fun k => ?_⟩
  unfold jfold
  rw [(jf_counts hSub (E.take k) js0).2]
  have := prefix_nn hb hp hs (List.take_append_drop k E).symm
  show 0 ≤ 0 + _
  omega
theorem ev_bd {E : List En} (h : EvOk E) (k : Nat) : -(E.length : Int) ≤ (jfold hSub (E.take k)).o0 ∧ (jfold hSub (E.take k)).o0 ≤ E.length ∧ (jfold hSub (E.take k)).o1 ≤ E.length := by
  have hb := by_bd (P := E.take k) fun e he => h.by1 e (List.mem_of_mem_take he)
  have hl : (E.take k).length ≤ E.length := by rw [List.length_take]; exact Nat.min_le_right _ _
  unfold jfold
  rw [(jf_counts hSub (E.take k) js0).1, (jf_counts hSub (E.take k) js0).2]
  show _ ≤ 0 + _ ∧ 0 + _ ≤ _ ∧ 0 + _ ≤ _
  omega
theorem ev_last {E : List En} (h : EvOk E) {k : Nat} {e : En} (he : E[k]? = some e) : (jfold hSub (E.take k)).inn = true → (jfold hSub (E.take k)).last ≤ e.1 := by
  cases k with
  | zero => intro hi; simp [jfold, js0] at hi
  | succ k =>
    intro _
    have hk : k + 1 < E.length := (List.getElem?_eq_some_iff.1 he).1
    obtain ⟨q, hq⟩ : ∃ q, E[k]? = some q := ⟨_, List.getElem?_eq_getElem (by omega)⟩
    rw [jf_at hSub hq]
    show q.1 ≤ e.1
    obtain ⟨h1, rfl⟩ := List.getElem?_eq_some_iff.1 he
    obtain ⟨h2, rfl⟩ := List.getElem?_eq_some_iff.1 hq
    exact List.pairwise_iff_getElem.1 h.sorted k (k + 1) h2 h1 (by omega)
/-- One end more. -/
theorem ev_step {E : List En} (h : EvOk E) {k : Nat} {e : En} (he : E[k]? = some e) :
    (jfold hSub (E.take (k + 1))).out = (if (jfold hSub (E.take k)).inn = true ∧ (jfold hSub (E.take k)).last < e.1 then sext (jfold hSub (E.take k)).out (jfold hSub (E.take k)).last e.1 else (jfold hSub (E.take k)).out) ∧
    (jfold hSub (E.take (k + 1))).last = e.1 ∧ (jfold hSub (E.take (k + 1))).o0 = (if e.2.1 = 0 then (jfold hSub (E.take k)).o0 + e.2.2 else (jfold hSub (E.take k)).o0) ∧ (jfold hSub (E.take (k + 1))).o1 = (if e.2.1 = 1 then (jfold hSub (E.take k)).o1 + e.2.2 else (jfold hSub (E.take k)).o1) ∧
    (jfold hSub (E.take (k + 1))).inn = (decide (0 < (jfold hSub (E.take (k + 1))).o0) && ((jfold hSub (E.take (k + 1))).o1 == 0)) := by
  have hn := h.nn (k + 1)
  have hl := ev_last h he
  rw [jf_at hSub he] at *
  generalize jfold hSub (E.take k) = st at *
  refine ⟨?_, rfl, rfl, rfl, ?_⟩
  · show jclose st e.1 = _
    unfold jclose
    by_cases hi : st.inn = true
    · have := hl hi
      by_cases hlt : st.last < e.1
      · rw [if_pos ⟨hi, by omega⟩, if_pos ⟨hi, hlt⟩]
      · rw [if_neg (fun g => g.2 (by omega)), if_neg (fun g => hlt g.2)]
    · rw [if_neg (fun g => hi g.1), if_neg (fun g => hi g.1)]
  · show hSub (decide (0 < (jstep hSub st e).o0)) (decide (0 < (jstep hSub st e).o1)) = _
    generalize (jstep hSub st e).o0 = p at *
    generalize (jstep hSub st e).o1 = q at *
    unfold hSub
    congr 1
    by_cases hq : q = 0
    · subst hq; rfl
    · rw [decide_eq_true (by omega : 0 < q)]
      have : (q == 0) = false := by simpa using hq
      rw [this]; rfl
end Go.Proofs.YtdolpeljengpaaaGreat

/- slices.SortFunc at offset.end, by its closure. -/
namespace Go.Proofs.YtdolpeljengpaaaGreat
open Go.RowKit Go.Sort
set_option linter.unusedVariables false
set_option linter.unusedSimpArgs false

/-- An end in range: there the closure's subtraction does not wrap. -/
abbrev BO := { e : En // -3000000 ≤ e.1 ∧ e.1 ≤ 3000000 }
instance : Inhabited BO := ⟨⟨(0, 0, 0), by decide⟩⟩
def encO (e : BO) : List Value := encE e.1
def cfO (x y : BO) : Int := x.1.1 - y.1.1
theorem lift_bo : ∀ (E : List En), (∀ e ∈ E, -3000000 ≤ e.1 ∧ e.1 ≤ 3000000) → ∃ L : List BO, L.map (·.1) = E
  | [], _ => ⟨[], rfl⟩
  | e :: E, h => by
    obtain ⟨L, hL⟩ := lift_bo E fun x hx => h x (by simp [hx])
    exact ⟨⟨e, h e (by simp)⟩ :: L, by simp [hL]⟩
theorem flat_bo (L : List BO) : L.flatMap encO = (L.map (·.1)).flatMap encE := by
  rw [List.flatMap_map]; rfl
theorem swoO : SWO (ltOf cfO) where
  irrefl x := by simp [ltOf, cfO]
  trans x y z h1 h2 := by
    unfold ltOf cfO at *
    have a := of_decide_eq_true h1
    have b := of_decide_eq_true h2
    exact decide_eq_true (by omega)
  ntrans x y z h1 h2 := by
    unfold ltOf cfO at *
    have a := of_decide_eq_false h1
    have b := of_decide_eq_false h2
    exact decide_eq_false (by omega)

set_option maxHeartbeats 1000000 in
theorem cmpO_any (x y : BO) (W : World) : Calls Tryz.prog 246 #[.agg (encO x).toArray, .agg (encO y).toArray] W fun e w' => e = .returned (.int .i64 (cfO x y)) ∧ ∃ q os', w' = grow (W.drewN q) os' := by
  obtain ⟨⟨a, b, c⟩, hx⟩ := x
  obtain ⟨⟨d, e, f⟩, hy⟩ := y
  show Calls Tryz.prog 246 #[.agg #[.int .i64 a, .int .i64 b, .int .i64 c], .agg #[.int .i64 d, .int .i64 e, .int .i64 f]] W fun r w' => r = .returned (.int .i64 (a - d)) ∧ ∃ q os', w' = grow (W.drewN q) os'
  simp only at hx hy
  obtain ⟨x1, x2⟩ := hx
  obtain ⟨y1, y2⟩ := hy
  go_enter Tryz.func246, Tryz.ntmps246
  go_wp2
  go_ret
  exact ⟨rfl, 0, _, by rw [alloc_eq_grow, alloc_eq_grow, grow_grow]; rfl⟩

/-- The sort's contract: the row then holds the ends in order; all else is as it was. -/
theorem sortO_any (base : Nat) (v : Value) (E : List En) (hB : ∀ e ∈ E, -3000000 ≤ e.1 ∧ e.1 ≤ 3000000) (w : World) (hown : w.ownsRow base 301 3 v E.length (E.flatMap encE)) (hsz : E.length < 4611686018427387904) :
    Calls Tryz.prog 245 #[v, .func (.func 246) #[] #[]] w fun e w' => e = .returned (.tuple #[]) ∧
      ∃ E' : List En, E'.Perm E ∧ E'.Pairwise (fun a b => a.1 ≤ b.1) ∧ w'.ownsRow base 301 3 v E'.length (E'.flatMap encE) ∧ w.grownBy w' v.ownBlock := by
  by_cases h0 : E = []
  · subst h0
    obtain ⟨p, cap, hv⟩ : ∃ p cap, v = .slice p 0 cap := by
      rcases hown.2 with ⟨rfl, _⟩ | ⟨g, cap, cur, rfl, _⟩
      · exact ⟨_, _, rfl⟩
      · exact ⟨_, _, rfl⟩
    subst hv
    have h := AnyF.slices_SortFunc_none Tryz.sortOff p cap (.func (.func 246) #[] #[]) w
    change Calls Tryz.prog 245 _ _ _ at h
    refine h.mono ?_
    rintro e w' ⟨rfl, rfl⟩
    exact ⟨rfl, [], .refl _, .nil, hown, ⟨rfl, rfl, rfl, Nat.le_refl _, fun _ _ _ => rfl⟩⟩
  · obtain ⟨L, hL⟩ := lift_bo E hB
    have hlen : L.length = E.length := by rw [← hL]; simp
    have hown0 := hown
    rw [← hL, ← flat_bo, List.length_map] at hown
    obtain ⟨g, cap, rfl, hbg, hg⟩ := hown.form (by rw [hlen]; exact List.length_pos_iff.2 h0)
    have hk : ∀ x : BO, (encO x).length = 3 := fun _ => rfl
    have hcon := AnyQ.slices_SortFunc Tryz.sortOff 3 Tryz.isAgg301 Tryz.sizeOf301 encO hk (fun x v hv => by simp [encO, encE] at hv; rcases hv with rfl | rfl | rfl <;> rfl) cfO swoO 246 #[] g 0 cap L.toArray w
      (enters_of Tryz.func246 (by kernel_rfl) rfl) (fun _ _ _ _ x y => cmpO_any x y _) (own_holds hk hown) hg (by simpa [hlen] using hsz)
    change Calls Tryz.prog 245 _ _ _ at hcon
    rw [List.size_toArray] at hcon
    refine hcon.mono ?_
    rintro e w' ⟨rfl, d', n, os, hp, hs, rfl⟩
    obtain ⟨hp1, _, hp3⟩ := hp
    have hsz' : d'.toList.length = L.length := by simpa using hp1
    have hperm : d'.toList.Perm L := by
      have e1 : (d'.extract 0 L.length).toList = d'.toList := by
        rw [Array.toList_extract, List.extract_eq_take_drop, List.drop_zero, Nat.sub_zero, ← hsz', List.take_length]
      have e2 : (L.toArray.extract 0 L.length).toList = L := by
        simp [List.extract]
      rw [e1, e2] at hp3
      exact hp3
    obtain ⟨o1, o2⟩ := own_sorted (n := n) (l' := d'.toList) hk os hown hsz'
    have eW : d'.toList.toArray = d' := by simp
    rw [eW] at o1 o2
    refine ⟨rfl, d'.toList.map (·.1), ?_, ?_, ?_, o2⟩
    · rw [← hL]; exact hperm.map _
    · rw [List.pairwise_map, List.pairwise_iff_getElem]
      intro i j hi hj hij
      have := hs i j (Nat.zero_le _) hij (by rw [← hsz']; exact hj)
      have hi' : i < d'.size := by simpa using hi
      have hj' : j < d'.size := by simpa using hj
      rw [getElem!_pos d' i hi', getElem!_pos d' j hj'] at this
      unfold ltOf cfO at this
      have := of_decide_eq_false this
      rw [Array.getElem_toList, Array.getElem_toList]
      omega
    · rw [List.length_map, ← flat_bo, ← hsz']
      rw [hsz'] at o1 ⊢
      exact o1
end Go.Proofs.YtdolpeljengpaaaGreat
