/- Texts laid together: BlkS, MSort, RefS, RefX, RefC, RefA, RefF, RefJ, RefE, RefK, LookA, JoinA, SlabB, MLook, MixTwo, JoinR, JoinU, TouchA, TouchB. Lemmas for the statements of this seat; no condition. -/
import Derived.Test.YtdolpeljengpaaaGreatPk7
import Derived.Test.YtdolpeljengpaaaGreatPk5
import Derived.Test.YtdolpeljengpaaaGreatPk4
import Derived.Test.YtdolpeljengpaaaGreatPk3
import Derived.Laws.CopyOwn
import Derived.Test.YtdolpeljengpaaaGreatPk1
import Derived.Laws.StructEq
import Derived.Deep.QuietTactic
import Derived.BigQuiet
import Derived.Test.YtdolpeljengpaaaGreatPk2

/- block.Streets: the walk. -/
namespace Go.Proofs.YtdolpeljengpaaaGreat
open Go.RowKit Go.Maps
set_option linter.unusedVariables false
set_option linter.unusedSimpArgs false

def fitR (r : R4) : Prop := ¬ min r.x0 r.y0 < -1000000 ∧ ¬ 1000000 < max r.x1 r.y1
instance (r : R4) : Decidable (fitR r) := by unfold fitR; infer_instance
/-- What Streets gives. -/
def strF (N : List Pt) (E : List Ei) (d : Int) : List R4 × Int := if chkN N E ≠ 0 then ([], chkN N E) else if d < 1 ∨ 1000 < d then ([], 2) else if 400 < E.length then ([], 4) else if ¬ ∀ s ∈ segsI N E, fitR (thickS d s) then ([], 16) else makeF ((segsI N E).map (thickS d))
set_option maxRecDepth 100000 in
set_option maxHeartbeats 8000000 in
theorem streets_any {w : World} {nv ev : Value} {N : List Pt} {E : List Ei} {d : Int} (hn : RdK encS 2 w w.heap.size nv N) (he : RdK encS 2 w w.heap.size ev E) :
    Calls Tryz.prog 11 #[.agg #[nv, ev], .int .i64 d] w fun e w' => RegRet w.heap.size (strF N E d) e w' ∧ Below w.heap.size w w' := by
  have HN := hide hn
  have HE := hide he
  obtain ⟨An, cn, rfl, _⟩ := hn
  obtain ⟨Ae, ce, rfl, _⟩ := he
  obtain ⟨i2, fi, fz0, fz1, fz2⟩ := info_parts infoRc
  have hb0 : Below w.heap.size w (w.alloc (.cells #[.slice An N.length cn, .slice Ae E.length ce] 25)) := (Below.refl _ _).alloc (Nat.le_refl _) _
  have HB0 := hide hb0
  clear hb0
  go_enter Tryz.func11, Tryz.ntmps11
  go_wp2_with (fail)
  refine (Segments_any ((HN.out.below HB0.out).mono HB0.out.size) ((HE.out.below HB0.out).mono HB0.out.size)).mono ?_
  rintro e w1 ⟨⟨ov, rfl, hq1, hq2⟩, hb1⟩
  have HB1 := hide (HB0.out.trans (hb1.mono HB0.out.size))
  by_cases h0 : chkN N E = 0
  · have ho := hq1 h0
    rw [h0]
    have HO := hide (own_rd ho (fun _ => rfl))
    have hsl : (segsI N E).length = E.length := by unfold segsI; simp
    have HSL := hide hsl
    have HOK : Hid (∀ s ∈ segsI N E, okSg s) := hide (fun s hs => by
      obtain ⟨e, he, rfl⟩ := List.mem_map.1 hs
      exact ((chkN_ok h0).2.2.1 e he).2)
    have hl8 : (segsI N E).length ≤ 800 := by rw [hsl]; exact (chkN_ok h0).2.1
    have HF0 : Hid (strF N E d = if d < 1 ∨ 1000 < d then ([], 2) else if 400 < (segsI N E).length then ([], 4) else if ¬ ∀ s ∈ segsI N E, fitR (thickS d s) then ([], 16) else makeF ((segsI N E).map (thickS d))) := hide (by unfold strF; rw [if_neg (fun h => h h0), hsl])
    clear hq1 hq2 h0 ho hb1 hsl HSL
    generalize segsI N E = l at *
    obtain ⟨A, c, rfl, hc⟩ := HO.out
    have HRC := hide hc
    clear hc HO
    by_cases h1 : d < 1
    · have HF : Hid (strF N E d = ([], 2)) := hide (by rw [HF0.out, if_pos (.inl h1)])
      have z1 : decide (d < 1) = true := decide_eq_true h1
      clear h1
      go_wp2
      go_ret2
      exact ⟨⟨none, 0, by rw [HF.out]; rfl, by rw [HF.out]; exact World.ownsRow_nil _ _ _ _⟩, HB1.out⟩
    · have z1 : decide (d < 1) = false := decide_eq_false h1
      by_cases h2 : 1000 < d
      · have HF : Hid (strF N E d = ([], 2)) := hide (by rw [HF0.out, if_pos (.inr h2)])
        have z2 : decide (1000 < d) = true := decide_eq_true h2
        clear h1 h2
        go_wp2
        go_ret2
        exact ⟨⟨none, 0, by rw [HF.out]; rfl, by rw [HF.out]; exact World.ownsRow_nil _ _ _ _⟩, HB1.out⟩
      · have z2 : decide (1000 < d) = false := decide_eq_false h2
        by_cases h3 : 400 < l.length
        · have HF : Hid (strF N E d = ([], 4)) := hide (by rw [HF0.out, if_neg (by omega), if_pos h3])
          have z3 : (400 : Int) < (l.length : Int) := by omega
          clear h1 h2 h3
          go_wp2
          go_ret2
          exact ⟨⟨none, 0, by rw [HF.out]; rfl, by rw [HF.out]; exact World.ownsRow_nil _ _ _ _⟩, HB1.out⟩
        · have z3 : ¬ (400 : Int) < (l.length : Int) := by omega
          have HF1 : Hid (strF N E d = if ¬ ∀ s ∈ l, fitR (thickS d s) then ([], 16) else makeF (l.map (thickS d))) := hide (by rw [HF0.out, if_neg (by omega), if_neg h3])
          have hd1 : 1 ≤ d := by omega
          have hd2 : d ≤ 1000 := by omega
          clear h1 h2 h3 HF0
          go_wp2
          clear z1 z2 z3
          go_loopw [8, 31] (fun o i wr => ∃ (m : Nat) (Ao : Option Addr) (co : Nat), m ≤ l.length ∧ i = .int .i64 (m : Int) ∧ o = .slice Ao m co ∧ Hid (Below w1.heap.size w1 wr) ∧ Hid (wr.ownsRow w1.heap.size 69 4 (.slice Ao m co) m (((l.map (thickS d)).take m).flatMap encR)) ∧ Hid (∀ s ∈ l.take m, fitR (thickS d s))) (fun _ i _ => l.length - (intOf i).toNat)
          case atStart => exact ⟨0, none, 0, Nat.zero_le _, rfl, rfl, hide (Below.refl _ _), hide (World.ownsRow_nil _ _ _ _), hide (by simp)⟩
          case round =>
            obtain ⟨m, Ao, co, hm, rfl, rfl, HB, HO, HV⟩ := hrel
            by_cases hlt : m < l.length
            · obtain ⟨s, hs⟩ : ∃ p, l[m]? = some p := ⟨_, List.getElem?_eq_getElem hlt⟩
              obtain ⟨b, o, rfl, hbl, k⟩ := HRC.out (by intro e; rw [e] at hlt; simp at hlt)
              have hb := HB.out
              have d0 : wr.cell? ⟨b, o + m * 4, none⟩ = some (.int .i64 s.ax) := (hb.cell (p := ⟨b, _, none⟩) hbl).trans (k m _ hs 0 _ rfl)
              have d1 : wr.cell? ⟨b, o + m * 4 + 1, none⟩ = some (.int .i64 s.ay) := (hb.cell (p := ⟨b, _, none⟩) hbl).trans (k m _ hs 1 _ rfl)
              have d2 : wr.cell? ⟨b, o + m * 4 + 2, none⟩ = some (.int .i64 s.cx) := (hb.cell (p := ⟨b, _, none⟩) hbl).trans (k m _ hs 2 _ rfl)
              have d3 : wr.cell? ⟨b, o + m * 4 + 3, none⟩ = some (.int .i64 s.cy) := (hb.cell (p := ⟨b, _, none⟩) hbl).trans (k m _ hs 3 _ rfl)
              obtain ⟨⟨⟨a1, a2⟩, ⟨a3, a4⟩, ⟨a5, a6⟩, a7, a8⟩, _⟩ := HOK.out s (List.mem_of_getElem? hs)
              have mz : (m : Int) < (l.length : Int) := by omega
              have HS := hide hs
              clear k hs hb
              have t0 : IntKind.i64.wrap (min s.ax s.cx - d) = min s.ax s.cx - d := by simp [IntKind.wrap, IntKind.bits, IntKind.signed]; omega
              have t1 : IntKind.i64.wrap (min s.ay s.cy - d) = min s.ay s.cy - d := by simp [IntKind.wrap, IntKind.bits, IntKind.signed]; omega
              have t2 : IntKind.i64.wrap (max s.ax s.cx + d) = max s.ax s.cx + d := by simp [IntKind.wrap, IntKind.bits, IntKind.signed]; omega
              have t3 : IntKind.i64.wrap (max s.ay s.cy + d) = max s.ay s.cy + d := by simp [IntKind.wrap, IntKind.bits, IntKind.signed]; omega
              clear a1 a2 a3 a4 a5 a6 a7 a8
              go_upto_region 13 with fail
              refine wp_name fun w5 hw5 => ?_
              obtain ⟨g5, hg5⟩ : ∃ g, g = wr.heap.size + 1 := ⟨_, rfl⟩
              have hb5 : Below wr.heap.size wr w5 := by
                rw [hw5]
                repeat (first | with_reducible exact Below.refl _ _ | with_reducible refine Below.setCell ?_ (by first | (simp; done) | (simp; omega)) _ | with_reducible refine Below.alloc ?_ (by first | omega | (simp; omega) | simp) _)
              have p0 : w5.cell? ⟨g5, 0, none⟩ = some (.int .i64 (min s.ax s.cx - d)) := by rw [hw5, hg5]; simp [go_sem]
              have p1 : w5.cell? ⟨g5, 1, none⟩ = some (.int .i64 (min s.ay s.cy - d)) := by rw [hw5, hg5]; simp [go_sem]
              have p2 : w5.cell? ⟨g5, 2, none⟩ = some (.int .i64 (max s.ax s.cx + d)) := by rw [hw5, hg5]; simp [go_sem]
              have p3 : w5.cell? ⟨g5, 3, none⟩ = some (.int .i64 (max s.ay s.cy + d)) := by rw [hw5, hg5]; simp [go_sem]
              have HTH : Hid (thickS d s = ⟨min s.ax s.cx - d, min s.ay s.cy - d, max s.ax s.cx + d, max s.ay s.cy + d⟩) := hide rfl
              have HB5 := hide (HB.out.trans (hb5.mono HB.out.size))
              have HO5 := hide (HO.out.kept (below_grow hb5) own_none_or)
              rw [← hg5]
              clear hw5 hb5 hg5 d0 d1 d2 d3 t0 t1 t2 t3 HB HO
              generalize min s.ax s.cx - d = X0 at *
              generalize min s.ay s.cy - d = Y0 at *
              generalize max s.ax s.cx + d = X1 at *
              generalize max s.ay s.cy + d = Y1 at *
              by_cases f1 : min X0 Y0 < -1000000
              · have z1 : decide (min X0 Y0 < -1000000) = true := decide_eq_true f1
                have HF : Hid (strF N E d = ([], 16)) := hide (by
                  rw [HF1.out, if_pos]
                  intro h
                  have := (h s (List.mem_of_getElem? HS.out)).1
                  rw [HTH.out] at this
                  exact this f1)
                clear f1
                go_wp2
                go_ret2
                exact ⟨⟨none, 0, by rw [HF.out]; rfl, by rw [HF.out]; exact World.ownsRow_nil _ _ _ _⟩, HB1.out.trans (HB5.out.mono HB1.out.size)⟩
              · have z1 : decide (min X0 Y0 < -1000000) = false := decide_eq_false f1
                by_cases f2 : 1000000 < max X1 Y1
                · have z2 : decide (1000000 < max X1 Y1) = true := decide_eq_true f2
                  have HF : Hid (strF N E d = ([], 16)) := hide (by
                    rw [HF1.out, if_pos]
                    intro h
                    have := (h s (List.mem_of_getElem? HS.out)).2
                    rw [HTH.out] at this
                    exact this f2)
                  clear f1 f2
                  go_wp2
                  go_ret2
                  exact ⟨⟨none, 0, by rw [HF.out]; rfl, by rw [HF.out]; exact World.ownsRow_nil _ _ _ _⟩, HB1.out.trans (HB5.out.mono HB1.out.size)⟩
                · have z2 : decide (1000000 < max X1 Y1) = false := decide_eq_false f2
                  have HFI : Hid (fitR (thickS d s)) := hide (by rw [HTH.out]; exact ⟨f1, f2⟩)
                  have hw5 : w1.heap.size ≤ w5.heap.size := HB5.out.size
                  have hml : m < 800 := by omega
                  clear f1 f2
                  go_wp2_with (at_builtin; go_loud (refine wpList_append_lies _ rfl (.tmp 86) (.tmp 88) 26 rfl w1.heap.size 69 i2 (.agg #[.int .i64 0, .int .i64 0, .int .i64 0, .int .i64 0]) 4 32 Tryz.underlying26 fi fz0 fz1 fz2 rfl (by decide) _ m _ rfl (World.ownsRow.alloc HO5.out _) ⟨w5.heap.size, 0, none⟩ 1 1 [.int .i64 X0, .int .i64 Y0, .int .i64 X1, .int .i64 Y1] rfl rfl (news_new w5 _ _ _ (by simp)) (ints_one rfl) (by omega) (by unfold maxLen; omega) (by omega) (by simp; omega) _ rfl ?_))
                  intro g9 cap9 w9 hown9 hgrow9 hor9 hlt9
                  have hal : Below w5.heap.size w5 (w5.alloc (.cells #[.int .i64 X0, .int .i64 Y0, .int .i64 X1, .int .i64 Y1] 69)) := (Below.refl _ _).alloc (Nat.le_refl _) _
                  have HB9 : Hid (Below w1.heap.size w1 w9) := hide ((HB5.out.trans (hal.mono hw5)).grown hgrow9 (by simp; omega) (fun q hq => (HO5.out.lt q hq).1))
                  have hx9 : ((l.map (thickS d)).take m).flatMap encR ++ [.int .i64 X0, .int .i64 Y0, .int .i64 X1, .int .i64 Y1] = ((l.map (thickS d)).take (m + 1)).flatMap encR := by
                    rw [List.take_add_one, List.getElem?_map, HS.out, Option.map_some, Option.toList_some, List.flatMap_append, HTH.out]
                    simp only [List.flatMap_cons, List.flatMap_nil, List.append_nil, encR]
                  rw [hx9] at hown9
                  have HO9 := hide hown9
                  have HV9 : Hid (∀ s ∈ l.take (m + 1), fitR (thickS d s)) := hide (by
                    intro q hq
                    rw [List.take_add_one, HS.out, Option.toList_some, List.mem_append, List.mem_singleton] at hq
                    rcases hq with hq | rfl
                    · exact HV.out q hq
                    · exact HFI.out)
                  clear hown9 hgrow9 hor9 hlt9 hal hx9 p0 p1 p2 p3 z1 z2 HB5 HO5
                  go_wp2
                  go_roundw
                  case rel => exact ⟨m + 1, _, cap9, by omega, by go_num, rfl, HB9, HO9, HV9⟩
                  case measure => simp [intOf]; omega
            · have mz : ¬ (m : Int) < (l.length : Int) := by omega
              obtain rfl : m = l.length := by omega
              have ht : l.take l.length = l := List.take_length
              have ht2 : (l.map (thickS d)).take l.length = l.map (thickS d) := List.take_of_length_le (by simp)
              rw [ht2] at HO
              rw [ht] at HV
              have HF : Hid (strF N E d = makeF (l.map (thickS d))) := hide (by rw [HF1.out, if_neg (fun h => h HV.out)])
              clear ht ht2
              go_wp2_with (fail)
              have ho := HO.out
              have e1 : (l.map (thickS d)).length = l.length := by simp
              rw [← e1] at ho ⊢
              refine (make_any (own_rd ho (fun _ => rfl)) (by rw [e1]; omega)).mono ?_
              rintro e w9 ⟨⟨A9, c9, rfl, o9⟩, hb9⟩
              have HB9 := hide (HB1.out.trans ((HB.out.trans (hb9.mono HB.out.size)).mono HB1.out.size))
              have HO9 := hide (own_base o9 (Nat.le_trans HB1.out.size HB.out.size))
              clear ho o9 hb9
              rw [← HF.out] at *
              go_wp2
              go_ret2
              exact ⟨⟨A9, c9, rfl, HO9.out⟩, HB9.out⟩
  · have hov := hq2 h0
    subst hov
    have HF : Hid (strF N E d = ([], chkN N E)) := hide (by unfold strF; rw [if_pos h0])
    have hz : (chkN N E != 0) = true := by simpa using h0
    clear hq1 hq2 h0 hb1
    go_wp2
    go_ret2
    exact ⟨⟨none, 0, by rw [HF.out]; rfl, by rw [HF.out]; exact World.ownsRow_nil _ _ _ _⟩, HB1.out⟩
end Go.Proofs.YtdolpeljengpaaaGreat

/- Plain law: the reference's sorted lists, and its canonical list of spans. -/
namespace Go.Proofs.YtdolpeljengpaaaGreat
set_option linter.unusedVariables false
set_option linter.unusedSimpArgs false

def srt (l : List Int) : List Int := l.foldl (fun acc c => insI c acc) []
theorem insI_len (c : Int) : ∀ (l : List Int), (insI c l).length ≤ l.length + 1
  | [] => by simp [insI]
  | a :: l => by
    have := insI_len c l
    simp only [insI]
    split
    · simp
    · split
      · simp
      · simp; omega
/-- The canonical list: from each cut that is in to the next one. -/
def canF (cs : List Int) (bs : List Bool) : List Sp := ((prs cs).zip bs).foldl (fun out x => if x.2 then sext out x.1.1 x.1.2 else out) []
def canG (p : Int → Bool) : List Sp → List Int → List Sp
  | out, c :: d :: r => canG p (if p c then sext out c d else out) (d :: r)
  | out, _ => out
/-- The cuts in y. -/
def cutsY (l : List R4) : List Int := l.flatMap fun r => [r.y0, r.y1]
/-- The reference's cross-section at a cut. -/
def refG (h : Bool → Bool → Bool) (a b : List R4) (ys : List Int) (x : Int) : List Sp := canF ys (ys.map fun y => h (decide (pmem a x y)) (decide (pmem b x y)))
end Go.Proofs.YtdolpeljengpaaaGreat

/- The reference's Sorted. -/
namespace Go.Proofs.YtdolpeljengpaaaGreat
open Go.RowKit
set_option linter.unusedVariables false
set_option linter.unusedSimpArgs false

def encI (x : Int) : List Value := [iv x]
theorem below_drewN {B : Nat} {w W : World} (h : Below B w W) (n : Nat) : Below B w (W.drewN n) := h.trans ⟨rfl, rfl, rfl, Nat.le_refl _, fun _ _ => rfl⟩
theorem name_exit {Q : Exit → Act → World → Prop} {e : Exit} {a : Act} {W : World} (h : ∀ w, w = W → Q e a w) : Q e a W := h W rfl
end Go.Proofs.YtdolpeljengpaaaGreat

/- The reference's cuts: Xs and Ys. -/
namespace Go.Proofs.YtdolpeljengpaaaGreat
open Go.RowKit
set_option linter.unusedVariables false
set_option linter.unusedSimpArgs false

end Go.Proofs.YtdolpeljengpaaaGreat

/- The reference's Canon. -/
namespace Go.Proofs.YtdolpeljengpaaaGreat
open Go.RowKit
set_option linter.unusedVariables false
set_option linter.unusedSimpArgs false

def encBo (x : Bool) : List Value := [.bool x]
/-- The canonical list behind m cuts. -/
def canP (cs : List Int) (bs : List Bool) (m : Nat) : List Sp := (((prs cs).zip bs).take m).foldl (fun out x => if x.2 then sext out x.1.1 x.1.2 else out) []
end Go.Proofs.YtdolpeljengpaaaGreat

/- The reference's small functions: In, Valid, Has, Holds, Great. -/
namespace Go.Proofs.YtdolpeljengpaaaGreat
open Go.RowKit
set_option linter.unusedVariables false
set_option linter.unusedSimpArgs false

instance (x : Int) : Decidable (fineP x) := by unfold fineP; infer_instance
def hk (k : Int) (a b : Bool) : Bool := if k = 1 then a && b else if k = 2 then a || b else a && !b
def greatP (n : Nat) : Prop := (60 < n ∧ n ≤ 400) ∨ 420 < n
instance (n : Nat) : Decidable (greatP n) := by unfold greatP; infer_instance
end Go.Proofs.YtdolpeljengpaaaGreat

/- The reference's Same of spans: two lists are one. -/
namespace Go.Proofs.YtdolpeljengpaaaGreat
open Go.RowKit
set_option linter.unusedVariables false
set_option linter.unusedSimpArgs false

end Go.Proofs.YtdolpeljengpaaaGreat

/- The reference's Joined. -/
namespace Go.Proofs.YtdolpeljengpaaaGreat
open Go.RowKit
set_option linter.unusedVariables false
set_option linter.unusedSimpArgs false

/-- The rows of the call's own: the cuts, what is put out, and the cross-section before. -/
structure RJ (w : World) (vx vy vo vl : Value) (xs ys : List Int) (L : List R4) (last : List Sp) (wr : World) : Prop where
  low : Below w.heap.size w wr
  x : wr.ownsRow w.heap.size 3 1 vx xs.length (xs.map iv)
  y : wr.ownsRow w.heap.size 3 1 vy ys.length (ys.map iv)
  o : wr.ownsRow w.heap.size 69 4 vo L.length (L.flatMap encR)
  l : wr.ownsRow w.heap.size 188 2 vl last.length (last.flatMap encS)
section
variable {w wr w2 : World} {vx vy vo vl v2 : Value} {xs ys : List Int} {L L' : List R4} {ll : List Sp}
theorem RJ.below (h : RJ w vx vy vo vl xs ys L ll wr) (hb : Below wr.heap.size wr w2) : RJ w vx vy vo vl xs ys L ll w2 :=
  ⟨h.low.trans (hb.mono h.low.size), own_below h.x hb, own_below h.y hb, own_below h.o hb, own_below h.l hb⟩
theorem RJ.last (h : RJ w vx vy vo vl xs ys L ll wr) {s : List Sp} (hs : wr.ownsRow w.heap.size 188 2 v2 s.length (s.flatMap encS)) : RJ w vx vy vo v2 xs ys L s wr := ⟨h.low, h.x, h.y, h.o, hs⟩
end
end Go.Proofs.YtdolpeljengpaaaGreat

/- The reference's SameRects: two lists are one. -/
namespace Go.Proofs.YtdolpeljengpaaaGreat
open Go.RowKit
set_option linter.unusedVariables false
set_option linter.unusedSimpArgs false

end Go.Proofs.YtdolpeljengpaaaGreat

/- The reference's Check, Make, Area. -/
namespace Go.Proofs.YtdolpeljengpaaaGreat
open Go.RowKit
set_option linter.unusedVariables false
set_option linter.unusedSimpArgs false

theorem isortI_len : ∀ (l : List Int), (isortI l).length ≤ l.length
  | [] => Nat.le_refl _
  | c :: l => by
    have h1 := insI_len c (isortI l)
    have h2 := isortI_len l
    simp only [isortI, List.length_cons]
    omega
theorem makeF_len (l : List R4) : (makeF l).1.length ≤ 400 := by
  unfold makeF
  split
  · simp
  · split
    · simp
    · unfold madeF
      split
      · simp
      · simp only; omega
theorem checkF_valid {l : List R4} (h4 : ¬ 400 < l.length) (ha : l.any (fun r => !decide (valid4 r)) = false) : checkF l = if rjoin hFst l [] = l then 0 else 8 := by
  unfold checkF
  rw [if_neg h4, ha]
  simp only [Bool.false_eq_true, if_false]
  unfold madeF
  by_cases hr : rjoin hFst l [] = l
  · rw [hr, if_neg h4, if_pos rfl, if_pos ⟨rfl, rfl⟩]
  · rw [if_neg hr]
    by_cases h5 : 400 < (rjoin hFst l []).length
    · rw [if_pos h5, if_neg (by simp)]
    · rw [if_neg h5, if_neg (fun h => hr h.2)]

end Go.Proofs.YtdolpeljengpaaaGreat

/- region.Cross, region.Move, region.Flip. -/
namespace Go.Proofs.YtdolpeljengpaaaGreat
open Go.RowKit
set_option linter.unusedVariables false
set_option linter.unusedSimpArgs false

/-- A list of spans and an error code come back. -/
def SpnRet (B : Nat) (x : List Sp × Int) (e : Ending) (w' : World) : Prop :=
  ∃ A c, e = .returned (.tuple #[.slice A x.1.length c, .int .i64 x.2]) ∧ w'.ownsRow B 188 2 (.slice A x.1.length c) x.1.length (x.1.flatMap encS)
def crossF (l : List R4) (x : Int) : List Sp × Int := if checkF l = 0 then (crossL l x, 0) else ([], checkF l)
def mv (x y : Int) (r : R4) : R4 := ⟨r.x0 + x, r.y0 + y, r.x1 + x, r.y1 + y⟩
def inMv (x : Int) : Prop := -2000000 ≤ x ∧ x ≤ 2000000
instance (x : Int) : Decidable (inMv x) := by unfold inMv; infer_instance
def moveF (l : List R4) (x y : Int) : List R4 × Int := if checkF l = 0 then (if l = [] ∨ (inMv x ∧ inMv y ∧ ∀ r ∈ l, valid4 (mv x y r)) then (l.map (mv x y), 0) else ([], 16)) else ([], checkF l)
def flip4 (r : R4) : R4 := ⟨r.y0, r.x0, r.y1, r.x1⟩
def flipF (l : List R4) : List R4 × Int := if checkF l = 0 then madeF (l.map flip4) else ([], checkF l)
end Go.Proofs.YtdolpeljengpaaaGreat

/- span.Check at a canonical set; span.checked; span.Union, Meet, Minus; region.both and the reference's Both and Join. -/
namespace Go.Proofs.YtdolpeljengpaaaGreat
open Go.RowKit
set_option linter.unusedVariables false
set_option linter.unusedSimpArgs false

set_option maxRecDepth 100000 in
set_option maxHeartbeats 2000000 in
theorem spCheck_can {w : World} {v : Value} {s : List Sp} (hr : RdK encS 2 w w.heap.size v s) (hl : s.length ≤ 400) (hc : SCan s) (hv : ∀ p ∈ s, validS p) :
    Calls Tryz.prog 188 #[v] w fun e w' => e = .returned (.int .i64 0) ∧ Below w.heap.size w w' := by
  obtain ⟨A, c, rfl, hrd⟩ := hr
  have HR := hide hrd
  have HC := hide hc
  have HV := hide hv
  have lz : (s.length : Int) ≤ 400 := by omega
  clear hrd hc hv
  go_enter Tryz.func188, Tryz.ntmps188
  go_wp2
  go_loopw [10] (fun i wr => ∃ m : Nat, m ≤ s.length ∧ i = .int .i64 m ∧ Hid (Below w.heap.size w wr)) (fun i _ => s.length - (intOf i).toNat)
  case atStart => exact ⟨0, Nat.zero_le _, rfl, hide (Below.refl _ _)⟩
  case round =>
    obtain ⟨m, hm, rfl, HB⟩ := hrel
    by_cases hlt : m < s.length
    · obtain ⟨⟨x, y⟩, hp⟩ : ∃ p, s[m]? = some p := ⟨_, List.getElem?_eq_getElem hlt⟩
      obtain ⟨b, o, rfl, hbl, k⟩ := HR.out (by intro e; rw [e] at hlt; simp at hlt)
      have d0 : wr.cell? ⟨b, o + m * 2, none⟩ = some (.int .i64 x) := (HB.out.cell (p := ⟨b, _, none⟩) hbl).trans (k m _ hp 0 _ rfl)
      have d1 : wr.cell? ⟨b, o + m * 2 + 1, none⟩ = some (.int .i64 y) := (HB.out.cell (p := ⟨b, _, none⟩) hbl).trans (k m _ hp 1 _ rfl)
      have mz : (m : Int) < (s.length : Int) := by omega
      have hsz := HB.out.size
      have hbw : b < wr.heap.size := by omega
      have HVA : Hid (∀ W, Calls Tryz.prog 183 #[.agg #[.int .i64 x, .int .i64 y]] W fun e w' => e = .returned (.bool true) ∧ Below W.heap.size W w') := hide (fun W => by
        have := validS_any (x, y) W
        rw [decide_eq_true (HV.out _ (List.mem_of_getElem? hp))] at this
        exact this)
      have HP := hide hp
      clear hp
      rcases Nat.eq_zero_or_pos m with rfl | hmp
      · clear k
        simp only [Nat.zero_mul, Nat.add_zero] at d0 d1
        rw [show ((0 : Nat) : Int) = 0 from rfl] at *
        go_wp2
        refine wp_hab fun hab => ?_
        refine wp_region_above (by kernel_rfl) (by kernel_rfl) ?_
        repeat (go_big_quiet_step ((go_at_call 183; exact above_of (HVA.out _))))
        refine wpQuiet_nil ?_
        refine above_ends fun w3 hb3 => ?_
        clear hab
        have HB3 := hide ((HB.out.alloc hsz _).trans (hb3.mono (by simp; omega)))
        clear hb3
        go_wp2
        go_roundw
        case rel => exact ⟨0 + 1, by omega, by go_num, HB3⟩
        case measure => simp [intOf]; omega
      · obtain ⟨j, rfl⟩ : ∃ j, m = j + 1 := ⟨m - 1, by omega⟩
        obtain ⟨⟨p, q⟩, hq⟩ : ∃ p, s[j]? = some p := ⟨_, List.getElem?_eq_getElem (by omega)⟩
        have d2 : wr.cell? ⟨b, o + j * 2 + 1, none⟩ = some (.int .i64 q) := (HB.out.cell (p := ⟨b, _, none⟩) hbl).trans (k j _ hq 1 _ rfl)
        have hqx : q < x := by
          obtain ⟨i1, e1⟩ := List.getElem?_eq_some_iff.1 hq
          obtain ⟨i2, e2⟩ := List.getElem?_eq_some_iff.1 HP.out
          have := List.pairwise_iff_getElem.1 HC.out.2 j (j + 1) i1 i2 (by omega)
          rw [e1, e2] at this
          exact this
        have hge : decide (x ≤ q) = false := decide_eq_false (by omega)
        have q1 : (0 : Int) < (j : Int) + 1 := by omega
        have q2 : (j : Int) < (s.length : Int) := by omega
        have q3 : IntKind.i64.wrap ((j : Int) + 1 - 1) = j := by simp [IntKind.wrap, IntKind.bits, IntKind.signed]; omega
        have q5 : IntKind.i64.wrap (j : Int) = j := by simp [IntKind.wrap, IntKind.bits, IntKind.signed]; omega
        have q4 : (0 : Int) ≤ (j : Int) := by omega
        have q6 : decide ((0 : Int) < (j : Int) + 1) = true := decide_eq_true q1
        clear k hq hmp
        rw [show ((j + 1 : Nat) : Int) = (j : Int) + 1 from rfl] at *
        go_wp2
        refine wp_hab fun hab => ?_
        refine wp_region_above (by kernel_rfl) (by kernel_rfl) ?_
        repeat (go_big_quiet_step ((go_at_call 183; exact above_of (HVA.out _))))
        refine wpQuiet_nil ?_
        refine above_ends fun w3 hb3 => ?_
        clear hab
        have HB3 := hide ((HB.out.alloc hsz _).trans (hb3.mono (by simp; omega)))
        clear hb3 q3 q5
        go_wp2
        go_roundw
        case rel => exact ⟨j + 1 + 1, by omega, by go_num, HB3⟩
        case measure => simp [intOf]; omega
    · have mz : ¬ (m : Int) < (s.length : Int) := by omega
      go_wp2
      go_ret
      exact ⟨rfl, HB.out⟩

/-- What span.checked returns for canonical sets. -/
def sjF (h : Bool → Bool → Bool) (a b : List Sp) : List Sp × Int := if 400 < (sjoin h a b).length then ([], 4) else (sjoin h a b, 0)
set_option maxHeartbeats 2000000 in
theorem checked_any (a b : List Sp) (va vb : Value) (w : World) (g : Nat) (h : Bool → Bool → Bool) (h0 : h false false = false) (eg : ∀ args w, (callFunc g args).run Tryz.prog w = .ok (.enter g args) w)
    (hg : ∀ (x y : Bool) (W : World), Calls Tryz.prog g #[.bool x, .bool y] W fun e w' => e = .returned (.bool (h x y)) ∧ W = w')
    (ra : RdK encS 2 w w.heap.size va a) (rb : RdK encS 2 w w.heap.size vb b) (na : a.length ≤ 400) (nb : b.length ≤ 400) (ca : SCan a) (cb : SCan b) (ba : ∀ p ∈ a, validS p) (bb : ∀ p ∈ b, validS p) :
    Calls Tryz.prog 149 #[va, vb, .func (.func g) #[] #[]] w fun e w' => SpnRet w.heap.size (sjF h a b) e w' ∧ Below w.heap.size w w' := by
  have hcA := spCheck_can ra na ca ba
  have hcB := fun (W : World) (hW : Below w.heap.size w W) => spCheck_can (w := W) ((rb.below hW).mono hW.size) nb cb bb
  have hj := fun (W : World) (hW : Below w.heap.size w W) => sjoin_any a b va vb W g h h0 eg hg ((ra.below hW).mono hW.size) ((rb.below hW).mono hW.size) (by omega) (by omega) ba bb
  obtain ⟨A1, c1, hva, _⟩ := ra
  obtain ⟨A2, c2, hvb, _⟩ := rb
  subst hva; subst hvb
  have HCA := hide hcA
  have HCB := hide hcB
  have HJ := hide hj
  have hsl := sjoin_len h a b
  have hF : sjF h a b = if 400 < (sjoin h a b).length then ([], 4) else (sjoin h a b, 0) := rfl
  have HF := hide hF
  clear hcA hcB hj ca cb ba bb hg hF
  generalize sjoin h a b = s at *
  by_cases h4 : 400 < s.length
  · have hz : (400 : Int) < (s.length : Int) := by omega
    have HF2 : Hid (sjF h a b = ([], 4)) := hide (by rw [HF.out, if_pos h4])
    go_enter Tryz.func149, Tryz.ntmps149
    go_wp2_with (fail)
    refine HCA.out.mono ?_
    rintro e w1 ⟨rfl, hb1⟩
    have HB1 := hide hb1
    clear hb1
    go_wp2_with (fail)
    refine (HCB.out _ HB1.out).mono ?_
    rintro e w2 ⟨rfl, hb2⟩
    have HB2 := hide (HB1.out.trans (hb2.mono HB1.out.size))
    clear hb2
    go_wp2_with (fail)
    refine (HJ.out _ HB2.out).mono ?_
    rintro e w3 ⟨A3, c3, rfl, ho3, hb3⟩
    have HO3 := hide ho3
    have HB3 := hide (HB2.out.trans (hb3.mono HB2.out.size))
    clear hb3 ho3
    go_wp2_with (fail)
    go_ret2
    exact ⟨⟨none, 0, by rw [HF2.out]; rfl, by rw [HF2.out]; exact World.ownsRow_nil _ _ _ _⟩, HB3.out⟩
  · have hz : (s.length : Int) ≤ 400 := by omega
    have HF2 : Hid (sjF h a b = (s, 0)) := hide (by rw [HF.out, if_neg h4])
    go_enter Tryz.func149, Tryz.ntmps149
    go_wp2_with (fail)
    refine HCA.out.mono ?_
    rintro e w1 ⟨rfl, hb1⟩
    have HB1 := hide hb1
    clear hb1
    go_wp2_with (fail)
    refine (HCB.out _ HB1.out).mono ?_
    rintro e w2 ⟨rfl, hb2⟩
    have HB2 := hide (HB1.out.trans (hb2.mono HB1.out.size))
    clear hb2
    go_wp2_with (fail)
    refine (HJ.out _ HB2.out).mono ?_
    rintro e w3 ⟨A3, c3, rfl, ho3, hb3⟩
    have HO3 := hide (own_base (base := w.heap.size) ho3 HB2.out.size)
    have HB3 := hide (HB2.out.trans (hb3.mono HB2.out.size))
    clear hb3 ho3
    go_wp2_with (fail)
    go_ret2
    exact ⟨⟨A3, c3, by rw [HF2.out]; rfl, by rw [HF2.out]; exact HO3.out⟩, HB3.out⟩

theorem clSub_any (x y : Bool) (W : World) : Calls Tryz.prog 150 #[.bool x, .bool y] W fun e w' => e = .returned (.bool (hSub x y)) ∧ W = w' := by
  cases x <;> cases y
  all_goals
    go_enter Tryz.func150, Tryz.ntmps150
    go_wp2
    go_ret
    exact ⟨rfl, rfl⟩
theorem enter_clSub : ∀ args w, (callFunc 150 args).run Tryz.prog w = .ok (.enter 150 args) w := enters_of Tryz.func150 (by kernel_rfl) rfl
theorem enter_spSub : ∀ args w, (callFunc 97 args).run Tryz.prog w = .ok (.enter 97 args) w := enters_of Tryz.func97 (by kernel_rfl) rfl
/-- The contract of a joining function: at canonical sets. -/
def SpJoin (f : Nat) (h : Bool → Bool → Bool) : Prop := ∀ (a b : List Sp) (va vb : Value) (w : World), RdK encS 2 w w.heap.size va a → RdK encS 2 w w.heap.size vb b → a.length ≤ 400 → b.length ≤ 400 → SCan a → SCan b → (∀ p ∈ a, validS p) → (∀ p ∈ b, validS p) →
  Calls Tryz.prog f #[va, vb] w fun e w' => SpnRet w.heap.size (sjF h a b) e w' ∧ Below w.heap.size w w'
set_option maxHeartbeats 1000000 in
theorem spSub_any : SpJoin 97 hSub := by
  intro a b va vb w ra rb na nb ca cb ba bb
  have hc := checked_any a b va vb w 150 hSub rfl enter_clSub clSub_any ra rb na nb ca cb ba bb
  obtain ⟨A1, c1, hva, _⟩ := ra
  obtain ⟨A2, c2, hvb, _⟩ := rb
  subst hva; subst hvb
  have HC := hide hc
  clear hc ca cb ba bb
  generalize sjF hSub a b = R at *
  obtain ⟨R1, R2⟩ := R
  go_enter Tryz.func97, Tryz.ntmps97
  go_wp2_with (fail)
  refine HC.out.mono ?_
  rintro e w1 ⟨⟨A3, c3, rfl, ho⟩, hb⟩
  have HO := hide ho
  clear ho
  go_wp2_with (fail)
  go_ret2
  exact ⟨⟨A3, c3, rfl, HO.out⟩, hb⟩
/-- The error of two regions. -/
def bothF (a b : List R4) : Int := if checkF a = 0 then checkF b else checkF a
set_option maxHeartbeats 1000000 in
theorem both_any {w : World} {va vb : Value} {a b : List R4} (ra : RdK encR 4 w w.heap.size va a) (rb : RdK encR 4 w w.heap.size vb b) (na : a.length ≤ 100000000) (nb : b.length ≤ 100000000) :
    Calls Tryz.prog 147 #[va, vb] w fun e w' => e = .returned (.int .i64 (bothF a b)) ∧ Below w.heap.size w w' := by
  have hA := check_any ra na
  have hB := fun (W : World) (hW : Below w.heap.size w W) => check_any (w := W) ((rb.below hW).mono hW.size) nb
  obtain ⟨A1, c1, hva, _⟩ := ra
  obtain ⟨A2, c2, hvb, _⟩ := rb
  subst hva; subst hvb
  have HA := hide hA
  have HB := hide hB
  clear hA hB
  by_cases h0 : checkF a = 0
  · have HF : Hid (bothF a b = checkF b) := hide (if_pos h0)
    rw [h0] at HA
    clear h0
    go_enter Tryz.func147, Tryz.ntmps147
    go_wp2_with (fail)
    refine HA.out.mono ?_
    rintro e w1 ⟨rfl, hb1⟩
    have HB1 := hide hb1
    clear hb1
    go_wp2_with (fail)
    refine (HB.out _ HB1.out).mono ?_
    rintro e w2 ⟨rfl, hb2⟩
    go_wp2_with (fail)
    go_ret
    exact ⟨ret_eq (int_eq HF.out.symm), HB1.out.trans (hb2.mono HB1.out.size)⟩
  · have HF : Hid (bothF a b = checkF a) := hide (if_neg h0)
    generalize checkF a = ck at *
    have hne : (ck != 0) = true := by simpa using h0
    clear h0
    go_enter Tryz.func147, Tryz.ntmps147
    go_wp2_with (fail)
    refine HA.out.mono ?_
    rintro e w1 ⟨rfl, hb1⟩
    go_wp2_with (fail)
    go_ret
    exact ⟨ret_eq (int_eq HF.out.symm), hb1⟩
def joinF (h : Bool → Bool → Bool) (a b : List R4) : List R4 × Int := if bothF a b = 0 then (if 400 < (rjoin h a b).length then ([], 4) else (rjoin h a b, 0)) else ([], bothF a b)
theorem bothF_ok {a b : List R4} (h : bothF a b = 0) : checkF a = 0 ∧ checkF b = 0 := by
  unfold bothF at h
  by_cases h0 : checkF a = 0
  · rw [if_pos h0] at h; exact ⟨h0, h⟩
  · rw [if_neg h0] at h; exact absurd h h0
theorem check_wf {l : List R4} (h : checkF l = 0) : ∀ r ∈ l, wf4 r := fun r hr => ⟨((checkF_ok h).2.1 r hr).1, ((checkF_ok h).2.1 r hr).2.1⟩
theorem rjoin_len2 (h : Bool → Bool → Bool) (a b : List R4) (ha : a.length ≤ 400) (hb : b.length ≤ 400) : (rjoin h a b).length ≤ 100000000 := by
  have h1 := swp_len (fun c => sjoin h (crossL a c) (crossL b c)) 1600 (fun c => by
    have h1 := sjoin_len h (crossL a c) (crossL b c)
    have h2 := crossL_len a c
    have h3 := crossL_len b c
    omega) (prs (isortI (cutsL a ++ cutsL b)))
  rw [swp_sweep] at h1
  have h2 := prs_len (isortI (cutsL a ++ cutsL b))
  have h3 := isortI_len (cutsL a ++ cutsL b)
  rw [List.length_append, cutsL_len, cutsL_len] at h3
  unfold rjoin
  have h4 : (prs (isortI (cutsL a ++ cutsL b))).length ≤ 1600 := by omega
  have h5 := Nat.mul_le_mul_right 1600 h4
  omega
end Go.Proofs.YtdolpeljengpaaaGreat

/- region.slabs at Region, and its iterator. -/
namespace Go.Proofs.YtdolpeljengpaaaGreat
open Go.RowKit
set_option linter.unusedVariables false
set_option linter.unusedSimpArgs false
attribute [local go_sem] Oper.semAt_some

set_option maxHeartbeats 2000000 in
theorem slabsB_any (ls : List (List R4)) (L c : Nat) (w : World) (hL : L < w.heap.size) (hv : ∀ k l, ls[k]? = some l → ∃ v, w.cell? ⟨L, k, none⟩ = some v ∧ RdK encR 4 w w.heap.size v l) (hn : (ls.flatMap cutsL).length ≤ 100000000) (hls : ls.length ≤ 1000) :
    Calls Tryz.prog 148 #[.slice (some ⟨L, 0, none⟩) ls.length c] w fun e w' => ∃ v, e = .returned (.func (.func 187) #[] #[.pointer (some ⟨w.heap.size + 1, 0, none⟩), .pointer (some ⟨w.heap.size, 0, none⟩)]) ∧
      w'.cell? ⟨w.heap.size, 0, none⟩ = some (.slice (some ⟨L, 0, none⟩) ls.length c) ∧ w'.cell? ⟨w.heap.size + 1, 0, none⟩ = some v ∧ w'.ownsRow (w.heap.size + 2) 3 1 v (cutsOf (ls.flatMap cutsL)).length ((cutsOf (ls.flatMap cutsL)).map iv) ∧ Below w.heap.size w w' := by
  obtain ⟨i0, hi, hz0, hz1, hz2⟩ := info_parts infoIA
  have HV := hide hv
  clear hv
  go_enter Tryz.func148, Tryz.ntmps148
  go_wp2
  go_loopw [10] (fun i wr => ∃ k : Nat, k ≤ ls.length ∧ i = .int .i64 k ∧ ∃ v, wr.cell? ⟨w.heap.size + 1, 0, none⟩ = some v ∧ wr.frozen? ⟨w.heap.size + 1, 0, none⟩ = false ∧ wr.cell? ⟨w.heap.size, 0, none⟩ = some (.slice (some ⟨L, 0, none⟩) ls.length c) ∧
      wr.ownsRow (w.heap.size + 2) 3 1 v ((ls.take k).flatMap cutsL).length (((ls.take k).flatMap cutsL).map iv) ∧ Below w.heap.size w wr ∧ w.heap.size + 2 ≤ wr.heap.size)
    (fun i _ => ls.length - (intOf i).toNat)
  case atStart =>
    refine ⟨0, Nat.zero_le _, rfl, .slice none 0 0, by simp [go_sem], by simp [go_sem], by simp [go_sem], World.ownsRow_nil _ _ _ _, ((Below.refl _ _).alloc (Nat.le_refl _) _).alloc (by simp) _, by simp⟩
  case round =>
    obtain ⟨k, hk, rfl, v, hc1, hf1, hc0, hown, hb, hsz⟩ := hrel
    by_cases hlt : k < ls.length
    · obtain ⟨l, hlk⟩ : ∃ l, ls[k]? = some l := ⟨_, List.getElem?_eq_getElem hlt⟩
      obtain ⟨vl, hcl, A, c0, rfl, hrd⟩ := HV.out k l hlk
      have hcl' : wr.cell? ⟨L, k, none⟩ = some (.slice A l.length c0) := (hb.cell (p := ⟨L, k, none⟩) hL).trans hcl
      have hle := len_take ls k l hlk
      have HK := hide (flat_take ls k l hlk)
      have HR := hide hrd
      have hkz : (k : Int) < (ls.length : Int) := by omega
      rw [cutsL_len] at hle
      generalize (ls.take k).flatMap cutsL = P at *
      generalize wr = w1 at *
      clear hcl hrd
      go_wp2
      go_loopw [16] (fun j wi => ∃ m : Nat, m ≤ l.length ∧ j = .int .i64 m ∧ ∃ v, wi.cell? ⟨w.heap.size + 1, 0, none⟩ = some v ∧ wi.frozen? ⟨w.heap.size + 1, 0, none⟩ = false ∧ wi.cell? ⟨w.heap.size, 0, none⟩ = some (.slice (some ⟨L, 0, none⟩) ls.length c) ∧
          wi.ownsRow (w.heap.size + 2) 3 1 v (P ++ cutsL (l.take m)).length ((P ++ cutsL (l.take m)).map iv) ∧ Below w.heap.size w wi ∧ w.heap.size + 2 ≤ wi.heap.size)
        (fun j _ => l.length - (intOf j).toNat)
      case atStart => exact ⟨0, by omega, rfl, v, hc1, hf1, hc0, by simpa [cutsL] using hown, hb, hsz⟩
      case round =>
        clear hc1 hf1 hc0 hown
        obtain ⟨m, hm, rfl, v, hc1, hf1, hc0, hownm, hbm, hszm⟩ := hrel
        by_cases hml : m < l.length
        · obtain ⟨⟨x0, y0, x1, y1⟩, hp⟩ : ∃ p, l[m]? = some p := ⟨_, List.getElem?_eq_getElem hml⟩
          have hne : l ≠ [] := by intro e; rw [e] at hml; simp at hml
          obtain ⟨bk, off, rfl, hbk, hcell⟩ := HR.out hne
          have d0 : wr.cell? ⟨bk, off + m * 4, none⟩ = some (.int .i64 x0) := (hbm.cell hbk).trans (hcell m _ hp 0 _ rfl)
          have d1 : wr.cell? ⟨bk, off + m * 4 + 1, none⟩ = some (.int .i64 y0) := (hbm.cell hbk).trans (hcell m _ hp 1 _ rfl)
          have d2 : wr.cell? ⟨bk, off + m * 4 + 2, none⟩ = some (.int .i64 x1) := (hbm.cell hbk).trans (hcell m _ hp 2 _ rfl)
          have d3 : wr.cell? ⟨bk, off + m * 4 + 3, none⟩ = some (.int .i64 y1) := (hbm.cell hbk).trans (hcell m _ hp 3 _ rfl)
          have hmz : (m : Int) < (l.length : Int) := by omega
          have hlenE : (P ++ cutsL (l.take m)).length ≤ 100000000 := by rw [List.length_append, cutsL_len, List.length_take]; omega
          have HE : Hid (P ++ cutsL (l.take (m + 1)) = P ++ cutsL (l.take m) ++ [x0, x1]) := hide (by rw [cutsL_take l m _ hp, List.append_assoc])
          obtain ⟨Av, cv, rfl⟩ := own_form hownm
          have hlt1 : w.heap.size + 1 < wr.heap.size := by omega
          have hlt0 : w.heap.size < wr.heap.size := by omega
          clear hcell
          generalize P ++ cutsL (l.take m) = E0 at *
          go_wp2_with (at_builtin; go_loud (refine wpList_append_lies _ rfl (.tmp 20) (.tmp 25) 156 rfl (w.heap.size + 2) 3 i0 (.int .i64 0) 1 8 Tryz.underlying156 hi hz0 hz1 hz2 rfl (by decide) _ _ _ rfl ((hownm.alloc _).alloc _) ⟨wr.heap.size + 1, 0, none⟩ 2 2 [.int .i64 x0, .int .i64 x1] rfl rfl (news_new (wr.alloc _) _ _ _ (by simp)) (ints_one rfl) (by omega) (by unfold maxLen; omega) (by omega) (by simp; omega) _ rfl ?_))
          intro g cap w2 hown2 hgrow _ _
          have hx2 : E0.map iv ++ [.int .i64 x0, .int .i64 x1] = (E0 ++ [x0, x1]).map iv := by simp
          have HL : Hid (E0.length + 2 = (P ++ cutsL (l.take (m + 1))).length) := hide (by rw [HE.out]; simp)
          rw [hx2, ← HE.out] at hown2
          obtain ⟨k3, k4, HF⟩ := box_fin hszm (Nat.lt_succ_self _) hc1 hf1 (((Below.refl _ wr).alloc (Nat.le_refl _) _).alloc (by simp) _) hgrow (fun k h => (hownm.lt k h).1) hown2
          have HC := hide hc0
          clear hown2 hgrow hownm hx2 hc1 hf1 hc0 d0 d1 d2 d3
          go_wp2
          go_roundw
          case rel =>
            obtain ⟨z1, z2, z3, z4, z5, z6⟩ := HF.out
            exact ⟨m + 1, by omega, by go_num, _, z1, z2, (z5 _ _ (by omega) (by omega)).trans HC.out, own_n z3 HL.out, hbm.trans (z4.mono (by omega)), by omega⟩
          case measure => simp [intOf]; omega
        · have hme : ¬ (m : Int) < (l.length : Int) := by omega
          have hmt : l.take m = l := List.take_of_length_le (by omega)
          rw [hmt, ← HK.out] at hownm
          have HO := hide hownm
          clear hmt hownm
          go_wp2
          go_roundw
          case rel => exact ⟨k + 1, by omega, by go_num, v, hc1, hf1, hc0, HO.out, hbm, hszm⟩
          case measure => simp [intOf]; omega
    · have hkz : ¬ (k : Int) < (ls.length : Int) := by omega
      have hkt : ls.take k = ls := List.take_of_length_le (by omega)
      rw [hkt] at hown
      have HO := hide hown
      clear hkt hown
      have hl : (ls.flatMap cutsL).length < 4611686018427387904 := by omega
      have hlm : ((ls.flatMap cutsL).mergeSort fun x y => decide (x ≤ y)).length = (ls.flatMap cutsL).length := List.length_mergeSort _
      have HM := hide hlm
      have HC0 := hide hc0
      clear hc0 hlm
      go_wp2_with (first
        | (go_at_call 178; refine (sortI_any _ v _ wr HO.out hl).mono ?_; rintro e w1 ⟨rfl, ho1, hg1⟩; have hb1 : Below (w.heap.size + 2) wr w1 := (Below.refl _ _).grown hg1 hsz (fun k h => (HO.out.lt k h).1); have e1 := (hb1.cell (p := ⟨w.heap.size + 1, 0, none⟩) (Nat.lt_succ_self _)).trans hc1; have HO1 := hide ho1; have HB1 := hide hb1; clear ho1 hg1 hb1)
        | (go_at_call 179; refine (compI_any _ v _ w1 (own_n HO1.out HM.out.symm) (by rw [HM.out]; exact hl)).mono ?_; rintro e w2 ⟨v2, rfl, hv2, ho2, hg2⟩; have hb2 : Below (w.heap.size + 2) w1 w2 := (Below.refl _ _).grown hg2 (Nat.le_trans hsz HB1.out.size) (fun k h => (HO1.out.lt k h).1); have e2 := (hb2.cell (p := ⟨w.heap.size + 1, 0, none⟩) (Nat.lt_succ_self _)).trans e1; have f2 := ((HB1.out.trans hb2).frozen (p := ⟨w.heap.size + 1, 0, none⟩) (Nat.lt_succ_self _)).trans hf1; have HO2 := hide ho2; have HB2 := hide hb2; clear ho2 hg2 hb2; obtain ⟨Av, cv, hv2⟩ := own_form HO2.out; subst hv2))
      go_ret
      have hB : Below (w.heap.size + 2) wr w2 := HB1.out.trans HB2.out
      refine ⟨_, rfl, ?_, by simp [go_sem, e2], ownsRow_setCell_below HO2.out (Nat.lt_succ_self _) _, (hb.trans (hB.mono (by omega))).setCell (p := ⟨w.heap.size + 1, 0, none⟩) (Nat.le_succ _) _⟩
      exact (World.cell?_of_block (w := w2) (a := ⟨w.heap.size, 0, none⟩) (Below.heap_setCell _ _ _ _ (Nat.ne_of_lt (Nat.lt_succ_self _)))).trans ((hB.cell (p := ⟨w.heap.size, 0, none⟩) (by show w.heap.size < _; omega)).trans HC0.out)

set_option maxRecDepth 100000 in
set_option maxHeartbeats 4000000 in
theorem slabsItB (ls : List (List R4)) (cs : List Int) (bc bl L cc cv bb base : Nat) (A : Option Addr) (w0 : World) (hbl : bl < w0.heap.size) (hbc : bc < w0.heap.size) (hLs : L < w0.heap.size) (n1 : bl ≠ bb) (n2 : bc ≠ bb) (n3 : L ≠ bb) (n4 : bb < base) (n5 : bb ≤ w0.heap.size)
    (hlb : w0.cell? ⟨bl, 0, none⟩ = some (.slice (some ⟨L, 0, none⟩) ls.length cc)) (hcb : w0.cell? ⟨bc, 0, none⟩ = some (.slice A cs.length cv)) (hown : w0.ownsRow base 3 1 (.slice A cs.length cv) cs.length (cs.map iv))
    (hv : ∀ k l, ls[k]? = some l → l.length ≤ 100000000 ∧ ∃ v, w0.cell? ⟨L, k, none⟩ = some v ∧ RdK encR 4 w0 bb v l) (hls : ls.length ≤ 1000) (hcs : cs.length ≤ 100000000) :
    Iter Tryz.prog 187 #[.pointer (some ⟨bc, 0, none⟩), .pointer (some ⟨bl, 0, none⟩)] (prs cs) (OkSlab ls) (KpX bb w0.heap.size) w0 := by
  intro l J Jx W hW hJ hY h0
  obtain ⟨i0, hi, hz0, hz1, hz2⟩ := info_parts infoSS
  obtain ⟨i1, gi, gz0, gz1, gz2⟩ := info_parts infoSp
  refine callsIn_of_wp Tryz.func187 rfl trivial ?_
  simp only [Tryz.ntmps187, List.size_toArray, List.length_cons, List.length_nil, Nat.reduceAdd, Nat.reduceSub, Array.replicate_succ, Array.replicate_zero, List.push_toArray, List.append_toArray, List.nil_append, List.cons_append]
  have HV := hide hv
  have HY := hide hY
  have HJ := hide hJ
  clear hv hY hJ
  gi_wp2
  gi_loopw [4] (fun p wr => ∃ k : Nat, k ≤ (prs cs).length ∧ p = .int .i64 ((k : Int) + 1) ∧ Hid (J ((prs cs).take k) wr) ∧ Hid (∀ b o, b < w0.heap.size → b ≠ bb → wr.cell? ⟨b, o, none⟩ = w0.cell? ⟨b, o, none⟩) ∧ w0.heap.size ≤ wr.heap.size)
    (fun p _ => ((prs cs).length + 1) - (intOf p).toNat)
  case atStart => exact ⟨0, Nat.zero_le _, rfl, hide (by simpa using h0), hide fun b o h _ => hW.cell (p := ⟨b, o, none⟩) h, hW.size⟩
  case round =>
    obtain ⟨k, hk, rfl, HJk, HC, hsz⟩ := hrel
    have hpl := prs_len cs
    have kb := (HC.out bl 0 hbl n1).trans hlb
    have kc := (HC.out bc 0 hbc n2).trans hcb
    by_cases hlt : k < (prs cs).length
    · have hltz : (k : Int) + 1 < (cs.length : Int) := by omega
      obtain ⟨c, hc⟩ : ∃ c, cs[k]? = some c := ⟨_, List.getElem?_eq_getElem (by omega)⟩
      obtain ⟨d, hd⟩ : ∃ d, cs[k + 1]? = some d := ⟨_, List.getElem?_eq_getElem (by omega)⟩
      obtain ⟨g, cv', hf, hbg, hgw⟩ := hown.form (by omega)
      injection hf with e1 _ e3
      subst e1; subst e3
      have kc0 : wr.cell? ⟨g, k, none⟩ = some (.int .i64 c) := by
        have := (hown.cells (g := g) rfl) k (iv c) (by simp [hc])
        rw [addr_add] at this
        exact (HC.out g k hgw (by omega)).trans this
      have kc1 : wr.cell? ⟨g, k + 1, none⟩ = some (.int .i64 d) := by
        have := (hown.cells (g := g) rfl) (k + 1) (iv d) (by simp [hd])
        rw [addr_add] at this
        exact (HC.out g (k + 1) hgw (by omega)).trans this
      have HP := hide (prs_get cs k c d hc hd)
      gi_wp2
      obtain ⟨CS, hCS, hmk⟩ := make_ss ls.length hls
      have HS := hide hCS
      clear hCS
      refine wpIn_wide.2 ?_
      have q1 : (0 : Int) ≤ (k : Int) := by omega
      have q2 : (k : Int) < (cs.length : Int) := by omega
      have q3 : (0 : Int) ≤ (k : Int) + 1 := by omega
      have hcsz : (cs.length : Int) ≤ 100000000 := by omega
      have hw1 : IntKind.i64.wrap (k : Int) = k := by simp [IntKind.wrap, IntKind.bits, IntKind.signed]; omega
      have hw2 : IntKind.i64.wrap ((k : Int) + 1) = (k : Int) + 1 := by simp [IntKind.wrap, IntKind.bits, IntKind.signed]; omega
      have t1 : ((k : Int) + 1).toNat = k + 1 := by omega
      go_region_held3 (fun w' => w'.cell? ⟨bc, 0, none⟩ = some (.slice (some ⟨g, 0, none⟩) cs.length cv) ∧ w'.cell? ⟨bl, 0, none⟩ = some (.slice (some ⟨L, 0, none⟩) ls.length cc) ∧ w'.cell? ⟨g, k, none⟩ = some (.int .i64 c) ∧ w'.cell? ⟨g, k + 1, none⟩ = some (.int .i64 d)) (go_keep) (fail)
      case' refine_2.refine_3.refine_3.refine_3.refine_3.refine_3.refine_3.refine_3.refine_3.refine_3.refine_3.refine_3.refine_1.refine_2.refine_3.refine_1.refine_2.refine_1.refine_2 =>
        have M := smid_first1 (ls := ls) (c := c) (d := d) (w := wr) (t1 := 182) (t2 := 210) HS.out
        generalize World.drew (World.alloc (World.alloc _ _) _) = w3 at M ⊢
        obtain ⟨S, hS⟩ : ∃ S, wr.heap.size + 1 = S := ⟨_, rfl⟩
        obtain ⟨Rw, hR⟩ : ∃ Rw, wr.heap.size = Rw := ⟨_, rfl⟩
        rw [hS] at M ⊢
        rw [hR] at M ⊢
        clear hS hR
      case' refine_2.refine_3.refine_3.refine_3.refine_3.refine_3.refine_3.refine_3.refine_3.refine_3.refine_3.refine_3.refine_2.refine_1.refine_2.refine_1.refine_2.refine_3.refine_1.refine_2 =>
        have M := smid_first2 (ls := ls) (c := c) (d := d) (w := wr) (t1 := 182) (t2 := 210) HS.out
        generalize World.drew (World.alloc (World.alloc _ _) _) = w3 at M ⊢
        obtain ⟨Rw, hR⟩ : ∃ S, wr.heap.size + 1 = S := ⟨_, rfl⟩
        obtain ⟨S, hS⟩ : ∃ Rw, wr.heap.size = Rw := ⟨_, rfl⟩
        rw [hR] at M ⊢
        rw [hS] at M ⊢
        clear hS hR
      all_goals
        generalize wr = wi at *
        clear hlb hcb hmk q1 q2 q3 hw1 hw2 t1 kc kc0 kc1 hltz hown HS h0 hW
        have hlsz : (ls.length : Int) ≤ 1000 := by omega
        have hbl' : bl < wi.heap.size := by omega
        have m0 := (M.below.cell (p := ⟨bl, 0, none⟩) hbl').trans kb
        gi_wp2
        refine wpIn_wide.2 ?_
        go_loopw [31] (fun i wx => ∃ j : Nat, j ≤ ls.length ∧ i = .int .i64 j ∧ SMid ls c d Rw S j wi wx) (fun i _ => ls.length - (intOf i).toNat)
        case atStart => exact ⟨0, Nat.zero_le _, rfl, M⟩
        case round =>
          clear m0 M
          obtain ⟨j, hj, rfl, M⟩ := hrel
          by_cases hjl : j < ls.length
          · have hjz : (j : Int) < (ls.length : Int) := by omega
            obtain ⟨r, hr⟩ : ∃ r, ls[j]? = some r := ⟨_, List.getElem?_eq_getElem hjl⟩
            obtain ⟨hrl, v, hvc, Av, cr, rfl, hrd⟩ := HV.out j r hr
            have hL2 : wr.cell? ⟨L, j, none⟩ = some (.slice Av r.length cr) := (M.below.cell (p := ⟨L, j, none⟩) (by show L < _; omega)).trans ((HC.out L j hLs n3).trans hvc)
            have HR := hide hrd
            clear hvc hrd
            go_wp2
            have hRk := M.topR
            have hSk := M.topS
            have hne := M.ne
            have hwk := M.below.size
            have hlR := M.lowR
            have SS := SIn.start (l := r) M hjl
            have HM := hide M
            have e0 := M.s0
            have e2 := M.s2
            clear M hL2
            generalize wr = wk at *
            go_loopw [38] (fun i wx => ∃ m : Nat, m ≤ r.length ∧ i = .int .i64 m ∧ SIn r c Rw j m wk wx) (fun i _ => r.length - (intOf i).toNat)
            case atStart => exact ⟨0, Nat.zero_le _, rfl, SS⟩
            case round =>
              clear SS
              obtain ⟨m, hm, rfl, SS⟩ := hrel
              by_cases hml : m < r.length
              · obtain ⟨⟨x0, y0, x1, y1⟩, hp⟩ : ∃ p, r[m]? = some p := ⟨_, List.getElem?_eq_getElem hml⟩
                have hner : r ≠ [] := by intro e; rw [e] at hml; simp at hml
                obtain ⟨bk, off, rfl, hbk, hcell⟩ := HR.out hner
                have tr : ∀ o, wr.cell? ⟨bk, o, none⟩ = w0.cell? ⟨bk, o, none⟩ := fun o =>
                  (SS.upd.cell (by omega) (by omega) (by simp)).trans ((HM.out.below.cell (p := ⟨bk, o, none⟩) (by show bk < _; omega)).trans (HC.out bk o (by omega) (by omega)))
                have d0 : wr.cell? ⟨bk, off + m * 4, none⟩ = some (.int .i64 x0) := (tr _).trans (hcell m _ hp 0 _ rfl)
                have d1 : wr.cell? ⟨bk, off + m * 4 + 1, none⟩ = some (.int .i64 y0) := (tr _).trans (hcell m _ hp 1 _ rfl)
                have d2 : wr.cell? ⟨bk, off + m * 4 + 2, none⟩ = some (.int .i64 x1) := (tr _).trans (hcell m _ hp 2 _ rfl)
                have d3 : wr.cell? ⟨bk, off + m * 4 + 3, none⟩ = some (.int .i64 y1) := (tr _).trans (hcell m _ hp 3 _ rfl)
                have f0 := (SS.upd.cell (off := 0) hSk hne (by simp)).trans e0
                have f2 := (SS.upd.cell (off := 2) hSk hne (by simp)).trans e2
                have hws := SS.upd.size
                have hmz : (m : Int) < (r.length : Int) := by omega
                have HE0 := hide e0
                have HE2 := hide e2
                have HSS := hide SS
                have hSw : S < wr.heap.size := by omega
                clear hcell tr e0 e2 SS
                by_cases c1 : x0 ≤ c
                · by_cases c2 : c < x1
                  · go_wp2
                    obtain ⟨wb, hwb⟩ : ∃ wb, wb = wr.alloc (.cells #[.int .i64 x0, .int .i64 y0, .int .i64 x1, .int .i64 y1] 69) := ⟨_, rfl⟩
                    rw [← hwb]
                    obtain ⟨v, v1, v2⟩ := HSS.out.cur
                    obtain ⟨Av2, cv2, hv2⟩ := own_form v2
                    subst hv2
                    have hRw : Rw < wr.heap.size := by omega
                    have hj63 : (0 : Int) ≤ (j : Int) := by omega
                    have g2 : wb.cell? ⟨S, 2, none⟩ = some (.slice (some ⟨Rw, 0, none⟩) ls.length ls.length) := by rw [hwb]; exact (World.cell?_alloc_lt _ _ ⟨S, 2, none⟩ hSw).trans f2
                    have gv : wb.cell? ⟨Rw, j, none⟩ = some (.slice Av2 (crossL (r.take m) c).length cv2) := by rw [hwb]; exact (World.cell?_alloc_lt _ _ ⟨Rw, j, none⟩ hRw).trans v1
                    have gy0 : wb.cell? ⟨wr.heap.size, 1, none⟩ = some (.int .i64 y0) := by rw [hwb]; simp [go_sem]
                    have gy1 : wb.cell? ⟨wr.heap.size, 3, none⟩ = some (.int .i64 y1) := by rw [hwb]; simp [go_sem]
                    have gs : wb.heap.size = wr.heap.size + 1 := by rw [hwb]; simp
                    have hbw : Below wr.heap.size wr wb := by rw [hwb]; exact (Below.refl _ _).alloc (Nat.le_refl _) _
                    have gown : wb.ownsRow wk.heap.size 188 2 (.slice Av2 (crossL (r.take m) c).length cv2) (crossL (r.take m) c).length ((crossL (r.take m) c).flatMap encS) := by rw [hwb]; exact v2.alloc _
                    have hcl : (crossL (r.take m) c).length ≤ 100000000 := by
                      unfold crossL
                      rw [List.length_map]
                      refine Nat.le_trans (List.length_filter_le _ _) ?_
                      rw [List.length_take]; omega
                    have HFZ := hide (HM.out.fz j)
                    have HV1 := hide v1
                    have HV2 := hide v2
                    have HGV := hide gv
                    have HBW := hide hbw
                    have HG2 := hide g2
                    have HY0 := hide gy0
                    have HY1 := hide gy1
                    have HO := hide gown
                    have HGS := hide gs
                    have hRwb : Rw < wb.heap.size := by omega
                    have hSwb : S < wb.heap.size := by omega
                    have hwrb : wr.heap.size < wb.heap.size := by omega
                    have nR1 : Rw ≠ S := fun e => hne e.symm
                    have nR2 : Rw ≠ wr.heap.size := by omega
                    have hwkb : wk.heap.size ≤ wb.heap.size := by omega
                    clear gs d0 d1 d2 d3 f0 f2 v1 v2 gown hwb
                    refine wp_region_reads 13 (fun w' => w'.cell? ⟨S, 2, none⟩ = some (.slice (some ⟨Rw, 0, none⟩) ls.length ls.length) ∧ w'.cell? ⟨Rw, j, none⟩ = some (.slice Av2 (crossL (r.take m) c).length cv2) ∧ w'.cell? ⟨wr.heap.size, 1, none⟩ = some (.int .i64 y0) ∧ w'.cell? ⟨wr.heap.size, 3, none⟩ = some (.int .i64 y1)) (by kernel_rfl) (by kernel_rfl) ⟨g2, gv, gy0, gy1⟩ ?_
                    simp only [List.take_succ_cons, List.take_zero, List.drop_succ_cons, List.drop_zero]
                    iterate 13
                      refine ⟨?_, Or.inl ⟨by rfl, ?_⟩, ?_⟩
                      rotate_left 1
                      · intro w' hSw
                        obtain ⟨z1, z2, z3, z4⟩ := hSw
                        go_simp
                        first | done | with_reducible rfl
                      simp only [Act.put, List.setIfInBounds_toArray, List.set_cons_zero, List.set_cons_succ]
                    simp only [wpReads]
                    intro K hK
                    go_simp
                    refine hK _ _ (fun _ => ⟨by go_keep, by go_keep, by go_keep, by go_keep⟩) ?_
                    clear hK K
                    intro K hK
                    refine step_append_lies _ rfl (.tmp 61) (.tmp 67) 182 rfl wk.heap.size 188 i1 (.agg #[.int .i64 0, .int .i64 0]) 2 16 Tryz.underlying182 gi gz0 gz1 gz2 rfl (by decide) (.slice Av2 (crossL (r.take m) c).length cv2) (crossL (r.take m) c).length _ rfl (own_drew (World.ownsRow.alloc (w := wb) HO.out _)) ⟨wb.heap.size, 0, none⟩ 1 1 [.int .i64 y0, .int .i64 y1] rfl rfl (news_drew wb _ _ _ rfl) (ints_one rfl) (by omega) (by unfold maxLen; omega) (by omega) (by simp; omega) _ rfl ?_
                    intro g9 cap9 w9 hown9 hgrow9 _ _
                    obtain ⟨s1, s2, s3, s4, s5, HF9⟩ := app_after HSS.out hp ⟨c1, c2⟩ HV1.out hRk HBW.out _ HV2.out hgrow9 hown9 HFZ.out hSk HG2.out HY0.out HY1.out
                    clear hown9 hgrow9
                    refine hK _ _ (fun _ => ⟨s1, s2, s3, s4⟩) ?_
                    clear hK K
                    intro K hK
                    simp only [Act.put, List.setIfInBounds_toArray, List.set_cons_zero, List.set_cons_succ] at hK ⊢
                    go_simp
                    refine hK _ _ (fun _ => ⟨s1, s2, s3, s4⟩) ?_
                    clear hK K
                    intro K hK
                    simp only [Act.put, List.setIfInBounds_toArray, List.set_cons_zero, List.set_cons_succ] at hK ⊢
                    go_simp
                    refine hK _ _ (fun h => absurd rfl h) ?_
                    clear hK K
                    refine NoPanic.normal ?_
                    have HF9' := hide HF9.out
                    go_wp2
                    go_roundw
                    case rel => exact ⟨m + 1, by omega, by go_num, HF9'.out⟩
                    case measure => simp [intOf]; omega
                  · have c2' : x1 ≤ c := by omega
                    go_wp2
                    go_roundw
                    case rel => exact ⟨m + 1, by omega, by go_num, HSS.out.skip hp (fun h => by have := h.2; simp at this; omega) ((Below.refl _ _).alloc (Nat.le_refl _) _) (by omega)⟩
                    case measure => simp [intOf]; omega
                · have c1' : c < x0 := by omega
                  go_wp2
                  go_roundw
                  case rel => exact ⟨m + 1, by omega, by go_num, HSS.out.skip hp (fun h => by have := h.1; simp at this; omega) ((Below.refl _ _).alloc (Nat.le_refl _) _) (by omega)⟩
                  case measure => simp [intOf]; omega
              · obtain rfl : m = r.length := by omega
                have hmz : ¬ (r.length : Int) < (r.length : Int) := by omega
                have HF := hide (SIn.fin HM.out hr SS)
                clear SS e0 e2
                go_wp2
                go_roundw
                case rel => exact ⟨j + 1, by omega, by go_num, HF.out⟩
                case measure => simp [intOf]; omega
          · obtain rfl : j = ls.length := by omega
            have hjz : ¬ (ls.length : Int) < (ls.length : Int) := by omega
            have e0 := M.s0
            have e1 := M.s1
            have e2 := M.s2
            have hJ2 := HJ.out _ _ _ HJk.out M.below
            have hx : (prs cs)[k]? = some (c, d) := HP.out
            obtain ⟨hkp, hxe⟩ := List.getElem?_eq_some_iff.1 hx
            have hfi : (prs cs).take (k + 1) = (prs cs).take k ++ [(c, d)] := by rw [List.take_succ_eq_append_getElem hkp, hxe]
            have hpost : ∃ post, prs cs = (prs cs).take k ++ (c, d) :: post := ⟨(prs cs).drop (k + 1), by rw [← hxe, ← List.drop_eq_getElem_cons hkp, List.take_append_drop]⟩
            have hok : OkSlab ls (c, d) #[.agg #[.int .i64 c, .int .i64 d, .slice (some ⟨Rw, 0, none⟩) ls.length ls.length]] wr := by
              refine ⟨Rw, rfl, M.topR, fun q l hl => ?_⟩
              obtain ⟨v, v1, v2⟩ := M.done q l (List.getElem?_eq_some_iff.1 hl).1 hl
              exact ⟨v, v1, own_rd v2 (fun _ => rfl)⟩
            obtain ⟨fn, tmps, assign, body, hy, hR⟩ := HY.out ((prs cs).take k) (c, d) #[.agg #[.int .i64 c, .int .i64 d, .slice (some ⟨Rw, 0, none⟩) ls.length ls.length]] wr hJ2 hpost hok
            have FI := hide hfi
            have HM := hide M
            clear hx hxe hfi hpost hJ2 hok HJ HY M
            have hk2 : (k : Int) + 1 + 1 ≤ 100000001 := by omega
            have hk3' : (0 : Int) ≤ (k : Int) := by omega
            go_wp2
            gi_wp2
            refine ⟨rfl, hR.mono ?_⟩
            rintro e W3 (⟨rfl, hJ3, hk3⟩ | ⟨rfl, hJx3⟩)
            · have HJ3 := hide hJ3
              have HK3 := hide hk3
              clear hJ3 hk3 hR
              gi_wp2
              go_roundw
              case rel =>
                refine ⟨k + 1, by omega, by go_num, hide (by rw [FI.out]; exact HJ3.out), hide fun b o h1 h2 => (HK3.out.2 b o h1 h2).trans ((HM.out.below.cell (p := ⟨b, o, none⟩) (by show b < _; omega)).trans (HC.out b o h1 h2)), ?_⟩
                have := HK3.out.1
                have := HM.out.below.size
                omega
              case measure => simp [intOf]; omega
            · have HJx := hide hJx3
              clear hJx3 hR
              gi_wp2
              refine bodyPost_ret (results_none rfl _ _ _) rfl ?_
              exact ⟨⟨_, rfl⟩, .inr ⟨_, HJx.out⟩⟩
    · have hltz : ¬ (k : Int) + 1 < (cs.length : Int) := by omega
      have hk' : (prs cs).take k = prs cs := List.take_of_length_le (by omega)
      have HK := hide hk'
      clear hk' HJ HY h0
      gi_wp2
      go_end0
      exact ⟨⟨_, rfl⟩, .inl (by have := HJk.out; rw [HK.out] at this; exact this)⟩
end Go.Proofs.YtdolpeljengpaaaGreat

/- Plain law: cross-sections of a canonical region; hulls; moved regions. -/
namespace Go.Proofs.YtdolpeljengpaaaGreat
set_option linter.unusedVariables false
set_option linter.unusedSimpArgs false

theorem crossL_append (a b : List R4) (x : Int) : crossL (a ++ b) x = crossL a x ++ crossL b x := by simp [crossL]
theorem crossL_flat1 (a : Slab) (x : Int) : crossL (flat1 a) x = if a.f ≤ x ∧ x < a.t then a.s else [] := by
  unfold crossL flat1
  rw [List.filter_map, List.map_map]
  by_cases hx : a.f ≤ x ∧ x < a.t
  · rw [if_pos hx]
    have : (fun p : Sp => decide (a.f ≤ x) && decide (x < a.t)) = fun _ => true := by funext p; simp [hx.1, hx.2]
    show List.map _ (List.filter (fun p : Sp => decide (a.f ≤ x) && decide (x < a.t)) a.s) = _
    rw [this, List.filter_eq_self.2 (fun _ _ => rfl)]
    show List.map (fun p : Sp => (p.1, p.2)) a.s = a.s
    simp
  · rw [if_neg hx]
    have : (fun p : Sp => decide (a.f ≤ x) && decide (x < a.t)) = fun _ => false := by
      funext p
      by_cases h1 : a.f ≤ x
      · have h2 : ¬ x < a.t := fun h => hx ⟨h1, h⟩
        simp [h2]
      · simp [h1]
    show List.map _ (List.filter (fun p : Sp => decide (a.f ≤ x) && decide (x < a.t)) a.s) = _
    rw [this, List.filter_eq_nil_iff.2 (by simp)]
    rfl
theorem crossL_flat : ∀ {S : List Slab} (x : Int), SOK S → crossL (flat S) x = cr S x
  | [], x, _ => rfl
  | a :: S, x, h => by
    have e : flat (a :: S) = flat1 a ++ flat S := by simp [flat]
    rw [e, crossL_append, crossL_flat1, crossL_flat x h.tail]
    simp only [cr]
    by_cases hx : a.f ≤ x ∧ x < a.t
    · rw [if_pos hx, if_pos hx, cr_far (S := S) (fun b hb => .inl (by have := h.after b hb; omega)), List.append_nil]
    · rw [if_neg hx, if_neg hx, List.nil_append]
theorem check_rcan {l : List R4} (h : checkF l = 0) : RCan l := by
  obtain ⟨h1, h2, h3⟩ := checkF_ok h
  have hr : rjoin hFst l [] = l := by
    unfold madeF at h3
    split at h3
    · simp at h3
    · exact (Prod.mk.inj h3).1
  rw [← hr]
  exact (rjoin_ok (h := hFst) rfl (fun r hr => ⟨(h2 r hr).1, (h2 r hr).2.1⟩) (by simp)).1
theorem crossL_can {l : List R4} (h : RCan l) (x : Int) : SCan (crossL l x) := by
  obtain ⟨S, hS, rfl⟩ := h
  rw [crossL_flat x hS]
  exact cr_can x hS
/-! ### Hulls -/
def hullS (h r : R4) : R4 := ⟨min h.x0 r.x0, min h.y0 r.y0, max h.x1 r.x1, max h.y1 r.y1⟩
def hullL : List R4 → R4
  | [] => ⟨0, 0, 0, 0⟩
  | r :: l => (r :: l).foldl hullS r
/-- h is the hull of the rectangles. -/
structure IsHull (l : List R4) (h : R4) : Prop where
  a0 : ∃ r ∈ l, r.x0 = h.x0
  a1 : ∃ r ∈ l, r.y0 = h.y0
  a2 : ∃ r ∈ l, r.x1 = h.x1
  a3 : ∃ r ∈ l, r.y1 = h.y1
  b : ∀ r ∈ l, h.x0 ≤ r.x0 ∧ h.y0 ≤ r.y0 ∧ r.x1 ≤ h.x1 ∧ r.y1 ≤ h.y1
theorem IsHull.step {l : List R4} {h r : R4} (hh : IsHull l h) : IsHull (l ++ [r]) (hullS h r) := by
  obtain ⟨⟨p0, q0, e0⟩, ⟨p1, q1, e1⟩, ⟨p2, q2, e2⟩, ⟨p3, q3, e3⟩, hb⟩ := hh
  refine ⟨?_, ?_, ?_, ?_, ?_⟩
  · by_cases c : h.x0 ≤ r.x0
    · exact ⟨p0, by simp [q0], by simp only [hullS]; omega⟩
    · exact ⟨r, by simp, by simp only [hullS]; omega⟩
  · by_cases c : h.y0 ≤ r.y0
    · exact ⟨p1, by simp [q1], by simp only [hullS]; omega⟩
    · exact ⟨r, by simp, by simp only [hullS]; omega⟩
  · by_cases c : r.x1 ≤ h.x1
    · exact ⟨p2, by simp [q2], by simp only [hullS]; omega⟩
    · exact ⟨r, by simp, by simp only [hullS]; omega⟩
  · by_cases c : r.y1 ≤ h.y1
    · exact ⟨p3, by simp [q3], by simp only [hullS]; omega⟩
    · exact ⟨r, by simp, by simp only [hullS]; omega⟩
  · intro q hq
    rcases List.mem_append.1 hq with hq | hq
    · have := hb q hq
      simp only [hullS]; omega
    · rw [List.mem_singleton] at hq
      subst hq
      simp only [hullS]; omega
theorem IsHull.one (r : R4) : IsHull [r] r := ⟨⟨r, by simp, rfl⟩, ⟨r, by simp, rfl⟩, ⟨r, by simp, rfl⟩, ⟨r, by simp, rfl⟩, by simp⟩
/-- Behind m rectangles; ahead of all, the first one. -/
def hullP (l : List R4) (m : Nat) : R4 := (l.take m).foldl hullS (l.headD ⟨0, 0, 0, 0⟩)
def hullF (l : List R4) : R4 × Int := if checkF l = 0 then (if l = [] then (⟨0, 0, 0, 0⟩, 6) else (hullL l, 0)) else (⟨0, 0, 0, 0⟩, checkF l)
end Go.Proofs.YtdolpeljengpaaaGreat

/- A region that draws its order: reads, a chain (a call) that keeps their condition, reads of slots in any order, and a last operation. The law, in a round and outside of one. -/
namespace Go.Proofs.YtdolpeljengpaaaGreat
open Go.RowKit
set_option linter.unusedVariables false
set_option linter.unusedSimpArgs false

section
variable {P : Program} {Q : Exit → Act → World → Prop} {md : Region.Mode} {S : World → Prop}

def mixCB (md : Region.Mode) (ops : Array Oper) (R2 T2 : List Nat) : List Nat → Array Bool → Bool
  | [], l => mixRB md ops T2 R2 l
  | t :: r, l => (Region.ready md ops l == [t]) && mixCB md ops R2 T2 r (l.setIfInBounds t true)
def mixHB (md : Region.Mode) (ops : Array Oper) (T R2 T2 : List Nat) : List Nat → Array Bool → Bool
  | [], l => mixCB md ops R2 T2 T l
  | i :: r, l => Region.free md ops l i && (Region.ready md ops l).contains i && waitsFor md ops (ops.size - 1) i && mixHB md ops T R2 T2 r (l.setIfInBounds i true)
def mixTwoB (md : Region.Mode) (ops : Array Oper) (R T R2 T2 : List Nat) : Bool := Region.noSelect ops && decide (R.length + (T.length + (R2.length + T2.length)) = ops.size) && (T2.getLast? == some (ops.size - 1)) && mixHB md ops T R2 T2 R (Array.replicate ops.size false)

/-- One operation behind the other; behind each, S is shown anew. -/
def wpChain (P : Program) (ops : Array Oper) (S : World → Prop) (Q : Exit → Act → World → Prop) (K : Act → World → Prop) : List Oper → Act → World → Prop
  | [], a, w => K a w
  | o :: r, a, w => ∀ K' : Act → World → Prop, (∀ a' w', S w' → wpChain P ops S Q K r a' w' → K' a' w') → if Region.wanted o (yielded ops a.tmps) = true then o.wp P a w K' Q else K' (a.put o.dst undef) w

theorem wpChain_mix {l : List Oper} {R2 T2 : List Nat} (hsel : ∀ (j : Nat) (o : Oper) cs b, l.toArray[j]? = some o → o.op ≠ .select cs b) (hQ : ∀ c a a' w, Q (.panic c) a w → Q (.panic c) a' w) (hL : ∀ t, T2.getLast? = some t → t = l.length - 1) :
    ∀ (T : List Nat) (listed : Array Bool) (a : Act) (w : World), S w → mixCB md l.toArray R2 T2 T listed = true →
      wpChain P l.toArray S Q (fun a w => wpReads P l.toArray S (fun a' => wpTail P l.toArray S Q (T2.map (opAt l)) a' w) (R2.map (opAt l)) a) (T.map (opAt l)) a w →
      wpAnyE P md l.toArray Q S (l.length - 1) (T.length + (R2.length + T2.length)) listed a w
  | [], listed, a, w, hS, hT, h => by
    rw [List.length_nil, Nat.zero_add]
    exact wpReads_mix hsel hQ hL hS R2 listed a hT h
  | t :: r, listed, a, w, hS, hT, h => by
    simp only [mixCB, Bool.and_eq_true, beq_iff_eq] at hT
    rw [List.length_cons, Nat.add_right_comm]
    refine ⟨fun h0 => (by rw [hT.1] at h0; cases h0), fun i hi => ?_⟩
    obtain ⟨_, o, ho, _⟩ := mem_ready.1 hi
    rw [hT.1] at hi
    obtain rfl : i = t := by simpa using hi
    have ho' : l[i]? = some o := by simpa using ho
    simp only [List.map_cons, opAt_some ho'] at h
    refine wpOp_step ho fun K' hK => h K' fun a' w' hS' hT' => hK a' w' ⟨fun _ => hS', ?_⟩
    exact wpChain_mix hsel hQ hL r _ a' w' hS' hT.2 hT'
theorem wpHead_mix {l : List Oper} {T R2 T2 : List Nat} (hsel : ∀ (j : Nat) (o : Oper) cs b, l.toArray[j]? = some o → o.op ≠ .select cs b) (hQ : ∀ c a a' w, Q (.panic c) a w → Q (.panic c) a' w) (hL : ∀ t, T2.getLast? = some t → t = l.length - 1)
    {w : World} (hS : S w) : ∀ (R : List Nat) (listed : Array Bool) (a : Act), mixHB md l.toArray T R2 T2 R listed = true →
      wpReads P l.toArray S (fun a' => wpChain P l.toArray S Q (fun a w => wpReads P l.toArray S (fun a' => wpTail P l.toArray S Q (T2.map (opAt l)) a' w) (R2.map (opAt l)) a) (T.map (opAt l)) a' w) (R.map (opAt l)) a →
      wpAnyE P md l.toArray Q S (l.length - 1) (R.length + (T.length + (R2.length + T2.length))) listed a w
  | [], listed, a, hR, h => by
    rw [List.length_nil, Nat.zero_add]
    exact wpChain_mix hsel hQ hL T listed a w hS hR h
  | i :: r, listed, a, hR, h => by
    simp only [mixHB, Bool.and_eq_true, List.contains_iff_mem] at hR
    obtain ⟨⟨⟨f1, f2⟩, f3⟩, f4⟩ := hR
    obtain ⟨_, o, ho, _⟩ := mem_ready.1 f2
    have ho' : l[i]? = some o := by simpa using ho
    simp only [List.map_cons, opAt_some ho'] at h
    obtain ⟨v, hy, h⟩ := h
    have ih := wpHead_mix hsel hQ hL hS r _ _ f4 h
    rw [List.length_cons, Nat.add_right_comm]
    refine wpAnyE_first ho hsel (fun c a w h => hQ c _ _ w h) ?_ _ _ _ _ (Region.free_spec ho f1) f2 hy hS ih
    intro oL hoL
    unfold waitsFor at f3
    simp only [List.size_toArray] at f3
    rw [hoL] at f3
    obtain ⟨e, he, h2⟩ := Array.any_eq_true'.1 f3
    simp only [Bool.and_eq_true, beq_iff_eq] at h2
    exact ⟨e, he, h2.1, h2.2⟩
theorem wpAny_two {a : Act} {w : World} {l : List Oper} (R T R2 T2 : List Nat) (hB : mixTwoB .any l.toArray R T R2 T2 = true) (hS : S w)
    (h : wpReads P l.toArray S (fun a' => wpChain P l.toArray S (NoPanic Q) (fun a w => wpReads P l.toArray S (fun a' => wpTail P l.toArray S (NoPanic Q) (T2.map (opAt l)) a' w) (R2.map (opAt l)) a) (T.map (opAt l)) a' w) (R.map (opAt l)) a) :
    wpAny P .any l.toArray (NoPanic Q) l.toArray.size (Array.replicate l.toArray.size false) a w := by
  refine wpAny_of_E (S := S) (L := l.length - 1) _ _ _ _ ?_
  simp only [mixTwoB, Bool.and_eq_true, decide_eq_true_eq, beq_iff_eq, List.size_toArray] at hB
  obtain ⟨⟨⟨b1, b2⟩, b3⟩, b4⟩ := hB
  have := wpHead_mix (Q := NoPanic Q) (S := S) (l := l) (T := T) (R2 := R2) (T2 := T2) (w := w) (Region.noSelect_spec b1) (fun _ _ _ _ h => h) (fun t ht => by rw [b3] at ht; injection ht with ht; exact ht.symm) hS R _ a b4 h
  rw [b2] at this
  exact this
theorem wpIn_region_two {id r m : Nat} {a : Act} {w : World} {l : List Oper} (R T R2 T2 : List Nat) (S : World → Prop) (hm : P.follows .mixedOrders = true) (hB : mixTwoB .any l.toArray R T R2 T2 = true) (hnd : noDefer l = true) (hout : ∀ a w, ¬ Q .outgrown a w) (hS : S w.drew)
    (h : wpReads P l.toArray S (fun a' => wpChain P l.toArray S (NoPanic Q) (fun a w => wpReads P l.toArray S (fun a' => wpTail P l.toArray S (NoPanic Q) (T2.map (opAt l)) a' w) (R2.map (opAt l)) a) (T.map (opAt l)) a' w.drew) (R.map (opAt l)) a) :
    (Code.region id l.toArray true).wpIn (Fence.wide.inRound r) m P Q a w :=
  Code.wpIn_mono NoPanic.imp (wpIn_region_any hm (wpAny_round (noDefer_spec hnd) (fun a w h => hout a w (NoPanic.imp _ _ _ h)) _ _ _ _ (wpAny_two R T R2 T2 hB hS h)))
end
end Go.Proofs.YtdolpeljengpaaaGreat

/- region.joined: two regions joined, slab by slab. -/
namespace Go.Proofs.YtdolpeljengpaaaGreat
open Go.RowKit
set_option linter.unusedVariables false
set_option linter.unusedSimpArgs false
attribute [local go_sem] Oper.semAt_some

/-- A slab with too many spans is a region with too many rectangles. -/
theorem slab_many {h : Bool → Bool → Bool} (h0 : h false false = false) {a b : List R4} (ha : ∀ r ∈ a, wf4 r) (hb : ∀ r ∈ b, wf4 r) (c : Int) : (sjoin h (crossL a c) (crossL b c)).length ≤ (rjoin h a b).length := by
  obtain ⟨r1, r2⟩ := rjoin_ok h0 ha hb
  obtain ⟨s1, s2⟩ := sjoin_ok h0 (crossL_wf ha c) (crossL_wf hb c)
  have e : crossL (rjoin h a b) c = sjoin h (crossL a c) (crossL b c) := (crossL_can r1 c).ext s1 fun y => by
    rw [smem_crossL, r2, s2, decide_eq_decide.2 (smem_crossL (l := a)), decide_eq_decide.2 (smem_crossL (l := b))]
  rw [← e]
  exact crossL_len _ _
theorem crossL_valid {l : List R4} (h : ∀ r ∈ l, valid4 r) (c : Int) : ∀ p ∈ crossL l c, validS p := by
  intro p hp
  obtain ⟨r, hr, rfl⟩ := List.mem_map.1 hp
  have hvr := h r (List.mem_filter.1 hr).1
  exact ⟨hvr.2.1, hvr.2.2.2.2.1.1, hvr.2.2.2.2.2.2⟩

theorem keepsFrom_set {n : Nat} {A B : World} (h : KeepsFrom n A B) {p : Addr} (hp : p.block < n) (v : Value) : KeepsFrom n A (B.setCell p v) := by
  refine ⟨Nat.le_trans h.1 (by simp), fun k o hk h1 h2 => ?_⟩
  have := h.2 k o hk h1 h2
  exact (Below.heap_setCell _ _ _ _ (by omega)).trans this
set_option maxRecDepth 100000 in
set_option maxHeartbeats 4000000 in
theorem joined_any {h : Bool → Bool → Bool} (h0 : h false false = false) {f : Nat} (hf : SpJoin f h) (ef : ∀ args w, (callFunc f args).run Tryz.prog w = .ok (.enter f args) w) {a b : List R4} {va vb : Value} {w : World} (ra : RdK encR 4 w w.heap.size va a) (rb : RdK encR 4 w w.heap.size vb b) (na : a.length ≤ 100000000) (nb : b.length ≤ 100000000) :
    Calls Tryz.prog 96 #[va, vb, .func (.func f) #[] #[]] w fun e w' => RegRet w.heap.size (joinF h a b) e w' ∧ Below w.heap.size w w' := by
  have hbo := fun (W : World) (hW : Below w.heap.size w W) => both_any (w := W) ((ra.below hW).mono hW.size) ((rb.below hW).mono hW.size) na nb
  have HBO := hide hbo
  have RA := hide ra
  have RB := hide rb
  obtain ⟨A1, c1, hva, _⟩ := id ra
  obtain ⟨A2, c2, hvb, _⟩ := id rb
  subst hva; subst hvb
  clear hbo ra rb
  have HSP := hide hf
  have HEF := hide ef
  have k3 : Below w.heap.size w (((w.alloc (.cells #[.func (.func f) #[] #[]] 151)).alloc (.cells #[.slice none 0 0] 27)).alloc (.cells #[.int .i64 0] 30)) := (((Below.refl _ _).alloc (Nat.le_refl _) _).alloc (by simp) _).alloc (by simp; omega) _
  have K3 := hide k3
  clear k3 hf ef
  by_cases hb0 : bothF a b = 0
  · obtain ⟨ca, cb⟩ := bothF_ok hb0
    have HWA := hide (check_wf ca)
    have HWB := hide (check_wf cb)
    obtain ⟨la, va4, _⟩ := checkF_ok ca
    obtain ⟨lb, vb4, _⟩ := checkF_ok cb
    have HVA := hide va4
    have HVB := hide vb4
    have HCA := hide (check_rcan ca)
    have HCB := hide (check_rcan cb)
    have hcl : (List.flatMap cutsL [a, b]).length ≤ 100000000 := by simp [cutsL_len]; omega
    have hcs := cutsOf_ok (List.flatMap cutsL [a, b])
    have hl2 : (List.flatMap cutsL [a, b]).length = 2 * a.length + 2 * b.length := by simp [cutsL_len]
    have hcn : (cutsOf (List.flatMap cutsL [a, b])).length ≤ 1600 := by
      have h1 := cutsOf_len (List.flatMap cutsL [a, b])
      omega
    clear hl2
    have hfin := swp_join h0 HWA.out HWB.out hcs.1 (fun c hc => (hcs.2 c).2 (by simp [hc])) (fun c hc => (hcs.2 c).2 (by simp [hc]))
    have hgl : ∀ c, (sjoin h (crossL a c) (crossL b c)).length ≤ 1600 := by
      intro c
      have h1 := sjoin_len h (crossL a c) (crossL b c)
      have h2 := crossL_len a c
      have h3 := crossL_len b c
      omega
    have hjl := rjoin_len2 h a b la lb
    have hslab : ∀ (W : World) (L : Nat), L < W.heap.size → (∃ v, W.cell? ⟨L, 0, none⟩ = some v ∧ RdK encR 4 W W.heap.size v a) → (∃ v, W.cell? ⟨L, 1, none⟩ = some v ∧ RdK encR 4 W W.heap.size v b) → _ := fun W L h1 h2 h3 =>
      slabsB_any [a, b] L 2 W h1 (fun k l' hk => by
        match k, hk with
        | 0, hk => simp at hk; subst hk; exact h2
        | 1, hk => simp at hk; subst hk; exact h3
        | k + 2, hk => simp at hk) hcl (by simp)
    simp only [List.length_cons, List.length_nil, Nat.zero_add, Nat.reduceAdd] at hslab
    have hJF : joinF h a b = if 400 < (rjoin h a b).length then ([], 4) else (rjoin h a b, 0) := if_pos hb0
    rw [hb0] at HBO
    have HMANY := hide (fun c => slab_many h0 HWA.out HWB.out c)
    generalize hcsd : cutsOf (List.flatMap cutsL [a, b]) = cs at *
    clear hcsd
    have HS := hide hslab
    have HF := hide hfin
    have HG := hide hgl
    have HC := hide hcs
    have HJF := hide hJF
    clear hslab hfin hgl hcs hJF ca cb hb0 va4 vb4
    refine (callsIn_wide (n := 0)).1 ?_
    refine callsIn_of_wp_marks Tryz.func96 rfl trivial ?_
    simp only [Tryz.ntmps96, List.size_toArray, List.length_cons, List.length_nil, Nat.reduceAdd, Nat.reduceSub, Array.replicate_succ, Array.replicate_zero, List.push_toArray, List.append_toArray, List.nil_append, List.cons_append]
    refine wpIn_wide.2 ?_
    go_wp2_with (fail)
    refine (HBO.out _ K3.out).mono ?_
    rintro e w1 ⟨rfl, hb1⟩
    have hs1 := hb1.size
    simp at hs1
    have c5 : w1.cell? ⟨w.heap.size, 0, none⟩ = some (.func (.func f) #[] #[]) := (hb1.cell (p := ⟨w.heap.size, 0, none⟩) (by simp; omega)).trans (by simp [go_sem])
    have k6 : w1.cell? ⟨w.heap.size + 1, 0, none⟩ = some (.slice none 0 0) := (hb1.cell (p := ⟨w.heap.size + 1, 0, none⟩) (by simp)).trans (by simp [go_sem])
    have k7 : w1.cell? ⟨w.heap.size + 1 + 1, 0, none⟩ = some (.int .i64 0) := (hb1.cell (p := ⟨w.heap.size + 1 + 1, 0, none⟩) (by simp)).trans (by simp [go_sem])
    have f6 : w1.frozen? ⟨w.heap.size + 1, 0, none⟩ = false := (hb1.frozen (p := ⟨w.heap.size + 1, 0, none⟩) (by simp)).trans (by simp [go_sem])
    have f7 : w1.frozen? ⟨w.heap.size + 1 + 1, 0, none⟩ = false := (hb1.frozen (p := ⟨w.heap.size + 1 + 1, 0, none⟩) (by simp)).trans (by simp [go_sem])
    have KB := hide (K3.out.trans (hb1.mono (by simp; omega)))
    have HBX := hide (And.intro c5 (And.intro (And.intro k6 k7) (And.intro f6 f7)))
    clear hb1 c5 k6 k7 f6 f7 HBO
    go_wp2_with (fail)
    have hb2 : Below w1.heap.size w1 ((w1.alloc (.cells #[.slice none 0 0, .slice none 0 0, .int .i64 0, .int .i64 0] 205)).alloc (.cells #[.slice A1 a.length c1, .slice A2 b.length c2] 27)) := ((Below.refl _ _).alloc (Nat.le_refl _) _).alloc (by simp) _
    have hL1 : ((w1.alloc (.cells #[.slice none 0 0, .slice none 0 0, .int .i64 0, .int .i64 0] 205)).alloc (.cells #[.slice A1 a.length c1, .slice A2 b.length c2] 27)).cell? ⟨w1.heap.size + 1, 0, none⟩ = some (.slice A1 a.length c1) := by simp [go_sem]
    have hL2 : ((w1.alloc (.cells #[.slice none 0 0, .slice none 0 0, .int .i64 0, .int .i64 0] 205)).alloc (.cells #[.slice A1 a.length c1, .slice A2 b.length c2] 27)).cell? ⟨w1.heap.size + 1, 1, none⟩ = some (.slice A2 b.length c2) := by simp [go_sem]
    have hs := HS.out ((w1.alloc (.cells #[.slice none 0 0, .slice none 0 0, .int .i64 0, .int .i64 0] 205)).alloc (.cells #[.slice A1 a.length c1, .slice A2 b.length c2] 27)) (w1.heap.size + 1) (by simp)
      ⟨_, hL1, (((RA.out.below KB.out).mono KB.out.size).below hb2).mono hb2.size⟩ ⟨_, hL2, (((RB.out.below KB.out).mono KB.out.size).below hb2).mono hb2.size⟩
    simp only [World.size_alloc, Nat.add_assoc, Nat.reduceAdd] at hs
    have hbc : ∀ j u, (#[Value.slice none 0 0, .slice none 0 0, .int .i64 0, .int .i64 0] : Array Value)[j]? = some u → ((w1.alloc (.cells #[.slice none 0 0, .slice none 0 0, .int .i64 0, .int .i64 0] 205)).alloc (.cells #[.slice A1 a.length c1, .slice A2 b.length c2] 27)).cell? ⟨w1.heap.size, j, none⟩ = some u := by
      intro j u hj
      refine (World.cell?_alloc_lt (w1.alloc _) _ ⟨w1.heap.size, j, none⟩ (by simp)).trans ?_
      have := news_new w1 [Value.slice none 0 0, .slice none 0 0, .int .i64 0, .int .i64 0] 205 w1.heap.size rfl j u (by simpa using hj)
      rwa [addr_add] at this
    refine hs.mono ?_
    clear hs
    rintro e wS ⟨vc, rfl, hbl, hbc2, hown, hbS⟩
    have hsz1 : ((w1.alloc (.cells #[.slice none 0 0, .slice none 0 0, .int .i64 0, .int .i64 0] 205)).alloc (.cells #[.slice A1 a.length c1, .slice A2 b.length c2] 27)).heap.size = w1.heap.size + 2 := by simp
    have hz1 : ∀ j, ((w1.alloc (.cells #[.slice none 0 0, .slice none 0 0, .int .i64 0, .int .i64 0] 205)).alloc (.cells #[.slice A1 a.length c1, .slice A2 b.length c2] 27)).frozen? ⟨w1.heap.size, j, none⟩ = false := fun j => by simp [go_sem]
    go_wp2_with (fail)
    obtain ⟨w2, hw2⟩ : ∃ w2, (w1.alloc (.cells #[.slice none 0 0, .slice none 0 0, .int .i64 0, .int .i64 0] 205)).alloc (.cells #[.slice A1 a.length c1, .slice A2 b.length c2] 27) = w2 := ⟨_, rfl⟩
    rw [hw2] at hb2 hL1 hL2 hbc hbS hsz1 hz1
    clear hw2
    have hcsz := hbS.size
    obtain ⟨Ac, cc, hvc⟩ := own_form hown
    subst hvc
    have hbS2 : Below (w1.heap.size + 2) w2 wS := hbS.mono (by omega)
    have hlow : Below w1.heap.size w1 wS := hb2.trans (hbS.mono (by omega))
    have kS : ∀ j, wS.cell? ⟨w1.heap.size, j, none⟩ = w2.cell? ⟨w1.heap.size, j, none⟩ := fun j => hbS2.cell (p := ⟨w1.heap.size, j, none⟩) (by show w1.heap.size < _; omega)
    have zS : ∀ j, wS.frozen? ⟨w1.heap.size, j, none⟩ = w2.frozen? ⟨w1.heap.size, j, none⟩ := fun j => hbS2.frozen (p := ⟨w1.heap.size, j, none⟩) (by show w1.heap.size < _; omega)
    have hbw0 : BW w1.heap.size wS.heap.size (swp (fun c => sjoin h (crossL a c) (crossL b c)) []) [] 0 0 wS :=
      ⟨by omega, Nat.le_refl _, ⟨_, (kS 0).trans (hbc 0 _ rfl), World.ownsRow_nil _ _ _ _⟩, ⟨_, (kS 1).trans (hbc 1 _ rfl), World.ownsRow_nil _ _ _ _⟩, (kS 2).trans (hbc 2 _ rfl), (kS 3).trans (hbc 3 _ rfl), fun j => (zS j).trans (hz1 j), BInv.start⟩
    have hL1S := (hbS2.cell (p := ⟨w1.heap.size + 1, 0, none⟩) (by show w1.heap.size + 1 < _; omega)).trans hL1
    have hL2S := (hbS2.cell (p := ⟨w1.heap.size + 1, 1, none⟩) (by show w1.heap.size + 1 < _; omega)).trans hL2
    have hit := slabsItB [a, b] cs (w1.heap.size + 3) (w1.heap.size + 2) (w1.heap.size + 1) 2 cc w1.heap.size (w1.heap.size + 4) Ac wS (lt_of_cell hbl) (lt_of_cell hbc2) (by omega) (by omega) (by omega) (by omega) (by omega) (by omega)
      hbl hbc2 hown (fun k l' hk => by
        match k, hk with
        | 0, hk => simp at hk; subst hk; exact ⟨by omega, _, hL1S, ((RA.out.below KB.out).mono KB.out.size).below hlow⟩
        | 1, hk => simp at hk; subst hk; exact ⟨by omega, _, hL2S, ((RB.out.below KB.out).mono KB.out.size).below hlow⟩
        | k + 2, hk => simp at hk) (by simp) (by omega)
    have hws : w1.heap.size + 4 ≤ wS.heap.size := lt_of_cell hbc2
    have hI0 : MI w1.heap.size wS.heap.size (fun c => sjoin h (crossL a c) (crossL b c)) 1600 w1 [] wS := ⟨⟨[], 0, 0, hbw0, by simp, .inl rfl⟩, hlow⟩
    clear hb2 hL1 hL2 hbc hbS hsz1 hz1 hcsz hbS2 hlow kS zS hbw0 hL1S hL2S hbl hbc2 hown
    refine (wpIn_wide (n := 0)).1 ?_
    refine wp_range rfl (enters_of Tryz.func187 (by kernel_rfl) rfl) hit (Below.refl _ _) (fun x args A hx => by obtain ⟨Rw, rfl, _⟩ := hx; rfl) KpX.trans ?_
      (MI w1.heap.size wS.heap.size (fun c => sjoin h (crossL a c) (crossL b c)) 1600 w1) (fun _ W => 400 < (rjoin h a b).length ∧ W.cell? ⟨w.heap.size + 1, 0, none⟩ = some (.slice none 0 0) ∧ W.cell? ⟨w.heap.size + 1 + 1, 0, none⟩ = some (.int .i64 4) ∧ Below w.heap.size w W)
      (fun pre A B h hb => h.below hb) (fun pre A l o o' h hw hl ho ho' => h.putObj (by omega) hl ho ho') (fun pre A l o o' h hw hl ho ho' => ⟨h.1, (cell_putObj hl ho ho' _).1.trans h.2.1, (cell_putObj hl ho ho' _).1.trans h.2.2.1, below_putObj h.2.2.2 (by have := KB.out.size; omega) _⟩) hI0 ?_ ?_ ?_
    · intro A l o o' _ h1 h2 h3
      exact ⟨by simp, fun b off _ _ => (cell_putObj h1 h2 h3 _).1⟩
    · rintro l2 pre ⟨c, d⟩ args A hMI ⟨post, hpost⟩ ⟨Rw, rfl, hRw, hrows⟩ hl1 ⟨ol, hl2, hl3⟩
      have hll : l2 < A.heap.size := (Array.getElem?_eq_some_iff.1 hl2).1
      obtain ⟨vx, hx1, hx2⟩ := hrows 0 a rfl
      obtain ⟨vy, hy1, hy2⟩ := hrows 1 b rfl
      have hlo := hMI.low.size
      have hBoA : wS.heap.size ≤ A.heap.size := by obtain ⟨_, _, _, h1, _⟩ := hMI.bw; exact h1.size
      have hM := hide hMI
      have HX1 := hide hx1
      have HX2 := hide hx2
      have HY1 := hide hy1
      have HY2 := hide hy2
      have HL2 := hide hl2
      have HP := hide hpost
      clear hMI hrows hx1 hx2 hy1 hy2 hit hI0 hl2 hpost
      gi_wp2
      refine ⟨KeepsFrom.of_below' ((Below.refl _ _).alloc (Nat.le_refl _) _), KpX.below hBoA ((Below.refl _ _).alloc (Nat.le_refl _) _), ?_⟩
      intro A2 g2 s2 e2 f2
      have c20 : A2.cell? ⟨A.heap.size, 0, none⟩ = some (.int .i64 c) := (e2 _).trans (by simp [go_sem])
      have c21 : A2.cell? ⟨A.heap.size, 1, none⟩ = some (.int .i64 d) := (e2 _).trans (by simp [go_sem])
      have c22 : A2.cell? ⟨A.heap.size, 2, none⟩ = some (.slice (some ⟨Rw, 0, none⟩) 2 2) := (e2 _).trans (by simp [go_sem])
      have s3 : A2.heap.size = A.heap.size + 1 := by rw [s2]; simp
      have cR0 : A2.cell? ⟨Rw, 0, none⟩ = some vx := (e2 _).trans ((World.cell?_alloc_lt A _ ⟨Rw, 0, none⟩ hRw).trans HX1.out)
      have cR1 : A2.cell? ⟨Rw, 1, none⟩ = some vy := (e2 _).trans ((World.cell?_alloc_lt A _ ⟨Rw, 1, none⟩ hRw).trans HY1.out)
      have rd0 : RdK encS 2 A2 A2.heap.size vx (crossL a c) := (HX2.out.keep fun b o hb => (e2 _).trans (World.cell?_alloc_lt A _ ⟨b, o, none⟩ hb)).mono (by omega)
      have rd1 : RdK encS 2 A2 A2.heap.size vy (crossL b c) := (HY2.out.keep fun b o hb => (e2 _).trans (World.cell?_alloc_lt A _ ⟨b, o, none⟩ hb)).mono (by omega)
      have M2 := (hM.out.below ((Below.refl _ _).alloc (Nat.le_refl _) (.cells #[.int .i64 c, .int .i64 d, .slice (some ⟨Rw, 0, none⟩) 2 2] 210))).grown (by omega) g2 ((Below.heap_alloc _ _ _ hll).trans HL2.out) hl3
      have c5 : A2.cell? ⟨w.heap.size, 0, none⟩ = some (.func (.func f) #[] #[]) := (M2.low.cell (p := ⟨w.heap.size, 0, none⟩) (by show w.heap.size < _; omega)).trans HBX.out.1
      have k6 : A2.cell? ⟨w.heap.size + 1, 0, none⟩ = some (.slice none 0 0) := (M2.low.cell (p := ⟨w.heap.size + 1, 0, none⟩) (by show w.heap.size + 1 < _; omega)).trans HBX.out.2.1.1
      have k7 : A2.cell? ⟨w.heap.size + 1 + 1, 0, none⟩ = some (.int .i64 0) := (M2.low.cell (p := ⟨w.heap.size + 1 + 1, 0, none⟩) (by show w.heap.size + 1 + 1 < _; omega)).trans HBX.out.2.1.2
      have f6 : A2.frozen? ⟨w.heap.size + 1, 0, none⟩ = false := (M2.low.frozen (p := ⟨w.heap.size + 1, 0, none⟩) (by show w.heap.size + 1 < _; omega)).trans HBX.out.2.2.1
      have f7 : A2.frozen? ⟨w.heap.size + 1 + 1, 0, none⟩ = false := (M2.low.frozen (p := ⟨w.heap.size + 1 + 1, 0, none⟩) (by show w.heap.size + 1 + 1 < _; omega)).trans HBX.out.2.2.2
      obtain ⟨av, cv, hvx, _⟩ := id rd0
      obtain ⟨aw, cw, hvy, _⟩ := id rd1
      subst hvx; subst hvy
      have hcall := fun (W : World) (hW : Below A2.heap.size A2 W) => HSP.out (crossL a c) (crossL b c) _ _ W ((rd0.below hW).mono hW.size) ((rd1.below hW).mono hW.size) (Nat.le_trans (crossL_len a c) la) (Nat.le_trans (crossL_len b c) lb) (crossL_can HCA.out c) (crossL_can HCB.out c) (crossL_valid HVA.out c) (crossL_valid HVB.out c)
      have HCALL := hide hcall
      obtain ⟨last, first, e, B2, q1, q2⟩ := M2.bw
      have hprs := HP.out
      have hlt := prs_lt cs HC.out.1 (c, d) (by rw [hprs]; simp)
      have hnx := prs_next cs pre (c, d) post hprs
      have hplen : pre.length ≤ 1600 := by
        have h1 := prs_len cs
        rw [hprs] at h1
        simp at h1
        omega
      have hfl := swp_len (fun c => sjoin h (crossL a c) (crossL b c)) 1600 HG.out pre
      have hfl2 : (flat (swp (fun c => sjoin h (crossL a c) (crossL b c)) pre)).length ≤ 100000000 := by have := Nat.mul_le_mul_right 1600 hplen; omega
      have hsl := HG.out c
      have hef : swp (fun c => sjoin h (crossL a c) (crossL b c)) pre = [] ∨ e ≤ c := by
        rcases q2 with rfl | ⟨p, hp, rfl⟩
        · exact .inl rfl
        · exact .inr (by rw [hnx p hp]; exact Int.le_refl _)
      have hadd : ∀ (A3 : World) (Am : Option Addr) (cm : Nat), Below A2.heap.size A2 A3 → A3.ownsRow wS.heap.size 188 2 (.slice Am (sjoin h (crossL a c) (crossL b c)).length cm) (sjoin h (crossL a c) (crossL b c)).length ((sjoin h (crossL a c) (crossL b c)).flatMap encS) → _ := fun A3 Am cm hb ho =>
        add_any (s := sjoin h (crossL a c) (crossL b c)) (f := c) (t := d) (B2.below hb) ho hfl2 (Nat.le_trans hsl (by omega)) (by omega) hef hlt.1
      have HA := hide hadd
      have HM2 := hide M2.low
      have HMC := hide (HMANY.out c)
      have hsj : sjF h (crossL a c) (crossL b c) = if 400 < (sjoin h (crossL a c) (crossL b c)).length then ([], 4) else (sjoin h (crossL a c) (crossL b c), 0) := rfl
      have HSJ := hide hsj
      have HBLT := hide (show w.heap.size + 3 ≤ A2.heap.size by omega)
      have hRw2 : Rw < A2.heap.size := by omega
      have hws2 : wS.heap.size ≤ A2.heap.size := by omega
      clear g2 s2 e2 f2 M2 B2 hadd hlt hnx hef hprs q2 hcall rd0 rd1 hsj hfl hfl2
      gi_wp2_with (refine ⟨trivial, rfl, ?_⟩)
      refine wpIn_region_two [0, 1, 2, 3, 4, 5, 6, 7, 8] [9, 10] [11, 12, 13] [14] (fun w' => (w'.cell? ⟨w.heap.size, 0, none⟩ = some (.func (.func f) #[] #[]) ∧ w'.cell? ⟨A.heap.size, 2, none⟩ = some (.slice (some ⟨Rw, 0, none⟩) 2 2)) ∧ w'.cell? ⟨Rw, 0, none⟩ = some (.slice av (crossL a c).length cv) ∧ w'.cell? ⟨Rw, 1, none⟩ = some (.slice aw (crossL b c).length cw)) (by kernel_rfl) (by kernel_rfl) rfl (fun a w h => h) ⟨⟨c5, c22⟩, cR0, cR1⟩ ?_
      simp only [List.map_cons, List.map_nil, opAt, List.getElem?_cons_succ, List.getElem?_cons_zero, Option.getD_some]
      iterate 9
        refine ⟨?_, Or.inl ⟨by rfl, ?_⟩, ?_⟩
        rotate_left 1
        · intro w' hSw
          obtain ⟨⟨z0, z1⟩, z2, z3⟩ := hSw
          go_simp
          first | done | with_reducible rfl
        simp only [Act.put, List.setIfInBounds_toArray, List.set_cons_zero, List.set_cons_succ]
      simp only [wpReads, wpChain]
      intro K hK
      simp only [Act.put, List.setIfInBounds_toArray, List.set_cons_zero, List.set_cons_succ] at hK ⊢
      go_simp
      rw [HEF.out]
      have hcd := HCALL.out A2.drew (Below.refl _ _).drew
      rw [HSJ.out] at hcd
      refine hcd.mono ?_
      clear hcd
      rintro e' A4 ⟨⟨Am, cm, rfl, ho4⟩, hb4'⟩
      have hb4 : Below A2.heap.size A2 A4 := (Below.refl _ _).drew.trans hb4'
      have hkc : ∀ p : Addr, p.block < A2.heap.size → A4.cell? p = A2.cell? p := fun p hp => hb4.cell hp
      have hkf : ∀ p : Addr, p.block < A2.heap.size → A4.frozen? p = A2.frozen? p := fun p hp => hb4.frozen hp
      have n5 := (hkc ⟨w.heap.size, 0, none⟩ (by show w.heap.size < _; omega)).trans c5
      have n6 := (hkc ⟨w.heap.size + 1, 0, none⟩ (by show w.heap.size + 1 < _; omega)).trans k6
      have n7 := (hkc ⟨w.heap.size + 1 + 1, 0, none⟩ (by show w.heap.size + 1 + 1 < _; omega)).trans k7
      have m6 := (hkf ⟨w.heap.size + 1, 0, none⟩ (by show w.heap.size + 1 < _; omega)).trans f6
      have m7 := (hkf ⟨w.heap.size + 1 + 1, 0, none⟩ (by show w.heap.size + 1 + 1 < _; omega)).trans f7
      have n20 := (hkc ⟨A.heap.size, 0, none⟩ (by show A.heap.size < _; omega)).trans c20
      have n21 := (hkc ⟨A.heap.size, 1, none⟩ (by show A.heap.size < _; omega)).trans c21
      have n22 := (hkc ⟨A.heap.size, 2, none⟩ (by show A.heap.size < _; omega)).trans c22
      have nR0 := (hkc ⟨Rw, 0, none⟩ (by show Rw < _; omega)).trans cR0
      have nR1 := (hkc ⟨Rw, 1, none⟩ (by show Rw < _; omega)).trans cR1
      have HB4 := hide hb4
      have HO4 := hide ho4
      clear hkc hkf c5 k6 k7 f6 f7 c20 c21 c22 cR0 cR1 hb4 hb4' ho4
      refine hK _ _ ⟨⟨n5, n22⟩, nR0, nR1⟩ ?_
      clear hK K
      intro K hK
      simp only [Act.put, List.setIfInBounds_toArray, List.set_cons_zero, List.set_cons_succ] at hK ⊢
      go_simp
      refine hK _ _ ⟨⟨n5, n22⟩, nR0, nR1⟩ ?_
      clear hK K n5 n22 nR0 nR1
      iterate 3
        refine ⟨?_, Or.inl ⟨by rfl, ?_⟩, ?_⟩
        rotate_left 1
        · intro w' hSw
          clear hSw
          go_simp
          first | done | with_reducible rfl
        try simp only [Act.put, List.setIfInBounds_toArray, List.set_cons_zero, List.set_cons_succ]
      intro K hK
      simp only [Act.put, List.setIfInBounds_toArray, List.set_cons_zero, List.set_cons_succ] at hK ⊢
      go_simp
      refine hK _ _ (fun h => absurd rfl h) ?_
      clear hK K
      refine NoPanic.normal ?_
      by_cases h4 : 400 < (sjoin h (crossL a c) (crossL b c)).length
      · have HO5 := HO4.out
        simp only [if_pos h4] at HO5 ⊢
        have hmany := Nat.lt_of_lt_of_le h4 HMC.out
        gi_wp2_with (fail)
        have hb4 := HB4.out
        refine ⟨keepsFrom_set (keepsFrom_set (KeepsFrom.of_below' hb4) (by show w.heap.size + 1 < _; omega) _) (by show w.heap.size + 1 + 1 < _; omega) _, hmany, by simp [go_sem, n6, n7, m6, m7], by simp [go_sem, n6, n7, m6, m7], ?_⟩
        exact (((KB.out.trans (HM2.out.mono (by omega))).trans (hb4.mono (by omega))).setCell (p := ⟨w.heap.size + 1, 0, none⟩) (Nat.le_succ _) _).setCell (p := ⟨w.heap.size + 1 + 1, 0, none⟩) (by show w.heap.size ≤ w.heap.size + 1 + 1; omega) _
      · have HO5 := HO4.out
        simp only [if_neg h4] at HO5 ⊢
        have hadd := HA.out A4 Am cm HB4.out (own_base HO5 (by show wS.heap.size ≤ A2.heap.size; omega))
        gi_wp2_with (first
          | (refine ⟨trivial, rfl, ?_⟩)
          | (gi_at_call 144; refine (CallsIn.inRound l2 (callsIn_wide.2 hadd)).mono ?_; rintro e' A5 ⟨rfl, first', hbw5, hb5, hblk5, hk5⟩))
        have hb4 := HB4.out
        refine ⟨(KeepsFrom.of_below' hb4).trans (hk5.from _), (KpX.below (by omega) hb4).trans ⟨hk5.size, fun b o h1 h2 => World.cell?_of_block (w := A4) (hblk5 b h1 h2)⟩, ⟨_, first', d, by rw [swp_snoc]; exact hbw5, hsl, .inr ⟨(c, d), by simp, rfl⟩⟩, ?_⟩
        exact (HM2.out.trans (hb4.mono (by omega))).trans hb5
    · rintro D W hD hMI hK
      obtain ⟨last, first, e, hB, _, _⟩ := hMI.bw
      have hplen : (prs cs).length ≤ 1600 := by
        have h1 := prs_len cs
        omega
      have hfl := swp_len (fun c => sjoin h (crossL a c) (crossL b c)) 1600 HG.out (prs cs)
      have hfl2 := Nat.mul_le_mul_right 1600 hplen
      have hres := result_any hB (by omega)
      rw [HF.out] at hres
      have hws2 := hB.size
      have HM := hide hMI.low
      have HK := hide hK
      have hD2 : D < W.heap.size := (Array.getElem?_eq_some_iff.1 hK).1
      have hlw : w1.heap.size ≤ W.heap.size := hMI.low.size
      have k6 : W.cell? ⟨w.heap.size + 1, 0, none⟩ = some (.slice none 0 0) := (HM.out.cell (p := ⟨w.heap.size + 1, 0, none⟩) (by show w.heap.size + 1 < _; omega)).trans HBX.out.2.1.1
      have k7 : W.cell? ⟨w.heap.size + 1 + 1, 0, none⟩ = some (.int .i64 0) := (HM.out.cell (p := ⟨w.heap.size + 1 + 1, 0, none⟩) (by show w.heap.size + 1 + 1 < _; omega)).trans HBX.out.2.1.2
      have f6 : W.frozen? ⟨w.heap.size + 1, 0, none⟩ = false := (HM.out.frozen (p := ⟨w.heap.size + 1, 0, none⟩) (by show w.heap.size + 1 < _; omega)).trans HBX.out.2.2.1
      have f7 : W.frozen? ⟨w.heap.size + 1 + 1, 0, none⟩ = false := (HM.out.frozen (p := ⟨w.heap.size + 1 + 1, 0, none⟩) (by show w.heap.size + 1 + 1 < _; omega)).trans HBX.out.2.2.2
      clear hB hMI hfl hfl2 hit hI0 hK
      simp only [Exit.inBlock, Exit.then]
      by_cases h4 : 400 < (rjoin h a b).length
      · have HMF : Hid (joinF h a b = ([], 4)) := hide (HJF.out.trans (if_pos h4))
        go_wp2_with (go_at_call 145; refine hres.mono ?_; rintro e' w' ⟨rfl, hq⟩; obtain rfl : e' = .returned (.tuple #[.slice none 0 0, .int .i64 4]) := hq.elim (fun q => q.2) (fun q => absurd q.1 (by omega)); clear hq)
        have c6 : ((W.setCell ⟨w.heap.size + 1, 0, none⟩ (.slice none 0 0)).setCell ⟨w.heap.size + 1 + 1, 0, none⟩ (.int .i64 4)).cell? ⟨w.heap.size + 1, 0, none⟩ = some (.slice none 0 0) := by simp [go_sem, k6, k7, f6, f7]
        have c7 : ((W.setCell ⟨w.heap.size + 1, 0, none⟩ (.slice none 0 0)).setCell ⟨w.heap.size + 1 + 1, 0, none⟩ (.int .i64 4)).cell? ⟨w.heap.size + 1 + 1, 0, none⟩ = some (.int .i64 4) := by simp [go_sem, k6, k7, f6, f7]
        have cD : ((W.setCell ⟨w.heap.size + 1, 0, none⟩ (.slice none 0 0)).setCell ⟨w.heap.size + 1 + 1, 0, none⟩ (.int .i64 4)).heap[D]? = some (.deferred (some [])) := (Below.heap_setCell _ _ _ _ (by show D ≠ w.heap.size + 1 + 1; omega)).trans ((Below.heap_setCell _ _ _ _ (by show D ≠ w.heap.size + 1; omega)).trans HK.out)
        have hbL : Below w.heap.size w ((W.setCell ⟨w.heap.size + 1, 0, none⟩ (.slice none 0 0)).setCell ⟨w.heap.size + 1 + 1, 0, none⟩ (.int .i64 4)) := ((KB.out.trans (HM.out.mono (by omega))).setCell (p := ⟨w.heap.size + 1, 0, none⟩) (Nat.le_succ _) _).setCell (p := ⟨w.heap.size + 1 + 1, 0, none⟩) (by show w.heap.size ≤ w.heap.size + 1 + 1; omega) _
        obtain ⟨W3, hW3⟩ : ∃ W3, (W.setCell ⟨w.heap.size + 1, 0, none⟩ (.slice none 0 0)).setCell ⟨w.heap.size + 1 + 1, 0, none⟩ (.int .i64 4) = W3 := ⟨_, rfl⟩
        rw [hW3] at c6 c7 cD hbL
        rw [hW3]
        clear hW3 k6 k7 f6 f7
        refine ⟨by simp, .inl ⟨_, _, rfl, run_takeDeferred cD, ?_⟩⟩
        have e6 := (cell_putObj (o' := .deferred none) cD rfl rfl ⟨w.heap.size + 1, 0, none⟩).1.trans c6
        have e7 := (cell_putObj (o' := .deferred none) cD rfl rfl ⟨w.heap.size + 1 + 1, 0, none⟩).1.trans c7
        refine ⟨.tuple #[(.slice none 0 0), .int .i64 4], by simp [results, Tryz.results96, go_sem, e6, e7], ⟨none, 0, by rw [HMF.out]; rfl, by rw [HMF.out]; exact World.ownsRow_nil _ _ _ _⟩, below_putObj hbL (by omega) _⟩
      · have HMF : Hid (joinF h a b = (rjoin h a b, 0)) := hide (HJF.out.trans (if_neg h4))
        generalize rjoin h a b = R at *
        go_wp2_with (go_at_call 145; refine hres.mono ?_; rintro e' w' ⟨rfl, hq⟩; obtain ⟨Ar, cr, rfl, hor⟩ := hq.elim (fun q => absurd q.1 h4) (fun q => q.2); have HOR := hide hor; clear hq hor)
        have c6 : ((W.setCell ⟨w.heap.size + 1, 0, none⟩ (.slice Ar R.length cr)).setCell ⟨w.heap.size + 1 + 1, 0, none⟩ (.int .i64 0)).cell? ⟨w.heap.size + 1, 0, none⟩ = some (.slice Ar R.length cr) := by simp [go_sem, k6, k7, f6, f7]
        have c7 : ((W.setCell ⟨w.heap.size + 1, 0, none⟩ (.slice Ar R.length cr)).setCell ⟨w.heap.size + 1 + 1, 0, none⟩ (.int .i64 0)).cell? ⟨w.heap.size + 1 + 1, 0, none⟩ = some (.int .i64 0) := by simp [go_sem, k6, k7, f6, f7]
        have cD : ((W.setCell ⟨w.heap.size + 1, 0, none⟩ (.slice Ar R.length cr)).setCell ⟨w.heap.size + 1 + 1, 0, none⟩ (.int .i64 0)).heap[D]? = some (.deferred (some [])) := (Below.heap_setCell _ _ _ _ (by show D ≠ w.heap.size + 1 + 1; omega)).trans ((Below.heap_setCell _ _ _ _ (by show D ≠ w.heap.size + 1; omega)).trans HK.out)
        have hbL : Below w.heap.size w ((W.setCell ⟨w.heap.size + 1, 0, none⟩ (.slice Ar R.length cr)).setCell ⟨w.heap.size + 1 + 1, 0, none⟩ (.int .i64 0)) := ((KB.out.trans (HM.out.mono (by omega))).setCell (p := ⟨w.heap.size + 1, 0, none⟩) (Nat.le_succ _) _).setCell (p := ⟨w.heap.size + 1 + 1, 0, none⟩) (by show w.heap.size ≤ w.heap.size + 1 + 1; omega) _
        have hoL : ((W.setCell ⟨w.heap.size + 1, 0, none⟩ (.slice Ar R.length cr)).setCell ⟨w.heap.size + 1 + 1, 0, none⟩ (.int .i64 0)).ownsRow wS.heap.size 69 4 (.slice Ar R.length cr) R.length (R.flatMap encR) := ownsRow_setCell_below (ownsRow_setCell_below HOR.out (by show w.heap.size + 1 < _; omega) _) (by show w.heap.size + 1 + 1 < _; omega) _
        obtain ⟨W3, hW3⟩ : ∃ W3, (W.setCell ⟨w.heap.size + 1, 0, none⟩ (.slice Ar R.length cr)).setCell ⟨w.heap.size + 1 + 1, 0, none⟩ (.int .i64 0) = W3 := ⟨_, rfl⟩
        rw [hW3] at c6 c7 cD hbL hoL
        rw [hW3]
        clear hW3 k6 k7 f6 f7
        refine ⟨by simp, .inl ⟨_, _, rfl, run_takeDeferred cD, ?_⟩⟩
        have e6 := (cell_putObj (o' := .deferred none) cD rfl rfl ⟨w.heap.size + 1, 0, none⟩).1.trans c6
        have e7 := (cell_putObj (o' := .deferred none) cD rfl rfl ⟨w.heap.size + 1 + 1, 0, none⟩).1.trans c7
        refine ⟨.tuple #[(.slice Ar R.length cr), .int .i64 0], by simp [results, Tryz.results96, go_sem, e6, e7], ⟨Ar, cr, by rw [HMF.out], by rw [HMF.out]; exact own_base (own_putObj hoL cD rfl) (by omega)⟩, below_putObj hbL (by omega) _⟩
    · rintro D pre W hD ⟨hmany, hc6, hc7, hlowW⟩ hK
      have HMF : Hid (joinF h a b = ([], 4)) := hide (HJF.out.trans (if_pos hmany))
      have HK := hide hK
      have hD2 : D < W.heap.size := (Array.getElem?_eq_some_iff.1 hK).1
      clear hit hI0 hK
      simp only [Exit.inBlock, Exit.then]
      refine ⟨by simp, .inl ⟨_, _, rfl, run_takeDeferred HK.out, ?_⟩⟩
      have e6 := (cell_putObj (o' := .deferred none) HK.out rfl rfl ⟨w.heap.size + 1, 0, none⟩).1.trans hc6
      have e7 := (cell_putObj (o' := .deferred none) HK.out rfl rfl ⟨w.heap.size + 1 + 1, 0, none⟩).1.trans hc7
      refine ⟨.tuple #[.slice none 0 0, .int .i64 4], by simp [results, Tryz.results96, go_sem, e6, e7], ⟨none, 0, by rw [HMF.out]; rfl, by rw [HMF.out]; exact World.ownsRow_nil _ _ _ _⟩, below_putObj hlowW (by omega) _⟩
  · have HF : Hid (joinF h a b = ([], bothF a b)) := hide (if_neg hb0)
    generalize bothF a b = ck at *
    have hne : (ck != 0) = true := by simpa using hb0
    clear hb0
    refine (callsIn_wide (n := 0)).1 ?_
    refine callsIn_of_wp_marks Tryz.func96 rfl trivial ?_
    simp only [Tryz.ntmps96, List.size_toArray, List.length_cons, List.length_nil, Nat.reduceAdd, Nat.reduceSub, Array.replicate_succ, Array.replicate_zero, List.push_toArray, List.append_toArray, List.nil_append, List.cons_append]
    refine wpIn_wide.2 ?_
    go_wp2_with (fail)
    refine (HBO.out _ K3.out).mono ?_
    rintro e w1 ⟨rfl, hb1⟩
    have hs1 := hb1.size
    simp at hs1
    have k6 : w1.cell? ⟨w.heap.size + 1, 0, none⟩ = some (.slice none 0 0) := (hb1.cell (p := ⟨w.heap.size + 1, 0, none⟩) (by simp)).trans (by simp [go_sem])
    have k7 : w1.cell? ⟨w.heap.size + 1 + 1, 0, none⟩ = some (.int .i64 0) := (hb1.cell (p := ⟨w.heap.size + 1 + 1, 0, none⟩) (by simp)).trans (by simp [go_sem])
    have f6 : w1.frozen? ⟨w.heap.size + 1, 0, none⟩ = false := (hb1.frozen (p := ⟨w.heap.size + 1, 0, none⟩) (by simp)).trans (by simp [go_sem])
    have f7 : w1.frozen? ⟨w.heap.size + 1 + 1, 0, none⟩ = false := (hb1.frozen (p := ⟨w.heap.size + 1 + 1, 0, none⟩) (by simp)).trans (by simp [go_sem])
    have KB := hide (K3.out.trans (hb1.mono (by simp; omega)))
    clear hb1
    go_wp2_with (fail)
    refine ⟨.tuple #[.slice none 0 0, .int .i64 ck], by simp [results, Tryz.results96, go_sem, k6, k7], ⟨none, 0, by rw [HF.out]; rfl, by rw [HF.out]; exact World.ownsRow_nil _ _ _ _⟩, ?_⟩
    exact (KB.out.setCell (p := ⟨w.heap.size + 1, 0, none⟩) (Nat.le_succ _) _).setCell (p := ⟨w.heap.size + 1 + 1, 0, none⟩) (by show w.heap.size ≤ w.heap.size + 1 + 1; omega) _
end Go.Proofs.YtdolpeljengpaaaGreat

/- region.Union, Meet and Minus. -/
namespace Go.Proofs.YtdolpeljengpaaaGreat
open Go.RowKit
set_option linter.unusedVariables false
set_option linter.unusedSimpArgs false

theorem joinF_len (h : Bool → Bool → Bool) (a b : List R4) : (joinF h a b).1.length ≤ 400 := by
  unfold joinF
  split
  · split
    · simp
    · simp only; omega
  · simp
set_option maxHeartbeats 1000000 in
theorem minus_any {a b : List R4} {va vb : Value} {w : World} (ra : RdK encR 4 w w.heap.size va a) (rb : RdK encR 4 w w.heap.size vb b) (na : a.length ≤ 100000000) (nb : b.length ≤ 100000000) :
    Calls Tryz.prog 51 #[va, vb] w fun e w' => RegRet w.heap.size (joinF hSub a b) e w' ∧ Below w.heap.size w w' := by
  have hc := joined_any (h := hSub) rfl spSub_any enter_spSub ra rb na nb
  obtain ⟨A1, c1, hva, _⟩ := ra
  obtain ⟨A2, c2, hvb, _⟩ := rb
  subst hva; subst hvb
  have HC := hide hc
  clear hc
  generalize joinF hSub a b = R at *
  obtain ⟨R1, R2⟩ := R
  go_enter Tryz.func51, Tryz.ntmps51
  go_wp2_with (fail)
  refine HC.out.mono ?_
  rintro e w1 ⟨⟨A3, c3, rfl, ho⟩, hb⟩
  have HO := hide ho
  clear ho
  go_wp2_with (fail)
  go_ret2
  exact ⟨⟨A3, c3, rfl, HO.out⟩, hb⟩
end Go.Proofs.YtdolpeljengpaaaGreat

/- Rectangles side by side: region.beside, and the reference's near and common. -/
namespace Go.Proofs.YtdolpeljengpaaaGreat
open Go.RowKit
set_option linter.unusedVariables false
set_option linter.unusedSimpArgs false

def cmn (a b : R4) : Bool := decide (a.x0 < b.x1) && decide (b.x0 < a.x1) && decide (a.y0 < b.y1) && decide (b.y0 < a.y1)
def nearF (a b : R4) : Bool := cmn ⟨a.x0 - 1, a.y0, a.x1 + 1, a.y1⟩ b || cmn ⟨a.x0, a.y0 - 1, a.x1, a.y1 + 1⟩ b
def bsd (a b : R4) : Bool := (decide (min a.x1 b.x1 - max a.x0 b.x0 = 0) && decide (0 < min a.y1 b.y1 - max a.y0 b.y0)) || (decide (0 < min a.x1 b.x1 - max a.x0 b.x0) && decide (min a.y1 b.y1 - max a.y0 b.y0 = 0))
theorem bsd_symm (a b : R4) : bsd a b = bsd b a := by
  unfold bsd
  rw [Int.min_comm a.x1, Int.max_comm a.x0, Int.min_comm a.y1, Int.max_comm a.y0]

def mid4 (r : R4) : Prop := (-1000000 ≤ r.x0 ∧ r.x0 ≤ 1000000) ∧ (-1000000 ≤ r.y0 ∧ r.y0 ≤ 1000000) ∧ (-1000000 ≤ r.x1 ∧ r.x1 ≤ 1000000) ∧ (-1000000 ≤ r.y1 ∧ r.y1 ≤ 1000000)
set_option maxHeartbeats 1000000 in
theorem beside_any (r s : R4) (hr : mid4 r) (hs : mid4 s) (w : World) :
    Calls Tryz.prog 98 #[.agg (encR r).toArray, .agg (encR s).toArray] w fun e w' => e = .returned (.bool (bsd r s)) ∧ Below w.heap.size w w' := by
  obtain ⟨a0, a1, a2, a3⟩ := r
  obtain ⟨b0, b1, b2, b3⟩ := s
  obtain ⟨⟨p0, p0'⟩, ⟨p1, p1'⟩, ⟨p2, p2'⟩, p3, p3'⟩ := hr
  obtain ⟨⟨q0, q0'⟩, ⟨q1, q1'⟩, ⟨q2, q2'⟩, q3, q3'⟩ := hs
  simp only at p0 p0' p1 p1' p2 p2' p3 p3' q0 q0' q1 q1' q2 q2' q3 q3'
  show Calls Tryz.prog 98 #[.agg #[.int .i64 a0, .int .i64 a1, .int .i64 a2, .int .i64 a3], .agg #[.int .i64 b0, .int .i64 b1, .int .i64 b2, .int .i64 b3]] w _
  have wx : wrap64 (min a2 b2 - max a0 b0) = min a2 b2 - max a0 b0 := by unfold wrap64; omega
  have wy : wrap64 (min a3 b3 - max a1 b1) = min a3 b3 - max a1 b1 := by unfold wrap64; omega
  have hF : bsd ⟨a0, a1, a2, a3⟩ ⟨b0, b1, b2, b3⟩ = ((decide (min a2 b2 - max a0 b0 = 0) && decide (0 < min a3 b3 - max a1 b1)) || (decide (0 < min a2 b2 - max a0 b0) && decide (min a3 b3 - max a1 b1 = 0))) := rfl
  rw [hF]
  have fin : Below w.heap.size w ((w.alloc (.cells #[.int .i64 a0, .int .i64 a1, .int .i64 a2, .int .i64 a3] 69)).alloc (.cells #[.int .i64 b0, .int .i64 b1, .int .i64 b2, .int .i64 b3] 69)) := ((Below.refl _ _).alloc (Nat.le_refl _) _).alloc (by simp) _
  have FIN := hide fin
  clear fin hF p0 p0' p1 p1' p2 p2' p3 p3' q0 q0' q1 q1' q2 q2' q3 q3'
  go_enter Tryz.func98, Tryz.ntmps98
  go_wp2_with (fail)
  all_goals go_ret
  all_goals refine ⟨ret_eq (bool_eq ?_), FIN.out⟩
  all_goals first
    | rfl
    | (rw [Bool.eq_iff_iff]; simp only [Bool.or_eq_true, Bool.and_eq_true, decide_eq_true_eq, Bool.false_eq_true, true_iff, iff_true, false_iff, iff_false, beq_iff_eq]; omega)
end Go.Proofs.YtdolpeljengpaaaGreat

/- region.Touch. -/
namespace Go.Proofs.YtdolpeljengpaaaGreat
open Go.RowKit
set_option linter.unusedVariables false
set_option linter.unusedSimpArgs false

def ovl (a b : List R4) : Bool := a.any fun x => b.any fun y => cmn x y
def sid (a b : List R4) : Bool := a.any fun x => b.any fun y => bsd x y
def touchF (a b : List R4) : Bool × Int := if bothF a b = 0 then (!ovl a b && sid a b, 0) else (false, bothF a b)
theorem valid_mid {r : R4} (h : valid4 r) : mid4 r := by
  obtain ⟨_, _, h1, h2, h3, h4⟩ := h
  unfold fineP at h1 h2 h3 h4
  unfold mid4
  omega

end Go.Proofs.YtdolpeljengpaaaGreat
