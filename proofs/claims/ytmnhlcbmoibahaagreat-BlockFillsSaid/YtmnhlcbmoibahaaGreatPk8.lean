/- Texts laid together: StrU, BlkS, MSort, RefS, RefX, RefC, RefA, RefF. Lemmas for the statements of this seat; no condition. -/
import Derived.Test.YtmnhlcbmoibahaaGreatPk7
import Derived.Test.YtmnhlcbmoibahaaGreatPk6
import Derived.Test.YtmnhlcbmoibahaaGreatPk5
import Derived.Test.YtmnhlcbmoibahaaGreatPk3
import Derived.Laws.CopyOwn
import Derived.Test.YtmnhlcbmoibahaaGreatPk1
import Derived.Laws.StructEq
import Derived.Deep.QuietTactic
import Derived.BigQuiet

/- street.Segments: the walk. -/
namespace Go.Proofs.YtmnhlcbmoibahaaGreat
open Go.RowKit Go.Maps
set_option linter.unusedVariables false
set_option linter.unusedSimpArgs false

/-- What Segments gives. -/
def SegsQ (w w' : World) (N : List Pt) (E : List Ei) (e : Ending) : Prop := ∃ ov, e = .returned (.tuple #[ov, .int .i64 (chkN N E)]) ∧ (chkN N E = 0 → w'.ownsRow w.heap.size 59 4 ov (segsI N E).length ((segsI N E).flatMap encSg)) ∧ (chkN N E ≠ 0 → ov = .slice none 0 0)
set_option maxRecDepth 100000 in
set_option maxHeartbeats 8000000 in
theorem Segments_any {w : World} {nv ev : Value} {N : List Pt} {E : List Ei} (hn : RdK encS 2 w w.heap.size nv N) (he : RdK encS 2 w w.heap.size ev E) :
    Calls Tryz.prog 42 #[.agg #[nv, ev]] w fun e w' => SegsQ w w' N E e ∧ Below w.heap.size w w' := by
  have HN := hide hn
  have HE := hide he
  obtain ⟨An, cn, rfl, _⟩ := hn
  obtain ⟨Ae, ce, rfl, _⟩ := he
  have hb0 : Below w.heap.size w (w.alloc (.cells #[.slice An N.length cn, .slice Ae E.length ce] 25)) := (Below.refl _ _).alloc (Nat.le_refl _) _
  have HB0 := hide hb0
  have x0 : (w.alloc (.cells #[.slice An N.length cn, .slice Ae E.length ce] 25)).cell? ⟨w.heap.size, 0, none⟩ = some (.slice An N.length cn) := by simp [go_sem]
  have x1 : (w.alloc (.cells #[.slice An N.length cn, .slice Ae E.length ce] 25)).cell? ⟨w.heap.size, 1, none⟩ = some (.slice Ae E.length ce) := by simp [go_sem]
  have HX := hide (And.intro x0 x1)
  have s0 : w.heap.size < (w.alloc (.cells #[.slice An N.length cn, .slice Ae E.length ce] 25)).heap.size := by simp
  have HS0 := hide s0
  clear hb0 x0 x1 s0
  go_enter Tryz.func42, Tryz.ntmps42
  go_wp2_with (fail)
  refine (Check_any ((HN.out.below HB0.out).mono HB0.out.size) ((HE.out.below HB0.out).mono HB0.out.size)).mono ?_
  rintro e w1 ⟨rfl, hb1⟩
  rw [chkC_eq]
  have HB1 := hide (HB0.out.trans (hb1.mono HB0.out.size))
  have k0 := (hb1.cell (p := ⟨w.heap.size, 0, none⟩) HS0.out).trans HX.out.1
  have k1 := (hb1.cell (p := ⟨w.heap.size, 1, none⟩) HS0.out).trans HX.out.2
  have hs1 : w.heap.size < w1.heap.size := Nat.lt_of_lt_of_le HS0.out hb1.size
  clear hb1
  obtain ⟨r, hr⟩ : ∃ r, chkN N E = r := ⟨_, rfl⟩
  rw [hr]
  have HR := hide hr
  clear hr
  by_cases h0 : r = 0
  · subst h0
    obtain ⟨g1, g2, g3, _⟩ := chkN_ok HR.out
    have HOK := hide g3
    have HL := hide (And.intro g1 g2)
    clear g1 g2 g3
    go_wp2_with (fail)
    refine (drawn_any ((HN.out.below HB1.out).mono HB1.out.size) ((HE.out.below HB1.out).mono HB1.out.size) HL.out.1 HL.out.2).mono ?_
    rintro e w2 ⟨⟨ov, ok, rfl, hq1, _⟩, hb2⟩
    obtain ⟨rfl, ho⟩ := hq1 HOK.out
    have hsl : (segsI N E).length = E.length := by unfold segsI; simp
    rw [← hsl] at ho
    have HO := hide (own_base ho (Nat.le_of_lt hs1))
    have HB2 := hide (HB1.out.trans (hb2.mono HB1.out.size))
    obtain ⟨Ao, co, rfl⟩ := own_form ho
    clear hq1 ho hb2 hsl k0 k1
    go_wp2
    go_ret2
    exact ⟨⟨_, by rw [HR.out]; rfl, fun _ => HO.out, fun h => absurd HR.out h⟩, HB2.out⟩
  · have hz : (r != 0) = true := by simpa using h0
    have HZ := hide h0
    clear h0
    go_wp2
    go_ret2
    exact ⟨⟨_, by rw [HR.out]; rfl, fun h => absurd (HR.out.symm.trans h) HZ.out, fun _ => rfl⟩, HB1.out⟩
end Go.Proofs.YtmnhlcbmoibahaaGreat

/- block.Streets: the walk. -/
namespace Go.Proofs.YtmnhlcbmoibahaaGreat
open Go.RowKit Go.Maps
set_option linter.unusedVariables false
set_option linter.unusedSimpArgs false

def fitR (r : R4) : Prop := ¬ min r.x0 r.y0 < -1000000 ∧ ¬ 1000000 < max r.x1 r.y1
instance (r : R4) : Decidable (fitR r) := by unfold fitR; infer_instance
/-- What Streets gives. -/
def strF (N : List Pt) (E : List Ei) (d : Int) : List R4 × Int := if chkN N E ≠ 0 then ([], chkN N E) else if d < 1 ∨ 1000 < d then ([], 2) else if 400 < E.length then ([], 4) else if ¬ ∀ s ∈ segsI N E, fitR (thickS d s) then ([], 16) else makeF ((segsI N E).map (thickS d))
set_option maxRecDepth 100000 in
set_option maxHeartbeats 8000000 in
theorem streets_any {w : World} {nv ev : Value} {N : List Pt} {E : List Ei} {d : Int} (hn : RdK encS 2 w w.heap.size nv N) (he : RdK encS 2 w w.heap.size ev E) :
    Calls Tryz.prog 12 #[.agg #[nv, ev], .int .i64 d] w fun e w' => RegRet w.heap.size (strF N E d) e w' ∧ Below w.heap.size w w' := by
  have HN := hide hn
  have HE := hide he
  obtain ⟨An, cn, rfl, _⟩ := hn
  obtain ⟨Ae, ce, rfl, _⟩ := he
  obtain ⟨i2, fi, fz0, fz1, fz2⟩ := info_parts infoRc
  have hb0 : Below w.heap.size w (w.alloc (.cells #[.slice An N.length cn, .slice Ae E.length ce] 25)) := (Below.refl _ _).alloc (Nat.le_refl _) _
  have HB0 := hide hb0
  clear hb0
  go_enter Tryz.func12, Tryz.ntmps12
  go_wp2_with (fail)
  refine (Segments_any ((HN.out.below HB0.out).mono HB0.out.size) ((HE.out.below HB0.out).mono HB0.out.size)).mono ?_
  rintro e w1 ⟨⟨ov, rfl, hq1, hq2⟩, hb1⟩
  have HB1 := hide (HB0.out.trans (hb1.mono HB0.out.size))
  by_cases h0 : chkN N E = 0
  · have ho := hq1 h0
    rw [h0]
    have HO := hide (own_rd ho (fun _ => rfl))
    have hsl : (segsI N E).length = E.length := by unfold segsI; simp
    have HSL := hide hsl
    have HOK : Hid (∀ s ∈ segsI N E, okSg s) := hide (fun s hs => by
      obtain ⟨e, he, rfl⟩ := List.mem_map.1 hs
      exact ((chkN_ok h0).2.2.1 e he).2)
    have hl8 : (segsI N E).length ≤ 800 := by rw [hsl]; exact (chkN_ok h0).2.1
    have HF0 : Hid (strF N E d = if d < 1 ∨ 1000 < d then ([], 2) else if 400 < (segsI N E).length then ([], 4) else if ¬ ∀ s ∈ segsI N E, fitR (thickS d s) then ([], 16) else makeF ((segsI N E).map (thickS d))) := hide (by unfold strF; rw [if_neg (fun h => h h0), hsl])
    clear hq1 hq2 h0 ho hb1 hsl HSL
    generalize segsI N E = l at *
    obtain ⟨A, c, rfl, hc⟩ := HO.out
    have HRC := hide hc
    clear hc HO
    by_cases h1 : d < 1
    · have HF : Hid (strF N E d = ([], 2)) := hide (by rw [HF0.out, if_pos (.inl h1)])
      have z1 : decide (d < 1) = true := decide_eq_true h1
      clear h1
      go_wp2
      go_ret2
      exact ⟨⟨none, 0, by rw [HF.out]; rfl, by rw [HF.out]; exact World.ownsRow_nil _ _ _ _⟩, HB1.out⟩
    · have z1 : decide (d < 1) = false := decide_eq_false h1
      by_cases h2 : 1000 < d
      · have HF : Hid (strF N E d = ([], 2)) := hide (by rw [HF0.out, if_pos (.inr h2)])
        have z2 : decide (1000 < d) = true := decide_eq_true h2
        clear h1 h2
        go_wp2
        go_ret2
        exact ⟨⟨none, 0, by rw [HF.out]; rfl, by rw [HF.out]; exact World.ownsRow_nil _ _ _ _⟩, HB1.out⟩
      · have z2 : decide (1000 < d) = false := decide_eq_false h2
        by_cases h3 : 400 < l.length
        · have HF : Hid (strF N E d = ([], 4)) := hide (by rw [HF0.out, if_neg (by omega), if_pos h3])
          have z3 : (400 : Int) < (l.length : Int) := by omega
          clear h1 h2 h3
          go_wp2
          go_ret2
          exact ⟨⟨none, 0, by rw [HF.out]; rfl, by rw [HF.out]; exact World.ownsRow_nil _ _ _ _⟩, HB1.out⟩
        · have z3 : ¬ (400 : Int) < (l.length : Int) := by omega
          have HF1 : Hid (strF N E d = if ¬ ∀ s ∈ l, fitR (thickS d s) then ([], 16) else makeF (l.map (thickS d))) := hide (by rw [HF0.out, if_neg (by omega), if_neg h3])
          have hd1 : 1 ≤ d := by omega
          have hd2 : d ≤ 1000 := by omega
          clear h1 h2 h3 HF0
          go_wp2
          clear z1 z2 z3
          go_loopw [8, 31] (fun o i wr => ∃ (m : Nat) (Ao : Option Addr) (co : Nat), m ≤ l.length ∧ i = .int .i64 (m : Int) ∧ o = .slice Ao m co ∧ Hid (Below w1.heap.size w1 wr) ∧ Hid (wr.ownsRow w1.heap.size 65 4 (.slice Ao m co) m (((l.map (thickS d)).take m).flatMap encR)) ∧ Hid (∀ s ∈ l.take m, fitR (thickS d s))) (fun _ i _ => l.length - (intOf i).toNat)
          case atStart => exact ⟨0, none, 0, Nat.zero_le _, rfl, rfl, hide (Below.refl _ _), hide (World.ownsRow_nil _ _ _ _), hide (by simp)⟩
          case round =>
            obtain ⟨m, Ao, co, hm, rfl, rfl, HB, HO, HV⟩ := hrel
            by_cases hlt : m < l.length
            · obtain ⟨s, hs⟩ : ∃ p, l[m]? = some p := ⟨_, List.getElem?_eq_getElem hlt⟩
              obtain ⟨b, o, rfl, hbl, k⟩ := HRC.out (by intro e; rw [e] at hlt; simp at hlt)
              have hb := HB.out
              have d0 : wr.cell? ⟨b, o + m * 4, none⟩ = some (.int .i64 s.ax) := (hb.cell (p := ⟨b, _, none⟩) hbl).trans (k m _ hs 0 _ rfl)
              have d1 : wr.cell? ⟨b, o + m * 4 + 1, none⟩ = some (.int .i64 s.ay) := (hb.cell (p := ⟨b, _, none⟩) hbl).trans (k m _ hs 1 _ rfl)
              have d2 : wr.cell? ⟨b, o + m * 4 + 2, none⟩ = some (.int .i64 s.cx) := (hb.cell (p := ⟨b, _, none⟩) hbl).trans (k m _ hs 2 _ rfl)
              have d3 : wr.cell? ⟨b, o + m * 4 + 3, none⟩ = some (.int .i64 s.cy) := (hb.cell (p := ⟨b, _, none⟩) hbl).trans (k m _ hs 3 _ rfl)
              obtain ⟨⟨⟨a1, a2⟩, ⟨a3, a4⟩, ⟨a5, a6⟩, a7, a8⟩, _⟩ := HOK.out s (List.mem_of_getElem? hs)
              have mz : (m : Int) < (l.length : Int) := by omega
              have HS := hide hs
              clear k hs hb
              have t0 : IntKind.i64.wrap (min s.ax s.cx - d) = min s.ax s.cx - d := by simp [IntKind.wrap, IntKind.bits, IntKind.signed]; omega
              have t1 : IntKind.i64.wrap (min s.ay s.cy - d) = min s.ay s.cy - d := by simp [IntKind.wrap, IntKind.bits, IntKind.signed]; omega
              have t2 : IntKind.i64.wrap (max s.ax s.cx + d) = max s.ax s.cx + d := by simp [IntKind.wrap, IntKind.bits, IntKind.signed]; omega
              have t3 : IntKind.i64.wrap (max s.ay s.cy + d) = max s.ay s.cy + d := by simp [IntKind.wrap, IntKind.bits, IntKind.signed]; omega
              clear a1 a2 a3 a4 a5 a6 a7 a8
              go_upto_region 13 with fail
              refine wp_name fun w5 hw5 => ?_
              obtain ⟨g5, hg5⟩ : ∃ g, g = wr.heap.size + 1 := ⟨_, rfl⟩
              have hb5 : Below wr.heap.size wr w5 := by
                rw [hw5]
                repeat (first | with_reducible exact Below.refl _ _ | with_reducible refine Below.setCell ?_ (by first | (simp; done) | (simp; omega)) _ | with_reducible refine Below.alloc ?_ (by first | omega | (simp; omega) | simp) _)
              have p0 : w5.cell? ⟨g5, 0, none⟩ = some (.int .i64 (min s.ax s.cx - d)) := by rw [hw5, hg5]; simp [go_sem]
              have p1 : w5.cell? ⟨g5, 1, none⟩ = some (.int .i64 (min s.ay s.cy - d)) := by rw [hw5, hg5]; simp [go_sem]
              have p2 : w5.cell? ⟨g5, 2, none⟩ = some (.int .i64 (max s.ax s.cx + d)) := by rw [hw5, hg5]; simp [go_sem]
              have p3 : w5.cell? ⟨g5, 3, none⟩ = some (.int .i64 (max s.ay s.cy + d)) := by rw [hw5, hg5]; simp [go_sem]
              have HTH : Hid (thickS d s = ⟨min s.ax s.cx - d, min s.ay s.cy - d, max s.ax s.cx + d, max s.ay s.cy + d⟩) := hide rfl
              have HB5 := hide (HB.out.trans (hb5.mono HB.out.size))
              have HO5 := hide (HO.out.kept (below_grow hb5) own_none_or)
              rw [← hg5]
              clear hw5 hb5 hg5 d0 d1 d2 d3 t0 t1 t2 t3 HB HO
              generalize min s.ax s.cx - d = X0 at *
              generalize min s.ay s.cy - d = Y0 at *
              generalize max s.ax s.cx + d = X1 at *
              generalize max s.ay s.cy + d = Y1 at *
              by_cases f1 : min X0 Y0 < -1000000
              · have z1 : decide (min X0 Y0 < -1000000) = true := decide_eq_true f1
                have HF : Hid (strF N E d = ([], 16)) := hide (by
                  rw [HF1.out, if_pos]
                  intro h
                  have := (h s (List.mem_of_getElem? HS.out)).1
                  rw [HTH.out] at this
                  exact this f1)
                clear f1
                go_wp2
                go_ret2
                exact ⟨⟨none, 0, by rw [HF.out]; rfl, by rw [HF.out]; exact World.ownsRow_nil _ _ _ _⟩, HB1.out.trans (HB5.out.mono HB1.out.size)⟩
              · have z1 : decide (min X0 Y0 < -1000000) = false := decide_eq_false f1
                by_cases f2 : 1000000 < max X1 Y1
                · have z2 : decide (1000000 < max X1 Y1) = true := decide_eq_true f2
                  have HF : Hid (strF N E d = ([], 16)) := hide (by
                    rw [HF1.out, if_pos]
                    intro h
                    have := (h s (List.mem_of_getElem? HS.out)).2
                    rw [HTH.out] at this
                    exact this f2)
                  clear f1 f2
                  go_wp2
                  go_ret2
                  exact ⟨⟨none, 0, by rw [HF.out]; rfl, by rw [HF.out]; exact World.ownsRow_nil _ _ _ _⟩, HB1.out.trans (HB5.out.mono HB1.out.size)⟩
                · have z2 : decide (1000000 < max X1 Y1) = false := decide_eq_false f2
                  have HFI : Hid (fitR (thickS d s)) := hide (by rw [HTH.out]; exact ⟨f1, f2⟩)
                  have hw5 : w1.heap.size ≤ w5.heap.size := HB5.out.size
                  have hml : m < 800 := by omega
                  clear f1 f2
                  go_wp2_with (at_builtin; go_loud (refine wpList_append_lies _ rfl (.tmp 86) (.tmp 88) 26 rfl w1.heap.size 65 i2 (.agg #[.int .i64 0, .int .i64 0, .int .i64 0, .int .i64 0]) 4 32 Tryz.underlying26 fi fz0 fz1 fz2 rfl (by decide) _ m _ rfl (World.ownsRow.alloc HO5.out _) ⟨w5.heap.size, 0, none⟩ 1 1 [.int .i64 X0, .int .i64 Y0, .int .i64 X1, .int .i64 Y1] rfl rfl (news_new w5 _ _ _ (by simp)) (ints_one rfl) (by omega) (by unfold maxLen; omega) (by omega) (by simp; omega) _ rfl ?_))
                  intro g9 cap9 w9 hown9 hgrow9 hor9 hlt9
                  have hal : Below w5.heap.size w5 (w5.alloc (.cells #[.int .i64 X0, .int .i64 Y0, .int .i64 X1, .int .i64 Y1] 65)) := (Below.refl _ _).alloc (Nat.le_refl _) _
                  have HB9 : Hid (Below w1.heap.size w1 w9) := hide ((HB5.out.trans (hal.mono hw5)).grown hgrow9 (by simp; omega) (fun q hq => (HO5.out.lt q hq).1))
                  have hx9 : ((l.map (thickS d)).take m).flatMap encR ++ [.int .i64 X0, .int .i64 Y0, .int .i64 X1, .int .i64 Y1] = ((l.map (thickS d)).take (m + 1)).flatMap encR := by
                    rw [List.take_add_one, List.getElem?_map, HS.out, Option.map_some, Option.toList_some, List.flatMap_append, HTH.out]
                    simp only [List.flatMap_cons, List.flatMap_nil, List.append_nil, encR]
                  rw [hx9] at hown9
                  have HO9 := hide hown9
                  have HV9 : Hid (∀ s ∈ l.take (m + 1), fitR (thickS d s)) := hide (by
                    intro q hq
                    rw [List.take_add_one, HS.out, Option.toList_some, List.mem_append, List.mem_singleton] at hq
                    rcases hq with hq | rfl
                    · exact HV.out q hq
                    · exact HFI.out)
                  clear hown9 hgrow9 hor9 hlt9 hal hx9 p0 p1 p2 p3 z1 z2 HB5 HO5
                  go_wp2
                  go_roundw
                  case rel => exact ⟨m + 1, _, cap9, by omega, by go_num, rfl, HB9, HO9, HV9⟩
                  case measure => simp [intOf]; omega
            · have mz : ¬ (m : Int) < (l.length : Int) := by omega
              obtain rfl : m = l.length := by omega
              have ht : l.take l.length = l := List.take_length
              have ht2 : (l.map (thickS d)).take l.length = l.map (thickS d) := List.take_of_length_le (by simp)
              rw [ht2] at HO
              rw [ht] at HV
              have HF : Hid (strF N E d = makeF (l.map (thickS d))) := hide (by rw [HF1.out, if_neg (fun h => h HV.out)])
              clear ht ht2
              go_wp2_with (fail)
              have ho := HO.out
              have e1 : (l.map (thickS d)).length = l.length := by simp
              rw [← e1] at ho ⊢
              refine (make_any (own_rd ho (fun _ => rfl)) (by rw [e1]; omega)).mono ?_
              rintro e w9 ⟨⟨A9, c9, rfl, o9⟩, hb9⟩
              have HB9 := hide (HB1.out.trans ((HB.out.trans (hb9.mono HB.out.size)).mono HB1.out.size))
              have HO9 := hide (own_base o9 (Nat.le_trans HB1.out.size HB.out.size))
              clear ho o9 hb9
              rw [← HF.out] at *
              go_wp2
              go_ret2
              exact ⟨⟨A9, c9, rfl, HO9.out⟩, HB9.out⟩
  · have hov := hq2 h0
    subst hov
    have HF : Hid (strF N E d = ([], chkN N E)) := hide (by unfold strF; rw [if_pos h0])
    have hz : (chkN N E != 0) = true := by simpa using h0
    clear hq1 hq2 h0 hb1
    go_wp2
    go_ret2
    exact ⟨⟨none, 0, by rw [HF.out]; rfl, by rw [HF.out]; exact World.ownsRow_nil _ _ _ _⟩, HB1.out⟩
end Go.Proofs.YtmnhlcbmoibahaaGreat

/- Plain law: the reference's sorted lists, and its canonical list of spans. -/
namespace Go.Proofs.YtmnhlcbmoibahaaGreat
set_option linter.unusedVariables false
set_option linter.unusedSimpArgs false

def srt (l : List Int) : List Int := l.foldl (fun acc c => insI c acc) []
theorem srt_snoc (l : List Int) (c : Int) : srt (l ++ [c]) = insI c (srt l) := by simp [srt]
theorem srt_from : ∀ (l acc : List Int), acc.Pairwise (· < ·) → (l.foldl (fun acc c => insI c acc) acc).Pairwise (· < ·) ∧ ∀ x, x ∈ l.foldl (fun acc c => insI c acc) acc ↔ x ∈ l ∨ x ∈ acc
  | [], acc, h => ⟨h, by simp⟩
  | c :: l, acc, h => by
    obtain ⟨h1, h2⟩ := srt_from l (insI c acc) (insI_sorted c acc h)
    refine ⟨h1, fun x => ?_⟩
    simp only [List.foldl_cons]
    rw [h2, mem_insI]
    simp only [List.mem_cons]
    constructor
    · rintro (h | h | h)
      · exact .inl (.inr h)
      · exact .inl (.inl h)
      · exact .inr h
    · rintro ((h | h) | h)
      · exact .inr (.inl h)
      · exact .inl h
      · exact .inr (.inr h)
theorem srt_ok (l : List Int) : (srt l).Pairwise (· < ·) ∧ ∀ x, x ∈ srt l ↔ x ∈ l := by
  obtain ⟨h1, h2⟩ := srt_from l [] List.Pairwise.nil
  exact ⟨h1, fun x => by rw [show srt l = l.foldl (fun acc c => insI c acc) [] from rfl, h2]; simp⟩
theorem insI_len (c : Int) : ∀ (l : List Int), (insI c l).length ≤ l.length + 1
  | [] => by simp [insI]
  | a :: l => by
    have := insI_len c l
    simp only [insI]
    split
    · simp
    · split
      · simp
      · simp; omega
theorem srt_len_from : ∀ (l acc : List Int), (l.foldl (fun acc c => insI c acc) acc).length ≤ acc.length + l.length
  | [], acc => by simp
  | c :: l, acc => by
    have h1 := srt_len_from l (insI c acc)
    have h2 := insI_len c acc
    simp only [List.foldl_cons, List.length_cons]
    omega
theorem srt_len (l : List Int) : (srt l).length ≤ l.length := by
  have := srt_len_from l []
  simpa [srt] using this
/-- Where c belongs: k. -/
theorem insI_at (c : Int) : ∀ (S : List Int) (k : Nat), S.Pairwise (· < ·) → k ≤ S.length → (∀ j x, k ≤ j → S[j]? = some x → c < x) → (∀ x, k ≠ 0 → S[k - 1]? = some x → x < c) → insI c S = S.take k ++ c :: S.drop k
  | [], k, _, hk, _, _ => by
    obtain rfl : k = 0 := by simpa using hk
    rfl
  | a :: S, 0, h, _, h1, _ => by
    have := h1 0 a (Nat.le_refl _) rfl
    simp [insI, this]
  | a :: S, k + 1, h, hk, h1, h2 => by
    obtain ⟨p1, p2⟩ := List.pairwise_cons.1 h
    have hac : a < c := by
      cases k with
      | zero => exact h2 a (by simp) rfl
      | succ k =>
        have hkl : k < S.length := by simp at hk; omega
        have e := h2 S[k] (by simp) (by simp [hkl])
        have := p1 S[k] (List.getElem_mem hkl)
        omega
    have ih := insI_at c S k p2 (by simpa using hk) (fun j x hj hx => h1 (j + 1) x (by omega) (by simpa using hx)) (fun x hk0 hx => by
      refine h2 x (by simp) ?_
      obtain ⟨j, rfl⟩ : ∃ j, k = j + 1 := ⟨k - 1, by omega⟩
      simpa using hx)
    simp only [insI]
    rw [if_neg (by omega), if_neg (by omega), ih]
    simp
theorem insI_there (c : Int) : ∀ (S : List Int), S.Pairwise (· < ·) → c ∈ S → insI c S = S
  | a :: S, h, hc => by
    obtain ⟨p1, p2⟩ := List.pairwise_cons.1 h
    simp only [insI]
    rcases List.mem_cons.1 hc with rfl | hc
    · rw [if_neg (by omega), if_pos rfl]
    · have := p1 c hc
      rw [if_neg (by omega), if_neg (by omega), insI_there c S p2 hc]

/-- The canonical list: from each cut that is in to the next one. -/
def canF (cs : List Int) (bs : List Bool) : List Sp := ((prs cs).zip bs).foldl (fun out x => if x.2 then sext out x.1.1 x.1.2 else out) []
def canG (p : Int → Bool) : List Sp → List Int → List Sp
  | out, c :: d :: r => canG p (if p c then sext out c d else out) (d :: r)
  | out, _ => out
theorem canG_fold (p : Int → Bool) : ∀ (cs : List Int) (out : List Sp), ((prs cs).zip (cs.map p)).foldl (fun out x => if x.2 then sext out x.1.1 x.1.2 else out) out = canG p out cs
  | [], out => rfl
  | [c], out => rfl
  | c :: d :: r, out => by
    have := canG_fold p (d :: r) (if p c then sext out c d else out)
    simp only [prs, List.map_cons, List.zip_cons_cons, List.foldl_cons, canG] at this ⊢
    exact this
theorem canF_canG (p : Int → Bool) (cs : List Int) : canF cs (cs.map p) = canG p [] cs := canG_fold p cs []
theorem sext_len (out : List Sp) (c d : Int) : (sext out c d).length ≤ out.length + 1 := by
  unfold sext
  split
  · split
    · simp
    · simp
  · simp
theorem canF_len_from : ∀ (xs : List ((Int × Int) × Bool)) (out : List Sp), (xs.foldl (fun out x => if x.2 then sext out x.1.1 x.1.2 else out) out).length ≤ out.length + xs.length
  | [], out => by simp
  | x :: xs, out => by
    have h1 := canF_len_from xs (if x.2 then sext out x.1.1 x.1.2 else out)
    have h2 := sext_len out x.1.1 x.1.2
    simp only [List.foldl_cons, List.length_cons]
    by_cases hx : x.2 = true
    · rw [if_pos hx] at h1 ⊢; omega
    · rw [if_neg hx] at h1 ⊢; omega
theorem canF_len (cs : List Int) (bs : List Bool) : (canF cs bs).length ≤ cs.length := by
  have := canF_len_from ((prs cs).zip bs) []
  have h2 := prs_len cs
  have h3 : ((prs cs).zip bs).length ≤ (prs cs).length := by simp; omega
  unfold canF
  simp at this h3 ⊢
  omega
theorem canG_from {H : Int → Prop} {p : Int → Bool} {cs : List Int} (hs : cs.Pairwise (· < ·))
    (hH : ∀ c d x, c ∈ cs → d ∈ cs → c < d → (∀ e ∈ cs, e ≤ c ∨ d ≤ e) → c ≤ x → x < d → (H x ↔ p c = true)) (hhi : ∀ x, (∀ c ∈ cs, c ≤ x) → ¬ H x) :
    ∀ (r : List Int) (A : List Int) (c : Int) (out : List Sp), cs = A ++ c :: r → SCan out → (∀ q ∈ out, q.2 ≤ c) → (∀ x, smem out x ↔ x < c ∧ H x) →
      SCan (canG p out (c :: r)) ∧ ∀ x, smem (canG p out (c :: r)) x ↔ H x
  | [], A, c, out, hcs, h1, h2, h3 => by
    refine ⟨h1, fun x => ?_⟩
    show smem out x ↔ _
    rw [h3]
    constructor
    · exact fun q => q.2
    · intro q
      refine ⟨?_, q⟩
      rcases Int.lt_or_le x c with hx | hx
      · exact hx
      · exfalso
        refine hhi x (fun e he => ?_) q
        rw [hcs] at he hs
        rcases List.mem_append.1 he with he | he
        · have := (List.pairwise_append.1 hs).2.2 e he c (by simp); omega
        · simp at he; omega
  | d :: r, A, c, out, hcs, h1, h2, h3 => by
    have hc : c ∈ cs := by rw [hcs]; simp
    have hd : d ∈ cs := by rw [hcs]; simp
    have hs' := hs
    rw [hcs, List.pairwise_append] at hs'
    have hcd : c < d := (List.pairwise_cons.1 hs'.2.1).1 d (by simp)
    have hgap : ∀ e ∈ cs, e ≤ c ∨ d ≤ e := by
      intro e he
      rw [hcs] at he
      rcases List.mem_append.1 he with he | he
      · have := hs'.2.2 e he c (by simp); omega
      · rcases List.mem_cons.1 he with rfl | he
        · omega
        · rcases List.mem_cons.1 he with rfl | he
          · omega
          · have := (List.pairwise_cons.1 (List.pairwise_cons.1 hs'.2.1).2).1 e he; omega
    have key : SCan (if p c then sext out c d else out) ∧ (∀ q ∈ (if p c then sext out c d else out), q.2 ≤ d) ∧ ∀ x, smem (if p c then sext out c d else out) x ↔ x < d ∧ H x := by
      by_cases hp : p c = true
      · rw [if_pos hp]
        obtain ⟨a1, a2, a3⟩ := sext_ok h1 h2 hcd
        refine ⟨a1, a2, fun x => ?_⟩
        rw [a3, h3]
        constructor
        · rintro (⟨q1, q2⟩ | ⟨q1, q2⟩)
          · exact ⟨by omega, q2⟩
          · exact ⟨q2, (hH c d x hc hd hcd hgap q1 q2).2 hp⟩
        · rintro ⟨q1, q2⟩
          by_cases hx : x < c
          · exact .inl ⟨hx, q2⟩
          · exact .inr ⟨by omega, q1⟩
      · rw [if_neg hp]
        refine ⟨h1, fun q hq => by have := h2 q hq; omega, fun x => ?_⟩
        rw [h3]
        constructor
        · rintro ⟨q1, q2⟩
          exact ⟨by omega, q2⟩
        · rintro ⟨q1, q2⟩
          refine ⟨?_, q2⟩
          rcases Int.lt_or_le x c with hx | hx
          · exact hx
          · exact absurd ((hH c d x hc hd hcd hgap hx q1).1 q2) hp
    exact canG_from hs hH hhi r (A ++ [c]) d _ (by rw [hcs]; simp) key.1 key.2.1 key.2.2
theorem canF_ok {H : Int → Prop} {p : Int → Bool} {cs : List Int} (hs : cs.Pairwise (· < ·))
    (hH : ∀ c d x, c ∈ cs → d ∈ cs → c < d → (∀ e ∈ cs, e ≤ c ∨ d ≤ e) → c ≤ x → x < d → (H x ↔ p c = true)) (hhi : ∀ x, (∀ c ∈ cs, c ≤ x) → ¬ H x) (hlo : ∀ x, (∀ c ∈ cs, x < c) → ¬ H x) :
    SCan (canF cs (cs.map p)) ∧ ∀ x, smem (canF cs (cs.map p)) x ↔ H x := by
  rw [canF_canG]
  cases cs with
  | nil =>
    refine ⟨SCan.nil, fun x => ?_⟩
    have := hhi x (by simp)
    constructor
    · exact fun h => (smem_nil h).elim
    · exact fun h => (this h).elim
  | cons c r =>
    refine canG_from hs hH hhi r [] c [] rfl SCan.nil (by simp) (fun x => ?_)
    constructor
    · exact fun h => (smem_nil h).elim
    · rintro ⟨q1, q2⟩
      exfalso
      refine hlo x (fun e he => ?_) q2
      rcases List.mem_cons.1 he with rfl | he
      · exact q1
      · have := (List.pairwise_cons.1 hs).1 e he; omega

/-- The cuts in y. -/
def cutsY (l : List R4) : List Int := l.flatMap fun r => [r.y0, r.y1]
theorem mem_cutsY {l : List R4} {r : R4} (h : r ∈ l) : r.y0 ∈ cutsY l ∧ r.y1 ∈ cutsY l := by
  unfold cutsY
  exact ⟨List.mem_flatMap.2 ⟨r, h, by simp⟩, List.mem_flatMap.2 ⟨r, h, by simp⟩⟩
theorem pmem_sameY {l : List R4} {cs : List Int} (hcs : ∀ c ∈ cutsY l, c ∈ cs) {c d x y : Int} (hgap : ∀ e ∈ cs, e ≤ c ∨ d ≤ e) (h1 : c ≤ y) (h2 : y < d) : pmem l x y ↔ pmem l x c := by
  constructor
  · rintro ⟨r, hr, a, b, e, f⟩
    have g0 := hgap _ (hcs _ (mem_cutsY hr).1)
    have g1 := hgap _ (hcs _ (mem_cutsY hr).2)
    exact ⟨r, hr, a, b, by omega, by omega⟩
  · rintro ⟨r, hr, a, b, e, f⟩
    have g0 := hgap _ (hcs _ (mem_cutsY hr).1)
    have g1 := hgap _ (hcs _ (mem_cutsY hr).2)
    exact ⟨r, hr, a, b, by omega, by omega⟩
theorem pmem_hiY {l : List R4} {cs : List Int} (hcs : ∀ c ∈ cutsY l, c ∈ cs) {x y : Int} (h : ∀ c ∈ cs, c ≤ y) : ¬ pmem l x y := by
  rintro ⟨r, hr, _, _, _, h2⟩
  have := h _ (hcs _ (mem_cutsY hr).2); omega
theorem pmem_loY {l : List R4} {cs : List Int} (hcs : ∀ c ∈ cutsY l, c ∈ cs) {x y : Int} (h : ∀ c ∈ cs, y < c) : ¬ pmem l x y := by
  rintro ⟨r, hr, _, _, h2, _⟩
  have := h _ (hcs _ (mem_cutsY hr).1); omega
/-- The reference's cross-section at a cut. -/
def refG (h : Bool → Bool → Bool) (a b : List R4) (ys : List Int) (x : Int) : List Sp := canF ys (ys.map fun y => h (decide (pmem a x y)) (decide (pmem b x y)))
theorem refG_ok {h : Bool → Bool → Bool} (h0 : h false false = false) {a b : List R4} {ys : List Int} (hs : ys.Pairwise (· < ·)) (ha : ∀ c ∈ cutsY a, c ∈ ys) (hb : ∀ c ∈ cutsY b, c ∈ ys) (x : Int) :
    SCan (refG h a b ys x) ∧ ∀ y, smem (refG h a b ys x) y ↔ h (decide (pmem a x y)) (decide (pmem b x y)) = true := by
  refine canF_ok (H := fun y => h (decide (pmem a x y)) (decide (pmem b x y)) = true) hs ?_ ?_ ?_
  · intro c d y hc hd hcd hgap h1 h2
    rw [decide_eq_decide.2 (pmem_sameY ha hgap h1 h2), decide_eq_decide.2 (pmem_sameY hb hgap h1 h2)]
  · intro y hy
    rw [decide_eq_false (pmem_hiY ha hy), decide_eq_false (pmem_hiY hb hy), h0]
    exact Bool.false_ne_true
  · intro y hy
    rw [decide_eq_false (pmem_loY ha hy), decide_eq_false (pmem_loY hb hy), h0]
    exact Bool.false_ne_true
/-- **The reference's joined list is the joined list.** -/
theorem ref_join {h : Bool → Bool → Bool} (h0 : h false false = false) {a b : List R4} (ha : ∀ r ∈ a, wf4 r) (hb : ∀ r ∈ b, wf4 r) :
    flat (swp (refG h a b (srt (cutsY a ++ cutsY b))) (prs (srt (cutsL a ++ cutsL b)))) = rjoin h a b := by
  rw [swp_sweep]
  obtain ⟨y1, y2⟩ := srt_ok (cutsY a ++ cutsY b)
  obtain ⟨x1, x2⟩ := srt_ok (cutsL a ++ cutsL b)
  have hG := refG_ok h0 y1 (a := a) (b := b) (fun c hc => (y2 c).2 (by simp [hc])) (fun c hc => (y2 c).2 (by simp [hc]))
  obtain ⟨h1, h2⟩ := sweep_join (h := h) h0 (a := a) (b := b) x1 (fun c hc => (x2 c).2 (by simp [hc])) (fun c hc => (x2 c).2 (by simp [hc])) (g := refG h a b (srt (cutsY a ++ cutsY b))) (fun c _ => by
    refine ⟨(hG c).1, fun y => ?_⟩
    rw [(hG c).2, decide_eq_decide.2 (smem_crossL (l := a)), decide_eq_decide.2 (smem_crossL (l := b))])
  exact rjoin_eq h0 ha hb h1 h2
theorem refG_len (h : Bool → Bool → Bool) (a b : List R4) (ys : List Int) (x : Int) : (refG h a b ys x).length ≤ ys.length := canF_len _ _
end Go.Proofs.YtmnhlcbmoibahaaGreat

/- The reference's Sorted. -/
namespace Go.Proofs.YtmnhlcbmoibahaaGreat
open Go.RowKit
set_option linter.unusedVariables false
set_option linter.unusedSimpArgs false

def encI (x : Int) : List Value := [iv x]
theorem flat_encI (l : List Int) : l.flatMap encI = l.map iv := by
  induction l with
  | nil => rfl
  | cons a l ih => simp [List.flatMap_cons, encI, ih]
theorem own_rdI {w : World} {base : Nat} {e : TypeId} {v : Value} {l : List Int} (h : w.ownsRow base e 1 v l.length (l.map iv)) : RdK encI 1 w w.heap.size v l :=
  own_rd (enc := encI) (k := 1) (by rw [flat_encI]; exact h) (fun _ => rfl)
theorem infoInt : (Tryz.prog.info? 3).map (fun i => (i.zero, i.size, i.bytes)) = some (some (.int .i64 0), 1, 8) := by kernel_rfl

theorem below_drewN {B : Nat} {w W : World} (h : Below B w W) (n : Nat) : Below B w (W.drewN n) := h.trans ⟨rfl, rfl, rfl, Nat.le_refl _, fun _ _ => rfl⟩
theorem name_exit {Q : Exit → Act → World → Prop} {e : Exit} {a : Act} {W : World} (h : ∀ w, w = W → Q e a w) : Q e a W := h W rfl
theorem addr_add' (g o j : Nat) : (⟨g, o, none⟩ : Addr).add j = ⟨g, o + j, none⟩ := by unfold Addr.add; split <;> simp_all
theorem splice_take {α : Type} (L : List α) (off m : Nat) (cs : List α) (h : off + cs.length ≤ m) : (splice L off cs).take m = splice (L.take m) off cs := by
  unfold splice
  rw [List.take_append, List.take_append, List.take_take, List.take_take, List.drop_take]
  simp only [List.length_take]
  by_cases hl : off ≤ L.length
  · have e1 : min off L.length = off := by omega
    rw [e1, Nat.min_eq_left (show off ≤ m by omega), Nat.min_eq_right (show off ≤ m by omega), List.take_of_length_le (show cs.length ≤ m - off by omega)]
    congr 3
    omega
  · rw [List.drop_of_length_le (show L.length ≤ off + cs.length by omega), List.take_nil, List.take_nil, List.append_nil]
    rw [show min off m = off by omega, show min m off = off by omega, List.take_of_length_le (show cs.length ≤ _ by omega), List.append_nil]
theorem own_copied {w w' : World} {base : Nat} {e t : TypeId} {g n cap off : Nat} {xs cs cur : List Value} (h : w.ownsRow base e 1 (.slice (some ⟨g, 0, none⟩) n cap) n xs) (hg : w.heap[g]? = some (.cells cur.toArray t (0, 0))) (hg' : w'.heap[g]? = some (.cells (splice cur off cs).toArray t (0, 0))) (hfit : off + cs.length ≤ n) :
    w'.ownsRow base e 1 (.slice (some ⟨g, 0, none⟩) n cap) n (splice xs off cs) := by
  rcases h.2 with ⟨e0, _⟩ | ⟨g', cap', cur', e0, hb, hh, hn, hm, hs, ht⟩
  · cases e0
  · injection e0 with e1 _ e3
    injection e1 with e1
    injection e1 with e1
    subst e1; subst e3
    rw [hg] at hh
    injection hh with hh
    injection hh with h1 h2
    subst h1; subst h2
    rw [Nat.mul_one] at ht
    have hl : cur.length = cap := by simpa using hs
    have hx := h.1
    refine ⟨by rw [length_splice _ _ _ (by omega)]; exact hx, .inr ⟨g, cap, _, rfl, hb, hg', hn, hm, by rw [List.size_toArray, length_splice _ _ _ (by omega)]; omega, ?_⟩⟩
    rw [Nat.mul_one, splice_take _ _ _ _ hfit]
    rw [← ht]
theorem ins_splice (S : List Int) (x : Int) (k : Nat) (hk : k ≤ S.length) : (splice ((S ++ [0]).map iv) (k + 1) ((S.drop k).map iv)).set k (iv x) = (S.take k ++ x :: S.drop k).map iv := by
  unfold splice
  have hd : List.drop (k + 1 + ((S.drop k).map iv).length) ((S ++ [0]).map iv) = [] := List.drop_of_length_le (by simp; omega)
  rw [hd, List.append_nil, List.set_append_left _ _ (by simp; omega)]
  have hm : (S.take k ++ x :: S.drop k).map iv = (S.take k ++ [x]).map iv ++ (S.drop k).map iv := by simp
  rw [hm]
  congr 1
  apply List.ext_getElem?
  intro i
  by_cases hi : i = k
  · subst hi
    rw [List.getElem?_set_self (by simp; omega), List.getElem?_map, List.getElem?_append_right (by simp; omega)]
    simp [Nat.min_eq_left hk]
  · rw [List.getElem?_set_ne (by omega)]
    by_cases hlt : i < k
    · rw [List.getElem?_take, if_pos (by omega), List.getElem?_map, List.getElem?_map, List.getElem?_append_left (by omega), List.getElem?_append_left (by simp; omega), List.getElem?_take, if_pos hlt]
    · rw [List.getElem?_eq_none (by simp; omega), List.getElem?_eq_none (by simp; omega)]

set_option maxRecDepth 100000 in
set_option maxHeartbeats 4000000 in
theorem rSorted_any {w : World} {v : Value} {l : List Int} {B : Nat} (hr : RdK encI 1 w B v l) (hB : B ≤ w.heap.size) (hl : l.length ≤ 100000000) :
    Calls Tryz.prog 126 #[v] w fun e w' => ∃ vo, e = .returned vo ∧ w'.ownsRow w.heap.size 3 1 vo (srt l).length ((srt l).map iv) ∧ Below w.heap.size w w' := by
  obtain ⟨i1, gi, gz0, gz1, gz2⟩ := info_parts infoInt
  obtain ⟨A, c, rfl, hc⟩ := hr
  have HR := hide hc
  clear hc
  go_enter Tryz.func126, Tryz.ntmps126
  go_wp2
  go_loopw [3, 4, 5] (fun v i _ wr => ∃ m : Nat, m ≤ l.length ∧ i = .int .i64 m ∧ ∃ Av cv, v = .slice Av (srt (l.take m)).length cv ∧ Hid (wr.ownsRow w.heap.size 3 1 v (srt (l.take m)).length ((srt (l.take m)).map iv)) ∧ Hid (Below w.heap.size w wr)) (fun _ i _ _ => l.length - (intOf i).toNat)
  case atStart => exact ⟨0, Nat.zero_le _, rfl, none, 0, rfl, hide (World.ownsRow_nil _ _ _ _), hide (Below.refl _ _)⟩
  case round =>
    obtain ⟨m, hm, rfl, Av, cv, rfl, HO, HB⟩ := hrel
    by_cases hlt : m < l.length
    · obtain ⟨x, hp⟩ : ∃ p, l[m]? = some p := ⟨_, List.getElem?_eq_getElem hlt⟩
      obtain ⟨b, o, rfl, hbl, k⟩ := HR.out (by intro e; rw [e] at hlt; simp at hlt)
      have d0 : ∀ W, Below w.heap.size w W → W.cell? ⟨b, o + m, none⟩ = some (.int .i64 x) := fun W hW => (hW.cell (p := ⟨b, _, none⟩) (by show b < _; omega)).trans (by have := k m _ hp 0 _ rfl; rwa [Nat.mul_one] at this)
      have D0 := hide d0
      have mz : (m : Int) < (l.length : Int) := by omega
      have hS := (srt_ok (l.take m)).1
      have hSl := srt_len (l.take m)
      rw [List.length_take] at hSl
      have HT : Hid (srt (l.take (m + 1)) = insI x (srt (l.take m))) := hide (by
        obtain ⟨i1, e1⟩ := List.getElem?_eq_some_iff.1 hp
        rw [List.take_succ_eq_append_getElem i1, e1, srt_snoc])
      generalize srt (l.take m) = S at *
      clear k hp d0
      generalize wr = w1 at *
      go_wp2
      go_loopw [5] (fun kk wr => ∃ k : Nat, k ≤ S.length ∧ kk = .int .i64 k ∧ Hid (∀ j y, k ≤ j → S[j]? = some y → x < y) ∧ Hid (Below w1.heap.size w1 wr)) (fun kk _ => (intOf kk).toNat)
      case atStart => exact ⟨S.length, Nat.le_refl _, rfl, hide (fun j y h1 h2 => by rw [List.getElem?_eq_none h1] at h2; cases h2), hide (Below.refl _ _)⟩
      case round =>
        obtain ⟨k, hk, rfl, HG, HB1⟩ := hrel
        have hB1 := HB1.out.size
        rcases Nat.eq_zero_or_pos k with rfl | hkp
        · rw [show ((0 : Nat) : Int) = 0 from rfl]
          go_wp2
          go_quiet (fail)
          go_wp2
          go_quiet (fail)
          refine name_exit fun wd hwd => ?_
          have hbd : Below w1.heap.size w1 wd := by rw [hwd]; exact below_drewN (below_drewN HB1.out _) _
          have hod := own_below HO.out hbd
          have HOD := hide hod
          have hsz := HB.out.size
          have hsz2 := hbd.size
          have HBD := hide hbd
          clear hwd hod hbd
          go_wp2_with (at_builtin; go_loud (refine wpList_append_lies _ rfl (.tmp 44) (.tmp 45) 133 rfl w.heap.size 3 i1 (.int .i64 0) 1 8 Tryz.underlying133 gi gz0 gz1 gz2 rfl (by decide) _ _ _ rfl (HOD.out.alloc _) ⟨wd.heap.size, 0, none⟩ 1 1 [.int .i64 0] rfl rfl (news_new wd _ _ _ rfl) (ints_one rfl) (by omega) (by unfold maxLen; omega) (by omega) (by simp; omega) _ rfl ?_))
          intro g9 cap9 w2 hown2 hgrow hg9 _
          have hx2 : S.map iv ++ [.int .i64 0] = (S ++ [0]).map iv := by simp
          rw [hx2] at hown2
          have hb2 : Below w.heap.size w w2 := ((HB.out.trans (HBD.out.mono hsz)).alloc (by omega) _).grown hgrow (by simp; omega) (fun q hq => (HOD.out.lt q hq).1)
          obtain ⟨_, cap9', cur9, e9, hbg9, hh9, hn9, hm9, hs9, ht9⟩ : ∃ (g' cap' : Nat) (cur : Array Value), Value.slice (some ⟨g9, 0, none⟩) (S.length + 1) cap9 = .slice (some ⟨g', 0, none⟩) (S.length + 1) cap' ∧ w.heap.size ≤ g' ∧ w2.heap[g']? = some (.cells cur 3 (0, 0)) ∧ S.length + 1 ≤ cap' ∧ cap' ≤ maxLen ∧ cur.size = cap' * 1 ∧ cur.toList.take ((S.length + 1) * 1) = (S ++ [0]).map iv := by
            rcases hown2.2 with ⟨e0, _⟩ | q
            · cases e0
            · exact q
          injection e9 with e1 _ e3
          injection e1 with e1
          injection e1 with e1
          subst e1; subst e3
          have HX2 := hide hown2
          have HB2 := hide hb2
          have HH9 := hide hh9
          have HS9 := hide hs9
          unfold maxLen at hm9
          clear hown2 hgrow hb2 hx2 hg9 hh9 hs9 ht9
          go_wp2
          have r1 : IntKind.i64.wrap (1) = 1 := by simp [IntKind.wrap, IntKind.bits, IntKind.signed]
          have r2 : (0 : Int) ≤ 1 := by omega
          have r3 : (1 : Int) ≤ (S.length : Int) + 1 := by omega
          have r4 : (1 : Int).toNat = 0 + 1 := by omega
          have r5 : (0 : Int) ≤ 0 := by omega
          have r6 : (0 : Int) ≤ (S.length : Int) + 1 := by omega
          have r7 : (0 : Int).toNat = 0 := by omega
          refine wp_region_reads0 7 (by kernel_rfl) (by kernel_rfl) ?_
          simp only [List.take_succ_cons, List.take_zero, List.drop_succ_cons, List.drop_zero]
          iterate 7
            refine ⟨?_, Or.inl ⟨by rfl, ?_⟩, ?_⟩
            rotate_left 1
            · intro w' _
              go_simp
              first | done | with_reducible rfl
            simp only [Act.put, List.setIfInBounds_toArray, List.set_cons_zero, List.set_cons_succ]
          clear r1 r2 r3 r4 r5 r6 r7
          simp only [wpReads]
          intro K hK
          have hcur : w2.drew.heap[g9]? = some (.cells cur9.toList.toArray 3 (0, 0)) := by show w2.heap[g9]? = _; simpa using HH9.out
          have hcl : cur9.toList.length = cap9 := by simpa using HS9.out
          refine step_copy_splice rfl (.tmp 50) (.tmp 53) 133 133 rfl 3 Tryz.underlying133 (by kernel_rfl) _ _ _ _ _ _ rfl rfl g9 (0 + 1) cur9.toList 3 hcur ((S.drop (0)).map iv) (by show _ = min _ _; simp only [List.length_map, List.length_drop]; omega) ?_ (by simp only [List.length_map, List.length_drop]; omega) (by intro u hu; obtain ⟨z, _, rfl⟩ := List.mem_map.1 hu; rfl) w.heap.size w (HB2.out.drew) hbg9 ?_
          · intro hpos
            have hpl : 0 < S.length := by simp only [List.length_map, List.length_drop] at hpos; omega
            refine ⟨by first | rfl | rw [if_neg (by omega)], ⟨g9, 0, none⟩, by first | rfl | rw [if_neg (by omega)], fun i u hi => ?_⟩
            have hi2 : ((S ++ [0]).map iv)[0 + i]? = some u := by
              rw [List.getElem?_map] at hi ⊢
              rw [List.getElem?_drop] at hi
              have hlt3 : 0 + i < S.length := by
                rcases Nat.lt_or_ge (0 + i) S.length with h | h
                · exact h
                · rw [List.getElem?_eq_none h] at hi; cases hi
              rw [List.getElem?_append_left hlt3]
              exact hi
            have := (HX2.out.cells (g := g9) rfl) _ _ hi2
            rw [addr_add] at this
            rw [addr_add']
            exact this
          · intro w3 hsp hb3
            have hx3 := own_copied HX2.out (by simpa using HH9.out) hsp.out (by simp only [List.length_map, List.length_drop]; omega)
            refine hK _ _ (fun _ => trivial) ?_
            clear hK K
            refine NoPanic.normal ?_
            obtain ⟨u3, c3⟩ : ∃ u, w3.cell? ⟨g9, 0, none⟩ = some u := by
              have := (hx3.cells (g := g9) rfl) (0) _ (List.getElem?_eq_getElem (by have := hx3.1; omega))
              rw [addr_add] at this
              exact ⟨_, this⟩
            have f3 : w3.frozen? ⟨g9, 0, none⟩ = false := hx3.frozenAt _
            have hst := hx3.stored (0) (.int .i64 x)
            rw [ins_splice S x (0) (by omega)] at hst
            have hins : insI x S = S.take (0) ++ x :: S.drop (0) := insI_at x S (0) hS (by omega) HG.out (fun y h => absurd rfl h)
            rw [← hins] at hst
            have HST := hide hst
            have HLEN : Hid (S.length + 1 = (srt (l.take (m + 1))).length) := hide (by rw [HT.out, hins]; simp only [List.length_append, List.length_cons, List.length_take, List.length_drop]; omega)
            have c4 := D0.out w3 hb3
            have HB3 := hide hb3
            clear hins hst hx3 hsp hb3 hcur hcl
            go_wp2
            go_roundw
            case rel => exact ⟨m + 1, by omega, by go_num, some ⟨g9, 0, none⟩, cap9, by rw [HLEN.out], hide (by rw [← HLEN.out, HT.out]; exact HST.out.1), hide (HB3.out.setCell hbg9 _)⟩
            case measure => simp [intOf]; omega
        · obtain ⟨j, rfl⟩ : ∃ j, k = j + 1 := ⟨k - 1, by omega⟩
          obtain ⟨y, hy⟩ : ∃ y, S[j]? = some y := ⟨_, List.getElem?_eq_getElem (by omega)⟩
          obtain ⟨g, cap, hv, hBg, hgw⟩ := HO.out.form (by omega)
          injection hv with e1 _ e3
          subst e1; subst e3
          have c1 : wr.cell? ⟨g, j, none⟩ = some (.int .i64 y) := by
            have := (HO.out.cells (g := g) rfl) j (iv y) (by simp [hy])
            rw [addr_add] at this
            exact (HB1.out.cell (p := ⟨g, j, none⟩) hgw).trans this
          have c2 := D0.out wr (HB.out.trans (HB1.out.mono HB.out.size))
          have q1 : (0 : Int) < (j : Int) + 1 := by omega
          have q2 : (j : Int) < (S.length : Int) := by omega
          have q3 : IntKind.i64.wrap ((j : Int) + 1 - 1) = j := by simp [IntKind.wrap, IntKind.bits, IntKind.signed]; omega
          have q4 : (0 : Int) ≤ (j : Int) := by omega
          have HY := hide hy
          clear hy hkp
          rw [show ((j + 1 : Nat) : Int) = (j : Int) + 1 from rfl]
          by_cases hgt : x < y
          · go_wp2
            go_quiet (fail)
            go_wp2
            go_roundw
            case rel =>
              refine ⟨j, by omega, by go_num, hide ?_, hide (below_drewN HB1.out _)⟩
              intro i z h1 h2
              by_cases hij : i = j
              · subst hij
                rw [HY.out] at h2
                injection h2 with h2
                omega
              · exact HG.out i z (by omega) h2
            case measure => simp [intOf]
          · have hng : decide (x < y) = false := decide_eq_false hgt
            by_cases hxy : y = x
            · subst hxy
              have e1 : (y == y) = true := by simp
              have HI : Hid (insI y S = S) := hide (insI_there y S hS (List.mem_of_getElem? HY.out))
              have HLEN : Hid (S.length = (srt (l.take (m + 1))).length) := hide (by rw [HT.out, HI.out])
              clear hgt
              go_wp2
              go_quiet (fail)
              go_wp2
              go_quiet (fail)
              refine name_exit fun wd hwd => ?_
              have hbd : Below w1.heap.size w1 wd := by rw [hwd]; exact below_drewN (below_drewN HB1.out _) _
              have hod := own_below HO.out hbd
              have HOD := hide hod
              have hsz := HB.out.size
              have HBD := hide hbd
              clear hwd hod hbd
              go_wp2
              go_roundw
              case rel => exact ⟨m + 1, by omega, by go_num, some ⟨g, 0, none⟩, cv, by rw [HLEN.out], hide (by rw [← HLEN.out, HT.out, HI.out]; exact HOD.out), hide (HB.out.trans (HBD.out.mono hsz))⟩
              case measure => simp [intOf]; omega
            · have e1 : (y == x) = false := by simpa using hxy
              have hyx : y < x := by omega
              clear hgt hxy
              go_wp2
              go_quiet (fail)
              go_wp2
              go_quiet (fail)
              refine name_exit fun wd hwd => ?_
              have hbd : Below w1.heap.size w1 wd := by rw [hwd]; exact below_drewN (below_drewN HB1.out _) _
              have hod := own_below HO.out hbd
              have HOD := hide hod
              have hsz := HB.out.size
              have hsz2 := hbd.size
              have HBD := hide hbd
              clear hwd hod hbd
              go_wp2_with (at_builtin; go_loud (refine wpList_append_lies _ rfl (.tmp 44) (.tmp 45) 133 rfl w.heap.size 3 i1 (.int .i64 0) 1 8 Tryz.underlying133 gi gz0 gz1 gz2 rfl (by decide) _ _ _ rfl (HOD.out.alloc _) ⟨wd.heap.size, 0, none⟩ 1 1 [.int .i64 0] rfl rfl (news_new wd _ _ _ rfl) (ints_one rfl) (by omega) (by unfold maxLen; omega) (by omega) (by simp; omega) _ rfl ?_))
              intro g9 cap9 w2 hown2 hgrow hg9 _
              have hx2 : S.map iv ++ [.int .i64 0] = (S ++ [0]).map iv := by simp
              rw [hx2] at hown2
              have hb2 : Below w.heap.size w w2 := ((HB.out.trans (HBD.out.mono hsz)).alloc (by omega) _).grown hgrow (by simp; omega) (fun q hq => (HOD.out.lt q hq).1)
              obtain ⟨_, cap9', cur9, e9, hbg9, hh9, hn9, hm9, hs9, ht9⟩ : ∃ (g' cap' : Nat) (cur : Array Value), Value.slice (some ⟨g9, 0, none⟩) (S.length + 1) cap9 = .slice (some ⟨g', 0, none⟩) (S.length + 1) cap' ∧ w.heap.size ≤ g' ∧ w2.heap[g']? = some (.cells cur 3 (0, 0)) ∧ S.length + 1 ≤ cap' ∧ cap' ≤ maxLen ∧ cur.size = cap' * 1 ∧ cur.toList.take ((S.length + 1) * 1) = (S ++ [0]).map iv := by
                rcases hown2.2 with ⟨e0, _⟩ | q
                · cases e0
                · exact q
              injection e9 with e1 _ e3
              injection e1 with e1
              injection e1 with e1
              subst e1; subst e3
              have HX2 := hide hown2
              have HB2 := hide hb2
              have HH9 := hide hh9
              have HS9 := hide hs9
              unfold maxLen at hm9
              clear hown2 hgrow hb2 hx2 hg9 hh9 hs9 ht9
              go_wp2
              have r1 : IntKind.i64.wrap ((j : Int) + 1 + 1) = (j : Int) + 1 + 1 := by simp [IntKind.wrap, IntKind.bits, IntKind.signed]; omega
              have r2 : (0 : Int) ≤ (j : Int) + 1 + 1 := by omega
              have r3 : ((j : Int) + 1 + 1 : Int) ≤ (S.length : Int) + 1 := by omega
              have r4 : ((j : Int) + 1 + 1 : Int).toNat = (j + 1) + 1 := by omega
              have r5 : (0 : Int) ≤ ((j : Int) + 1) := by omega
              have r6 : (((j : Int) + 1) : Int) ≤ (S.length : Int) + 1 := by omega
              have r7 : (((j : Int) + 1) : Int).toNat = (j + 1) := by omega
              refine wp_region_reads0 7 (by kernel_rfl) (by kernel_rfl) ?_
              simp only [List.take_succ_cons, List.take_zero, List.drop_succ_cons, List.drop_zero]
              iterate 7
                refine ⟨?_, Or.inl ⟨by rfl, ?_⟩, ?_⟩
                rotate_left 1
                · intro w' _
                  go_simp
                  first | done | with_reducible rfl
                simp only [Act.put, List.setIfInBounds_toArray, List.set_cons_zero, List.set_cons_succ]
              clear r1 r2 r3 r4 r5 r6 r7
              simp only [wpReads]
              intro K hK
              have hcur : w2.drew.heap[g9]? = some (.cells cur9.toList.toArray 3 (0, 0)) := by show w2.heap[g9]? = _; simpa using HH9.out
              have hcl : cur9.toList.length = cap9 := by simpa using HS9.out
              refine step_copy_splice rfl (.tmp 50) (.tmp 53) 133 133 rfl 3 Tryz.underlying133 (by kernel_rfl) _ _ _ _ _ _ rfl rfl g9 ((j + 1) + 1) cur9.toList 3 hcur ((S.drop ((j + 1))).map iv) (by show _ = min _ _; simp only [List.length_map, List.length_drop]; omega) ?_ (by simp only [List.length_map, List.length_drop]; omega) (by intro u hu; obtain ⟨z, _, rfl⟩ := List.mem_map.1 hu; rfl) w.heap.size w (HB2.out.drew) hbg9 ?_
              · intro hpos
                have hpl : (j + 1) < S.length := by simp only [List.length_map, List.length_drop] at hpos; omega
                refine ⟨by first | rfl | rw [if_neg (by omega)], ⟨g9, (j + 1), none⟩, by first | rfl | rw [if_neg (by omega)], fun i u hi => ?_⟩
                have hi2 : ((S ++ [0]).map iv)[(j + 1) + i]? = some u := by
                  rw [List.getElem?_map] at hi ⊢
                  rw [List.getElem?_drop] at hi
                  have hlt3 : (j + 1) + i < S.length := by
                    rcases Nat.lt_or_ge ((j + 1) + i) S.length with h | h
                    · exact h
                    · rw [List.getElem?_eq_none h] at hi; cases hi
                  rw [List.getElem?_append_left hlt3]
                  exact hi
                have := (HX2.out.cells (g := g9) rfl) _ _ hi2
                rw [addr_add] at this
                rw [addr_add']
                exact this
              · intro w3 hsp hb3
                have hx3 := own_copied HX2.out (by simpa using HH9.out) hsp.out (by simp only [List.length_map, List.length_drop]; omega)
                refine hK _ _ (fun _ => trivial) ?_
                clear hK K
                refine NoPanic.normal ?_
                obtain ⟨u3, c3⟩ : ∃ u, w3.cell? ⟨g9, (j + 1), none⟩ = some u := by
                  have := (hx3.cells (g := g9) rfl) ((j + 1)) _ (List.getElem?_eq_getElem (by have := hx3.1; omega))
                  rw [addr_add] at this
                  exact ⟨_, this⟩
                have f3 : w3.frozen? ⟨g9, (j + 1), none⟩ = false := hx3.frozenAt _
                have hst := hx3.stored ((j + 1)) (.int .i64 x)
                rw [ins_splice S x ((j + 1)) (by omega)] at hst
                have hins : insI x S = S.take ((j + 1)) ++ x :: S.drop ((j + 1)) := insI_at x S ((j + 1)) hS (by omega) HG.out (fun z _ hz => by rw [show j + 1 - 1 = j from rfl, HY.out] at hz; injection hz with hz; omega)
                rw [← hins] at hst
                have HST := hide hst
                have HLEN : Hid (S.length + 1 = (srt (l.take (m + 1))).length) := hide (by rw [HT.out, hins]; simp only [List.length_append, List.length_cons, List.length_take, List.length_drop]; omega)
                have c4 := D0.out w3 hb3
                have HB3 := hide hb3
                clear hins hst hx3 hsp hb3 hcur hcl
                go_wp2
                go_roundw
                case rel => exact ⟨m + 1, by omega, by go_num, some ⟨g9, 0, none⟩, cap9, by rw [HLEN.out], hide (by rw [← HLEN.out, HT.out]; exact HST.out.1), hide (HB3.out.setCell hbg9 _)⟩
                case measure => simp [intOf]; omega
    · have mz : ¬ (m : Int) < (l.length : Int) := by omega
      have ht : l.take m = l := List.take_of_length_le (by omega)
      rw [ht] at HO ⊢
      clear ht
      go_wp2
      go_ret
      exact ⟨_, rfl, HO.out, HB.out⟩
end Go.Proofs.YtmnhlcbmoibahaaGreat

/- The reference's cuts: Xs and Ys. -/
namespace Go.Proofs.YtmnhlcbmoibahaaGreat
open Go.RowKit
set_option linter.unusedVariables false
set_option linter.unusedSimpArgs false

theorem cutsY_take (l : List R4) (m : Nat) (r : R4) (h : l[m]? = some r) : cutsY (l.take (m + 1)) = cutsY (l.take m) ++ [r.y0, r.y1] := by
  obtain ⟨hm, hp⟩ := List.getElem?_eq_some_iff.1 h
  rw [List.take_succ_eq_append_getElem hm, hp]
  simp [cutsY]
theorem cutsY_len (l : List R4) : (cutsY l).length = 2 * l.length := by
  induction l with
  | nil => rfl
  | cons p s ih => simp [cutsY] at ih ⊢; omega

set_option maxRecDepth 100000 in
set_option maxHeartbeats 1000000 in
theorem rXs_any {w : World} {va vb : Value} {a b : List R4} {B : Nat} (ha : RdK encR 4 w B va a) (hb : RdK encR 4 w B vb b) (hB : B ≤ w.heap.size) (la : a.length ≤ 10000000) (lb : b.length ≤ 10000000) :
    Calls Tryz.prog 88 #[va, vb] w fun e w' => ∃ vo, e = .returned vo ∧ w'.ownsRow w.heap.size 3 1 vo (srt (cutsL a ++ cutsL b)).length ((srt (cutsL a ++ cutsL b)).map iv) ∧ Below w.heap.size w w' := by
  obtain ⟨i1, gi, gz0, gz1, gz2⟩ := info_parts infoInt
  obtain ⟨A, c, rfl, hca⟩ := ha
  obtain ⟨A2, c2, rfl, hcb⟩ := hb
  have HA := hide hca
  have HB0 := hide hcb
  clear hca hcb
  go_enter Tryz.func88, Tryz.ntmps88
  go_wp2
  go_loopw [5, 6] (fun v i wr => ∃ m : Nat, m ≤ a.length ∧ i = .int .i64 m ∧ ∃ Av cv, v = .slice Av (cutsL (a.take m)).length cv ∧ Hid (wr.ownsRow w.heap.size 3 1 v (cutsL (a.take m)).length ((cutsL (a.take m)).map iv)) ∧ Hid (Below w.heap.size w wr)) (fun _ i _ => a.length - (intOf i).toNat)
  case atStart => exact ⟨0, Nat.zero_le _, rfl, none, 0, rfl, hide (World.ownsRow_nil _ _ _ _), hide (Below.refl _ _)⟩
  case round =>
    obtain ⟨m, hm, rfl, Av, cv, rfl, HO, HB⟩ := hrel
    by_cases hlt : m < a.length
    · obtain ⟨⟨x0, y0, x1, y1⟩, hp⟩ : ∃ p, a[m]? = some p := ⟨_, List.getElem?_eq_getElem hlt⟩
      obtain ⟨bk, off, rfl, hbk, k⟩ := HA.out (by intro e; rw [e] at hlt; simp at hlt)
      have dW : ∀ W, Below w.heap.size w W → W.cell? ⟨bk, off + m * 4, none⟩ = some (.int .i64 x0) ∧ W.cell? ⟨bk, off + m * 4 + 2, none⟩ = some (.int .i64 x1) := fun W hW =>
        ⟨(hW.cell (p := ⟨bk, _, none⟩) (by show bk < _; omega)).trans (k m _ hp 0 _ rfl), (hW.cell (p := ⟨bk, _, none⟩) (by show bk < _; omega)).trans (k m _ hp 2 _ rfl)⟩
      obtain ⟨d0, d2⟩ := dW wr HB.out
      have DW := hide dW
      have mz : (m : Int) < (a.length : Int) := by omega
      have HT : Hid (cutsL (a.take (m + 1)) = cutsL (a.take m) ++ [x0, x1]) := hide (by rw [cutsL_take a m _ hp])
      have hlen : (cutsL (a.take m)).length ≤ 400000000 := by rw [cutsL_len, List.length_take]; omega
      have hsz := HB.out.size
      have hbw : bk < wr.heap.size := by omega
      clear k hp dW
      generalize cutsL (a.take m) = E0 at *
      go_wp2
      refine wp_region_reads 11 (fun w' => w'.cell? ⟨bk, off + m * 4, none⟩ = some (.int .i64 x0) ∧ w'.cell? ⟨bk, off + m * 4 + 2, none⟩ = some (.int .i64 x1)) (by kernel_rfl) (by kernel_rfl) ⟨d0, d2⟩ ?_
      simp only [List.take_succ_cons, List.take_zero, List.drop_succ_cons, List.drop_zero]
      iterate 11
        refine ⟨?_, Or.inl ⟨by rfl, ?_⟩, ?_⟩
        rotate_left 1
        · intro w' hSw
          obtain ⟨z1, z2⟩ := hSw
          go_simp
          first | done | with_reducible rfl
        simp only [Act.put, List.setIfInBounds_toArray, List.set_cons_zero, List.set_cons_succ]
      simp only [wpReads]
      intro K hK
      go_simp
      refine hK _ _ (fun _ => ⟨by go_keep, by go_keep⟩) ?_
      clear hK K
      intro K hK
      refine step_append_lies _ rfl (.tmp 14) (.tmp 25) 133 rfl w.heap.size 3 i1 (.int .i64 0) 1 8 Tryz.underlying133 gi gz0 gz1 gz2 rfl (by decide) _ _ _ rfl (own_drew (World.ownsRow.alloc (w := wr) HO.out _)) ⟨wr.heap.size, 0, none⟩ 2 2 [.int .i64 x0, .int .i64 x1] rfl rfl (news_drew wr _ _ _ rfl) (ints_one rfl) (by omega) (by unfold maxLen; omega) (by omega) (by simp; omega) _ rfl ?_
      intro g9 cap9 w9 hown9 hgrow9 _ _
      have hb9 : Below w.heap.size w w9 := ((HB.out.alloc hsz _).drew).grown hgrow9 (by simp; omega) (fun q hq => (HO.out.lt q hq).1)
      have hx9 : E0.map iv ++ [.int .i64 x0, .int .i64 x1] = (E0 ++ [x0, x1]).map iv := by simp
      rw [hx9, ← HT.out] at hown9
      have HL9 : Hid (E0.length + 2 = (cutsL (a.take (m + 1))).length) := hide (by rw [HT.out]; simp)
      have HO9 := hide hown9
      have HB9 := hide hb9
      clear hown9 hgrow9 hx9 hb9
      refine hK _ _ (fun _ => DW.out _ HB9.out) ?_
      clear hK K
      intro K hK
      simp only [Act.put, List.setIfInBounds_toArray, List.set_cons_zero, List.set_cons_succ] at hK ⊢
      go_simp
      refine hK _ _ (fun h => absurd rfl h) ?_
      clear hK K
      refine NoPanic.normal ?_
      go_wp2
      go_roundw
      case rel => exact ⟨m + 1, by omega, by go_num, _, cap9, by rw [HL9.out], hide (by rw [← HL9.out]; exact own_n HO9.out rfl), HB9⟩
      case measure => simp [intOf]; omega
    · have mz : ¬ (m : Int) < (a.length : Int) := by omega
      have ht : a.take m = a := List.take_of_length_le (by omega)
      rw [ht] at HO ⊢
      clear ht
      go_wp2
      go_loopw [5, 7] (fun v i wr => ∃ m : Nat, m ≤ b.length ∧ i = .int .i64 m ∧ ∃ Av cv, v = .slice Av (cutsL a ++ cutsL (b.take m)).length cv ∧ Hid (wr.ownsRow w.heap.size 3 1 v (cutsL a ++ cutsL (b.take m)).length ((cutsL a ++ cutsL (b.take m)).map iv)) ∧ Hid (Below w.heap.size w wr)) (fun _ i _ => b.length - (intOf i).toNat)
      case atStart => exact ⟨0, Nat.zero_le _, rfl, Av, cv, by simp [cutsL], hide (by simpa [cutsL] using HO.out), HB⟩
      case round =>
        clear HO HB
        obtain ⟨m, hm, rfl, Av, cv, rfl, HO, HB⟩ := hrel
        by_cases hlt : m < b.length
        · obtain ⟨⟨x0, y0, x1, y1⟩, hp⟩ : ∃ p, b[m]? = some p := ⟨_, List.getElem?_eq_getElem hlt⟩
          obtain ⟨bk, off, rfl, hbk, k⟩ := HB0.out (by intro e; rw [e] at hlt; simp at hlt)
          have dW : ∀ W, Below w.heap.size w W → W.cell? ⟨bk, off + m * 4, none⟩ = some (.int .i64 x0) ∧ W.cell? ⟨bk, off + m * 4 + 2, none⟩ = some (.int .i64 x1) := fun W hW =>
            ⟨(hW.cell (p := ⟨bk, _, none⟩) (by show bk < _; omega)).trans (k m _ hp 0 _ rfl), (hW.cell (p := ⟨bk, _, none⟩) (by show bk < _; omega)).trans (k m _ hp 2 _ rfl)⟩
          obtain ⟨d0, d2⟩ := dW wr HB.out
          have DW := hide dW
          have mz : (m : Int) < (b.length : Int) := by omega
          have HT : Hid (cutsL a ++ cutsL (b.take (m + 1)) = cutsL a ++ cutsL (b.take m) ++ [x0, x1]) := hide (by rw [cutsL_take b m _ hp, List.append_assoc])
          have hlen : (cutsL a ++ cutsL (b.take m)).length ≤ 400000000 := by rw [List.length_append, cutsL_len, cutsL_len, List.length_take]; omega
          have hsz := HB.out.size
          have hbw : bk < wr.heap.size := by omega
          clear k hp dW
          generalize cutsL a ++ cutsL (b.take m) = E0 at *
          go_wp2
          refine wp_region_reads 11 (fun w' => w'.cell? ⟨bk, off + m * 4, none⟩ = some (.int .i64 x0) ∧ w'.cell? ⟨bk, off + m * 4 + 2, none⟩ = some (.int .i64 x1)) (by kernel_rfl) (by kernel_rfl) ⟨d0, d2⟩ ?_
          simp only [List.take_succ_cons, List.take_zero, List.drop_succ_cons, List.drop_zero]
          iterate 11
            refine ⟨?_, Or.inl ⟨by rfl, ?_⟩, ?_⟩
            rotate_left 1
            · intro w' hSw
              obtain ⟨z1, z2⟩ := hSw
              go_simp
              first | done | with_reducible rfl
            simp only [Act.put, List.setIfInBounds_toArray, List.set_cons_zero, List.set_cons_succ]
          simp only [wpReads]
          intro K hK
          go_simp
          refine hK _ _ (fun _ => ⟨by go_keep, by go_keep⟩) ?_
          clear hK K
          intro K hK
          refine step_append_lies _ rfl (.tmp 33) (.tmp 44) 133 rfl w.heap.size 3 i1 (.int .i64 0) 1 8 Tryz.underlying133 gi gz0 gz1 gz2 rfl (by decide) _ _ _ rfl (own_drew (World.ownsRow.alloc (w := wr) HO.out _)) ⟨wr.heap.size, 0, none⟩ 2 2 [.int .i64 x0, .int .i64 x1] rfl rfl (news_drew wr _ _ _ rfl) (ints_one rfl) (by omega) (by unfold maxLen; omega) (by omega) (by simp; omega) _ rfl ?_
          intro g9 cap9 w9 hown9 hgrow9 _ _
          have hb9 : Below w.heap.size w w9 := ((HB.out.alloc hsz _).drew).grown hgrow9 (by simp; omega) (fun q hq => (HO.out.lt q hq).1)
          have hx9 : E0.map iv ++ [.int .i64 x0, .int .i64 x1] = (E0 ++ [x0, x1]).map iv := by simp
          rw [hx9, ← HT.out] at hown9
          have HL9 : Hid (E0.length + 2 = (cutsL a ++ cutsL (b.take (m + 1))).length) := hide (by rw [HT.out]; simp)
          have HO9 := hide hown9
          have HB9 := hide hb9
          clear hown9 hgrow9 hx9 hb9
          refine hK _ _ (fun _ => DW.out _ HB9.out) ?_
          clear hK K
          intro K hK
          simp only [Act.put, List.setIfInBounds_toArray, List.set_cons_zero, List.set_cons_succ] at hK ⊢
          go_simp
          refine hK _ _ (fun h => absurd rfl h) ?_
          clear hK K
          refine NoPanic.normal ?_
          go_wp2
          go_roundw
          case rel => exact ⟨m + 1, by omega, by go_num, _, cap9, by rw [HL9.out], hide (by rw [← HL9.out]; exact own_n HO9.out rfl), HB9⟩
          case measure => simp [intOf]; omega
        · have mz : ¬ (m : Int) < (b.length : Int) := by omega
          have ht : b.take m = b := List.take_of_length_le (by omega)
          rw [ht] at HO ⊢
          clear ht
          have hsz := HB.out.size
          have hln : (cutsL a ++ cutsL b).length ≤ 100000000 := by rw [List.length_append, cutsL_len, cutsL_len]; omega
          obtain ⟨E, hE⟩ : ∃ E, cutsL a ++ cutsL b = E := ⟨_, rfl⟩
          rw [hE] at hln HO ⊢
          have HE := hide hE
          clear hE
          have hso := rSorted_any (own_rdI HO.out) (Nat.le_refl _) (by omega)
          have HSO := hide hso
          clear hso
          go_wp2_with (go_at_call 126; refine HSO.out.mono ?_; rintro e w3 ⟨vo, rfl, ho3, hb3⟩; have HO3 := hide ho3; have HB3 := hide hb3; clear ho3 hb3)
          go_ret
          exact ⟨vo, rfl, by rw [HE.out]; exact own_base HO3.out hsz, HB.out.trans (HB3.out.mono hsz)⟩

set_option maxRecDepth 100000 in
set_option maxHeartbeats 1000000 in
theorem rYs_any {w : World} {va vb : Value} {a b : List R4} {B : Nat} (ha : RdK encR 4 w B va a) (hb : RdK encR 4 w B vb b) (hB : B ≤ w.heap.size) (la : a.length ≤ 10000000) (lb : b.length ≤ 10000000) :
    Calls Tryz.prog 89 #[va, vb] w fun e w' => ∃ vo, e = .returned vo ∧ w'.ownsRow w.heap.size 3 1 vo (srt (cutsY a ++ cutsY b)).length ((srt (cutsY a ++ cutsY b)).map iv) ∧ Below w.heap.size w w' := by
  obtain ⟨i1, gi, gz0, gz1, gz2⟩ := info_parts infoInt
  obtain ⟨A, c, rfl, hca⟩ := ha
  obtain ⟨A2, c2, rfl, hcb⟩ := hb
  have HA := hide hca
  have HB0 := hide hcb
  clear hca hcb
  go_enter Tryz.func89, Tryz.ntmps89
  go_wp2
  go_loopw [5, 6] (fun v i wr => ∃ m : Nat, m ≤ a.length ∧ i = .int .i64 m ∧ ∃ Av cv, v = .slice Av (cutsY (a.take m)).length cv ∧ Hid (wr.ownsRow w.heap.size 3 1 v (cutsY (a.take m)).length ((cutsY (a.take m)).map iv)) ∧ Hid (Below w.heap.size w wr)) (fun _ i _ => a.length - (intOf i).toNat)
  case atStart => exact ⟨0, Nat.zero_le _, rfl, none, 0, rfl, hide (World.ownsRow_nil _ _ _ _), hide (Below.refl _ _)⟩
  case round =>
    obtain ⟨m, hm, rfl, Av, cv, rfl, HO, HB⟩ := hrel
    by_cases hlt : m < a.length
    · obtain ⟨⟨x0, y0, x1, y1⟩, hp⟩ : ∃ p, a[m]? = some p := ⟨_, List.getElem?_eq_getElem hlt⟩
      obtain ⟨bk, off, rfl, hbk, k⟩ := HA.out (by intro e; rw [e] at hlt; simp at hlt)
      have dW : ∀ W, Below w.heap.size w W → W.cell? ⟨bk, off + m * 4 + 1, none⟩ = some (.int .i64 y0) ∧ W.cell? ⟨bk, off + m * 4 + 3, none⟩ = some (.int .i64 y1) := fun W hW =>
        ⟨(hW.cell (p := ⟨bk, _, none⟩) (by show bk < _; omega)).trans (k m _ hp 1 _ rfl), (hW.cell (p := ⟨bk, _, none⟩) (by show bk < _; omega)).trans (k m _ hp 3 _ rfl)⟩
      obtain ⟨d0, d2⟩ := dW wr HB.out
      have DW := hide dW
      have mz : (m : Int) < (a.length : Int) := by omega
      have HT : Hid (cutsY (a.take (m + 1)) = cutsY (a.take m) ++ [y0, y1]) := hide (by rw [cutsY_take a m _ hp])
      have hlen : (cutsY (a.take m)).length ≤ 400000000 := by rw [cutsY_len, List.length_take]; omega
      have hsz := HB.out.size
      have hbw : bk < wr.heap.size := by omega
      clear k hp dW
      generalize cutsY (a.take m) = E0 at *
      go_wp2
      refine wp_region_reads 11 (fun w' => w'.cell? ⟨bk, off + m * 4 + 1, none⟩ = some (.int .i64 y0) ∧ w'.cell? ⟨bk, off + m * 4 + 3, none⟩ = some (.int .i64 y1)) (by kernel_rfl) (by kernel_rfl) ⟨d0, d2⟩ ?_
      simp only [List.take_succ_cons, List.take_zero, List.drop_succ_cons, List.drop_zero]
      iterate 11
        refine ⟨?_, Or.inl ⟨by rfl, ?_⟩, ?_⟩
        rotate_left 1
        · intro w' hSw
          obtain ⟨z1, z2⟩ := hSw
          go_simp
          first | done | with_reducible rfl
        simp only [Act.put, List.setIfInBounds_toArray, List.set_cons_zero, List.set_cons_succ]
      simp only [wpReads]
      intro K hK
      go_simp
      refine hK _ _ (fun _ => ⟨by go_keep, by go_keep⟩) ?_
      clear hK K
      intro K hK
      refine step_append_lies _ rfl (.tmp 14) (.tmp 25) 133 rfl w.heap.size 3 i1 (.int .i64 0) 1 8 Tryz.underlying133 gi gz0 gz1 gz2 rfl (by decide) _ _ _ rfl (own_drew (World.ownsRow.alloc (w := wr) HO.out _)) ⟨wr.heap.size, 0, none⟩ 2 2 [.int .i64 y0, .int .i64 y1] rfl rfl (news_drew wr _ _ _ rfl) (ints_one rfl) (by omega) (by unfold maxLen; omega) (by omega) (by simp; omega) _ rfl ?_
      intro g9 cap9 w9 hown9 hgrow9 _ _
      have hb9 : Below w.heap.size w w9 := ((HB.out.alloc hsz _).drew).grown hgrow9 (by simp; omega) (fun q hq => (HO.out.lt q hq).1)
      have hx9 : E0.map iv ++ [.int .i64 y0, .int .i64 y1] = (E0 ++ [y0, y1]).map iv := by simp
      rw [hx9, ← HT.out] at hown9
      have HL9 : Hid (E0.length + 2 = (cutsY (a.take (m + 1))).length) := hide (by rw [HT.out]; simp)
      have HO9 := hide hown9
      have HB9 := hide hb9
      clear hown9 hgrow9 hx9 hb9
      refine hK _ _ (fun _ => DW.out _ HB9.out) ?_
      clear hK K
      intro K hK
      simp only [Act.put, List.setIfInBounds_toArray, List.set_cons_zero, List.set_cons_succ] at hK ⊢
      go_simp
      refine hK _ _ (fun h => absurd rfl h) ?_
      clear hK K
      refine NoPanic.normal ?_
      go_wp2
      go_roundw
      case rel => exact ⟨m + 1, by omega, by go_num, _, cap9, by rw [HL9.out], hide (by rw [← HL9.out]; exact own_n HO9.out rfl), HB9⟩
      case measure => simp [intOf]; omega
    · have mz : ¬ (m : Int) < (a.length : Int) := by omega
      have ht : a.take m = a := List.take_of_length_le (by omega)
      rw [ht] at HO ⊢
      clear ht
      go_wp2
      go_loopw [5, 7] (fun v i wr => ∃ m : Nat, m ≤ b.length ∧ i = .int .i64 m ∧ ∃ Av cv, v = .slice Av (cutsY a ++ cutsY (b.take m)).length cv ∧ Hid (wr.ownsRow w.heap.size 3 1 v (cutsY a ++ cutsY (b.take m)).length ((cutsY a ++ cutsY (b.take m)).map iv)) ∧ Hid (Below w.heap.size w wr)) (fun _ i _ => b.length - (intOf i).toNat)
      case atStart => exact ⟨0, Nat.zero_le _, rfl, Av, cv, by simp [cutsY], hide (by simpa [cutsY] using HO.out), HB⟩
      case round =>
        clear HO HB
        obtain ⟨m, hm, rfl, Av, cv, rfl, HO, HB⟩ := hrel
        by_cases hlt : m < b.length
        · obtain ⟨⟨x0, y0, x1, y1⟩, hp⟩ : ∃ p, b[m]? = some p := ⟨_, List.getElem?_eq_getElem hlt⟩
          obtain ⟨bk, off, rfl, hbk, k⟩ := HB0.out (by intro e; rw [e] at hlt; simp at hlt)
          have dW : ∀ W, Below w.heap.size w W → W.cell? ⟨bk, off + m * 4 + 1, none⟩ = some (.int .i64 y0) ∧ W.cell? ⟨bk, off + m * 4 + 3, none⟩ = some (.int .i64 y1) := fun W hW =>
            ⟨(hW.cell (p := ⟨bk, _, none⟩) (by show bk < _; omega)).trans (k m _ hp 1 _ rfl), (hW.cell (p := ⟨bk, _, none⟩) (by show bk < _; omega)).trans (k m _ hp 3 _ rfl)⟩
          obtain ⟨d0, d2⟩ := dW wr HB.out
          have DW := hide dW
          have mz : (m : Int) < (b.length : Int) := by omega
          have HT : Hid (cutsY a ++ cutsY (b.take (m + 1)) = cutsY a ++ cutsY (b.take m) ++ [y0, y1]) := hide (by rw [cutsY_take b m _ hp, List.append_assoc])
          have hlen : (cutsY a ++ cutsY (b.take m)).length ≤ 400000000 := by rw [List.length_append, cutsY_len, cutsY_len, List.length_take]; omega
          have hsz := HB.out.size
          have hbw : bk < wr.heap.size := by omega
          clear k hp dW
          generalize cutsY a ++ cutsY (b.take m) = E0 at *
          go_wp2
          refine wp_region_reads 11 (fun w' => w'.cell? ⟨bk, off + m * 4 + 1, none⟩ = some (.int .i64 y0) ∧ w'.cell? ⟨bk, off + m * 4 + 3, none⟩ = some (.int .i64 y1)) (by kernel_rfl) (by kernel_rfl) ⟨d0, d2⟩ ?_
          simp only [List.take_succ_cons, List.take_zero, List.drop_succ_cons, List.drop_zero]
          iterate 11
            refine ⟨?_, Or.inl ⟨by rfl, ?_⟩, ?_⟩
            rotate_left 1
            · intro w' hSw
              obtain ⟨z1, z2⟩ := hSw
              go_simp
              first | done | with_reducible rfl
            simp only [Act.put, List.setIfInBounds_toArray, List.set_cons_zero, List.set_cons_succ]
          simp only [wpReads]
          intro K hK
          go_simp
          refine hK _ _ (fun _ => ⟨by go_keep, by go_keep⟩) ?_
          clear hK K
          intro K hK
          refine step_append_lies _ rfl (.tmp 33) (.tmp 44) 133 rfl w.heap.size 3 i1 (.int .i64 0) 1 8 Tryz.underlying133 gi gz0 gz1 gz2 rfl (by decide) _ _ _ rfl (own_drew (World.ownsRow.alloc (w := wr) HO.out _)) ⟨wr.heap.size, 0, none⟩ 2 2 [.int .i64 y0, .int .i64 y1] rfl rfl (news_drew wr _ _ _ rfl) (ints_one rfl) (by omega) (by unfold maxLen; omega) (by omega) (by simp; omega) _ rfl ?_
          intro g9 cap9 w9 hown9 hgrow9 _ _
          have hb9 : Below w.heap.size w w9 := ((HB.out.alloc hsz _).drew).grown hgrow9 (by simp; omega) (fun q hq => (HO.out.lt q hq).1)
          have hx9 : E0.map iv ++ [.int .i64 y0, .int .i64 y1] = (E0 ++ [y0, y1]).map iv := by simp
          rw [hx9, ← HT.out] at hown9
          have HL9 : Hid (E0.length + 2 = (cutsY a ++ cutsY (b.take (m + 1))).length) := hide (by rw [HT.out]; simp)
          have HO9 := hide hown9
          have HB9 := hide hb9
          clear hown9 hgrow9 hx9 hb9
          refine hK _ _ (fun _ => DW.out _ HB9.out) ?_
          clear hK K
          intro K hK
          simp only [Act.put, List.setIfInBounds_toArray, List.set_cons_zero, List.set_cons_succ] at hK ⊢
          go_simp
          refine hK _ _ (fun h => absurd rfl h) ?_
          clear hK K
          refine NoPanic.normal ?_
          go_wp2
          go_roundw
          case rel => exact ⟨m + 1, by omega, by go_num, _, cap9, by rw [HL9.out], hide (by rw [← HL9.out]; exact own_n HO9.out rfl), HB9⟩
          case measure => simp [intOf]; omega
        · have mz : ¬ (m : Int) < (b.length : Int) := by omega
          have ht : b.take m = b := List.take_of_length_le (by omega)
          rw [ht] at HO ⊢
          clear ht
          have hsz := HB.out.size
          have hln : (cutsY a ++ cutsY b).length ≤ 100000000 := by rw [List.length_append, cutsY_len, cutsY_len]; omega
          obtain ⟨E, hE⟩ : ∃ E, cutsY a ++ cutsY b = E := ⟨_, rfl⟩
          rw [hE] at hln HO ⊢
          have HE := hide hE
          clear hE
          have hso := rSorted_any (own_rdI HO.out) (Nat.le_refl _) (by omega)
          have HSO := hide hso
          clear hso
          go_wp2_with (go_at_call 126; refine HSO.out.mono ?_; rintro e w3 ⟨vo, rfl, ho3, hb3⟩; have HO3 := hide ho3; have HB3 := hide hb3; clear ho3 hb3)
          go_ret
          exact ⟨vo, rfl, by rw [HE.out]; exact own_base HO3.out hsz, HB.out.trans (HB3.out.mono hsz)⟩
end Go.Proofs.YtmnhlcbmoibahaaGreat

/- The reference's Canon. -/
namespace Go.Proofs.YtmnhlcbmoibahaaGreat
open Go.RowKit
set_option linter.unusedVariables false
set_option linter.unusedSimpArgs false

def encBo (x : Bool) : List Value := [.bool x]
theorem flat_encBo (l : List Bool) : l.flatMap encBo = l.map Value.bool := by
  induction l with
  | nil => rfl
  | cons a l ih => simp [List.flatMap_cons, encBo, ih]
/-- The canonical list behind m cuts. -/
def canP (cs : List Int) (bs : List Bool) (m : Nat) : List Sp := (((prs cs).zip bs).take m).foldl (fun out x => if x.2 then sext out x.1.1 x.1.2 else out) []
theorem canP_zero (cs : List Int) (bs : List Bool) : canP cs bs 0 = [] := rfl
theorem canP_step {cs : List Int} {bs : List Bool} {m : Nat} {c d : Int} {p : Bool} (hc : cs[m]? = some c) (hd : cs[m + 1]? = some d) (hp : bs[m]? = some p) : canP cs bs (m + 1) = if p then sext (canP cs bs m) c d else canP cs bs m := by
  have h := prs_get cs m c d hc hd
  have hz : ((prs cs).zip bs)[m]? = some ((c, d), p) := by rw [List.getElem?_zip_eq_some]; exact ⟨h, hp⟩
  obtain ⟨i1, e1⟩ := List.getElem?_eq_some_iff.1 hz
  unfold canP
  rw [List.take_succ_eq_append_getElem i1, List.foldl_append, e1]
  rfl
theorem canP_all {cs : List Int} {bs : List Bool} {m : Nat} (hm : cs.length ≤ m + 1) : canP cs bs m = canF cs bs := by
  unfold canP canF
  rw [List.take_of_length_le]
  have := prs_len cs
  simp; omega
theorem canP_len (cs : List Int) (bs : List Bool) (m : Nat) : (canP cs bs m).length ≤ cs.length := by
  have h1 := canF_len_from (((prs cs).zip bs).take m) []
  have h2 := prs_len cs
  have h3 : (((prs cs).zip bs).take m).length ≤ (prs cs).length := by simp; omega
  unfold canP
  simp at h1 h3 ⊢
  omega

set_option maxRecDepth 100000 in
set_option maxHeartbeats 4000000 in
theorem rCanon_any {w : World} {vc vb : Value} {cs : List Int} {bs : List Bool} {B : Nat} (hc : RdK encI 1 w B vc cs) (hb : RdK encBo 1 w B vb bs) (hB : B ≤ w.heap.size) (hl : cs.length ≤ 100000000) (hlen : bs.length = cs.length) :
    Calls Tryz.prog 92 #[vc, vb] w fun e w' => ∃ vo, e = .returned vo ∧ w'.ownsRow w.heap.size 143 2 vo (canF cs bs).length ((canF cs bs).flatMap encS) ∧ Below w.heap.size w w' := by
  obtain ⟨i1, gi, gz0, gz1, gz2⟩ := info_parts infoSp
  obtain ⟨A, c0, rfl, hca⟩ := hc
  obtain ⟨A2, c2, rfl, hcb⟩ := hb
  have HA := hide hca
  have HB0 := hide hcb
  have HLN := hide hlen
  clear hca hcb
  have hbl : bs.length ≤ 100000000 := by omega
  clear hlen
  go_enter Tryz.func92, Tryz.ntmps92
  go_wp2
  go_loopw [5, 6, 7] (fun v i _ wr => ∃ m : Nat, (m = 0 ∨ m < cs.length) ∧ i = .int .i64 m ∧ ∃ Av n cv, v = .slice Av n cv ∧ Hid (wr.ownsRow w.heap.size 143 2 v n ((canP cs bs m).flatMap encS)) ∧ Hid (Below w.heap.size w wr)) (fun _ i _ _ => cs.length - (intOf i).toNat)
  case atStart => exact ⟨0, .inl rfl, rfl, none, 0, 0, rfl, hide (World.ownsRow_nil _ _ _ _), hide (Below.refl _ _)⟩
  case round =>
    obtain ⟨m, hm, rfl, Av, n, cv, rfl, HO, HB⟩ := hrel
    by_cases hlt : m + 1 < cs.length
    · obtain ⟨c, hc⟩ : ∃ c, cs[m]? = some c := ⟨_, List.getElem?_eq_getElem (by omega)⟩
      obtain ⟨d, hd⟩ : ∃ d, cs[m + 1]? = some d := ⟨_, List.getElem?_eq_getElem hlt⟩
      have hbm : m < bs.length := by rw [HLN.out]; omega
      obtain ⟨p, hp⟩ : ∃ p, bs[m]? = some p := ⟨_, List.getElem?_eq_getElem hbm⟩
      obtain ⟨bk, off, rfl, hbk, kc⟩ := HA.out (by intro e; rw [e] at hlt; simp at hlt)
      obtain ⟨b2, off2, rfl, hb2, kb⟩ := HB0.out (by intro e; rw [e] at hbm; simp at hbm)
      have dW : ∀ W, Below w.heap.size w W → W.cell? ⟨bk, off + m, none⟩ = some (.int .i64 c) ∧ W.cell? ⟨bk, off + (m + 1), none⟩ = some (.int .i64 d) := fun W hW =>
        ⟨(hW.cell (p := ⟨bk, _, none⟩) (by show bk < _; omega)).trans (by have := kc m _ hc 0 _ rfl; rwa [Nat.mul_one] at this), (hW.cell (p := ⟨bk, _, none⟩) (by show bk < _; omega)).trans (by have := kc (m + 1) _ hd 0 _ rfl; rwa [Nat.mul_one] at this)⟩
      have eW : wr.cell? ⟨b2, off2 + m, none⟩ = some (.bool p) := (HB.out.cell (p := ⟨b2, _, none⟩) (by show b2 < _; omega)).trans (by have := kb m _ hp 0 _ rfl; rwa [Nat.mul_one] at this)
      have DW := hide dW
      have mz : (m : Int) + 1 < (cs.length : Int) := by omega
      have mz2 : (m : Int) < (bs.length : Int) := by omega
      have mz3 : (m : Int) < (cs.length : Int) := by omega
      have hT := canP_step hc hd hp
      have hSl := canP_len cs bs m
      have HN := hide (own_len (k := 2) HO.out (fun _ => rfl) (by omega))
      have hn : n ≤ 100000000 := by have := HN.out; omega
      obtain ⟨d0, d1⟩ := dW wr HB.out
      clear kc kb dW hc hd hp
      generalize canP cs bs m = S at *
      cases p with
      | false =>
        have HT : Hid (canP cs bs (m + 1) = S) := hide hT
        clear hT
        go_wp2
        go_roundw
        case rel => exact ⟨m + 1, by omega, by go_num, Av, n, cv, rfl, hide (by rw [HT.out]; exact HO.out), HB⟩
        case measure => simp [intOf]; omega
      | true =>
        have HT : Hid (canP cs bs (m + 1) = sext S c d) := hide hT
        clear hT
        rcases List.eq_nil_or_concat S with hS | ⟨q, ⟨x, y⟩, hS⟩
        · have hn0 : n = 0 := by rw [HN.out, hS]; rfl
          have HE : Hid (sext S c d = S ++ [(c, d)]) := hide (by rw [hS]; rfl)
          clear hS HN hn
          subst hn0
          go_wp2
          go_quiet (fail)
          refine name_exit fun wd hwd => ?_
          have hbd : Below w.heap.size w wd := by rw [hwd]; exact below_drewN HB.out _
          have hod : wd.ownsRow w.heap.size 143 2 (.slice Av 0 cv) (0) (S.flatMap encS) := by rw [hwd]; exact HO.out
          obtain ⟨k1, k2⟩ := DW.out wd hbd
          have HBD := hide hbd
          have HOD := hide hod
          have hsz := hbd.size
          have hbkd : bk < wd.heap.size := by omega
          clear hwd hod hbd
          go_wp2
          have r1 : IntKind.i64.wrap ((m : Int) + 1) = (m : Int) + 1 := by simp [IntKind.wrap, IntKind.bits, IntKind.signed]; omega
          have r2 : (0 : Int) ≤ (m : Int) + 1 := by omega
          have r3 : (m : Int) + 1 < (cs.length : Int) := by omega
          have r4 : ((m : Int) + 1).toNat = m + 1 := by omega
          have r5 : (m : Int) < (cs.length : Int) := by omega
          have r6 : (0 : Int) ≤ (m : Int) := by omega
          refine wp_region_reads 11 (fun w' => w'.cell? ⟨bk, off + m, none⟩ = some (.int .i64 c) ∧ w'.cell? ⟨bk, off + (m + 1), none⟩ = some (.int .i64 d)) (by kernel_rfl) (by kernel_rfl) ⟨k1, k2⟩ ?_
          simp only [List.take_succ_cons, List.take_zero, List.drop_succ_cons, List.drop_zero]
          iterate 11
            refine ⟨?_, Or.inl ⟨by rfl, ?_⟩, ?_⟩
            rotate_left 1
            · intro w' hSw
              obtain ⟨z1, z2⟩ := hSw
              go_simp
              first | done | with_reducible rfl
            simp only [Act.put, List.setIfInBounds_toArray, List.set_cons_zero, List.set_cons_succ]
          clear r1 r2 r3 r4 r5 r6
          simp only [wpReads]
          intro K hK
          go_simp
          refine hK _ _ (fun _ => ⟨by go_keep, by go_keep⟩) ?_
          clear hK K
          intro K hK
          refine step_append_lies _ rfl (.tmp 47) (.tmp 58) 137 rfl w.heap.size 143 i1 (.agg #[.int .i64 0, .int .i64 0]) 2 16 Tryz.underlying137 gi gz0 gz1 gz2 rfl (by decide) _ _ _ rfl (own_drew (World.ownsRow.alloc (w := wd) HOD.out _)) ⟨wd.heap.size, 0, none⟩ 1 1 [.int .i64 c, .int .i64 d] rfl rfl (news_drew wd _ _ _ rfl) (ints_one rfl) (by omega) (by unfold maxLen; omega) (by omega) (by simp; omega) _ rfl ?_
          intro g9 cap9 w9 hown9 hgrow9 _ _
          have hb9 : Below w.heap.size w w9 := ((HBD.out.alloc hsz _).drew).grown hgrow9 (by simp; omega) (fun q hq => (HOD.out.lt q hq).1)
          have hx9 : S.flatMap encS ++ [.int .i64 c, .int .i64 d] = (S ++ [(c, d)]).flatMap encS := by simp [encS]
          rw [hx9, ← HE.out] at hown9
          have HO9 := hide hown9
          have HB9 := hide hb9
          clear hown9 hgrow9 hx9 hb9
          refine hK _ _ (fun _ => DW.out _ HB9.out) ?_
          clear hK K
          intro K hK
          simp only [Act.put, List.setIfInBounds_toArray, List.set_cons_zero, List.set_cons_succ] at hK ⊢
          go_simp
          refine hK _ _ (fun h => absurd rfl h) ?_
          clear hK K
          refine NoPanic.normal ?_
          go_wp2
          go_roundw
          case rel => exact ⟨m + 1, by omega, by go_num, _, _, cap9, rfl, hide (by rw [HT.out]; exact HO9.out), HB9⟩
          case measure => simp [intOf]; omega
        · rw [List.concat_eq_append] at hS
          obtain ⟨j, hj⟩ : ∃ j, q.length = j := ⟨_, rfl⟩
          have hn1 : n = j + 1 := by rw [HN.out, hS, List.length_append, hj]; rfl
          clear HN
          subst hn1
          obtain ⟨g, cap, hv, hBg, hgw⟩ := HO.out.form (by omega)
          injection hv with e1 _ e3
          subst e1; subst e3
          have cy : wr.cell? ⟨g, j * 2 + 1, none⟩ = some (.int .i64 y) := by
            have := (HO.out.cells (g := g) rfl) _ _ (flat_get (k := 2) (fun _ => rfl) S j (x, y) 1 _ (by rw [hS, List.getElem?_append_right (by omega), hj]; simp) rfl)
            rwa [addr_add] at this
          have q1 : (0 : Int) < (j : Int) + 1 := by omega
          have q2 : (j : Int) < (j : Int) + 1 := by omega
          have q3 : IntKind.i64.wrap ((j : Int) + 1 - 1) = j := by simp [IntKind.wrap, IntKind.bits, IntKind.signed]; omega
          have q4 : (0 : Int) ≤ (j : Int) := by omega
          have HJ := hide hj
          have HS := hide hS
          clear hj hS
          by_cases hyc : y = c
          · subst hyc
            have hee : (y == y) = true := by simp
            have HE : Hid (sext S y d = q ++ [(x, d)]) := hide (by rw [HS.out]; unfold sext; simp)
            go_wp2
            go_quiet (fail)
            refine name_exit fun wd hwd => ?_
            have hbd : Below w.heap.size w wd := by rw [hwd]; exact below_drewN HB.out _
            have hod : wd.ownsRow w.heap.size 143 2 (.slice (some ⟨g, 0, none⟩) (j + 1) cv) (j + 1) (S.flatMap encS) := by rw [hwd]; exact HO.out
            have cy2 : wd.cell? ⟨g, j * 2 + 1, none⟩ = some (.int .i64 y) := by rw [hwd]; exact cy
            have f2 : wd.frozen? ⟨g, j * 2 + 1, none⟩ = false := hod.frozenAt _
            have hst := hod.stored (j * 2 + 1) (.int .i64 d)
            have hset := set_last q x y d
            rw [HJ.out, ← HS.out] at hset
            rw [hset] at hst
            obtain ⟨k1, k2⟩ := DW.out wd hbd
            have HST := hide hst
            have HBD := hide hbd
            clear hwd hod hbd hst hset cy
            go_wp2
            go_roundw
            case rel => exact ⟨m + 1, by omega, by go_num, _, _, cv, rfl, hide (by rw [HT.out, HE.out]; exact HST.out.1), hide (HBD.out.setCell hBg _)⟩
            case measure => simp [intOf]; omega
          · have hee : (y == c) = false := by simpa using hyc
            have HE : Hid (sext S c d = S ++ [(c, d)]) := hide (by rw [HS.out]; unfold sext; simp [hyc])
            clear hyc
            go_wp2
            go_quiet (fail)
            refine name_exit fun wd hwd => ?_
            have hbd : Below w.heap.size w wd := by rw [hwd]; exact below_drewN HB.out _
            have hod : wd.ownsRow w.heap.size 143 2 (.slice (some ⟨g, 0, none⟩) (j + 1) cv) (j + 1) (S.flatMap encS) := by rw [hwd]; exact HO.out
            obtain ⟨k1, k2⟩ := DW.out wd hbd
            have HBD := hide hbd
            have HOD := hide hod
            have hsz := hbd.size
            have hbkd : bk < wd.heap.size := by omega
            clear hwd hod hbd
            go_wp2
            have r1 : IntKind.i64.wrap ((m : Int) + 1) = (m : Int) + 1 := by simp [IntKind.wrap, IntKind.bits, IntKind.signed]; omega
            have r2 : (0 : Int) ≤ (m : Int) + 1 := by omega
            have r3 : (m : Int) + 1 < (cs.length : Int) := by omega
            have r4 : ((m : Int) + 1).toNat = m + 1 := by omega
            have r5 : (m : Int) < (cs.length : Int) := by omega
            have r6 : (0 : Int) ≤ (m : Int) := by omega
            refine wp_region_reads 11 (fun w' => w'.cell? ⟨bk, off + m, none⟩ = some (.int .i64 c) ∧ w'.cell? ⟨bk, off + (m + 1), none⟩ = some (.int .i64 d)) (by kernel_rfl) (by kernel_rfl) ⟨k1, k2⟩ ?_
            simp only [List.take_succ_cons, List.take_zero, List.drop_succ_cons, List.drop_zero]
            iterate 11
              refine ⟨?_, Or.inl ⟨by rfl, ?_⟩, ?_⟩
              rotate_left 1
              · intro w' hSw
                obtain ⟨z1, z2⟩ := hSw
                go_simp
                first | done | with_reducible rfl
              simp only [Act.put, List.setIfInBounds_toArray, List.set_cons_zero, List.set_cons_succ]
            clear r1 r2 r3 r4 r5 r6
            simp only [wpReads]
            intro K hK
            go_simp
            refine hK _ _ (fun _ => ⟨by go_keep, by go_keep⟩) ?_
            clear hK K
            intro K hK
            refine step_append_lies _ rfl (.tmp 47) (.tmp 58) 137 rfl w.heap.size 143 i1 (.agg #[.int .i64 0, .int .i64 0]) 2 16 Tryz.underlying137 gi gz0 gz1 gz2 rfl (by decide) _ _ _ rfl (own_drew (World.ownsRow.alloc (w := wd) HOD.out _)) ⟨wd.heap.size, 0, none⟩ 1 1 [.int .i64 c, .int .i64 d] rfl rfl (news_drew wd _ _ _ rfl) (ints_one rfl) (by omega) (by unfold maxLen; omega) (by omega) (by simp; omega) _ rfl ?_
            intro g9 cap9 w9 hown9 hgrow9 _ _
            have hb9 : Below w.heap.size w w9 := ((HBD.out.alloc hsz _).drew).grown hgrow9 (by simp; omega) (fun q hq => (HOD.out.lt q hq).1)
            have hx9 : S.flatMap encS ++ [.int .i64 c, .int .i64 d] = (S ++ [(c, d)]).flatMap encS := by simp [encS]
            rw [hx9, ← HE.out] at hown9
            have HO9 := hide hown9
            have HB9 := hide hb9
            clear hown9 hgrow9 hx9 hb9
            refine hK _ _ (fun _ => DW.out _ HB9.out) ?_
            clear hK K
            intro K hK
            simp only [Act.put, List.setIfInBounds_toArray, List.set_cons_zero, List.set_cons_succ] at hK ⊢
            go_simp
            refine hK _ _ (fun h => absurd rfl h) ?_
            clear hK K
            refine NoPanic.normal ?_
            go_wp2
            go_roundw
            case rel => exact ⟨m + 1, by omega, by go_num, _, _, cap9, rfl, hide (by rw [HT.out]; exact HO9.out), HB9⟩
            case measure => simp [intOf]; omega
    · have mz : ¬ (m : Int) + 1 < (cs.length : Int) := by omega
      have ht := canP_all (cs := cs) (bs := bs) (m := m) (by omega)
      rw [ht] at HO
      have HN := hide (own_len (k := 2) HO.out (fun _ => rfl) (by omega))
      have hml : (m : Int) + 1 ≤ 200000000 := by omega
      clear ht
      go_wp2
      go_ret
      exact ⟨_, rfl, own_n HO.out HN.out, HB.out⟩
end Go.Proofs.YtmnhlcbmoibahaaGreat

/- The reference's small functions: In, Valid, Has, Holds, Great. -/
namespace Go.Proofs.YtmnhlcbmoibahaaGreat
open Go.RowKit
set_option linter.unusedVariables false
set_option linter.unusedSimpArgs false

instance (x : Int) : Decidable (fineP x) := by unfold fineP; infer_instance
set_option maxHeartbeats 1000000 in
theorem rIn_any (x : Int) (w : World) : Calls Tryz.prog 87 #[.int .i64 x] w fun e w' => e = .returned (.bool (decide (fineP x))) ∧ w = w' := by
  go_enter Tryz.func87, Tryz.ntmps87
  go_wp2
  all_goals
    go_ret
    refine ⟨ret_eq (bool_eq ?_), rfl⟩
    first
      | exact (decide_eq_false (by simp only [fineP]; omega)).symm
      | exact (decide_eq_true (by simp only [fineP]; omega)).symm
      | exact decide_eq_decide.2 (by simp only [fineP]; omega)

set_option maxHeartbeats 2000000 in
theorem rValid_any (r : R4) (w : World) :
    Calls Tryz.prog 54 #[.agg (encR r).toArray] w fun e w' => e = .returned (.bool (decide (valid4 r))) ∧ Below w.heap.size w w' := by
  obtain ⟨a, b, c, d⟩ := r
  show Calls Tryz.prog 54 #[.agg #[.int .i64 a, .int .i64 b, .int .i64 c, .int .i64 d]] w _
  have h1 : decide (valid4 ⟨a, b, c, d⟩) = (decide (a < c) && decide (b < d) && decide (fineP a) && decide (fineP c) && decide (fineP b) && decide (fineP d)) := by
    rw [Bool.eq_iff_iff, decide_eq_true_iff]; simp [valid4, and_assoc]
  rw [h1]
  have ha := fun W => rIn_any a W
  have hb := fun W => rIn_any b W
  have hc := fun W => rIn_any c W
  have hd := fun W => rIn_any d W
  generalize decide (fineP a) = fa at *
  generalize decide (fineP b) = fb at *
  generalize decide (fineP c) = fc at *
  generalize decide (fineP d) = fd at *
  have HA := hide ha
  have HB := hide hb
  have HC := hide hc
  have HD := hide hd
  clear ha hb hc hd h1
  have fin : Below w.heap.size w (w.alloc (.cells #[.int .i64 a, .int .i64 b, .int .i64 c, .int .i64 d] 65)) := (Below.refl _ _).alloc (Nat.le_refl _) _
  have FIN := hide fin
  clear fin
  by_cases t1 : a < c
  · by_cases t2 : b < d
    · cases fa with
      | false =>
        go_enter Tryz.func54, Tryz.ntmps54
        go_wp2_with (go_at_call 87; refine (HA.out _).mono ?_; rintro e w1 ⟨rfl, rfl⟩)
        go_ret
        exact ⟨ret_eq (bool_eq (by simp)), FIN.out⟩
      | true =>
        cases fc with
        | false =>
          go_enter Tryz.func54, Tryz.ntmps54
          go_wp2_with (fail)
          refine (HA.out _).mono ?_
          rintro e w1 ⟨rfl, rfl⟩
          go_wp2_with (fail)
          refine (HC.out _).mono ?_
          rintro e w1 ⟨rfl, rfl⟩
          go_wp2_with (fail)
          go_ret
          exact ⟨ret_eq (bool_eq (by simp)), FIN.out⟩
        | true =>
          cases fb with
          | false =>
            go_enter Tryz.func54, Tryz.ntmps54
            go_wp2_with (fail)
            refine (HA.out _).mono ?_
            rintro e w1 ⟨rfl, rfl⟩
            go_wp2_with (fail)
            refine (HC.out _).mono ?_
            rintro e w1 ⟨rfl, rfl⟩
            go_wp2_with (fail)
            refine (HB.out _).mono ?_
            rintro e w1 ⟨rfl, rfl⟩
            go_wp2_with (fail)
            go_ret
            exact ⟨ret_eq (bool_eq (by simp)), FIN.out⟩
          | true =>
            go_enter Tryz.func54, Tryz.ntmps54
            go_wp2_with (fail)
            refine (HA.out _).mono ?_
            rintro e w1 ⟨rfl, rfl⟩
            go_wp2_with (fail)
            refine (HC.out _).mono ?_
            rintro e w1 ⟨rfl, rfl⟩
            go_wp2_with (fail)
            refine (HB.out _).mono ?_
            rintro e w1 ⟨rfl, rfl⟩
            go_wp2_with (fail)
            refine (HD.out _).mono ?_
            rintro e w1 ⟨rfl, rfl⟩
            go_wp2_with (fail)
            go_ret
            exact ⟨ret_eq (bool_eq (by simp [t1, t2])), FIN.out⟩
    · go_enter Tryz.func54, Tryz.ntmps54
      have t2' : decide (b < d) = false := decide_eq_false t2
      go_wp2
      go_ret
      exact ⟨ret_eq (bool_eq (by simp [t2])), FIN.out⟩
  · go_enter Tryz.func54, Tryz.ntmps54
    have t1' : decide (a < c) = false := decide_eq_false t1
    go_wp2
    go_ret
    exact ⟨ret_eq (bool_eq (by simp [t1])), FIN.out⟩

set_option maxHeartbeats 2000000 in
theorem rHas_any {w : World} {v : Value} {l : List R4} {B : Nat} (hr : RdK encR 4 w B v l) (hl : l.length ≤ 100000000) (x y : Int) :
    Calls Tryz.prog 91 #[v, .int .i64 x, .int .i64 y] w fun e w' => e = .returned (.bool (decide (pmem l x y))) ∧ w = w' := by
  obtain ⟨A, c, rfl, hc⟩ := hr
  have HR := hide hc
  clear hc
  go_enter Tryz.func91, Tryz.ntmps91
  go_wp2
  go_loop [7] (fun i => ∃ m : Nat, m ≤ l.length ∧ i = .int .i64 m ∧ Hid (∀ r ∈ l.take m, ¬ rin r x y)) (fun i => l.length - (intOf i).toNat)
  case atStart => exact ⟨0, Nat.zero_le _, rfl, hide (by simp)⟩
  case round =>
    obtain ⟨m, hm, rfl, HN⟩ := hrel
    by_cases hlt : m < l.length
    · obtain ⟨⟨x0, y0, x1, y1⟩, hp⟩ : ∃ p, l[m]? = some p := ⟨_, List.getElem?_eq_getElem hlt⟩
      obtain ⟨b, o, rfl, hbl, k⟩ := HR.out (by intro e; rw [e] at hlt; simp at hlt)
      have d0 : w.cell? ⟨b, o + m * 4, none⟩ = some (.int .i64 x0) := k m _ hp 0 _ rfl
      have d1 : w.cell? ⟨b, o + m * 4 + 1, none⟩ = some (.int .i64 y0) := k m _ hp 1 _ rfl
      have d2 : w.cell? ⟨b, o + m * 4 + 2, none⟩ = some (.int .i64 x1) := k m _ hp 2 _ rfl
      have d3 : w.cell? ⟨b, o + m * 4 + 3, none⟩ = some (.int .i64 y1) := k m _ hp 3 _ rfl
      have mz : (m : Int) < (l.length : Int) := by omega
      have HP := hide hp
      clear k hp
      go_wp2
      all_goals first
        | (go_ret
           refine ⟨ret_eq (bool_eq (decide_eq_true ?_).symm), rfl⟩
           exact ⟨_, List.mem_of_getElem? HP.out, by assumption, by assumption, by assumption, by assumption⟩)
        | (go_round
           case rel =>
             refine ⟨m + 1, by omega, by go_num, hide ?_⟩
             obtain ⟨i1, e1⟩ := List.getElem?_eq_some_iff.1 HP.out
             intro r hr
             rw [List.take_succ_eq_append_getElem i1, List.mem_append] at hr
             rcases hr with hr | hr
             · exact HN.out r hr
             · rw [List.mem_singleton] at hr
               subst hr
               rw [e1]
               unfold rin
               simp only
               omega
           case measure => simp [intOf]; omega)
    · have mz : ¬ (m : Int) < (l.length : Int) := by omega
      go_wp2
      go_ret
      refine ⟨ret_eq (bool_eq (decide_eq_false ?_).symm), rfl⟩
      rintro ⟨r, hr, h⟩
      have := HN.out
      rw [List.take_of_length_le (by omega)] at this
      exact this r hr h

def hk (k : Int) (a b : Bool) : Bool := if k = 1 then a && b else if k = 2 then a || b else a && !b
set_option maxHeartbeats 1000000 in
theorem rHolds_any (k : Int) (hk0 : k = 1 ∨ k = 2 ∨ k = 3) (a b : Bool) (w : World) : Calls Tryz.prog 90 #[.int .i64 k, .bool a, .bool b] w fun e w' => e = .returned (.bool (hk k a b)) ∧ w = w' := by
  rcases hk0 with rfl | rfl | rfl <;> cases a <;> cases b
  all_goals
    go_enter Tryz.func90, Tryz.ntmps90
    go_wp2
    go_ret
    exact ⟨rfl, rfl⟩

def greatP (n : Nat) : Prop := (60 < n ∧ n ≤ 400) ∨ 420 < n
instance (n : Nat) : Decidable (greatP n) := by unfold greatP; infer_instance
end Go.Proofs.YtmnhlcbmoibahaaGreat

/- The reference's Same of spans: two lists are one. -/
namespace Go.Proofs.YtmnhlcbmoibahaaGreat
open Go.RowKit
set_option linter.unusedVariables false
set_option linter.unusedSimpArgs false

set_option maxHeartbeats 4000000 in
theorem rSameS_any {w : World} {vs vt : Value} {s t : List Sp} {B C : Nat} (hs : RdK encS 2 w B vs s) (ht : RdK encS 2 w C vt t) (ns : s.length ≤ 100000000) (hB : B ≤ w.heap.size) (hC : C ≤ w.heap.size) :
    Calls Tryz.prog 93 #[vs, vt] w fun e w' => e = .returned (.bool (decide (s = t))) ∧ Below w.heap.size w w' := by
  obtain ⟨A1, c1, rfl, h1⟩ := hs
  obtain ⟨A2, c2, rfl, h2⟩ := ht
  have g : Tryz.prog.eqGuardType Tryz.prog.depth 143 = false := by kernel_rfl
  have H1 := hide h1
  have H2 := hide h2
  clear h1 h2
  go_enter Tryz.func93, Tryz.ntmps93
  by_cases hl : s.length = t.length
  · have hne : ((s.length : Int) != (t.length : Int)) = false := by rw [hl]; simp
    have HL := hide hl
    clear hl
    go_wp2
    go_loopw [5] (fun i wr => ∃ k : Nat, k ≤ s.length ∧ i = .int .i64 k ∧ Hid (s.take k = t.take k) ∧ Below w.heap.size w wr) (fun i _ => s.length - (intOf i).toNat)
    case atStart => exact ⟨0, Nat.zero_le _, rfl, hide rfl, Below.refl _ _⟩
    case round =>
      obtain ⟨k, hk, rfl, HT, hb⟩ := hrel
      by_cases hlt : k < s.length
      · obtain ⟨⟨a0, a1⟩, hp⟩ : ∃ p, s[k]? = some p := ⟨_, List.getElem?_eq_getElem hlt⟩
        have hlt2 : k < t.length := by rw [← HL.out]; exact hlt
        obtain ⟨⟨b0, b1⟩, hq⟩ : ∃ p, t[k]? = some p := ⟨_, List.getElem?_eq_getElem hlt2⟩
        obtain ⟨p1, o1, rfl, hp1, k1⟩ := H1.out (by intro e; rw [e] at hlt; simp at hlt)
        obtain ⟨p2, o2, rfl, hp2, k2⟩ := H2.out (by intro e; rw [e] at hlt2; simp at hlt2)
        have x0 : wr.cell? ⟨p1, o1 + k * 2, none⟩ = some (.int .i64 a0) := (hb.cell (p := ⟨p1, _, none⟩) (by show p1 < _; omega)).trans (k1 k _ hp 0 _ rfl)
        have y0 : wr.cell? ⟨p2, o2 + k * 2, none⟩ = some (.int .i64 b0) := (hb.cell (p := ⟨p2, _, none⟩) (by show p2 < _; omega)).trans (k2 k _ hq 0 _ rfl)
        have x1 : wr.cell? ⟨p1, o1 + k * 2 + 1, none⟩ = some (.int .i64 a1) := (hb.cell (p := ⟨p1, _, none⟩) (by show p1 < _; omega)).trans (k1 k _ hp 1 _ rfl)
        have y1 : wr.cell? ⟨p2, o2 + k * 2 + 1, none⟩ = some (.int .i64 b1) := (hb.cell (p := ⟨p2, _, none⟩) (by show p2 < _; omega)).trans (k2 k _ hq 1 _ rfl)
        have z1 : (k : Int) < (s.length : Int) := by omega
        have z2 : (k : Int) < (t.length : Int) := by omega
        have HP := hide hp
        have HQ := hide hq
        clear hp hq k1 k2
        by_cases e0 : a0 = b0
        rotate_left 1
        · have hd : decide (s = t) = false := decide_eq_false fun e => by
            subst e
            have := HP.out.symm.trans HQ.out
            simp only [Option.some.injEq, Prod.mk.injEq] at this
            omega
          have HD := hide hd
          clear hd
          go_wp2
          go_region
          go_wp2
          go_ret
          exact ⟨ret_eq (bool_eq HD.out.symm), hb.drew⟩
        by_cases e1 : a1 = b1
        rotate_left 1
        · have hd : decide (s = t) = false := decide_eq_false fun e => by
            subst e
            have := HP.out.symm.trans HQ.out
            simp only [Option.some.injEq, Prod.mk.injEq] at this
            omega
          have HD := hide hd
          clear hd
          subst e0
          go_wp2
          go_region
          go_wp2
          go_ret
          exact ⟨ret_eq (bool_eq HD.out.symm), hb.drew⟩
        subst e0
        subst e1
        go_wp2
        go_region
        go_wp2
        go_roundw
        case rel =>
          refine ⟨k + 1, by omega, by go_num, hide ?_, hb.drew⟩
          obtain ⟨i1, e1⟩ := List.getElem?_eq_some_iff.1 HP.out
          obtain ⟨i2, e2⟩ := List.getElem?_eq_some_iff.1 HQ.out
          rw [List.take_succ_eq_append_getElem i1, List.take_succ_eq_append_getElem i2, HT.out, e1, e2]
        case measure => simp [intOf]; omega
      · have hlz : ¬ (k : Int) < (s.length : Int) := by omega
        have hd : decide (s = t) = true := decide_eq_true (by
          have := HT.out
          rw [List.take_of_length_le (by omega), List.take_of_length_le (by rw [← HL.out]; omega)] at this
          exact this)
        have HD := hide hd
        clear hd
        go_wp2
        go_ret
        exact ⟨ret_eq (bool_eq HD.out.symm), hb⟩
  · have hne : ((s.length : Int) != (t.length : Int)) = true := by simp; omega
    have hd : decide (s = t) = false := decide_eq_false fun e => hl (by rw [e])
    rw [hd]
    clear hl hd
    go_wp2
    go_ret
    exact ⟨rfl, Below.refl _ _⟩
end Go.Proofs.YtmnhlcbmoibahaaGreat
