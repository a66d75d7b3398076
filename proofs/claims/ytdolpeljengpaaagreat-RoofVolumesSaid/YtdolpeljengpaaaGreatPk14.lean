/- Texts laid together: RoofA, RoofB, RoofC, RoofD, RoofE, RoofS, RoofF, RoofR. Lemmas for the statements of this seat; no condition. -/
import Derived.Test.YtdolpeljengpaaaGreatPk6
import Derived.Test.YtdolpeljengpaaaGreatPk5
import Derived.Shelf.SlSorted.Search
import Derived.Test.YtdolpeljengpaaaGreatPk11
import Derived.Deep.LoopGhost
import Derived.Shelf.Abstract
import Derived.Test.YtdolpeljengpaaaGreatPk1
import Derived.Laws.StructEq

/- The walks of roof's covered, height, Height. -/
namespace Go.Proofs.YtdolpeljengpaaaGreat
open Go.RowKit Go.Sort
set_option linter.unusedVariables false
set_option linter.unusedSimpArgs false

theorem cov_take {l : List R4} {q : R4} {m : Nat} (x y d : Int) (h : l[m]? = some q) : covF (l.take (m + 1)) x y d = covF (l.take m) x y d + (if 0 < min (2 * q.x1) (x + d) - max (2 * q.x0) (x - d) ∧ 0 < min (2 * q.y1) (y + d) - max (2 * q.y0) (y - d) then (min (2 * q.x1) (x + d) - max (2 * q.x0) (x - d)) * (min (2 * q.y1) (y + d) - max (2 * q.y0) (y - d)) else 0) := by
  unfold covF
  have e : (l.map dbl)[m]? = some (dbl q) := by rw [List.getElem?_map, h]; rfl
  rw [List.map_take, List.map_take]
  have := onF_take (r := sqr x y d) e
  rw [this]
  congr 1
  unfold onQ sqr dbl
  simp only
  rw [Int.min_comm (x + d), Int.min_comm (y + d), Int.max_comm (x - d), Int.max_comm (y - d)]
theorem cov_one {q : R4} {x y d : Int} (hd : 0 ≤ d ∧ d ≤ 2000001) (t1 : 0 < min (2 * q.x1) (x + d) - max (2 * q.x0) (x - d)) (t2 : 0 < min (2 * q.y1) (y + d) - max (2 * q.y0) (y - d)) :
    0 ≤ (min (2 * q.x1) (x + d) - max (2 * q.x0) (x - d)) * (min (2 * q.y1) (y + d) - max (2 * q.y0) (y - d)) ∧ (min (2 * q.x1) (x + d) - max (2 * q.x0) (x - d)) * (min (2 * q.y1) (y + d) - max (2 * q.y0) (y - d)) ≤ 16000016000004 := by
  refine ⟨Int.mul_nonneg (by omega) (by omega), ?_⟩
  have := Int.mul_le_mul (show min (2 * q.x1) (x + d) - max (2 * q.x0) (x - d) ≤ 4000002 by omega) (show min (2 * q.y1) (y + d) - max (2 * q.y0) (y - d) ≤ 4000002 by omega) (by omega) (by omega)
  omega
theorem cov_bd {x y d : Int} (hd : 0 ≤ d ∧ d ≤ 2000001) (l : List R4) : ∀ m, m ≤ l.length → 0 ≤ covF (l.take m) x y d ∧ covF (l.take m) x y d ≤ 16000016000004 * m
  | 0, _ => by simp [covF, onF]
  | m + 1, hm => by
    have ih := cov_bd (x := x) (y := y) hd l m (by omega)
    obtain ⟨q, hq⟩ : ∃ q, l[m]? = some q := ⟨_, List.getElem?_eq_getElem (by omega)⟩
    rw [cov_take x y d hq]
    split
    · rename_i t
      have := cov_one hd t.1 t.2
      omega
    · omega
theorem grow_box {w wr : World} (h : ∃ os, wr = grow w os) (o : Obj) : ∃ os, wr.alloc o = grow w os := by
  obtain ⟨os, rfl⟩ := h
  exact ⟨_, by rw [alloc_eq_grow, grow_grow]⟩
set_option maxRecDepth 100000 in
set_option maxHeartbeats 4000000 in
theorem covered_any {w : World} {v : Value} {l : List R4} (hr : RdK encR 4 w w.heap.size v l) (hl : l.length ≤ 400) (hv : ∀ r ∈ l, valid4 r) (x y d : Int) (hx : -5000000 ≤ x ∧ x ≤ 5000000) (hy : -5000000 ≤ y ∧ y ≤ 5000000) (hd : 1 ≤ d ∧ d ≤ 2000001) :
    Calls Tryz.prog 128 #[v, .int .i64 x, .int .i64 y, .int .i64 d] w fun e w' => e = .returned (.int .i64 (covF l x y d)) ∧ ∃ os, w' = grow w os := by
  obtain ⟨A, c, rfl, hc⟩ := hr
  have HRC := hide hc
  have HV := hide hv
  have HBD := hide (cov_bd (x := x) (y := y) (d := d) (by omega) l)
  have HT : Hid (covF (l.take l.length) x y d = covF l x y d) := hide (by rw [List.take_length])
  obtain ⟨x1, x2⟩ := hx
  obtain ⟨y1, y2⟩ := hy
  obtain ⟨d1, d2⟩ := hd
  have lz : (l.length : Int) ≤ 400 := by omega
  clear hc hv
  go_enter Tryz.func128, Tryz.ntmps128
  go_wp2
  go_loopw [9, 16] (fun t i wr => ∃ m : Nat, m ≤ l.length ∧ i = .int .i64 m ∧ t = .int .i64 (covF (l.take m) x y d) ∧ Hid (∃ os, wr = grow w os)) (fun _ i _ => l.length - (intOf i).toNat)
  case atStart => exact ⟨0, Nat.zero_le _, rfl, by simp [covF, onF], hide ⟨#[], by rw [grow_empty]⟩⟩
  case round =>
    obtain ⟨m, hm, rfl, rfl, HG⟩ := hrel
    by_cases hlt : m < l.length
    · obtain ⟨q, hp⟩ : ∃ p, l[m]? = some p := ⟨_, List.getElem?_eq_getElem hlt⟩
      obtain ⟨b, o, rfl, hbl, k⟩ := HRC.out (by intro e; rw [e] at hlt; simp at hlt)
      have hb : Below w.heap.size w wr := by obtain ⟨os, e⟩ := HG.out; rw [e]; exact below_grown_sl w.heap.size w 0 os (Nat.le_refl _)
      have d0 : wr.cell? ⟨b, o + m * 4, none⟩ = some (.int .i64 q.x0) := (hb.cell (p := ⟨b, _, none⟩) hbl).trans (k m _ hp 0 _ rfl)
      have d1 : wr.cell? ⟨b, o + m * 4 + 1, none⟩ = some (.int .i64 q.y0) := (hb.cell (p := ⟨b, _, none⟩) hbl).trans (k m _ hp 1 _ rfl)
      have d2 : wr.cell? ⟨b, o + m * 4 + 2, none⟩ = some (.int .i64 q.x1) := (hb.cell (p := ⟨b, _, none⟩) hbl).trans (k m _ hp 2 _ rfl)
      have d3 : wr.cell? ⟨b, o + m * 4 + 3, none⟩ = some (.int .i64 q.y1) := (hb.cell (p := ⟨b, _, none⟩) hbl).trans (k m _ hp 3 _ rfl)
      obtain ⟨v1, v2, ⟨v3, v4⟩, ⟨v5, v6⟩, ⟨v7, v8⟩, ⟨v9, v10⟩⟩ := HV.out q (List.mem_of_getElem? hp)
      have HS := hide (cov_take x y d hp)
      obtain ⟨u1, u2⟩ := HBD.out m hm
      have mz : (m : Int) < (l.length : Int) := by omega
      clear k hp hb
      generalize covF (l.take m) x y d = T at *
      by_cases t1 : 0 < min (2 * q.x1) (x + d) - max (2 * q.x0) (x - d)
      · by_cases t2 : 0 < min (2 * q.y1) (y + d) - max (2 * q.y0) (y - d)
        · have HE : Hid (covF (l.take (m + 1)) x y d = T + (min (2 * q.x1) (x + d) - max (2 * q.x0) (x - d)) * (min (2 * q.y1) (y + d) - max (2 * q.y0) (y - d))) := hide (by rw [HS.out, if_pos ⟨t1, t2⟩])
          obtain ⟨p1, p2⟩ := cov_one (by omega) t1 t2
          have z1 : IntKind.i64.wrap ((min (2 * q.x1) (x + d) - max (2 * q.x0) (x - d)) * (min (2 * q.y1) (y + d) - max (2 * q.y0) (y - d))) = (min (2 * q.x1) (x + d) - max (2 * q.x0) (x - d)) * (min (2 * q.y1) (y + d) - max (2 * q.y0) (y - d)) := IntWalk.i64_in _ (by omega)
          have z2 : IntKind.i64.wrap (T + (min (2 * q.x1) (x + d) - max (2 * q.x0) (x - d)) * (min (2 * q.y1) (y + d) - max (2 * q.y0) (y - d))) = T + (min (2 * q.x1) (x + d) - max (2 * q.x0) (x - d)) * (min (2 * q.y1) (y + d) - max (2 * q.y0) (y - d)) := IntWalk.i64_in _ (by omega)
          clear HS
          go_wp2_with (fail)
          go_roundw
          case rel => exact ⟨m + 1, by omega, by go_num, by rw [HE.out], hide (grow_box HG.out _)⟩
          case measure => simp [intOf]; omega
        · have HE : Hid (covF (l.take (m + 1)) x y d = T) := hide (by rw [HS.out, if_neg (fun h => t2 h.2), Int.add_zero])
          clear HS
          have t2' : min (2 * q.y1) (y + d) - max (2 * q.y0) (y - d) ≤ 0 := by omega
          go_wp2_with (fail)
          go_roundw
          case rel => exact ⟨m + 1, by omega, by go_num, by rw [HE.out], hide (grow_box HG.out _)⟩
          case measure => simp [intOf]; omega
      · have HE : Hid (covF (l.take (m + 1)) x y d = T) := hide (by rw [HS.out, if_neg (fun h => t1 h.1), Int.add_zero])
        clear HS
        have t1' : min (2 * q.x1) (x + d) - max (2 * q.x0) (x - d) ≤ 0 := by omega
        go_wp2_with (fail)
        go_roundw
        case rel => exact ⟨m + 1, by omega, by go_num, by rw [HE.out], hide (grow_box HG.out _)⟩
        case measure => simp [intOf]; omega
    · obtain rfl : m = l.length := by omega
      go_wp2
      go_ret
      exact ⟨by rw [HT.out]; rfl, HG.out⟩
theorem sq_bd {d : Int} (h : 1 ≤ d ∧ d ≤ 2000001) : 0 ≤ 2 * d * (2 * d) ∧ 2 * d * (2 * d) ≤ 16000016000004 := by
  refine ⟨Int.mul_nonneg (by omega) (by omega), ?_⟩
  have := Int.mul_le_mul (show 2 * d ≤ 4000002 by omega) (show 2 * d ≤ 4000002 by omega) (by omega) (by omega)
  omega
/-- The closure that sort.Search asks. -/
theorem heightF_any {w : World} {v : Value} {l : List R4} {B g : Nat} (hr : RdK encR 4 w B v l) (hB : B ≤ w.heap.size) (hl : l.length ≤ 400) (hv : ∀ r ∈ l, valid4 r) (x y : Int) (hx : -2000001 ≤ x ∧ x ≤ 2000001) (hy : -2000001 ≤ y ∧ y ≤ 2000001)
    (c0 : w.cell? ⟨g, 0, none⟩ = some v) (c1 : w.cell? ⟨g + 1, 0, none⟩ = some (.int .i64 x)) (c2 : w.cell? ⟨g + 1 + 1, 0, none⟩ = some (.int .i64 y)) (i : Nat) (hi : i < 2000001) :
    Calls Tryz.prog 139 #[.int .i64 i, .pointer (some ⟨g, 0, none⟩), .pointer (some ⟨g + 1, 0, none⟩), .pointer (some ⟨g + 1 + 1, 0, none⟩)] w fun e w' => e = .returned (.bool (notF l x y i)) ∧ ∃ os, w' = grow w os := by
  have HC := hide (covered_any (hr.mono hB) hl hv x y ((i : Int) + 1) (by omega) (by omega) (by omega))
  have HN : Hid (notF l x y i = decide (covF l x y ((i : Int) + 1) < 2 * ((i : Int) + 1) * (2 * ((i : Int) + 1)))) := hide rfl
  obtain ⟨s1, s2⟩ := sq_bd (d := (i : Int) + 1) (by omega)
  have hiz : (i : Int) < 2000001 := by omega
  have hs : IntKind.i64.wrap (2 * ((i : Int) + 1) * (2 * ((i : Int) + 1))) = 2 * ((i : Int) + 1) * (2 * ((i : Int) + 1)) := IntWalk.i64_in _ (by omega)
  clear hr hl hv hx hy
  generalize covF l x y ((i : Int) + 1) = C at *
  go_enter Tryz.func139, Tryz.ntmps139
  go_wp2_with (fail)
  refine HC.out.mono ?_
  rintro e w' ⟨rfl, hg⟩
  have HG := hide hg
  clear hg
  go_wp2_with (fail)
  go_ret
  exact ⟨by rw [HN.out]; rfl, HG.out⟩
set_option maxHeartbeats 4000000 in
theorem height_any {w : World} {v : Value} {l : List R4} (hr : RdK encR 4 w w.heap.size v l) (hc : checkF l = 0) (x y : Int) (hx : -2000001 ≤ x ∧ x ≤ 2000001) (hy : -2000001 ≤ y ∧ y ≤ 2000001) :
    Calls Tryz.prog 88 #[v, .int .i64 x, .int .i64 y] w fun e w' => e = .returned (.int .i64 (heightF l x y)) ∧ Below w.heap.size w w' := by
  obtain ⟨hl, hv, _⟩ := checkF_ok hc
  have hm := not_mono hc hx hy
  obtain ⟨A, c, hva, hcc⟩ := id hr
  subst hva
  clear hcc
  obtain ⟨W0, hW0⟩ : ∃ W0, W0 = ((w.alloc (.cells #[.slice A l.length c] 27)).alloc (.cells #[.int .i64 x] 3)).alloc (.cells #[.int .i64 y] 3) := ⟨_, rfl⟩
  have hb0 : Below w.heap.size w W0 := by rw [hW0]; exact (((Below.refl _ _).alloc (Nat.le_refl _) _).alloc (by simp) _).alloc (by simp; omega) _
  have hsz : W0.heap.size = w.heap.size + 1 + 1 + 1 := by rw [hW0]; simp
  have ca : W0.cell? ⟨w.heap.size, 0, none⟩ = some (.slice A l.length c) := by rw [hW0]; simp [go_sem]
  have cx : W0.cell? ⟨w.heap.size + 1, 0, none⟩ = some (.int .i64 x) := by rw [hW0]; simp [go_sem]
  have cy : W0.cell? ⟨w.heap.size + 1 + 1, 0, none⟩ = some (.int .i64 y) := by rw [hW0]; simp [go_sem]
  have eg : ∀ args w, (callFunc 139 args).run Tryz.prog w = .ok (.enter 139 args) w := enters_of Tryz.func139 (by kernel_rfl) rfl
  have hS := Any.sort_Search Tryz.sortSearch 139 #[.pointer (some ⟨w.heap.size, 0, none⟩), .pointer (some ⟨w.heap.size + 1, 0, none⟩), .pointer (some ⟨w.heap.size + 1 + 1, 0, none⟩)] 2000001 (notF l x y) W0 eg (by omega)
    (fun m os i hi => by
      have hbg := below_grown_sl w.heap.size W0 m os hb0.size
      have hg3 : W0.heap.size ≤ (grow (W0.drewN m) os).heap.size := hbg.size
      refine (heightF_any ((hr.below hb0).below hbg) (Nat.le_trans hb0.size hg3) hl hv x y hx hy (cell_grown (by rw [hsz]; show w.heap.size < _; omega) ca m os) (cell_grown (by simp [hsz]) cx m os) (cell_grown (by simp [hsz]) cy m os) i hi).mono ?_
      rintro e w' ⟨he, os', hw⟩
      exact ⟨he, 0, os', by rw [hw]; rfl⟩) hm
  change Calls Tryz.prog 75 _ _ _ at hS
  have HS : Hid (Calls Tryz.prog 75 #[.int .i64 2000001, .func (.func 139) #[] #[.pointer (some ⟨w.heap.size, 0, none⟩), .pointer (some ⟨w.heap.size + 1, 0, none⟩), .pointer (some ⟨w.heap.size + 1 + 1, 0, none⟩)]] W0 fun e w' => e = .returned (.int .i64 (heightF l x y)) ∧ Below w.heap.size w w') := hide (hS.mono fun e w' ⟨he, q, os, hw⟩ => ⟨he, by rw [hw]; exact hb0.trans (below_grown_sl w.heap.size W0 q os hb0.size)⟩)
  clear hS hm hl hv hr hb0 hsz ca cx cy eg hx hy hc
  generalize heightF l x y = F at *
  go_enter Tryz.func88, Tryz.ntmps88
  go_wp2_with (fail)
  rw [← hW0]
  refine HS.out.mono ?_
  rintro e w' ⟨rfl, hb⟩
  have HB := hide hb
  clear hb hW0 HS
  go_wp2_with (fail)
  go_ret
  exact ⟨rfl, HB.out⟩
end Go.Proofs.YtdolpeljengpaaaGreat

/- The walks of roof's Height and Falls, of the reference's High, and of Great. -/
namespace Go.Proofs.YtdolpeljengpaaaGreat
open Go.RowKit
set_option linter.unusedVariables false
set_option linter.unusedSimpArgs false

def heightR (l : List R4) (x y : Int) : Int × Int := if checkF l ≠ 0 then (0, checkF l) else if -2000000 ≤ x ∧ x ≤ 2000000 ∧ -2000000 ≤ y ∧ y ≤ 2000000 then (heightF l x y, 0) else (0, 2)
theorem run_max5 {P : Program} (w : World) (ts : Array TypeId) (t : TypeId) (a b c d e : Int) : (Builtin.max_ ts t #[.int .i64 a, .int .i64 b, .int .i64 c, .int .i64 d, .int .i64 e]).run P w = .ok (.int .i64 (max (max (max (max a b) c) d) e)) w := by
  have k : ∀ x y : Int, (if y > x then y else x) = max x y := fun x y => by
    by_cases h : y > x
    · rw [if_pos h]; omega
    · rw [if_neg h]; omega
  have k2 : ∀ (x y : Int) (v : World), Sem.run P (Builtin.max2 (.int .i64 x) (.int .i64 y)) v = .ok (.int .i64 (max x y)) v := fun x y v => by simp [Builtin.max2, k]
  simp only [Builtin.max_]
  simp [k2, Int.max_assoc]
set_option maxRecDepth 100000 in
set_option maxHeartbeats 4000000 in
theorem rHigh_any {w : World} {v : Value} {ms : List R4} (hr : RdK encR 4 w w.heap.size v ms) (hl : ms.length ≤ 10000000) (hv : ∀ m ∈ ms, (-4000000 ≤ m.x0 ∧ m.x0 ≤ 4000000) ∧ (-4000000 ≤ m.x1 ∧ m.x1 ≤ 4000000) ∧ (-4000000 ≤ m.y0 ∧ m.y0 ≤ 4000000) ∧ (-4000000 ≤ m.y1 ∧ m.y1 ≤ 4000000)) (x y : Int) (hx : -2000001 ≤ x ∧ x ≤ 2000001) (hy : -2000001 ≤ y ∧ y ≤ 2000001) :
    Calls Tryz.prog 80 #[v, .int .i64 x, .int .i64 y] w fun e w' => e = .returned (.int .i64 (highF ms x y)) ∧ Below w.heap.size w w' := by
  obtain ⟨A, c, rfl, hc⟩ := hr
  have HRC := hide hc
  have HV := hide hv
  have HST : Hid (∀ (m : Nat) (q : R4), ms[m]? = some q → (ms.take (m + 1)).foldl (fun b m => min b (highQ m x y)) 8000000 = min ((ms.take m).foldl (fun b m => min b (highQ m x y)) 8000000) (highQ q x y)) := hide (fun m q hq => by
    rw [List.take_add_one, hq, List.foldl_append]; rfl)
  have HT : Hid ((ms.take ms.length).foldl (fun b m => min b (highQ m x y)) 8000000 = highF ms x y) := hide (by rw [List.take_length]; rfl)
  have HBD : Hid (∀ m, 0 ≤ (ms.take m).foldl (fun b m => min b (highQ m x y)) 8000000 ∧ (ms.take m).foldl (fun b m => min b (highQ m x y)) 8000000 ≤ 8000000) := hide (fun m => ⟨high_nn x y _ _ (by omega), high_bd x y _ _⟩)
  have H0 : Hid ((ms.take 0).foldl (fun b m => min b (highQ m x y)) 8000000 = 8000000) := hide rfl
  obtain ⟨x1, x2⟩ := hx
  obtain ⟨y1, y2⟩ := hy
  have lz : (ms.length : Int) ≤ 10000000 := by omega
  clear hc hv
  go_enter Tryz.func80, Tryz.ntmps80
  go_wp2
  go_loopw [7, 8] (fun t i wr => ∃ m : Nat, m ≤ ms.length ∧ i = .int .i64 m ∧ t = .int .i64 ((ms.take m).foldl (fun b m => min b (highQ m x y)) 8000000) ∧ Hid (Below w.heap.size w wr)) (fun _ i _ => ms.length - (intOf i).toNat)
  case atStart => exact ⟨0, Nat.zero_le _, rfl, rfl, hide (Below.refl _ _)⟩
  case round =>
    obtain ⟨m, hm, rfl, rfl, HB⟩ := hrel
    by_cases hlt : m < ms.length
    · obtain ⟨q, hp⟩ : ∃ p, ms[m]? = some p := ⟨_, List.getElem?_eq_getElem hlt⟩
      obtain ⟨b, o, rfl, hbl, k⟩ := HRC.out (by intro e; rw [e] at hlt; simp at hlt)
      have d0 : wr.cell? ⟨b, o + m * 4, none⟩ = some (.int .i64 q.x0) := (HB.out.cell (p := ⟨b, _, none⟩) hbl).trans (k m _ hp 0 _ rfl)
      have d1 : wr.cell? ⟨b, o + m * 4 + 1, none⟩ = some (.int .i64 q.y0) := (HB.out.cell (p := ⟨b, _, none⟩) hbl).trans (k m _ hp 1 _ rfl)
      have d2 : wr.cell? ⟨b, o + m * 4 + 2, none⟩ = some (.int .i64 q.x1) := (HB.out.cell (p := ⟨b, _, none⟩) hbl).trans (k m _ hp 2 _ rfl)
      have d3 : wr.cell? ⟨b, o + m * 4 + 3, none⟩ = some (.int .i64 q.y1) := (HB.out.cell (p := ⟨b, _, none⟩) hbl).trans (k m _ hp 3 _ rfl)
      obtain ⟨⟨v1, v2⟩, ⟨v3, v4⟩, ⟨v5, v6⟩, v7, v8⟩ := HV.out q (List.mem_of_getElem? hp)
      have HS := hide (HST.out m q hp)
      have HQ : Hid (highQ q x y = max (max (max (max 0 (2 * q.x0 - x)) (x - 2 * q.x1)) (2 * q.y0 - y)) (y - 2 * q.y1)) := hide rfl
      obtain ⟨u1, u2⟩ := HBD.out m
      have mz : (m : Int) < (ms.length : Int) := by omega
      have HB2 := hide (HB.out.alloc HB.out.size (.cells #[.int .i64 q.x0, .int .i64 q.y0, .int .i64 q.x1, .int .i64 q.y1] 69))
      clear k hp HST HBD
      generalize (ms.take m).foldl (fun b m => min b (highQ m x y)) 8000000 = T1 at *
      have hmax := @run_max5 Tryz.prog
      go_wp2
      go_roundw
      case rel => exact ⟨m + 1, by omega, by go_num, by rw [HS.out, HQ.out]; exact int_eq (by omega), HB2⟩
      case measure => simp [intOf]; omega
    · obtain rfl : m = ms.length := by omega
      rw [HT.out]
      clear HST HBD
      go_wp2
      go_ret
      exact ⟨rfl, HB.out⟩
set_option maxHeartbeats 4000000 in
theorem roofHeight_any {w : World} {v : Value} {l : List R4} (hr : RdK encR 4 w w.heap.size v l) (hl : l.length ≤ 100000000) (x y : Int) (hx : -9223372036854775808 ≤ x ∧ x ≤ 9223372036854775807) (hy : -9223372036854775808 ≤ y ∧ y ≤ 9223372036854775807) :
    Calls Tryz.prog 42 #[v, .int .i64 x, .int .i64 y] w fun e w' => e = .returned (.tuple #[.int .i64 (heightR l x y).1, .int .i64 (heightR l x y).2]) ∧ Below w.heap.size w w' := by
  have HCK := hide (check_any hr hl)
  have HHE : Hid (checkF l = 0 → (-2000000 ≤ x ∧ x ≤ 2000000 ∧ -2000000 ≤ y ∧ y ≤ 2000000) → ∀ W : World, Below w.heap.size w W → Calls Tryz.prog 88 #[v, .int .i64 x, .int .i64 y] W fun e w' => e = .returned (.int .i64 (heightF l x y)) ∧ Below W.heap.size W w') := hide (fun hc h W hW => height_any ((hr.below hW).mono hW.size) hc x y (by omega) (by omega))
  obtain ⟨A, c, rfl, _⟩ := hr
  by_cases hc : checkF l = 0
  · by_cases hin : -2000000 ≤ x ∧ x ≤ 2000000 ∧ -2000000 ≤ y ∧ y ≤ 2000000
    · have HF : Hid (heightR l x y = (((heightF l x y : Nat) : Int), 0)) := hide (by unfold heightR; rw [if_neg (by rw [hc]; simp), if_pos hin])
      have H1 := hide (HHE.out hc hin)
      rw [hc] at HCK
      obtain ⟨a1, a2, a3, a4⟩ := hin
      have m1 : -2000000 ≤ min x y := by omega
      have m2 : max x y ≤ 2000000 := by omega
      clear HHE hc
      generalize heightF l x y = F at *
      go_enter Tryz.func42, Tryz.ntmps42
      go_wp2_with (fail)
      refine HCK.out.mono ?_
      rintro e w1 ⟨rfl, hb⟩
      have HB := hide hb
      clear hb HCK
      go_wp2_with (fail)
      refine (H1.out _ HB.out).mono ?_
      rintro e w2 ⟨rfl, hb⟩
      have HB2 := hide (HB.out.trans (hb.mono HB.out.size))
      clear hb HB H1
      go_wp2_with (fail)
      go_ret2
      exact ⟨by rw [HF.out]; rfl, HB2.out⟩
    · have HF : Hid (heightR l x y = (0, 2)) := hide (by unfold heightR; rw [if_neg (by rw [hc]; simp), if_neg hin])
      rw [hc] at HCK
      clear HHE hc
      by_cases h1 : min x y < -2000000
      · clear hin
        go_enter Tryz.func42, Tryz.ntmps42
        go_wp2_with (fail)
        refine HCK.out.mono ?_
        rintro e w1 ⟨rfl, hb⟩
        have HB := hide hb
        clear hb HCK
        go_wp2_with (fail)
        go_ret2
        exact ⟨by rw [HF.out]; rfl, HB.out⟩
      · have m1 : -2000000 ≤ min x y := by omega
        have m2 : 2000000 < max x y := by omega
        clear hin h1
        go_enter Tryz.func42, Tryz.ntmps42
        go_wp2_with (fail)
        refine HCK.out.mono ?_
        rintro e w1 ⟨rfl, hb⟩
        have HB := hide hb
        clear hb HCK
        go_wp2_with (fail)
        go_ret2
        exact ⟨by rw [HF.out]; rfl, HB.out⟩
  · have HF : Hid (heightR l x y = (0, checkF l)) := hide (if_pos hc)
    have hne : (checkF l != 0) = true := by simpa using hc
    clear HHE hc
    generalize checkF l = ck at *
    go_enter Tryz.func42, Tryz.ntmps42
    go_wp2_with (fail)
    refine HCK.out.mono ?_
    rintro e w1 ⟨rfl, hb⟩
    have HB := hide hb
    clear hb HCK
    go_wp2_with (fail)
    go_ret2
    exact ⟨by rw [HF.out]; rfl, HB.out⟩
end Go.Proofs.YtdolpeljengpaaaGreat

/- The walk of the reference's Missing. -/
namespace Go.Proofs.YtdolpeljengpaaaGreat
open Go.RowKit
set_option linter.unusedVariables false
set_option linter.unusedSimpArgs false

theorem filt_at (l : List R4) (p : Int × Int) {L : List (Int × Int)} {k : Nat} {q : Int × Int} (h : L[k]? = some q) : (L.take (k + 1)).filterMap (cellM l p) = (L.take k).filterMap (cellM l p) ++ (cellM l p q).toList := by
  rw [List.take_add_one, h, List.filterMap_append]
  cases hc : cellM l p q <;> simp [List.filterMap_cons, hc]
theorem col_at (l : List R4) (ys : List Int) {L : List (Int × Int)} {k : Nat} {q : Int × Int} (h : L[k]? = some q) : (L.take (k + 1)).flatMap (colM l ys) = (L.take k).flatMap (colM l ys) ++ colM l ys q := by
  rw [List.take_add_one, h, List.flatMap_append]
  simp
theorem prs_all (xs : List Int) : (prs xs).take (xs.length - 1) = prs xs := List.take_of_length_le (by rw [prs_len]; exact Nat.le_refl _)
theorem cell_len (l : List R4) (p : Int × Int) (L : List (Int × Int)) : (L.filterMap (cellM l p)).length ≤ L.length := List.length_filterMap_le _ _
/-- What a Missing leaves. -/
def MissRet (l : List R4) (e : Ending) (w' : World) : Prop := ∃ A c, e = .returned (.slice A (missF l).length c) ∧ RdK encR 4 w' w'.heap.size (.slice A (missF l).length c) (missF l)
theorem miss_len (l : List R4) (n : Nat) (hx : (srt (cutsL l)).length ≤ n) (hy : (srt (cutsY l)).length ≤ n) : (missF l).length ≤ n * n + 4 := by
  unfold missF missG
  split
  · simp
  · rw [List.length_append]
    have h1 : ∀ L : List (Int × Int), (L.flatMap (colM l (srt (cutsY l)))).length ≤ L.length * n := fun L => by
      induction L with
      | nil => simp
      | cons a L ih =>
        rw [List.flatMap_cons, List.length_append, List.length_cons, Nat.add_mul]
        have h2 : (colM l (srt (cutsY l)) a).length ≤ n := by
          unfold colM
          have h3 := cell_len l a (prs (srt (cutsY l)))
          have h4 := prs_len (srt (cutsY l))
          omega
        omega
    have h5 := h1 (prs (srt (cutsL l)))
    have h6 := prs_len (srt (cutsL l))
    have h7 : (prs (srt (cutsL l))).length * n ≤ n * n := Nat.mul_le_mul_right n (by omega)
    have h8 : ∀ a b c d : Int, (ringM a b c d).length = 4 := fun _ _ _ _ => rfl
    rw [h8]
    omega
set_option maxRecDepth 100000 in
set_option maxHeartbeats 8000000 in
theorem rMissing_any {w : World} {v : Value} {l : List R4} (hr : RdK encR 4 w w.heap.size v l) (hl : l.length ≤ 500) :
    Calls Tryz.prog 79 #[v] w fun e w' => MissRet l e w' ∧ Below w.heap.size w w' := by
  obtain ⟨i1, gi, gz0, gz1, gz2⟩ := info_parts infoRc
  have hX := fun (W : World) (hW : Below w.heap.size w W) => rXs_any (w := W) (hr.below hW) (RdK.nil (enc := encR) (k := 4) (w := W) (B := w.heap.size) none 0) hW.size (by omega) (by simp)
  have hY := fun (W : World) (hW : Below w.heap.size w W) => rYs_any (w := W) (hr.below hW) (RdK.nil (enc := encR) (k := 4) (w := W) (B := w.heap.size) none 0) hW.size (by omega) (by simp)
  have ex : cutsL l ++ cutsL [] = cutsL l := by simp [cutsL]
  have ey : cutsY l ++ cutsY [] = cutsY l := by simp [cutsY]
  rw [ex] at hX
  rw [ey] at hY
  have hxl : (srt (cutsL l)).length ≤ 1000 := by have := srt_len (cutsL l); rw [cutsL_len] at this; omega
  have hyl : (srt (cutsY l)).length ≤ 1000 := by have := srt_len (cutsY l); rw [cutsY_len] at this; omega
  have HM : Hid (missF l = missG l (srt (cutsL l)) (srt (cutsY l))) := hide rfl
  have HNY : Hid (0 < (srt (cutsL l)).length → 0 < (srt (cutsY l)).length) := hide (fun h => by
    cases l with
    | nil => simp [cutsL, srt] at h
    | cons a l => exact (len_cuts (l := a :: l) (by simp)).2)
  have HLEN := hide (miss_len l 1000 hxl hyl)
  generalize srt (cutsL l) = xs at *
  generalize srt (cutsY l) = ys at *
  have HX := hide hX
  have HY := hide hY
  obtain ⟨A1, c1, hva, _⟩ := id hr
  subst hva
  have HR := hide hr
  clear hr hX hY ex ey
  have xz : (xs.length : Int) ≤ 1000 := by omega
  have yz : (ys.length : Int) ≤ 1000 := by omega
  go_enter Tryz.func79, Tryz.ntmps79
  by_cases hx0 : xs.length = 0
  · have HF : Hid (missF l = [⟨-4000000, -4000000, 4000000, 4000000⟩]) := hide (by rw [HM.out]; unfold missG; rw [if_pos hx0])
    go_wp2_with (fail)
    refine (HX.out _ (Below.refl _ _)).mono ?_
    rintro e w1 ⟨vx, rfl, ox, hb1⟩
    have OX := hide ox
    have HB1 := hide hb1
    clear ox hb1
    go_wp2_with (fail)
    refine (HY.out _ HB1.out).mono ?_
    rintro e w2 ⟨vy, rfl, oy, hb2⟩
    obtain ⟨Ax, cx, hvx⟩ := own_form OX.out
    subst hvx
    rw [hx0] at OX ⊢
    have HB2 := hide (HB1.out.trans (hb2.mono HB1.out.size))
    clear oy hb2 HX HY HB1 OX hx0 HLEN
    go_wp2_with (fail)
    go_ret
    refine ⟨⟨some ⟨w2.heap.size, 0, none⟩, 1, by rw [HF.out]; rfl, ?_⟩, HB2.out.alloc HB2.out.size _⟩
    rw [HF.out]
    exact rd_lit w2 [⟨-4000000, -4000000, 4000000, 4000000⟩] _ 1
  · have hxp : (0 : Int) < (xs.length : Int) := by omega
    have HYP := hide (HNY.out (by omega))
    have hxe : ¬ (xs.length : Int) = 0 := by omega
    have hxb : ((xs.length : Int) == 0) = false := by simpa using hxe
    have HF : Hid (missF l = (prs xs).flatMap (colM l ys) ++ ringM (xs.getD 0 0) (ys.getD 0 0) (xs.getD (xs.length - 1) 0) (ys.getD (ys.length - 1) 0)) := hide (by rw [HM.out]; unfold missG; rw [if_neg hx0])
    have HX0 := hide hx0
    clear hxe hx0 HNY HM
    go_wp2_with (fail)
    refine (HX.out _ (Below.refl _ _)).mono ?_
    rintro e w1 ⟨vx, rfl, ox, hb1⟩
    have OX := hide ox
    have HB1 := hide hb1
    clear ox hb1
    go_wp2_with (fail)
    refine (HY.out _ HB1.out).mono ?_
    rintro e w2 ⟨vy, rfl, oy, hb2⟩
    obtain ⟨Ax, cx, hvx⟩ := own_form OX.out
    subst hvx
    obtain ⟨Ay, cy, hvy⟩ := own_form oy
    subst hvy
    have HJ0 := hide (show RJ w (.slice Ax xs.length cx) (.slice Ay ys.length cy) (.slice none 0 0) (.slice none 0 0) xs ys [] [] w2 from ⟨HB1.out.trans (hb2.mono HB1.out.size), own_below OX.out hb2, own_base oy HB1.out.size, World.ownsRow_nil _ _ _ _, World.ownsRow_nil _ _ _ _⟩)
    clear OX oy HB1 hb2 HX HY
    go_wp2_with (fail)
    go_loopw [5, 6] (fun ov iv wr => ∃ (i no : Nat) (Ao : Option Addr) (co : Nat), i < xs.length ∧ iv = .int .i64 i ∧ ov = .slice Ao no co ∧ Hid (no = ((prs xs).take i |>.flatMap (colM l ys)).length) ∧ Hid (no ≤ i * 1000) ∧ Hid (RJ w (.slice Ax xs.length cx) (.slice Ay ys.length cy) (.slice Ao no co) (.slice none 0 0) xs ys (((prs xs).take i).flatMap (colM l ys)) [] wr)) (fun _ iv _ => xs.length - (intOf iv).toNat)
    case atStart => exact ⟨0, 0, none, 0, by omega, rfl, rfl, hide rfl, hide (by omega), HJ0⟩
    case round =>
      clear HJ0
      obtain ⟨i, no, Ao, co, hi, rfl, rfl, HN, HN2, HJ⟩ := hrel
      by_cases hlt : i + 1 < xs.length
      · obtain ⟨c, hc⟩ : ∃ c, xs[i]? = some c := ⟨_, List.getElem?_eq_getElem (by omega)⟩
        obtain ⟨d, hd⟩ : ∃ d, xs[i + 1]? = some d := ⟨_, List.getElem?_eq_getElem hlt⟩
        have HP := hide (prs_get xs i c d hc hd)
        have HC := hide hc
        have HD := hide hd
        have iz : (i : Int) + 1 < (xs.length : Int) := by omega
        have HN3 : no ≤ 1000000 := by have := HN2.out; have : i * 1000 ≤ 1000 * 1000 := Nat.mul_le_mul_right 1000 (by omega); omega
        clear hc hd
        go_wp2_with (fail)
        go_loopw [5, 7] (fun ov kv wr => ∃ (k n9 : Nat) (Ao : Option Addr) (co : Nat), k < ys.length ∧ kv = .int .i64 k ∧ ov = .slice Ao n9 co ∧ Hid (n9 ≤ no + k) ∧ Hid (n9 = (((prs xs).take i).flatMap (colM l ys) ++ ((prs ys).take k).filterMap (cellM l (c, d))).length) ∧ Hid (RJ w (.slice Ax xs.length cx) (.slice Ay ys.length cy) (.slice Ao n9 co) (.slice none 0 0) xs ys (((prs xs).take i).flatMap (colM l ys) ++ ((prs ys).take k).filterMap (cellM l (c, d))) [] wr)) (fun _ kv _ => ys.length - (intOf kv).toNat)
        case atStart => exact ⟨0, no, Ao, co, HYP.out, rfl, rfl, hide (by omega), hide (by rw [List.take_zero, List.filterMap_nil, List.append_nil]; exact HN.out), by rw [List.take_zero, List.filterMap_nil, List.append_nil]; exact HJ⟩
        case round =>
          clear HJ
          obtain ⟨k, n9, Ao, co, hk, rfl, rfl, HN9, HL9, HJ⟩ := hrel
          by_cases hltk : k + 1 < ys.length
          · obtain ⟨y, hy⟩ : ∃ c, ys[k]? = some c := ⟨_, List.getElem?_eq_getElem (by omega)⟩
            obtain ⟨z, hz⟩ : ∃ d, ys[k + 1]? = some d := ⟨_, List.getElem?_eq_getElem hltk⟩
            have HQ := hide (filt_at l (c, d) (prs_get ys k y z hy hz))
            have kz : (k : Int) + 1 < (ys.length : Int) := by omega
            obtain ⟨gx, cpx, hvx, hBx, hgx⟩ := HJ.out.x.form (by omega)
            injection hvx with e1 _ e3
            subst e1; subst e3
            obtain ⟨gy, cpy, hvy, hBy, hgy⟩ := HJ.out.y.form (by omega)
            injection hvy with e1 _ e3
            subst e1; subst e3
            obtain ⟨x0, x1⟩ := HJ.out.xcells HC.out HD.out
            have y0 : wr.cell? ⟨gy, k, none⟩ = some (.int .i64 y) := by
              have := (HJ.out.y.cells (g := gy) rfl) k (iv y) (by simp [hy])
              rwa [addr_add] at this
            have y1 : wr.cell? ⟨gy, k + 1, none⟩ = some (.int .i64 z) := by
              have := (HJ.out.y.cells (g := gy) rfl) (k + 1) (iv z) (by simp [hz])
              rwa [addr_add] at this
            have HHA : Hid (∀ nq, Calls Tryz.prog 123 #[.slice A1 l.length c1, .int .i64 c, .int .i64 y] (wr.drewN nq) fun e w' => e = .returned (.bool (decide (pmem l c y))) ∧ w' = wr.drewN nq) := hide (fun nq => (rHas_any (HR.out.below (below_drewN HJ.out.low nq)) (by omega) c y).mono fun e w' ⟨he, hw⟩ => ⟨he, hw.symm⟩)
            have hgxw : gx < wr.heap.size := (HJ.out.x.lt gx rfl).2
            have hgyw : gy < wr.heap.size := (HJ.out.y.lt gy rfl).2
            have hsz := HJ.out.low.size
            have HYS := hide (And.intro hy hz)
            clear hy hz hBx hBy hgx hgy
            have r1 : (0 : Int) ≤ (i : Int) := by omega
            have r2 : (0 : Int) ≤ (k : Int) := by omega
            have r3 : (i : Int) < (xs.length : Int) := by omega
            have r4 : (k : Int) < (ys.length : Int) := by omega
            have n9z : n9 ≤ 1001000 := by have := HN9.out; omega
            go_wp2_with (fail)
            by_cases hpm : pmem l c y
            · have HE : Hid (cellM l (c, d) (y, z) = none) := hide (by unfold cellM; rw [if_pos hpm])
              rw [decide_eq_true hpm] at HHA
              clear hpm
              go_quiet ((go_at_call 123; exact Calls.quiet_of_same (HHA.out _)))
              clear HHA
              go_upto_region 10 with fail
              refine wp_name fun Z hZ => ?_
              have HJ9 := hide (HJ.out.below (show Below wr.heap.size wr Z by rw [hZ]; exact below_drewN (Below.refl _ _) _))
              clear hZ HJ x0 x1 y0 y1
              go_wp2_with (fail)
              go_roundw
              case rel => exact ⟨k + 1, n9, _, co, hltk, by go_num, rfl, hide (by have := HN9.out; omega), hide (by rw [HQ.out, HE.out]; simpa using HL9.out), by rw [HQ.out, HE.out]; simpa using HJ9⟩
              case measure => simp [intOf]; omega
            · have HE : Hid (cellM l (c, d) (y, z) = some ⟨c, y, d, z⟩) := hide (by unfold cellM; rw [if_neg hpm])
              rw [decide_eq_false hpm] at HHA
              clear hpm
              go_quiet ((go_at_call 123; exact Calls.quiet_of_same (HHA.out _)))
              clear HHA
              go_upto_region 12 with fail
              refine wp_name fun Z hZ => ?_
              have hbz : Below wr.heap.size wr Z := by rw [hZ]; exact below_drewN (Below.refl _ _) _
              have HJ9 := hide (HJ.out.below hbz)
              have x0 := (hbz.cell (p := ⟨gx, i, none⟩) hgxw).trans x0
              have x1 := (hbz.cell (p := ⟨gx, i + 1, none⟩) hgxw).trans x1
              have y0 := (hbz.cell (p := ⟨gy, k, none⟩) hgyw).trans y0
              have y1 := (hbz.cell (p := ⟨gy, k + 1, none⟩) hgyw).trans y1
              have hgxw : gx < Z.heap.size := Nat.lt_of_lt_of_le hgxw hbz.size
              have hgyw : gy < Z.heap.size := Nat.lt_of_lt_of_le hgyw hbz.size
              clear hZ HJ hbz
              have t1 : IntKind.i64.wrap ((i : Int) + 1) = (i : Int) + 1 := IntWalk.i64_in _ (by omega)
              have t2 : IntKind.i64.wrap ((k : Int) + 1) = (k : Int) + 1 := IntWalk.i64_in _ (by omega)
              have t3 : ((i : Int) + 1).toNat = i + 1 := by omega
              have t4 : ((k : Int) + 1).toNat = k + 1 := by omega
              have t5 : 0 ≤ (i : Int) + 1 := by omega
              have t6 : 0 ≤ (k : Int) + 1 := by omega
              refine wp_region_mix [0, 1, 2, 3, 4, 5, 6, 7, 8, 9, 10, 11, 12, 13, 14, 15, 16, 17, 18, 19] [20, 21, 22] (fun w' => w'.cell? ⟨gx, i, none⟩ = some (.int .i64 c) ∧ w'.cell? ⟨gx, i + 1, none⟩ = some (.int .i64 d) ∧ w'.cell? ⟨gy, k, none⟩ = some (.int .i64 y) ∧ w'.cell? ⟨gy, k + 1, none⟩ = some (.int .i64 z)) (by kernel_rfl) (by kernel_rfl) ⟨x0, x1, y0, y1⟩ ?_
              simp only [List.map_cons, List.map_nil, opAt, List.getElem?_cons_succ, List.getElem?_cons_zero, Option.getD_some]
              iterate 20
                refine ⟨?_, Or.inl ⟨by rfl, ?_⟩, ?_⟩
                rotate_left 1
                · intro w' hSw
                  obtain ⟨z0, z1, z2, z3⟩ := hSw
                  go_simp
                  first | done | with_reducible rfl
                simp only [Act.put, List.setIfInBounds_toArray, List.set_cons_zero, List.set_cons_succ]
              clear r1 r2 r3 r4 t1 t2 t3 t4 t5 t6
              simp only [wpReads]
              intro K hK
              simp only [Act.put, List.setIfInBounds_toArray, List.set_cons_zero, List.set_cons_succ] at hK ⊢
              go_simp
              refine hK _ _ (fun _ => ⟨by go_keep, by go_keep, by go_keep, by go_keep⟩) ?_
              clear hK K
              intro K hK
              refine step_append_lies _ rfl (.tmp 46) (.tmp 66) 26 rfl w.heap.size 69 i1 (.agg #[.int .i64 0, .int .i64 0, .int .i64 0, .int .i64 0]) 4 32 Tryz.underlying26 gi gz0 gz1 gz2 rfl (by decide) _ n9 _ rfl (own_drew (World.ownsRow.alloc (w := Z) (own_n HJ9.out.o HL9.out.symm) _)) ⟨Z.heap.size, 0, none⟩ 1 1 [.int .i64 c, .int .i64 y, .int .i64 d, .int .i64 z] rfl rfl (news_drew Z _ _ _ rfl) (ints_one rfl) (by omega) (by unfold maxLen; omega) (by omega) (by have := HJ9.out.low.size; simp; omega) _ rfl ?_
              intro g9 cap9 w9 hown9 hgrow9 _ _
              have HO9 : Hid (w9.ownsRow w.heap.size 69 4 (.slice (some ⟨g9, 0, none⟩) (n9 + 1) cap9) (n9 + 1) ((((prs xs).take i).flatMap (colM l ys) ++ ((prs ys).take (k + 1)).filterMap (cellM l (c, d))).flatMap encR)) := hide (by rw [HQ.out, HE.out, ← List.append_assoc, List.flatMap_append]; exact hown9)
              have HL10 : Hid (n9 + 1 = (((prs xs).take i).flatMap (colM l ys) ++ ((prs ys).take (k + 1)).filterMap (cellM l (c, d))).length) := hide (own_len (enc := encR) (k := 4) HO9.out (fun _ => rfl) (by omega))
              have hbz : Below Z.heap.size Z ((Z.alloc (.cells #[.int .i64 c, .int .i64 y, .int .i64 d, .int .i64 z] 69)).drew) := ((Below.refl _ _).alloc (Nat.le_refl _) _).drew
              have HJ10 : Hid (RJ w (.slice (some ⟨gx, 0, none⟩) xs.length cx) (.slice (some ⟨gy, 0, none⟩) ys.length cy) (.slice (some ⟨g9, 0, none⟩) (n9 + 1) cap9) (.slice none 0 0) xs ys (((prs xs).take i).flatMap (colM l ys) ++ ((prs ys).take (k + 1)).filterMap (cellM l (c, d))) [] w9) := hide ((HJ9.out.below hbz).pushed hgrow9 (n := n9 + 1) HO9.out)
              obtain ⟨q0, q1⟩ := HJ10.out.xcells HC.out HD.out
              have HK : Hid ((w9.cell? ⟨gy, k, none⟩ = some (.int .i64 y)) ∧ w9.cell? ⟨gy, k + 1, none⟩ = some (.int .i64 z)) := hide ⟨by
                have := (HJ10.out.y.cells (g := gy) rfl) k (iv y) (by simp [HYS.out.1])
                rwa [addr_add] at this, by
                have := (HJ10.out.y.cells (g := gy) rfl) (k + 1) (iv z) (by simp [HYS.out.2])
                rwa [addr_add] at this⟩
              clear hown9 hgrow9 hbz
              refine hK _ _ (fun _ => ⟨q0, q1, HK.out.1, HK.out.2⟩) ?_
              clear hK K
              intro K hK
              simp only [Act.put, List.setIfInBounds_toArray, List.set_cons_zero, List.set_cons_succ] at hK ⊢
              go_simp
              refine hK _ _ (fun h => absurd rfl h) ?_
              clear hK K q0 q1 HK x0 x1 y0 y1
              refine NoPanic.normal ?_
              go_wp2_with (fail)
              go_roundw
              case rel => exact ⟨k + 1, n9 + 1, _, cap9, hltk, by go_num, rfl, hide (by have := HN9.out; omega), HL10, HJ10⟩
              case measure => simp [intOf]; omega
          · have hke : k = ys.length - 1 := by omega
            have HJ2 : Hid (RJ w (.slice Ax xs.length cx) (.slice Ay ys.length cy) (.slice Ao n9 co) (.slice none 0 0) xs ys (((prs xs).take (i + 1)).flatMap (colM l ys)) [] wr) := hide (by
              have := HJ.out
              rw [hke, prs_all] at this
              rw [col_at l ys HP.out]
              exact this)
            have kz : ¬ (k : Int) + 1 < (ys.length : Int) := by omega
            have HL2 : Hid (n9 = ((prs xs).take (i + 1) |>.flatMap (colM l ys)).length) := hide (by have := HL9.out; rw [hke, prs_all] at this; rw [col_at l ys HP.out]; exact this)
            have HL3 : Hid (n9 ≤ (i + 1) * 1000) := hide (by have := HN9.out; have := HN2.out; omega)
            clear HJ
            go_wp2_with (fail)
            go_roundw
            case rel => exact ⟨i + 1, n9, Ao, co, by omega, by go_num, rfl, HL2, HL3, HJ2⟩
            case measure => simp [intOf]; omega
      · have hie : i = xs.length - 1 := by omega
        have iz : ¬ (i : Int) + 1 < (xs.length : Int) := by omega
        rw [hie, prs_all] at HN HJ
        have HN3 : no ≤ 1000000 := by have := HN2.out; have : i * 1000 ≤ 1000 * 1000 := Nat.mul_le_mul_right 1000 (by omega); omega
        have hyp := HYP.out
        obtain ⟨a0, ha0⟩ : ∃ c, xs[0]? = some c := ⟨_, List.getElem?_eq_getElem (by omega)⟩
        obtain ⟨a1, ha1⟩ : ∃ c, xs[xs.length - 1]? = some c := ⟨_, List.getElem?_eq_getElem (by omega)⟩
        obtain ⟨b0, hb0⟩ : ∃ c, ys[0]? = some c := ⟨_, List.getElem?_eq_getElem (by omega)⟩
        obtain ⟨b1, hb1⟩ : ∃ c, ys[ys.length - 1]? = some c := ⟨_, List.getElem?_eq_getElem (by omega)⟩
        have HG : Hid (ringM (xs.getD 0 0) (ys.getD 0 0) (xs.getD (xs.length - 1) 0) (ys.getD (ys.length - 1) 0) = ringM a0 b0 a1 b1) := hide (by
          rw [List.getD_eq_getElem?_getD, List.getD_eq_getElem?_getD, List.getD_eq_getElem?_getD, List.getD_eq_getElem?_getD, ha0, ha1, hb0, hb1]
          rfl)
        obtain ⟨gx, cpx, hvx, hBx, hgx⟩ := HJ.out.x.form (by omega)
        injection hvx with e1 _ e3
        subst e1; subst e3
        obtain ⟨gy, cpy, hvy, hBy, hgy⟩ := HJ.out.y.form (by omega)
        injection hvy with e1 _ e3
        subst e1; subst e3
        have k0 : ∀ (j : Nat) (u : Int), xs[j]? = some u → wr.cell? ⟨gx, j, none⟩ = some (.int .i64 u) := fun j u hu => by
          have := (HJ.out.x.cells (g := gx) rfl) j (iv u) (by simp [hu])
          rwa [addr_add] at this
        have k1 : ∀ (j : Nat) (u : Int), ys[j]? = some u → wr.cell? ⟨gy, j, none⟩ = some (.int .i64 u) := fun j u hu => by
          have := (HJ.out.y.cells (g := gy) rfl) j (iv u) (by simp [hu])
          rwa [addr_add] at this
        have x0 := k0 _ _ ha0
        have x1 := k0 _ _ ha1
        have y0 := k1 _ _ hb0
        have y1 := k1 _ _ hb1
        obtain ⟨nx, hnx⟩ : ∃ nx, xs.length = nx + 1 := ⟨xs.length - 1, by omega⟩
        obtain ⟨ny, hny⟩ : ∃ ny, ys.length = ny + 1 := ⟨ys.length - 1, by omega⟩
        have HNX := hide hnx
        have HNYY := hide hny
        rw [hnx, Nat.add_sub_cancel] at x1
        rw [hny, Nat.add_sub_cancel] at y1
        have HJH := hide HJ.out
        obtain rfl : i = nx := by omega
        rw [hnx] at xz hxp ⊢
        rw [hny] at yz ⊢
        clear iz
        clear k0 k1 ha0 ha1 hb0 hb1 hBx hBy hgx hgy hnx hny hxb hyp hie hxl hyl
        have t1 : IntKind.i64.wrap (i : Int) = i := IntWalk.i64_in _ (by omega)
        have t2 : IntKind.i64.wrap (ny : Int) = ny := IntWalk.i64_in _ (by omega)
        have q1 : (0 : Int) ≤ (i : Int) := by omega
        have q2 : (0 : Int) ≤ (ny : Int) := by omega
        have q3 : (i : Int) < (i : Int) + 1 := by omega
        have q4 : (ny : Int) < (ny : Int) + 1 := by omega
        have q5 : (0 : Int) < (i : Int) + 1 := by omega
        have q6 : (0 : Int) < (ny : Int) + 1 := by omega
        go_wp2_with (fail)
        go_quiet (fail)
        clear t1 t2 q1 q2 q3 q4 q5 q6 x0 x1 y0 y1
        go_upto_region 14 with fail
        refine wp_name fun Z hZ => ?_
        have HJZ := hide (HJH.out.below (show Below wr.heap.size wr Z by rw [hZ]; exact below_drewN (Below.refl _ _) _))
        have hlz := HJZ.out.low.size
        clear hZ HJH HJ
        go_wp2_with (at_builtin; go_loud (refine wpList_append_lies _ rfl (.tmp 86) (.tmp 95) 26 rfl w.heap.size 69 i1 (.agg #[.int .i64 0, .int .i64 0, .int .i64 0, .int .i64 0]) 4 32 Tryz.underlying26 gi gz0 gz1 gz2 rfl (by decide) _ no _ rfl (World.ownsRow.alloc (own_n HJZ.out.o HN.out.symm) _) ⟨Z.heap.size, 0, none⟩ 4 4 [.int .i64 (-4000000), .int .i64 (-4000000), .int .i64 a0, .int .i64 4000000, .int .i64 a1, .int .i64 (-4000000), .int .i64 4000000, .int .i64 4000000, .int .i64 (-4000000), .int .i64 (-4000000), .int .i64 4000000, .int .i64 b0, .int .i64 (-4000000), .int .i64 b1, .int .i64 4000000, .int .i64 4000000] rfl rfl (news_new Z _ _ _ rfl) (ints_one rfl) (by omega) (by unfold maxLen; omega) (by omega) (by simp; omega) _ rfl ?_))
        intro g9 cap9 w9 hown hgrow _ _
        have HO9 : Hid (w9.ownsRow w.heap.size 69 4 (.slice (some ⟨g9, 0, none⟩) (no + 4) cap9) (no + 4) ((((prs xs).flatMap (colM l ys)) ++ ringM a0 b0 a1 b1).flatMap encR)) := hide (by rw [List.flatMap_append]; exact hown)
        have HB9 : Hid (Below w.heap.size w w9) := hide ((HJZ.out.low.alloc hlz _).grown hgrow (by simp; omega) (fun q hq => (HJZ.out.o.lt q hq).1))
        have HL9 := hide (own_len (enc := encR) (k := 4) HO9.out (fun _ => rfl) (by omega))
        clear hown hgrow HJZ
        go_wp2_with (fail)
        go_ret
        have hm : missF l = (prs xs).flatMap (colM l ys) ++ ringM a0 b0 a1 b1 := by rw [HF.out, HG.out]
        refine ⟨⟨some ⟨g9, 0, none⟩, cap9, ?_, ?_⟩, HB9.out⟩
        · rw [hm, ← HL9.out]; rfl
        · rw [hm, ← HL9.out]
          exact own_rd (own_n HO9.out HL9.out) (fun _ => rfl)
end Go.Proofs.YtdolpeljengpaaaGreat

/- The walks of roof's Falls, of the reference's Height and Falls, and of the law RoofHeights. -/
namespace Go.Proofs.YtdolpeljengpaaaGreat
open Go.RowKit
set_option linter.unusedVariables false
set_option linter.unusedSimpArgs false

def hZ (l : List R4) (x y : Int) : Int := (heightF l x y : Nat)
def fbitG (H : Int → Int → Int) (x y : Int) : Nat → Int
  | 0 => if H (x + 1) y < H x y then 1 else 0
  | 1 => if H (x - 1) y < H x y then 2 else 0
  | 2 => if H x (y + 1) < H x y then 4 else 0
  | _ => if H x (y - 1) < H x y then 8 else 0
def fallsG (H : Int → Int → Int) (x y : Int) : Nat → Int
  | 0 => 0
  | m + 1 => fallsG H x y m + fbitG H x y m
theorem fbit_bd (H : Int → Int → Int) (x y : Int) : (0 ≤ fallsG H x y 0 ∧ fallsG H x y 0 ≤ 0) ∧ (0 ≤ fallsG H x y 1 ∧ fallsG H x y 1 ≤ 1) ∧ (0 ≤ fallsG H x y 2 ∧ fallsG H x y 2 ≤ 3) ∧ (0 ≤ fallsG H x y 3 ∧ fallsG H x y 3 ≤ 7) := by
  simp only [fallsG, fbitG]
  repeat' split
  all_goals omega
theorem falls_st (H : Int → Int → Int) (x y : Int) : fallsG H x y 0 = 0 ∧ fallsG H x y 1 = fallsG H x y 0 + (if H (x + 1) y < H x y then 1 else 0) ∧ fallsG H x y 2 = fallsG H x y 1 + (if H (x - 1) y < H x y then 2 else 0) ∧ fallsG H x y 3 = fallsG H x y 2 + (if H x (y + 1) < H x y then 4 else 0) ∧ fallsG H x y 4 = fallsG H x y 3 + (if H x (y - 1) < H x y then 8 else 0) := ⟨rfl, rfl, rfl, rfl, rfl⟩
def fallsR (l : List R4) (x y : Int) : Int × Int := if (heightR l x y).2 ≠ 0 then (0, (heightR l x y).2) else (fallsG (hZ l) x y 4, 0)
theorem heightR_cases (l : List R4) (x y : Int) : (checkF l = 0 ∧ (-2000000 ≤ x ∧ x ≤ 2000000 ∧ -2000000 ≤ y ∧ y ≤ 2000000) ∧ heightR l x y = (hZ l x y, 0)) ∨ (heightR l x y).2 ≠ 0 ∧ (heightR l x y).1 = 0 := by
  unfold heightR
  by_cases hc : checkF l = 0
  · rw [if_neg (by rw [hc]; simp)]
    by_cases h : -2000000 ≤ x ∧ x ≤ 2000000 ∧ -2000000 ≤ y ∧ y ≤ 2000000
    · rw [if_pos h]; exact .inl ⟨hc, h, rfl⟩
    · rw [if_neg h]; exact .inr ⟨by simp, rfl⟩
  · rw [if_pos hc]; exact .inr ⟨hc, rfl⟩
set_option maxRecDepth 100000 in
set_option maxHeartbeats 8000000 in
theorem roofFalls_any {w : World} {v : Value} {l : List R4} (hr : RdK encR 4 w w.heap.size v l) (hl : l.length ≤ 100000000) (x y : Int) (hx : -9223372036854775808 ≤ x ∧ x ≤ 9223372036854775807) (hy : -9223372036854775808 ≤ y ∧ y ≤ 9223372036854775807) :
    Calls Tryz.prog 43 #[v, .int .i64 x, .int .i64 y] w fun e w' => e = .returned (.tuple #[.int .u8 (fallsR l x y).1, .int .i64 (fallsR l x y).2]) ∧ Below w.heap.size w w' := by
  have HH := hide (roofHeight_any hr hl x y hx hy)
  rcases heightR_cases l x y with ⟨hc, hin, he⟩ | ⟨h2, h1⟩
  · have HF : Hid (fallsR l x y = (fallsG (hZ l) x y 4, 0)) := hide (by unfold fallsR; rw [he]; rfl)
    rw [he] at HH
    have HHE : Hid (∀ (a b : Int), -2000001 ≤ a ∧ a ≤ 2000001 → -2000001 ≤ b ∧ b ≤ 2000001 → ∀ W : World, Below w.heap.size w W → Calls Tryz.prog 88 #[v, .int .i64 a, .int .i64 b] W fun e w' => e = .returned (.int .i64 (hZ l a b)) ∧ Below W.heap.size W w') := hide (fun a b h1 h2 W hW => height_any ((hr.below hW).mono hW.size) hc a b h1 h2)
    obtain ⟨A, c, rfl, _⟩ := hr
    obtain ⟨a1, a2, a3, a4⟩ := hin
    clear hc he hl hx hy
    generalize hZ l = H at *
    obtain ⟨s0, s1, s2, s3, s4⟩ := falls_st H x y
    obtain ⟨⟨b0, b0'⟩, ⟨b1, b1'⟩, ⟨b2, b2'⟩, ⟨b3, b3'⟩⟩ := fbit_bd H x y
    have S0 := hide s0
    have S1 := hide s1
    have S2 := hide s2
    have S3 := hide s3
    have S4 := hide s4
    clear s0 s1 s2 s3 s4
    generalize fallsG H x y = P at *
    go_enter Tryz.func43, Tryz.ntmps43
    go_wp2_with (fail)
    refine HH.out.mono ?_
    rintro e w1 ⟨rfl, hb⟩
    have HB1 := hide hb
    clear hb HH
    go_wp2_with (fail)
    go_loopw [10, 28] (fun o i wr => ∃ m : Nat, m ≤ 4 ∧ i = .int .i64 m ∧ o = .int .u8 (P m) ∧ Hid (Below w.heap.size w wr)) (fun _ i _ => 4 - (intOf i).toNat)
    case atStart => exact ⟨0, Nat.zero_le _, rfl, by rw [S0.out], HB1⟩
    case round =>
      clear HB1
      obtain ⟨m, hm, rfl, rfl, HB1⟩ := hrel
      have hm5 : m = 0 ∨ m = 1 ∨ m = 2 ∨ m = 3 ∨ m = 4 := by omega
      rcases hm5 with rfl | rfl | rfl | rfl | rfl
      · have hidx : ∀ w : World, (Instr.index 145 (.agg #[.int .i64 1, .int .i64 0, .int .u8 1, .int .i64 (-1), .int .i64 0, .int .u8 2, .int .i64 0, .int .i64 1, .int .u8 4, .int .i64 0, .int .i64 (-1), .int .u8 8]) (.int .i64 0)).run Tryz.prog w = .ok (.agg #[.int .i64 1, .int .i64 0, .int .u8 1]) w := fun _ => by kernel_rfl
        have HC := hide (HHE.out (x + 1) y (by omega) (by omega))
        have ex : x + 1 = (x + 1) := by omega
        have ey : y + 0 = y := by omega
        clear HHE
        by_cases hlt : H (x + 1) y < H x y
        · have hv : P 1 = P 0 + 1 := by rw [S1.out, if_pos hlt]
          have HV := hide hv
          clear hv
          go_upto_region 8 with fail
          refine wp_name fun Z hZ => ?_
          have hbz : Below wr.heap.size wr Z := by rw [hZ]; exact (Below.refl _ _).alloc (Nat.le_refl _) _
          have z0 : Z.cell? ⟨wr.heap.size, 0, none⟩ = some (.int .i64 1) := by rw [hZ]; simp [go_sem]
          have z1 : Z.cell? ⟨wr.heap.size, 1, none⟩ = some (.int .i64 0) := by rw [hZ]; simp [go_sem]
          have z2 : Z.cell? ⟨wr.heap.size, 2, none⟩ = some (.int .u8 1) := by rw [hZ]; simp [go_sem]
          have hzs : wr.heap.size < Z.heap.size := by rw [hZ]; simp
          have HBZ := hide (HB1.out.trans (hbz.mono HB1.out.size))
          generalize wr.heap.size = q at *
          clear hZ hbz HB1
          go_wp2_with (fail)
          try rw [ex]
          try rw [ey]
          refine (HC.out _ HBZ.out).mono ?_
          rintro e w2 ⟨rfl, hb⟩
          have HB2 := hide (HBZ.out.trans (hb.mono HBZ.out.size))
          have z2 := (hb.cell (p := ⟨q, 2, none⟩) hzs).trans z2
          clear hb HBZ HC z0 z1 hzs
          go_wp2_with (fail)
          go_roundw
          case rel => exact ⟨1, by omega, rfl, by rw [HV.out], HB2⟩
          case measure => simp [intOf]
        · have hv : P 1 = P 0 := by rw [S1.out, if_neg hlt, Int.add_zero]
          have HV := hide hv
          have hge : H x y ≤ H (x + 1) y := by omega
          clear hv hlt
          go_upto_region 8 with fail
          refine wp_name fun Z hZ => ?_
          have hbz : Below wr.heap.size wr Z := by rw [hZ]; exact (Below.refl _ _).alloc (Nat.le_refl _) _
          have z0 : Z.cell? ⟨wr.heap.size, 0, none⟩ = some (.int .i64 1) := by rw [hZ]; simp [go_sem]
          have z1 : Z.cell? ⟨wr.heap.size, 1, none⟩ = some (.int .i64 0) := by rw [hZ]; simp [go_sem]
          have z2 : Z.cell? ⟨wr.heap.size, 2, none⟩ = some (.int .u8 1) := by rw [hZ]; simp [go_sem]
          have hzs : wr.heap.size < Z.heap.size := by rw [hZ]; simp
          have HBZ := hide (HB1.out.trans (hbz.mono HB1.out.size))
          generalize wr.heap.size = q at *
          clear hZ hbz HB1
          go_wp2_with (fail)
          try rw [ex]
          try rw [ey]
          refine (HC.out _ HBZ.out).mono ?_
          rintro e w2 ⟨rfl, hb⟩
          have HB2 := hide (HBZ.out.trans (hb.mono HBZ.out.size))
          have z2 := (hb.cell (p := ⟨q, 2, none⟩) hzs).trans z2
          clear hb HBZ HC z0 z1 hzs
          go_wp2_with (fail)
          go_roundw
          case rel => exact ⟨1, by omega, rfl, by rw [HV.out], HB2⟩
          case measure => simp [intOf]
      · have hidx : ∀ w : World, (Instr.index 145 (.agg #[.int .i64 1, .int .i64 0, .int .u8 1, .int .i64 (-1), .int .i64 0, .int .u8 2, .int .i64 0, .int .i64 1, .int .u8 4, .int .i64 0, .int .i64 (-1), .int .u8 8]) (.int .i64 1)).run Tryz.prog w = .ok (.agg #[.int .i64 (-1), .int .i64 0, .int .u8 2]) w := fun _ => by kernel_rfl
        have HC := hide (HHE.out (x - 1) y (by omega) (by omega))
        have ex : x + (-1) = (x - 1) := by omega
        have ey : y + 0 = y := by omega
        clear HHE
        by_cases hlt : H (x - 1) y < H x y
        · have hv : P 2 = P 1 + 2 := by rw [S2.out, if_pos hlt]
          have HV := hide hv
          clear hv
          go_upto_region 8 with fail
          refine wp_name fun Z hZ => ?_
          have hbz : Below wr.heap.size wr Z := by rw [hZ]; exact (Below.refl _ _).alloc (Nat.le_refl _) _
          have z0 : Z.cell? ⟨wr.heap.size, 0, none⟩ = some (.int .i64 (-1)) := by rw [hZ]; simp [go_sem]
          have z1 : Z.cell? ⟨wr.heap.size, 1, none⟩ = some (.int .i64 0) := by rw [hZ]; simp [go_sem]
          have z2 : Z.cell? ⟨wr.heap.size, 2, none⟩ = some (.int .u8 2) := by rw [hZ]; simp [go_sem]
          have hzs : wr.heap.size < Z.heap.size := by rw [hZ]; simp
          have HBZ := hide (HB1.out.trans (hbz.mono HB1.out.size))
          generalize wr.heap.size = q at *
          clear hZ hbz HB1
          go_wp2_with (fail)
          try rw [ex]
          try rw [ey]
          refine (HC.out _ HBZ.out).mono ?_
          rintro e w2 ⟨rfl, hb⟩
          have HB2 := hide (HBZ.out.trans (hb.mono HBZ.out.size))
          have z2 := (hb.cell (p := ⟨q, 2, none⟩) hzs).trans z2
          clear hb HBZ HC z0 z1 hzs
          go_wp2_with (fail)
          go_roundw
          case rel => exact ⟨2, by omega, rfl, by rw [HV.out], HB2⟩
          case measure => simp [intOf]
        · have hv : P 2 = P 1 := by rw [S2.out, if_neg hlt, Int.add_zero]
          have HV := hide hv
          have hge : H x y ≤ H (x - 1) y := by omega
          clear hv hlt
          go_upto_region 8 with fail
          refine wp_name fun Z hZ => ?_
          have hbz : Below wr.heap.size wr Z := by rw [hZ]; exact (Below.refl _ _).alloc (Nat.le_refl _) _
          have z0 : Z.cell? ⟨wr.heap.size, 0, none⟩ = some (.int .i64 (-1)) := by rw [hZ]; simp [go_sem]
          have z1 : Z.cell? ⟨wr.heap.size, 1, none⟩ = some (.int .i64 0) := by rw [hZ]; simp [go_sem]
          have z2 : Z.cell? ⟨wr.heap.size, 2, none⟩ = some (.int .u8 2) := by rw [hZ]; simp [go_sem]
          have hzs : wr.heap.size < Z.heap.size := by rw [hZ]; simp
          have HBZ := hide (HB1.out.trans (hbz.mono HB1.out.size))
          generalize wr.heap.size = q at *
          clear hZ hbz HB1
          go_wp2_with (fail)
          try rw [ex]
          try rw [ey]
          refine (HC.out _ HBZ.out).mono ?_
          rintro e w2 ⟨rfl, hb⟩
          have HB2 := hide (HBZ.out.trans (hb.mono HBZ.out.size))
          have z2 := (hb.cell (p := ⟨q, 2, none⟩) hzs).trans z2
          clear hb HBZ HC z0 z1 hzs
          go_wp2_with (fail)
          go_roundw
          case rel => exact ⟨2, by omega, rfl, by rw [HV.out], HB2⟩
          case measure => simp [intOf]
      · have hidx : ∀ w : World, (Instr.index 145 (.agg #[.int .i64 1, .int .i64 0, .int .u8 1, .int .i64 (-1), .int .i64 0, .int .u8 2, .int .i64 0, .int .i64 1, .int .u8 4, .int .i64 0, .int .i64 (-1), .int .u8 8]) (.int .i64 2)).run Tryz.prog w = .ok (.agg #[.int .i64 0, .int .i64 1, .int .u8 4]) w := fun _ => by kernel_rfl
        have HC := hide (HHE.out x (y + 1) (by omega) (by omega))
        have ex : x + 0 = x := by omega
        have ey : y + 1 = (y + 1) := by omega
        clear HHE
        by_cases hlt : H x (y + 1) < H x y
        · have hv : P 3 = P 2 + 4 := by rw [S3.out, if_pos hlt]
          have HV := hide hv
          clear hv
          go_upto_region 8 with fail
          refine wp_name fun Z hZ => ?_
          have hbz : Below wr.heap.size wr Z := by rw [hZ]; exact (Below.refl _ _).alloc (Nat.le_refl _) _
          have z0 : Z.cell? ⟨wr.heap.size, 0, none⟩ = some (.int .i64 0) := by rw [hZ]; simp [go_sem]
          have z1 : Z.cell? ⟨wr.heap.size, 1, none⟩ = some (.int .i64 1) := by rw [hZ]; simp [go_sem]
          have z2 : Z.cell? ⟨wr.heap.size, 2, none⟩ = some (.int .u8 4) := by rw [hZ]; simp [go_sem]
          have hzs : wr.heap.size < Z.heap.size := by rw [hZ]; simp
          have HBZ := hide (HB1.out.trans (hbz.mono HB1.out.size))
          generalize wr.heap.size = q at *
          clear hZ hbz HB1
          go_wp2_with (fail)
          try rw [ex]
          try rw [ey]
          refine (HC.out _ HBZ.out).mono ?_
          rintro e w2 ⟨rfl, hb⟩
          have HB2 := hide (HBZ.out.trans (hb.mono HBZ.out.size))
          have z2 := (hb.cell (p := ⟨q, 2, none⟩) hzs).trans z2
          clear hb HBZ HC z0 z1 hzs
          go_wp2_with (fail)
          go_roundw
          case rel => exact ⟨3, by omega, rfl, by rw [HV.out], HB2⟩
          case measure => simp [intOf]
        · have hv : P 3 = P 2 := by rw [S3.out, if_neg hlt, Int.add_zero]
          have HV := hide hv
          have hge : H x y ≤ H x (y + 1) := by omega
          clear hv hlt
          go_upto_region 8 with fail
          refine wp_name fun Z hZ => ?_
          have hbz : Below wr.heap.size wr Z := by rw [hZ]; exact (Below.refl _ _).alloc (Nat.le_refl _) _
          have z0 : Z.cell? ⟨wr.heap.size, 0, none⟩ = some (.int .i64 0) := by rw [hZ]; simp [go_sem]
          have z1 : Z.cell? ⟨wr.heap.size, 1, none⟩ = some (.int .i64 1) := by rw [hZ]; simp [go_sem]
          have z2 : Z.cell? ⟨wr.heap.size, 2, none⟩ = some (.int .u8 4) := by rw [hZ]; simp [go_sem]
          have hzs : wr.heap.size < Z.heap.size := by rw [hZ]; simp
          have HBZ := hide (HB1.out.trans (hbz.mono HB1.out.size))
          generalize wr.heap.size = q at *
          clear hZ hbz HB1
          go_wp2_with (fail)
          try rw [ex]
          try rw [ey]
          refine (HC.out _ HBZ.out).mono ?_
          rintro e w2 ⟨rfl, hb⟩
          have HB2 := hide (HBZ.out.trans (hb.mono HBZ.out.size))
          have z2 := (hb.cell (p := ⟨q, 2, none⟩) hzs).trans z2
          clear hb HBZ HC z0 z1 hzs
          go_wp2_with (fail)
          go_roundw
          case rel => exact ⟨3, by omega, rfl, by rw [HV.out], HB2⟩
          case measure => simp [intOf]
      · have hidx : ∀ w : World, (Instr.index 145 (.agg #[.int .i64 1, .int .i64 0, .int .u8 1, .int .i64 (-1), .int .i64 0, .int .u8 2, .int .i64 0, .int .i64 1, .int .u8 4, .int .i64 0, .int .i64 (-1), .int .u8 8]) (.int .i64 3)).run Tryz.prog w = .ok (.agg #[.int .i64 0, .int .i64 (-1), .int .u8 8]) w := fun _ => by kernel_rfl
        have HC := hide (HHE.out x (y - 1) (by omega) (by omega))
        have ex : x + 0 = x := by omega
        have ey : y + (-1) = (y - 1) := by omega
        clear HHE
        by_cases hlt : H x (y - 1) < H x y
        · have hv : P 4 = P 3 + 8 := by rw [S4.out, if_pos hlt]
          have HV := hide hv
          clear hv
          go_upto_region 8 with fail
          refine wp_name fun Z hZ => ?_
          have hbz : Below wr.heap.size wr Z := by rw [hZ]; exact (Below.refl _ _).alloc (Nat.le_refl _) _
          have z0 : Z.cell? ⟨wr.heap.size, 0, none⟩ = some (.int .i64 0) := by rw [hZ]; simp [go_sem]
          have z1 : Z.cell? ⟨wr.heap.size, 1, none⟩ = some (.int .i64 (-1)) := by rw [hZ]; simp [go_sem]
          have z2 : Z.cell? ⟨wr.heap.size, 2, none⟩ = some (.int .u8 8) := by rw [hZ]; simp [go_sem]
          have hzs : wr.heap.size < Z.heap.size := by rw [hZ]; simp
          have HBZ := hide (HB1.out.trans (hbz.mono HB1.out.size))
          generalize wr.heap.size = q at *
          clear hZ hbz HB1
          go_wp2_with (fail)
          try rw [ex]
          try rw [ey]
          refine (HC.out _ HBZ.out).mono ?_
          rintro e w2 ⟨rfl, hb⟩
          have HB2 := hide (HBZ.out.trans (hb.mono HBZ.out.size))
          have z2 := (hb.cell (p := ⟨q, 2, none⟩) hzs).trans z2
          clear hb HBZ HC z0 z1 hzs
          go_wp2_with (fail)
          go_roundw
          case rel => exact ⟨4, by omega, rfl, by rw [HV.out], HB2⟩
          case measure => simp [intOf]
        · have hv : P 4 = P 3 := by rw [S4.out, if_neg hlt, Int.add_zero]
          have HV := hide hv
          have hge : H x y ≤ H x (y - 1) := by omega
          clear hv hlt
          go_upto_region 8 with fail
          refine wp_name fun Z hZ => ?_
          have hbz : Below wr.heap.size wr Z := by rw [hZ]; exact (Below.refl _ _).alloc (Nat.le_refl _) _
          have z0 : Z.cell? ⟨wr.heap.size, 0, none⟩ = some (.int .i64 0) := by rw [hZ]; simp [go_sem]
          have z1 : Z.cell? ⟨wr.heap.size, 1, none⟩ = some (.int .i64 (-1)) := by rw [hZ]; simp [go_sem]
          have z2 : Z.cell? ⟨wr.heap.size, 2, none⟩ = some (.int .u8 8) := by rw [hZ]; simp [go_sem]
          have hzs : wr.heap.size < Z.heap.size := by rw [hZ]; simp
          have HBZ := hide (HB1.out.trans (hbz.mono HB1.out.size))
          generalize wr.heap.size = q at *
          clear hZ hbz HB1
          go_wp2_with (fail)
          try rw [ex]
          try rw [ey]
          refine (HC.out _ HBZ.out).mono ?_
          rintro e w2 ⟨rfl, hb⟩
          have HB2 := hide (HBZ.out.trans (hb.mono HBZ.out.size))
          have z2 := (hb.cell (p := ⟨q, 2, none⟩) hzs).trans z2
          clear hb HBZ HC z0 z1 hzs
          go_wp2_with (fail)
          go_roundw
          case rel => exact ⟨4, by omega, rfl, by rw [HV.out], HB2⟩
          case measure => simp [intOf]
      · clear HHE S1 S2 S3
        go_wp2_with (fail)
        go_ret2
        exact ⟨by rw [HF.out]; rfl, HB1.out⟩
  · have HF : Hid (fallsR l x y = (0, (heightR l x y).2)) := hide (if_pos h2)
    rw [h1] at HH
    have hne : ((heightR l x y).2 != 0) = true := by simpa using h2
    obtain ⟨A, c, rfl, _⟩ := hr
    clear h1 h2 hl hx hy
    generalize (heightR l x y).2 = ck at *
    go_enter Tryz.func43, Tryz.ntmps43
    go_wp2_with (fail)
    refine HH.out.mono ?_
    rintro e w1 ⟨rfl, hb⟩
    have HB1 := hide hb
    clear hb HH
    go_wp2_with (fail)
    go_ret2
    exact ⟨by rw [HF.out]; rfl, HB1.out⟩
end Go.Proofs.YtdolpeljengpaaaGreat

/- The walks of the reference's Height and Falls, and of the law RoofHeights. -/
namespace Go.Proofs.YtdolpeljengpaaaGreat
open Go.RowKit
set_option linter.unusedVariables false
set_option linter.unusedSimpArgs false

theorem hZ_high {l : List R4} (hc : checkF l = 0) {x y : Int} (hx : -2000001 ≤ x ∧ x ≤ 2000001) (hy : -2000001 ≤ y ∧ y ≤ 2000001) : highF (missF l) x y = hZ l x y := (height_eq hc hx hy).symm
theorem high_hid {l : List R4} (hc : checkF l = 0) {W : World} {v : Value} (hm : RdK encR 4 W W.heap.size v (missF l)) (x y : Int) (hx : -2000001 ≤ x ∧ x ≤ 2000001) (hy : -2000001 ≤ y ∧ y ≤ 2000001) :
    Calls Tryz.prog 80 #[v, .int .i64 x, .int .i64 y] W fun e w' => e = .returned (.int .i64 (hZ l x y)) ∧ Below W.heap.size W w' := by
  have hv := (checkF_ok hc).2.1
  have hn := (checkF_ok hc).1
  have hlen : (missF l).length ≤ 10000000 := by
    have h1 : (srt (cutsL l)).length ≤ 1000 := by have := srt_len (cutsL l); rw [cutsL_len] at this; omega
    have h2 : (srt (cutsY l)).length ≤ 1000 := by have := srt_len (cutsY l); rw [cutsY_len] at this; omega
    have := miss_len l 1000 h1 h2
    omega
  have := rHigh_any hm hlen (fun m hmm => by
    have := wf_miss hv m hmm
    omega) x y hx hy
  rwa [hZ_high hc hx hy] at this
end Go.Proofs.YtdolpeljengpaaaGreat

/- sort.Search, of a closure that may lay blocks. -/
namespace Go.Proofs.YtdolpeljengpaaaGreat
open Go.RowKit Go.Shelf
set_option linter.unusedVariables false
set_option linter.unusedSimpArgs false

set_option maxHeartbeats 2000000 in
theorem search_any {w : World} (g : Nat) (cb : Array Value) (n : Nat) (p : Nat → Bool) (eg : ∀ args w, (callFunc g args).run Tryz.prog w = .ok (.enter g args) w) (hsz : n ≤ 4000000)
    (hf : ∀ (W : World) (i : Nat), i < n → Below w.heap.size w W → Calls Tryz.prog g (#[.int .i64 i] ++ cb) W fun e w' => e = .returned (.bool (p i)) ∧ Below W.heap.size W w')
    (hmono : ∀ a b, a ≤ b → b < n → p a = true → p b = true) :
    Calls Tryz.prog 75 #[.int .i64 n, .func (.func g) #[] cb] w fun e w' => e = .returned (.int .i64 ((List.range n).countP (fun i => !p i) : Nat)) ∧ Below w.heap.size w w' := by
  have HF := hide hf
  have HM := hide hmono
  clear hf hmono
  have HC : Hid (∀ lo, lo ≤ n → (∀ t, t < lo → p t = false) → (∀ t, lo ≤ t → t < n → p t = true) → (List.range n).countP (fun i => !p i) = lo) := hide (fun lo hlo h1 h2 => by
    have : (List.range n).countP (fun i => !p i) = (List.range n).countP (fun i => decide (i < lo)) := by
      refine List.countP_congr fun i hi => ?_
      have hi' : i < n := List.mem_range.1 hi
      by_cases h : i < lo
      · rw [h1 i h, decide_eq_true h]; rfl
      · rw [h2 i (by omega) hi', decide_eq_false h]; rfl
    rw [this, count_lt]
    omega)
  generalize (List.range n).countP (fun i => !p i) = cnt at *
  go_enter Tryz.func75, Tryz.ntmps75
  go_wp2
  go_loopg [5, 6] n (fun kx s5 s6 wr => ∃ (lo hi : Nat), s5 = .int .i64 lo ∧ s6 = .int .i64 hi ∧ lo ≤ hi ∧ hi ≤ n ∧ hi - lo ≤ kx ∧ Hid (Below w.heap.size w wr) ∧ Hid ((∀ t, t < lo → p t = false) ∧ (∀ t, hi ≤ t → t < n → p t = true)))
  case atStart => exact ⟨0, n, rfl, rfl, Nat.zero_le _, Nat.le_refl _, by omega, hide (Below.refl _ _), hide ⟨fun t ht => absurd ht (Nat.not_lt_zero _), fun t h1 h2 => by omega⟩⟩
  case round =>
    obtain ⟨lo, hi, rfl, rfl, hlh, hin, hg, HB, HI⟩ := hrel
    by_cases hlt : lo < hi
    · have hc := HF.out wr ((lo + hi) / 2) (by omega) HB.out
      rw [show (((lo + hi) / 2 : Nat) : Int) = ((lo : Int) + (hi : Int)) / 2 by omega] at hc
      cases hp : p ((lo + hi) / 2) <;> rw [hp] at hc
      · have HP := hide hp
        clear hp
        go_wp2_with (go_at_fn g; refine hc.mono ?_; rintro e w' ⟨rfl, hb⟩)
        go_roundg (hi - ((lo + hi) / 2 + 1))
        case measure => omega
        case rel =>
          exact ⟨(lo + hi) / 2 + 1, hi, by rw [show ((lo : Int) + (hi : Int)) / 2 + 1 = (((lo + hi) / 2 + 1 : Nat) : Int) by omega], rfl, by omega, hin, Nat.le_refl _, hide (HB.out.trans (hb.mono HB.out.size)), hide ⟨fun t ht => (by
            cases h : p t with
            | false => rfl
            | true => have := HM.out t ((lo + hi) / 2) (by omega) (by omega) h; rw [HP.out] at this; cases this), HI.out.2⟩⟩
      · have HP := hide hp
        clear hp
        go_wp2_with (go_at_fn g; refine hc.mono ?_; rintro e w' ⟨rfl, hb⟩)
        go_roundg ((lo + hi) / 2 - lo)
        case measure => omega
        case rel =>
          exact ⟨lo, (lo + hi) / 2, rfl, by rw [show ((lo : Int) + (hi : Int)) / 2 = (((lo + hi) / 2 : Nat) : Int) by omega], by omega, by omega, Nat.le_refl _, hide (HB.out.trans (hb.mono HB.out.size)), hide ⟨HI.out.1, fun t ht htn => HM.out ((lo + hi) / 2) t ht htn HP.out⟩⟩
    · obtain rfl : hi = lo := by omega
      have ecnt := HC.out hi hin HI.out.1 HI.out.2
      subst ecnt
      clear HC HF HM
      go_wp2
      go_ret
      exact ⟨rfl, HB.out⟩
end Go.Proofs.YtdolpeljengpaaaGreat

/- The walks of roof.fits and of roof.Peak, with their closures. -/
namespace Go.Proofs.YtdolpeljengpaaaGreat
open Go.RowKit Go.Sort
set_option linter.unusedVariables false
set_option linter.unusedSimpArgs false

theorem cov_eq (l : List R4) (x y s : Int) : (covF l (2 * x + s) (2 * y + s) s == 2 * s * (2 * s)) = covE l x y s := rfl
set_option maxRecDepth 100000 in
set_option maxHeartbeats 8000000 in
theorem fitsB_any {w : World} {v : Value} {l : List R4} {B ga gr gs : Nat} (hr : RdK encR 4 w B v l) (hB : B ≤ w.heap.size) (hl : l.length ≤ 400) (hv : ∀ r ∈ l, valid4 r) (a0 a1 a2 a3 b0 b1 b2 b3 s : Int) (hs : 1 ≤ s ∧ s ≤ 2000001)
    (h0 : -1000000 ≤ a0 ∧ a0 ≤ 1000000) (h2 : -1000000 ≤ a2 ∧ a2 ≤ 1000000) (k1 : -1000000 ≤ b1 ∧ b1 ≤ 1000000) (k3 : -1000000 ≤ b3 ∧ b3 ≤ 1000000)
    (ca0 : w.cell? ⟨ga, 0, none⟩ = some (.int .i64 a0)) (ca2 : w.cell? ⟨ga, 2, none⟩ = some (.int .i64 a2)) (cr : w.cell? ⟨gr, 0, none⟩ = some v) (cs : w.cell? ⟨gs, 0, none⟩ = some (.int .i64 s)) :
    Calls Tryz.prog 127 #[.agg #[.int .i64 b0, .int .i64 b1, .int .i64 b2, .int .i64 b3], .pointer (some ⟨ga, 0, none⟩), .pointer (some ⟨gr, 0, none⟩), .pointer (some ⟨gs, 0, none⟩)] w fun e w' => e = .returned (.bool (fitsQ l s ⟨a0, a1, a2, a3⟩ ⟨b0, b1, b2, b3⟩)) ∧ Below w.heap.size w w' := by
  have HCV : Hid (∀ x y : Int, -1000000 ≤ x ∧ x ≤ 1000000 → -1000000 ≤ y ∧ y ≤ 1000000 → ∀ W : World, Below w.heap.size w W → Calls Tryz.prog 128 #[v, .int .i64 (2 * x + s), .int .i64 (2 * y + s), .int .i64 s] W fun e w' => e = .returned (.int .i64 (covF l (2 * x + s) (2 * y + s) s)) ∧ Below W.heap.size W w') := hide (fun x y g1 g2 W hW =>
    (covered_any (((hr.mono hB).below hW).mono hW.size) hl hv (2 * x + s) (2 * y + s) s (by omega) (by omega) (by omega)).mono fun e w' ⟨he, os, hg⟩ => ⟨he, by rw [hg]; exact below_grown_sl W.heap.size W 0 os (Nat.le_refl _)⟩)
  have HQ : Hid (fitsQ l s ⟨a0, a1, a2, a3⟩ ⟨b0, b1, b2, b3⟩ = (covE l a0 b1 s || covE l a0 b3 s || covE l a2 b1 s || covE l a2 b3 s)) := hide rfl
  have hs2 : IntKind.i64.wrap (2 * s * (2 * s)) = 2 * s * (2 * s) := IntWalk.i64_in _ (by have := sq_bd hs; omega)
  obtain ⟨s1, s2⟩ := hs
  obtain ⟨h01, h02⟩ := h0
  obtain ⟨h21, h22⟩ := h2
  obtain ⟨k11, k12⟩ := k1
  obtain ⟨k31, k32⟩ := k3
  clear hr hB hl hv
  generalize fitsQ l s ⟨a0, a1, a2, a3⟩ ⟨b0, b1, b2, b3⟩ = FQ at *
  have la := lt_of_cell ca0
  have lr := lt_of_cell cr
  have ls := lt_of_cell cs
  go_enter Tryz.func127, Tryz.ntmps127
  go_upto_region 1 with fail
  refine wp_name fun Z hZ => ?_
  have hbz : Below w.heap.size w Z := by rw [hZ]; exact (Below.refl _ _).alloc (Nat.le_refl _) _
  have z1 : Z.cell? ⟨w.heap.size, 1, none⟩ = some (.int .i64 b1) := by rw [hZ]; simp [go_sem]
  have z3 : Z.cell? ⟨w.heap.size, 3, none⟩ = some (.int .i64 b3) := by rw [hZ]; simp [go_sem]
  have lz : w.heap.size < Z.heap.size := by rw [hZ]; simp
  have y0 := (hbz.cell (p := ⟨ga, 0, none⟩) la).trans ca0
  have y2 := (hbz.cell (p := ⟨ga, 2, none⟩) la).trans ca2
  have yr := (hbz.cell (p := ⟨gr, 0, none⟩) lr).trans cr
  have ys := (hbz.cell (p := ⟨gs, 0, none⟩) ls).trans cs
  have lr2 := lt_of_cell yr
  have ls2 := lt_of_cell ys
  have HBZ := hide hbz
  have HZ : Hid (∀ W, Below Z.heap.size Z W → W.cell? ⟨w.heap.size, 1, none⟩ = some (.int .i64 b1) ∧ W.cell? ⟨w.heap.size, 3, none⟩ = some (.int .i64 b3) ∧ W.cell? ⟨gr, 0, none⟩ = some v ∧ W.cell? ⟨gs, 0, none⟩ = some (.int .i64 s)) := hide (fun W hW =>
    ⟨(hW.cell (p := ⟨_, 1, none⟩) lz).trans z1, (hW.cell (p := ⟨_, 3, none⟩) lz).trans z3, (hW.cell (p := ⟨gr, 0, none⟩) lr2).trans yr, (hW.cell (p := ⟨gs, 0, none⟩) ls2).trans ys⟩)
  clear hZ hbz ca0 ca2 cr cs la lr ls z1 z3 yr ys lr2 ls2
  go_upto_region 2 with fail
  clear y0 y2
  go_loopw [15] (fun p wr => ∃ i : Nat, i ≤ 2 ∧ p = .int .i64 i ∧ Hid ((1 ≤ i → covE l a0 b1 s = false ∧ covE l a0 b3 s = false) ∧ (2 ≤ i → covE l a2 b1 s = false ∧ covE l a2 b3 s = false)) ∧ Hid (Below Z.heap.size Z wr)) (fun p _ => 2 - (intOf p).toNat)
  case atStart => exact ⟨0, Nat.zero_le _, rfl, hide ⟨fun h => by omega, fun h => by omega⟩, hide (Below.refl _ _)⟩
  case round =>
    obtain ⟨i, hi, rfl, HI, HB⟩ := hrel
    have hi3 : i = 0 ∨ i = 1 ∨ i = 2 := by omega
    rcases hi3 with rfl | rfl | rfl
    · obtain ⟨y1, y3, yr, ys⟩ := HZ.out _ HB.out
      have hidx : ∀ w : World, (Instr.index 158 (.agg #[.int .i64 a0, .int .i64 a2]) (.int .i64 0)).run Tryz.prog w = .ok (.int .i64 a0) w := fun _ => by kernel_rfl
      go_upto_region 5 with fail
      clear hidx
      clear y1 y3 yr ys
      go_loopw [23] (fun p wr => ∃ j : Nat, j ≤ 2 ∧ p = .int .i64 j ∧ Hid ((1 ≤ j → covE l a0 b1 s = false) ∧ (2 ≤ j → covE l a0 b3 s = false)) ∧ Hid (Below Z.heap.size Z wr)) (fun p _ => 2 - (intOf p).toNat)
      case atStart => exact ⟨0, Nat.zero_le _, rfl, hide ⟨fun h => by omega, fun h => by omega⟩, HB⟩
      case round =>
        clear HB
        obtain ⟨j, hj, rfl, HJ, HB⟩ := hrel
        have hj3 : j = 0 ∨ j = 1 ∨ j = 2 := by omega
        rcases hj3 with rfl | rfl | rfl
        · obtain ⟨y1, y3, yr, ys⟩ := HZ.out _ HB.out
          have lr := lt_of_cell yr
          have ls := lt_of_cell ys
          have hidx : ∀ w : World, (Instr.index 158 (.agg #[.int .i64 b1, .int .i64 b3]) (.int .i64 0)).run Tryz.prog w = .ok (.int .i64 b1) w := fun _ => by kernel_rfl
          have HC := hide (fun (x : Above wr) => HCV.out a0 b1 (by omega) (by omega) x.get (HBZ.out.trans ((HB.out.trans (x.keeps.mono HB.out.size)).mono (Nat.le_of_lt lz))))
          by_cases ht : covE l a0 b1 s = true
          · have t := (cov_eq l a0 b1 s).trans ht
            have HR : Hid (FQ = true) := hide (by rw [HQ.out, ht]; simp)
            generalize covF l (2 * a0 + s) (2 * b1 + s) s = C at *
            clear HQ HCV HI HJ HZ ht
            go_upto_region 7 with fail
            refine wp_hab fun hab => ?_
            refine wp_region_above (by kernel_rfl) (by kernel_rfl) ?_
            repeat (go_big_quiet_step ((go_at_call 128; exact above_of (HC.out _))))
            refine wpQuiet_nil ?_
            refine above_ends fun w5 hb => ?_
            have HB5 := hide (HBZ.out.trans ((HB.out.trans (hb.mono HB.out.size)).mono (Nat.le_of_lt lz)))
            clear hab hb y1 y3 yr ys
            go_wp2_with (fail)
            go_ret
            exact ⟨by rw [HR.out]; rfl, HB5.out⟩
          · have ht' : covE l a0 b1 s = false := by simpa using ht
            have t := (cov_eq l a0 b1 s).trans ht'
            have HT := hide ht'
            clear ht ht'
            generalize covF l (2 * a0 + s) (2 * b1 + s) s = C at *
            go_upto_region 7 with fail
            refine wp_hab fun hab => ?_
            refine wp_region_above (by kernel_rfl) (by kernel_rfl) ?_
            repeat (go_big_quiet_step ((go_at_call 128; exact above_of (HC.out _))))
            refine wpQuiet_nil ?_
            refine above_ends fun w5 hb => ?_
            have HB5 := hide (HB.out.trans (hb.mono HB.out.size))
            clear hab hb y1 y3 yr ys t
            go_wp2_with (fail)
            go_roundw
            case rel => exact ⟨1, by omega, rfl, hide ⟨fun _ => HT.out, fun h => absurd h (by omega)⟩, HB5⟩
            case measure => simp [intOf]
        · obtain ⟨y1, y3, yr, ys⟩ := HZ.out _ HB.out
          have lr := lt_of_cell yr
          have ls := lt_of_cell ys
          have hidx : ∀ w : World, (Instr.index 158 (.agg #[.int .i64 b1, .int .i64 b3]) (.int .i64 1)).run Tryz.prog w = .ok (.int .i64 b3) w := fun _ => by kernel_rfl
          have HC := hide (fun (x : Above wr) => HCV.out a0 b3 (by omega) (by omega) x.get (HBZ.out.trans ((HB.out.trans (x.keeps.mono HB.out.size)).mono (Nat.le_of_lt lz))))
          by_cases ht : covE l a0 b3 s = true
          · have t := (cov_eq l a0 b3 s).trans ht
            have HR : Hid (FQ = true) := hide (by rw [HQ.out, ht]; simp)
            generalize covF l (2 * a0 + s) (2 * b3 + s) s = C at *
            clear HQ HCV HI HJ HZ ht
            go_upto_region 7 with fail
            refine wp_hab fun hab => ?_
            refine wp_region_above (by kernel_rfl) (by kernel_rfl) ?_
            repeat (go_big_quiet_step ((go_at_call 128; exact above_of (HC.out _))))
            refine wpQuiet_nil ?_
            refine above_ends fun w5 hb => ?_
            have HB5 := hide (HBZ.out.trans ((HB.out.trans (hb.mono HB.out.size)).mono (Nat.le_of_lt lz)))
            clear hab hb y1 y3 yr ys
            go_wp2_with (fail)
            go_ret
            exact ⟨by rw [HR.out]; rfl, HB5.out⟩
          · have ht' : covE l a0 b3 s = false := by simpa using ht
            have t := (cov_eq l a0 b3 s).trans ht'
            have HT := hide ht'
            clear ht ht'
            generalize covF l (2 * a0 + s) (2 * b3 + s) s = C at *
            go_upto_region 7 with fail
            refine wp_hab fun hab => ?_
            refine wp_region_above (by kernel_rfl) (by kernel_rfl) ?_
            repeat (go_big_quiet_step ((go_at_call 128; exact above_of (HC.out _))))
            refine wpQuiet_nil ?_
            refine above_ends fun w5 hb => ?_
            have HB5 := hide (HB.out.trans (hb.mono HB.out.size))
            clear hab hb y1 y3 yr ys t
            go_wp2_with (fail)
            go_roundw
            case rel => exact ⟨2, by omega, rfl, hide ⟨fun _ => HJ.out.1 (by omega), fun h => HT.out⟩, HB5⟩
            case measure => simp [intOf]
        · clear HI
          go_wp2_with (fail)
          go_roundw
          case rel => exact ⟨1, by omega, rfl, hide ⟨fun _ => ⟨HJ.out.1 (by omega), HJ.out.2 (by omega)⟩, fun h => absurd h (by omega)⟩, HB⟩
          case measure => simp [intOf]
    · obtain ⟨y1, y3, yr, ys⟩ := HZ.out _ HB.out
      have hidx : ∀ w : World, (Instr.index 158 (.agg #[.int .i64 a0, .int .i64 a2]) (.int .i64 1)).run Tryz.prog w = .ok (.int .i64 a2) w := fun _ => by kernel_rfl
      go_upto_region 5 with fail
      clear hidx
      clear y1 y3 yr ys
      go_loopw [23] (fun p wr => ∃ j : Nat, j ≤ 2 ∧ p = .int .i64 j ∧ Hid ((1 ≤ j → covE l a2 b1 s = false) ∧ (2 ≤ j → covE l a2 b3 s = false)) ∧ Hid (Below Z.heap.size Z wr)) (fun p _ => 2 - (intOf p).toNat)
      case atStart => exact ⟨0, Nat.zero_le _, rfl, hide ⟨fun h => by omega, fun h => by omega⟩, HB⟩
      case round =>
        clear HB
        obtain ⟨j, hj, rfl, HJ, HB⟩ := hrel
        have hj3 : j = 0 ∨ j = 1 ∨ j = 2 := by omega
        rcases hj3 with rfl | rfl | rfl
        · obtain ⟨y1, y3, yr, ys⟩ := HZ.out _ HB.out
          have lr := lt_of_cell yr
          have ls := lt_of_cell ys
          have hidx : ∀ w : World, (Instr.index 158 (.agg #[.int .i64 b1, .int .i64 b3]) (.int .i64 0)).run Tryz.prog w = .ok (.int .i64 b1) w := fun _ => by kernel_rfl
          have HC := hide (fun (x : Above wr) => HCV.out a2 b1 (by omega) (by omega) x.get (HBZ.out.trans ((HB.out.trans (x.keeps.mono HB.out.size)).mono (Nat.le_of_lt lz))))
          by_cases ht : covE l a2 b1 s = true
          · have t := (cov_eq l a2 b1 s).trans ht
            have HR : Hid (FQ = true) := hide (by rw [HQ.out, ht]; simp)
            generalize covF l (2 * a2 + s) (2 * b1 + s) s = C at *
            clear HQ HCV HI HJ HZ ht
            go_upto_region 7 with fail
            refine wp_hab fun hab => ?_
            refine wp_region_above (by kernel_rfl) (by kernel_rfl) ?_
            repeat (go_big_quiet_step ((go_at_call 128; exact above_of (HC.out _))))
            refine wpQuiet_nil ?_
            refine above_ends fun w5 hb => ?_
            have HB5 := hide (HBZ.out.trans ((HB.out.trans (hb.mono HB.out.size)).mono (Nat.le_of_lt lz)))
            clear hab hb y1 y3 yr ys
            go_wp2_with (fail)
            go_ret
            exact ⟨by rw [HR.out]; rfl, HB5.out⟩
          · have ht' : covE l a2 b1 s = false := by simpa using ht
            have t := (cov_eq l a2 b1 s).trans ht'
            have HT := hide ht'
            clear ht ht'
            generalize covF l (2 * a2 + s) (2 * b1 + s) s = C at *
            go_upto_region 7 with fail
            refine wp_hab fun hab => ?_
            refine wp_region_above (by kernel_rfl) (by kernel_rfl) ?_
            repeat (go_big_quiet_step ((go_at_call 128; exact above_of (HC.out _))))
            refine wpQuiet_nil ?_
            refine above_ends fun w5 hb => ?_
            have HB5 := hide (HB.out.trans (hb.mono HB.out.size))
            clear hab hb y1 y3 yr ys t
            go_wp2_with (fail)
            go_roundw
            case rel => exact ⟨1, by omega, rfl, hide ⟨fun _ => HT.out, fun h => absurd h (by omega)⟩, HB5⟩
            case measure => simp [intOf]
        · obtain ⟨y1, y3, yr, ys⟩ := HZ.out _ HB.out
          have lr := lt_of_cell yr
          have ls := lt_of_cell ys
          have hidx : ∀ w : World, (Instr.index 158 (.agg #[.int .i64 b1, .int .i64 b3]) (.int .i64 1)).run Tryz.prog w = .ok (.int .i64 b3) w := fun _ => by kernel_rfl
          have HC := hide (fun (x : Above wr) => HCV.out a2 b3 (by omega) (by omega) x.get (HBZ.out.trans ((HB.out.trans (x.keeps.mono HB.out.size)).mono (Nat.le_of_lt lz))))
          by_cases ht : covE l a2 b3 s = true
          · have t := (cov_eq l a2 b3 s).trans ht
            have HR : Hid (FQ = true) := hide (by rw [HQ.out, ht]; simp)
            generalize covF l (2 * a2 + s) (2 * b3 + s) s = C at *
            clear HQ HCV HI HJ HZ ht
            go_upto_region 7 with fail
            refine wp_hab fun hab => ?_
            refine wp_region_above (by kernel_rfl) (by kernel_rfl) ?_
            repeat (go_big_quiet_step ((go_at_call 128; exact above_of (HC.out _))))
            refine wpQuiet_nil ?_
            refine above_ends fun w5 hb => ?_
            have HB5 := hide (HBZ.out.trans ((HB.out.trans (hb.mono HB.out.size)).mono (Nat.le_of_lt lz)))
            clear hab hb y1 y3 yr ys
            go_wp2_with (fail)
            go_ret
            exact ⟨by rw [HR.out]; rfl, HB5.out⟩
          · have ht' : covE l a2 b3 s = false := by simpa using ht
            have t := (cov_eq l a2 b3 s).trans ht'
            have HT := hide ht'
            clear ht ht'
            generalize covF l (2 * a2 + s) (2 * b3 + s) s = C at *
            go_upto_region 7 with fail
            refine wp_hab fun hab => ?_
            refine wp_region_above (by kernel_rfl) (by kernel_rfl) ?_
            repeat (go_big_quiet_step ((go_at_call 128; exact above_of (HC.out _))))
            refine wpQuiet_nil ?_
            refine above_ends fun w5 hb => ?_
            have HB5 := hide (HB.out.trans (hb.mono HB.out.size))
            clear hab hb y1 y3 yr ys t
            go_wp2_with (fail)
            go_roundw
            case rel => exact ⟨2, by omega, rfl, hide ⟨fun _ => HJ.out.1 (by omega), fun h => HT.out⟩, HB5⟩
            case measure => simp [intOf]
        · have HI0 := hide (HI.out.1 (by omega))
          clear HI
          go_wp2_with (fail)
          go_roundw
          case rel => exact ⟨2, by omega, rfl, hide ⟨fun _ => HI0.out, fun h => ⟨HJ.out.1 (by omega), HJ.out.2 (by omega)⟩⟩, HB⟩
          case measure => simp [intOf]
    · have HR : Hid (FQ = false) := hide (by
        obtain ⟨e1, e2⟩ := HI.out
        obtain ⟨f1, f2⟩ := e1 (by omega)
        obtain ⟨f3, f4⟩ := e2 (by omega)
        rw [HQ.out, f1, f2, f3, f4]
        rfl)
      clear HQ HI HCV
      have HB5 := hide (HBZ.out.trans (HB.out.mono (Nat.le_of_lt lz)))
      go_wp2_with (fail)
      go_ret
      exact ⟨by rw [HR.out]; rfl, HB5.out⟩
theorem enter_fitsB : ∀ args w, (callFunc 127 args).run Tryz.prog w = .ok (.enter 127 args) w := enters_of Tryz.func127 (by kernel_rfl) rfl
set_option maxHeartbeats 4000000 in
theorem fitsA_any {w : World} {A : Option Addr} {c : Nat} {l : List R4} {B gr gs : Nat} (hr : RdK encR 4 w B (.slice A l.length c) l) (hB : B ≤ w.heap.size) (hl : l.length ≤ 400) (hv : ∀ r ∈ l, valid4 r) (a : R4) (ha : valid4 a) (s : Int) (hs : 1 ≤ s ∧ s ≤ 2000001)
    (cr : w.cell? ⟨gr, 0, none⟩ = some (.slice A l.length c)) (cs : w.cell? ⟨gs, 0, none⟩ = some (.int .i64 s)) :
    Calls Tryz.prog 126 #[.agg (encR a).toArray, .pointer (some ⟨gr, 0, none⟩), .pointer (some ⟨gs, 0, none⟩)] w fun e w' => e = .returned (.bool (l.any fun b => fitsQ l s a b)) ∧ Below w.heap.size w w' := by
  obtain ⟨a0, a1, a2, a3⟩ := a
  show Calls Tryz.prog 126 #[.agg #[.int .i64 a0, .int .i64 a1, .int .i64 a2, .int .i64 a3], .pointer (some ⟨gr, 0, none⟩), .pointer (some ⟨gs, 0, none⟩)] w _
  have lr := lt_of_cell cr
  have ls := lt_of_cell cs
  obtain ⟨Z, hZ⟩ : ∃ Z, Z = w.alloc (.cells #[.int .i64 a0, .int .i64 a1, .int .i64 a2, .int .i64 a3] 69) := ⟨_, rfl⟩
  have hbz : Below w.heap.size w Z := by rw [hZ]; exact (Below.refl _ _).alloc (Nat.le_refl _) _
  have z0 : Z.cell? ⟨w.heap.size, 0, none⟩ = some (.int .i64 a0) := by rw [hZ]; simp [go_sem]
  have z2 : Z.cell? ⟨w.heap.size, 2, none⟩ = some (.int .i64 a2) := by rw [hZ]; simp [go_sem]
  have lz : w.heap.size < Z.heap.size := by rw [hZ]; simp
  have yr := (hbz.cell (p := ⟨gr, 0, none⟩) lr).trans cr
  have ys := (hbz.cell (p := ⟨gs, 0, none⟩) ls).trans cs
  have lr2 := lt_of_cell yr
  have ls2 := lt_of_cell ys
  have h := cfReg_any (w := Z) (((hr.mono hB).below hbz).mono hbz.size) (by omega) 127 #[.pointer (some ⟨w.heap.size, 0, none⟩), .pointer (some ⟨gr, 0, none⟩), .pointer (some ⟨gs, 0, none⟩)] (fun b => fitsQ l s ⟨a0, a1, a2, a3⟩ b) enter_fitsB
    (fun W b hb hW => by
      obtain ⟨u1, u2, ⟨u3, u4⟩, ⟨u5, u6⟩, ⟨u7, u8⟩, u9, u10⟩ := ha
      obtain ⟨t1, t2, ⟨t3, t4⟩, ⟨t5, t6⟩, ⟨t7, t8⟩, t9, t10⟩ := hv b hb
      obtain ⟨b0, b1, b2, b3⟩ := b
      exact fitsB_any ((((hr.mono hB).below hbz).mono hbz.size).below hW) hW.size hl hv a0 a1 a2 a3 b0 b1 b2 b3 s hs ⟨u3, u4⟩ ⟨u5, u6⟩ ⟨t7, t8⟩ ⟨t9, t10⟩
        ((hW.cell (p := ⟨_, 0, none⟩) lz).trans z0) ((hW.cell (p := ⟨_, 2, none⟩) lz).trans z2) ((hW.cell (p := ⟨gr, 0, none⟩) lr2).trans yr) ((hW.cell (p := ⟨gs, 0, none⟩) ls2).trans ys))
  have HB := hide hbz
  have H := hide h
  clear h hbz hr hv ha z0 z2 lr2 ls2 hB hs
  generalize (l.any fun b => fitsQ l s ⟨a0, a1, a2, a3⟩ b) = R at *
  clear ys
  have nr : gr ≠ w.heap.size := by omega
  go_enter Tryz.func126, Tryz.ntmps126
  go_upto_region 1 with fail
  rw [← hZ]
  clear hZ
  go_wp2_with (go_at_call 113; refine H.out.mono ?_; rintro e w1 ⟨rfl, hb⟩)
  go_ret
  exact ⟨rfl, HB.out.trans (hb.mono HB.out.size)⟩
theorem enter_fitsA : ∀ args w, (callFunc 126 args).run Tryz.prog w = .ok (.enter 126 args) w := enters_of Tryz.func126 (by kernel_rfl) rfl
set_option maxHeartbeats 4000000 in
theorem fits15_any {w : World} {v : Value} {l : List R4} (hr : RdK encR 4 w w.heap.size v l) (hl : l.length ≤ 400) (hv : ∀ r ∈ l, valid4 r) (s : Int) (hs : 1 ≤ s ∧ s ≤ 2000001) :
    Calls Tryz.prog 77 #[v, .int .i64 s] w fun e w' => e = .returned (.bool (fitsF l s)) ∧ Below w.heap.size w w' := by
  obtain ⟨A, c, rfl, _⟩ := id hr
  obtain ⟨Z, hZ⟩ : ∃ Z, Z = (w.alloc (.cells #[.slice A l.length c] 27)).alloc (.cells #[.int .i64 s] 3) := ⟨_, rfl⟩
  have hbz : Below w.heap.size w Z := by rw [hZ]; exact ((Below.refl _ _).alloc (Nat.le_refl _) _).alloc (by simp) _
  have z0 : Z.cell? ⟨w.heap.size, 0, none⟩ = some (.slice A l.length c) := by rw [hZ]; simp [go_sem]
  have z1 : Z.cell? ⟨w.heap.size + 1, 0, none⟩ = some (.int .i64 s) := by rw [hZ]; simp [go_sem]
  have lz : w.heap.size + 1 < Z.heap.size := by rw [hZ]; simp
  have h := cfReg_any (w := Z) ((hr.below hbz).mono hbz.size) (by omega) 126 #[.pointer (some ⟨w.heap.size, 0, none⟩), .pointer (some ⟨w.heap.size + 1, 0, none⟩)] (fun a => l.any fun b => fitsQ l s a b) enter_fitsA
    (fun W a ha hW => fitsA_any (((hr.below hbz).mono hbz.size).below hW) hW.size hl hv a (hv a ha) s hs ((hW.cell (p := ⟨_, 0, none⟩) (by show w.heap.size < Z.heap.size; omega)).trans z0) ((hW.cell (p := ⟨_, 0, none⟩) lz).trans z1))
  have HB := hide hbz
  have HF : Hid ((l.any fun a => l.any fun b => fitsQ l s a b) = fitsF l s) := hide rfl
  have H := hide h
  clear h hbz hr hv z1 hs
  generalize (l.any fun a => l.any fun b => fitsQ l s a b) = R at *
  go_enter Tryz.func77, Tryz.ntmps77
  go_upto_region 1 with fail
  rw [← hZ]
  clear hZ
  go_wp2_with (go_at_call 113; refine H.out.mono ?_; rintro e w1 ⟨rfl, hb⟩)
  go_ret
  exact ⟨by rw [HF.out]; rfl, HB.out.trans (hb.mono HB.out.size)⟩
/-- The closure that sort.Search asks. -/
theorem peakC_any {w : World} {v : Value} {l : List R4} {B g : Nat} (hr : RdK encR 4 w B v l) (hB : B ≤ w.heap.size) (hl : l.length ≤ 400) (hv : ∀ r ∈ l, valid4 r) (c0 : w.cell? ⟨g, 0, none⟩ = some v) (i : Nat) (hi : i < 2000001) :
    Calls Tryz.prog 76 #[.int .i64 i, .pointer (some ⟨g, 0, none⟩)] w fun e w' => e = .returned (.bool (!fitsF l ((i : Int) + 1))) ∧ Below w.heap.size w w' := by
  have HC := hide (fits15_any (hr.mono hB) hl hv ((i : Int) + 1) (by omega))
  have hiz : (i : Int) < 2000001 := by omega
  clear hr hl hv
  generalize fitsF l ((i : Int) + 1) = C at *
  go_enter Tryz.func76, Tryz.ntmps76
  go_wp2_with (fail)
  refine HC.out.mono ?_
  rintro e w' ⟨rfl, hg⟩
  have HG := hide hg
  clear hg
  go_wp2_with (fail)
  go_ret
  exact ⟨rfl, HG.out⟩
theorem enter_peakC : ∀ args w, (callFunc 76 args).run Tryz.prog w = .ok (.enter 76 args) w := enters_of Tryz.func76 (by kernel_rfl) rfl
def peakR (l : List R4) : Int × Int := if checkF l = 0 then (peakF l, 0) else (0, checkF l)
set_option maxHeartbeats 4000000 in
theorem oPeak_any {w : World} {v : Value} {l : List R4} (hr : RdK encR 4 w w.heap.size v l) (hl : l.length ≤ 100000000) :
    Calls Tryz.prog 35 #[v] w fun e w' => e = .returned (.tuple #[.int .i64 (peakR l).1, .int .i64 (peakR l).2]) ∧ Below w.heap.size w w' := by
  obtain ⟨A, c, rfl, _⟩ := id hr
  obtain ⟨Z, hZ⟩ : ∃ Z, Z = w.alloc (.cells #[.slice A l.length c] 27) := ⟨_, rfl⟩
  have hbz : Below w.heap.size w Z := by rw [hZ]; exact (Below.refl _ _).alloc (Nat.le_refl _) _
  have z0 : Z.cell? ⟨w.heap.size, 0, none⟩ = some (.slice A l.length c) := by rw [hZ]; simp [go_sem]
  have lz : w.heap.size < Z.heap.size := by rw [hZ]; simp
  have HCK := hide (check_any ((hr.below hbz).mono hbz.size) hl)
  have HZ0 : Hid (∀ W, Below Z.heap.size Z W → W.cell? ⟨w.heap.size, 0, none⟩ = some (.slice A l.length c)) := hide (fun W hW => (hW.cell (p := ⟨_, 0, none⟩) lz).trans z0)
  have HB := hide hbz
  by_cases hc : checkF l = 0
  · have hv := (checkF_ok hc).2.1
    have hs := (check_rcan hc).apart
    have hn := (checkF_ok hc).1
    have HS : Hid (∀ W, Below Z.heap.size Z W → Calls Tryz.prog 75 #[.int .i64 2000001, .func (.func 76) #[] #[.pointer (some ⟨w.heap.size, 0, none⟩)]] W fun e w' => e = .returned (.int .i64 (peakF l)) ∧ Below W.heap.size W w') := hide (fun W hW => by
      have h := search_any (w := W) 76 #[.pointer (some ⟨w.heap.size, 0, none⟩)] 2000001 (fun i => !fitsF l ((i : Int) + 1)) enter_peakC (by omega)
        (fun W2 i hi hW2 => peakC_any (((((hr.below hbz).mono hbz.size).below hW).mono hW.size).below hW2) hW2.size hn hv ((hW2.cell (p := ⟨_, 0, none⟩) (by have := hW.size; show w.heap.size < W.heap.size; omega)).trans (HZ0.out W hW)) i hi) (fits_mono hv hs)
      simp only [Bool.not_not] at h
      exact h)
    have HF : Hid (peakR l = (((peakF l : Nat) : Int), 0)) := hide (by unfold peakR; rw [if_pos hc])
    rw [hc] at HCK
    clear hc hv hs hn hr hl hbz
    generalize peakF l = F at *
    go_enter Tryz.func35, Tryz.ntmps35
    go_upto_region 1 with fail
    rw [← hZ]
    clear hZ
    go_wp2_with (fail)
    refine HCK.out.mono ?_
    rintro e w1 ⟨rfl, hb⟩
    have HB1 := hide hb
    clear hb HCK z0
    go_wp2_with (fail)
    refine (HS.out _ HB1.out).mono ?_
    rintro e w2 ⟨rfl, hb⟩
    have HB2 := hide (HB.out.trans ((HB1.out.trans (hb.mono HB1.out.size)).mono HB.out.size))
    clear hb HB1 HS
    go_wp2_with (fail)
    go_ret2
    exact ⟨by rw [HF.out]; rfl, HB2.out⟩
  · have HF : Hid (peakR l = (0, checkF l)) := hide (if_neg hc)
    have hne : (checkF l != 0) = true := by simpa using hc
    clear hc hr hl hbz
    generalize checkF l = ck at *
    go_enter Tryz.func35, Tryz.ntmps35
    go_upto_region 1 with fail
    rw [← hZ]
    clear hZ
    go_wp2_with (fail)
    refine HCK.out.mono ?_
    rintro e w1 ⟨rfl, hb⟩
    have HB1 := hide (HB.out.trans (hb.mono HB.out.size))
    clear hb HCK z0
    go_wp2_with (fail)
    go_ret2
    exact ⟨by rw [HF.out]; rfl, HB1.out⟩
end Go.Proofs.YtdolpeljengpaaaGreat

/- The walks of the two functions that reckon a greatest common divisor, and of the two that make a ratio, up to 1000000000. -/
namespace Go.Proofs.YtdolpeljengpaaaGreat
open Go.RowKit
set_option linter.unusedVariables false
set_option linter.unusedSimpArgs false

set_option maxHeartbeats 400000 in
theorem gcd_any (a b : Nat) (w : World) (ha : a ≤ 1000000000) (hb : b ≤ 1000000000) :
    Calls Tryz.prog 136 #[.int .u64 a, .int .u64 b] w fun e w' => e = .returned (.int .u64 (Nat.gcd a b : Nat)) ∧ Below w.heap.size w w' := by
  obtain ⟨g, hg⟩ : ∃ g, Nat.gcd a b = g := ⟨_, rfl⟩
  rw [hg]
  have HG := hide hg
  clear hg
  go_enter Tryz.func136, Tryz.ntmps136
  go_wp2
  go_loopw [0, 1] (fun s0 s1 wr => ∃ x y : Nat, s0 = .int .u64 (x : Int) ∧ s1 = .int .u64 (y : Int) ∧ x ≤ 1000000000 ∧ y ≤ 1000000000 ∧ Hid (Nat.gcd x y = g) ∧ Below w.heap.size w wr) (fun _ s1 _ => (intOf s1).toNat)
  case atStart => exact ⟨a, b, rfl, rfl, ha, hb, HG, Below.refl _ _⟩
  case round =>
    obtain ⟨x, y, rfl, rfl, hx, hy, HX, hB⟩ := hrel
    by_cases h0 : y = 0
    · subst h0
      go_wp2
      go_ret
      have := HX.out
      rw [Nat.gcd_zero_right] at this
      exact ⟨ret_eq (int_eq (by rw [this])), hB⟩
    · have h0' : ((y : Int) != 0) = true := by simpa using h0
      have h1 : 1 ≤ (y : Int) := by omega
      have hm : x % y < y := Nat.mod_lt _ (by omega)
      clear h0
      go_wp2
      go_quiet (fail)
      go_wp2
      go_roundw
      case rel =>
        refine ⟨y, x % y, rfl, by rw [Int.natCast_emod], hy, by omega, ?_, below_drewN hB _⟩
        have := HX.out
        rw [Nat.gcd_comm, Nat.gcd_rec, Nat.gcd_comm] at this
        exact hide (by rw [Nat.gcd_comm]; rw [← this]; rw [Nat.gcd_comm])
      case measure => simp [intOf]; omega

set_option maxHeartbeats 400000 in
theorem gcdCommon_any (a b : Nat) (w : World) (ha : a ≤ 1000000000) (hb : b ≤ 1000000000) :
    Calls Tryz.prog 137 #[.int .i64 a, .int .i64 b] w fun e w' => e = .returned (.int .i64 (Nat.gcd a b : Nat)) ∧ Below w.heap.size w w' := by
  obtain ⟨g, hg⟩ : ∃ g, Nat.gcd a b = g := ⟨_, rfl⟩
  rw [hg]
  have HG := hide hg
  clear hg
  go_enter Tryz.func137, Tryz.ntmps137
  go_wp2
  go_loopw [0, 1] (fun s0 s1 wr => ∃ x y : Nat, s0 = .int .i64 (x : Int) ∧ s1 = .int .i64 (y : Int) ∧ x ≤ 1000000000 ∧ y ≤ 1000000000 ∧ Hid (Nat.gcd x y = g) ∧ Below w.heap.size w wr) (fun _ s1 _ => (intOf s1).toNat)
  case atStart => exact ⟨a, b, rfl, rfl, ha, hb, HG, Below.refl _ _⟩
  case round =>
    obtain ⟨x, y, rfl, rfl, hx, hy, HX, hB⟩ := hrel
    by_cases h0 : y = 0
    · subst h0
      go_wp2
      go_ret
      have := HX.out
      rw [Nat.gcd_zero_right] at this
      exact ⟨ret_eq (int_eq (by rw [this])), hB⟩
    · have h0' : ((y : Int) != 0) = true := by simpa using h0
      have h1 : 1 ≤ (y : Int) := by omega
      have hm : x % y < y := Nat.mod_lt _ (by omega)
      clear h0
      go_wp2
      go_quiet (fail)
      go_wp2
      go_roundw
      case rel =>
        refine ⟨y, x % y, rfl, by rw [Int.natCast_emod], hy, by omega, ?_, below_drewN hB _⟩
        have := HX.out
        rw [Nat.gcd_comm, Nat.gcd_rec, Nat.gcd_comm] at this
        exact hide (by rw [Nat.gcd_comm]; rw [← this]; rw [Nat.gcd_comm])
      case measure => simp [intOf]; omega

theorem size_any (a : Int) (w : World) (h1 : 0 ≤ a) (h2 : a ≤ 1000000000) : Calls Tryz.prog 135 #[.int .i64 a] w fun e w' => e = .returned (.int .u64 a) ∧ w = w' := by
  go_enter Tryz.func135, Tryz.ntmps135
  go_wp2
  go_ret
  exact ⟨rfl, rfl⟩

theorem div_bd (a g : Nat) (hg : 1 ≤ g) (ha : a ≤ 1000000000) : 0 ≤ (a : Int) / (g : Int) ∧ (a : Int) / (g : Int) ≤ 1000000000 := by
  have h := Nat.div_le_self a g
  have e : (a : Int) / (g : Int) = ((a / g : Nat) : Int) := by rw [Int.natCast_ediv]
  rw [e]
  exact ⟨Int.natCast_nonneg _, Int.ofNat_le.2 (Nat.le_trans h ha)⟩

set_option maxHeartbeats 1000000 in
theorem ratMk_any (a n g : Nat) (w : World) (ha : a ≤ 1000000000) (hn : n ≤ 1000000000) (h1 : 1 ≤ n) (hg : Hid (Nat.gcd a n = g)) :
    Calls Tryz.prog 86 #[.int .i64 a, .int .i64 n] w fun e w' => e = .returned (.tuple #[.agg #[.int .i64 ((a : Int) / (g : Int)), .int .i64 ((n : Int) / (g : Int))], .int .i64 0]) ∧ Below w.heap.size w w' := by
  have hg1 : 1 ≤ g := by have := hg.out; have := Nat.gcd_pos_of_pos_right a (n := n) (by omega); omega
  have hgi : 1 ≤ (g : Int) := by omega
  obtain ⟨d1, d1'⟩ := div_bd a g hg1 ha
  obtain ⟨d2, d2'⟩ := div_bd n g hg1 hn
  have hgl : g ≤ n := by have := hg.out; have := Nat.gcd_le_right (m := a) (n := n) (by omega); omega
  have hs1 := fun w => size_any a w (by omega) (by omega)
  have hs2 := fun w => size_any n w (by omega) (by omega)
  have hgc := fun w => (gcd_any a n w ha hn).mono (R' := fun e w' => e = .returned (.int .u64 g) ∧ Below w.heap.size w w') fun e w' h => by rw [hg.out] at h; exact h
  have hni : ((n : Int) == 0) = false := by simp; omega
  have hna : decide ((a : Int) < 0) = false := by simp
  have hnn : decide ((n : Int) < 0) = false := by simp
  clear hg
  go_enter Tryz.func86, Tryz.ntmps86
  go_wp2_with (first
    | (go_at_call_of 135 (Value.int .i64 (a : Int)); refine (hs1 _).mono ?_; rintro e w' ⟨rfl, rfl⟩)
    | (go_at_call_of 135 (Value.int .i64 (n : Int)); refine (hs2 _).mono ?_; rintro e w' ⟨rfl, rfl⟩)
    | (go_at_call 136; refine (hgc _).mono ?_; rintro e w1 ⟨rfl, hb1⟩; obtain ⟨hc1, hf1⟩ := bcell hb1; have hz1 : w.heap.size < w1.heap.size := by have := hb1.size; simp at this; omega))
  refine wp_hab fun hab => ?_
  refine wp_region_above (by kernel_rfl) (by kernel_rfl) ?_
  repeat (go_big_quiet_step (fail))
  refine wpQuiet_nil ?_
  refine above_ends fun w2 hb2 => ?_
  clear hab
  obtain ⟨hc2, hf2⟩ := bcell hb2
  have hz2 : w.heap.size < w2.heap.size := by have := hb2.size; omega
  go_wp2
  refine bodyPost_ret (v := .tuple #[.agg #[.int .i64 ((a : Int) / (g : Int)), .int .i64 ((n : Int) / (g : Int))], .int .i64 0]) (by simp [results, Tryz.results86, go_sem, hc1, hc2, hz1, hz2]) rfl ⟨rfl, ?_⟩
  have b2 := (((Below.refl _ _).alloc (Nat.le_refl _) _).trans (hb1.mono (by simp))).trans (hb2.mono (by omega))
  exact ((b2.setCell (by simp) _).setCell (by simp) _).alloc (by simp; omega) _

theorem coprime_div (a n g : Nat) (h1 : 1 ≤ n) (hg : Nat.gcd a n = g) : Nat.gcd (a / g) (n / g) = 1 := by
  subst hg
  rw [Nat.gcd_div (Nat.gcd_dvd_left a n) (Nat.gcd_dvd_right a n), Nat.div_self (Nat.gcd_pos_of_pos_right a (by omega))]

set_option maxHeartbeats 1000000 in
theorem rcheck01_any (x y : Nat) (w : World) (hx : x ≤ 1000000000) (hy : y ≤ 1000000000) (h1 : 1 ≤ y) (hc : Nat.gcd x y = 1) :
    Calls Tryz.prog 138 #[.agg #[.int .i64 x, .int .i64 y]] w fun e w' => e = .returned (.int .i64 0) ∧ Below w.heap.size w w' := by
  have hgc := fun w => (gcdCommon_any x y w hx hy).mono (R' := fun e w' => e = .returned (.int .i64 1) ∧ Below w.heap.size w w') fun e w' h => by rw [hc] at h; exact h
  clear hc
  go_enter Tryz.func138, Tryz.ntmps138
  go_wp2_with (go_at_call 137; refine (hgc _).mono ?_; rintro e w1 ⟨rfl, hb1⟩)
  go_ret
  exact ⟨rfl, ((Below.refl _ _).alloc (Nat.le_refl _) _).trans (hb1.mono (by simp))⟩

set_option maxHeartbeats 1000000 in
theorem rmake_any (a n g : Nat) (w : World) (ha : a ≤ 1000000000) (hn : n ≤ 1000000000) (h1 : 1 ≤ n) (hg : Hid (Nat.gcd a n = g)) :
    Calls Tryz.prog 87 #[.int .i64 a, .int .i64 n] w fun e w' => e = .returned (.tuple #[.agg #[.int .i64 ((a : Int) / (g : Int)), .int .i64 ((n : Int) / (g : Int))], .int .i64 0]) ∧ Below w.heap.size w w' := by
  have hg1 : 1 ≤ g := by have := hg.out; have := Nat.gcd_pos_of_pos_right a (n := n) (by omega); omega
  have hgi : 1 ≤ (g : Int) := by omega
  obtain ⟨d1, d1'⟩ := div_bd a g hg1 ha
  obtain ⟨d2, d2'⟩ := div_bd n g hg1 hn
  have hgl : g ≤ n := by have := hg.out; have := Nat.gcd_le_right (m := a) (n := n) (by omega); omega
  have hgc := fun w => (gcdCommon_any a n w ha hn).mono (R' := fun e w' => e = .returned (.int .i64 g) ∧ Below w.heap.size w w') fun e w' h => by rw [hg.out] at h; exact h
  have hch := fun w => (rcheck01_any (a / g) (n / g) w (Nat.le_trans (Nat.div_le_self _ _) ha) (Nat.le_trans (Nat.div_le_self _ _) hn) (Nat.div_pos hgl hg1) (coprime_div a n g h1 hg.out))
  simp only [Int.natCast_ediv] at hch
  have hni : ((n : Int) == 0) = false := by simp; omega
  have hnn : decide ((n : Int) < 0) = false := by simp
  have hm1 : ((a : Int) == -9223372036854775808) = false := by simp
  have hm2 : ((n : Int) == -9223372036854775808) = false := by simp
  clear hg
  go_enter Tryz.func87, Tryz.ntmps87
  go_wp2_with (first
    | (go_at_call 137; refine (hgc _).mono ?_; rintro e w1 ⟨rfl, hb1⟩; obtain ⟨hc1, hf1⟩ := bcell hb1; have hz1 : w.heap.size < w1.heap.size := by have := hb1.size; simp at this; omega)
    | (go_at_call 138; refine (hch _).mono ?_; rintro e w2 ⟨rfl, hb2⟩; obtain ⟨hc2, hf2⟩ := bcell hb2; have hz2 : w1.heap.size < w2.heap.size := by have := hb2.size; simp at this; omega))
  go_region
  go_wp2_with (go_at_call 138; refine (hch _).mono ?_; rintro e w2 ⟨rfl, hb2⟩; obtain ⟨hc2, hf2⟩ := bcell hb2; have hz2 : w1.heap.size < w2.heap.size := by have := hb2.size; simp at this; omega)
  refine bodyPost_ret (v := .tuple #[.agg #[.int .i64 ((a : Int) / (g : Int)), .int .i64 ((n : Int) / (g : Int))], .int .i64 0]) (by simp [results, Tryz.results87, go_sem, hc1, hc2, hz1, hz2, Nat.lt_succ_of_lt hz1]) rfl ⟨rfl, ?_⟩
  have b2 := ((((Below.refl _ _).alloc (Nat.le_refl _) _).trans (hb1.mono (by simp))).alloc (by omega) _).drew.trans (hb2.mono (by simp; omega))
  exact (b2.setCell (by simp) _).setCell (by simp) _
end Go.Proofs.YtdolpeljengpaaaGreat
