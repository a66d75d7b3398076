/- region.Cross, region.Move, region.Flip. -/
import Derived.Test.YtamnaojheecopaaChk
namespace Go.Proofs.Ytamnaojheecopaa
open Go.RowKit
set_option linter.unusedVariables false
set_option linter.unusedSimpArgs false

/-- A list of spans and an error code come back. -/
def SpnRet (B : Nat) (x : List Sp × Int) (e : Ending) (w' : World) : Prop :=
  ∃ A c, e = .returned (.tuple #[.slice A x.1.length c, .int .i64 x.2]) ∧ w'.ownsRow B 78 2 (.slice A x.1.length c) x.1.length (x.1.flatMap encS)
def crossF (l : List R4) (x : Int) : List Sp × Int := if checkF l = 0 then (crossL l x, 0) else ([], checkF l)
def mv (x y : Int) (r : R4) : R4 := ⟨r.x0 + x, r.y0 + y, r.x1 + x, r.y1 + y⟩
def inMv (x : Int) : Prop := -2000000 ≤ x ∧ x ≤ 2000000
instance (x : Int) : Decidable (inMv x) := by unfold inMv; infer_instance
def moveF (l : List R4) (x y : Int) : List R4 × Int := if checkF l = 0 then (if l = [] ∨ (inMv x ∧ inMv y ∧ ∀ r ∈ l, valid4 (mv x y r)) then (l.map (mv x y), 0) else ([], 16)) else ([], checkF l)
def flip4 (r : R4) : R4 := ⟨r.y0, r.x0, r.y1, r.x1⟩
def flipF (l : List R4) : List R4 × Int := if checkF l = 0 then madeF (l.map flip4) else ([], checkF l)
theorem map_take {α β : Type} (f : α → β) {l : List α} {m : Nat} {r : α} (h : l[m]? = some r) : (l.take (m + 1)).map f = (l.take m).map f ++ [f r] := by
  obtain ⟨hm, hp⟩ := List.getElem?_eq_some_iff.1 h
  rw [List.take_succ_eq_append_getElem hm, hp]
  simp
theorem flip_valid {r : R4} (h : valid4 r) : valid4 (flip4 r) := ⟨h.2.1, h.1, h.2.2.2.2.1, h.2.2.2.2.2, h.2.2.1, h.2.2.2.1⟩

set_option maxRecDepth 100000 in
set_option maxHeartbeats 4000000 in
theorem cross_any {w : World} {v : Value} {l : List R4} (hr : RdK encR 4 w w.heap.size v l) (hl : l.length ≤ 100000000) (x : Int) :
    Calls Try.prog 22 #[v, .int .i64 x] w fun e w' => SpnRet w.heap.size (crossF l x) e w' ∧ Below w.heap.size w w' := by
  obtain ⟨i1, gi, gz0, gz1, gz2⟩ := info_parts infoRc
  obtain ⟨i2, fi, fz0, fz1, fz2⟩ := info_parts infoSp
  have hck := check_any hr hl
  obtain ⟨A, c, hv, hc⟩ := id hr
  subst hv
  have HCK := hide hck
  have HRC := hide hc
  clear hck hr hc
  by_cases h0 : checkF l = 0
  · obtain ⟨k1, k2, _⟩ := checkF_ok h0
    have hf := congrArg (fun b : Int => b) h0
    rw [h0] at HCK
    have HV := hide k2
    have H0 := hide h0
    clear k2 hf h0
    go_enter Try.func22, Try.ntmps22
    go_wp2_with (go_at_call 14; refine HCK.out.mono ?_; rintro e w1 ⟨rfl, hb1⟩)
    go_loopw [7, 17] (fun v i wr => ∃ m : Nat, m ≤ l.length ∧ i = .int .i64 m ∧ ∃ Av nv cv, v = .slice Av nv cv ∧ Hid (nv = (crossL (l.take m) x).length) ∧ Hid (wr.ownsRow w.heap.size 78 2 v nv ((crossL (l.take m) x).flatMap encS)) ∧ Hid (Below w.heap.size w wr)) (fun _ i _ => l.length - (intOf i).toNat)
    case atStart => exact ⟨0, Nat.zero_le _, rfl, none, 0, 0, rfl, hide rfl, hide (World.ownsRow_nil _ _ _ _), hide hb1⟩
    case round =>
      clear hb1
      obtain ⟨m, hm, rfl, Av, nv, cv, rfl, HN, HO, HB⟩ := hrel
      by_cases hlt : m < l.length
      · obtain ⟨⟨x0, y0, x1, y1⟩, hp⟩ : ∃ p, l[m]? = some p := ⟨_, List.getElem?_eq_getElem hlt⟩
        obtain ⟨b, o, rfl, hbl, k⟩ := HRC.out (by intro e; rw [e] at hlt; simp at hlt)
        have d0 : wr.cell? ⟨b, o + m * 4, none⟩ = some (.int .i64 x0) := (HB.out.cell (p := ⟨b, _, none⟩) hbl).trans (k m _ hp 0 _ rfl)
        have d1 : wr.cell? ⟨b, o + m * 4 + 1, none⟩ = some (.int .i64 y0) := (HB.out.cell (p := ⟨b, _, none⟩) hbl).trans (k m _ hp 1 _ rfl)
        have d2 : wr.cell? ⟨b, o + m * 4 + 2, none⟩ = some (.int .i64 x1) := (HB.out.cell (p := ⟨b, _, none⟩) hbl).trans (k m _ hp 2 _ rfl)
        have d3 : wr.cell? ⟨b, o + m * 4 + 3, none⟩ = some (.int .i64 y1) := (HB.out.cell (p := ⟨b, _, none⟩) hbl).trans (k m _ hp 3 _ rfl)
        have mz : (m : Int) < (l.length : Int) := by omega
        have HP := hide hp
        clear k hp
        have HT := hide (crossL_take (c := x) HP.out)
        have hnv : nv ≤ 400 := by have := HN.out; have h2 := crossL_len (l.take m) x; rw [List.length_take] at h2; omega
        have hsz := HB.out.size
        by_cases c1 : x0 ≤ x
        · by_cases c2 : x < x1
          · rw [if_pos ⟨c1, c2⟩] at HT
            generalize crossL (l.take m) x = E0 at *
            go_wp2_with (at_builtin; go_loud (refine wpList_append_lies _ rfl (.tmp 31) (.tmp 37) 48 rfl w.heap.size 78 i2 (.agg #[.int .i64 0, .int .i64 0]) 2 16 Try.underlying48 fi fz0 fz1 fz2 rfl (by decide) _ nv _ rfl (World.ownsRow.alloc (World.ownsRow.alloc HO.out _) _) ⟨wr.heap.size + 1, 0, none⟩ 1 1 [.int .i64 y0, .int .i64 y1] rfl rfl (news_new (wr.alloc _) _ _ _ (by simp)) (ints_one rfl) (by omega) (by unfold maxLen; omega) (by omega) (by simp; omega) _ rfl ?_))
            intro g9 cap9 w9 hown9 hgrow9 _ _
            have hx9 : E0.flatMap encS ++ [.int .i64 y0, .int .i64 y1] = (E0 ++ [(y0, y1)]).flatMap encS := by simp [encS]
            rw [hx9, ← HT.out] at hown9
            have HB9 := hide (((HB.out.alloc hsz _).alloc (by simp; omega) _).grown hgrow9 (by simp; omega) (fun q hq => (HO.out.lt q hq).1))
            have HN9 := hide (own_len (k := 2) hown9 (fun _ => rfl) (by omega))
            have HO9 := hide hown9
            clear hown9 hgrow9 hx9
            go_wp2
            go_roundw
            case rel => exact ⟨m + 1, by omega, by go_num, _, _, cap9, rfl, HN9, HO9, HB9⟩
            case measure => simp [intOf]; omega
          · rw [if_neg (fun h => c2 h.2), List.append_nil] at HT
            have c2' : x1 ≤ x := by omega
            go_wp2
            go_roundw
            case rel => exact ⟨m + 1, by omega, by go_num, Av, nv, cv, rfl, hide (by rw [HT.out]; exact HN.out), hide (by rw [HT.out]; exact HO.out.alloc _), hide (HB.out.alloc hsz _)⟩
            case measure => simp [intOf]; omega
        · rw [if_neg (fun h => c1 h.1), List.append_nil] at HT
          have c1' : x < x0 := by omega
          go_wp2
          go_roundw
          case rel => exact ⟨m + 1, by omega, by go_num, Av, nv, cv, rfl, hide (by rw [HT.out]; exact HN.out), hide (by rw [HT.out]; exact HO.out.alloc _), hide (HB.out.alloc hsz _)⟩
          case measure => simp [intOf]; omega
      · have mz : ¬ (m : Int) < (l.length : Int) := by omega
        have ht : l.take m = l := List.take_of_length_le (by omega)
        rw [ht] at HN HO
        have HF : Hid (crossF l x = (crossL l x, 0)) := hide (if_pos H0.out)
        clear ht
        go_wp2
        go_ret2
        exact ⟨⟨Av, cv, by rw [HF.out, HN.out]; rfl, by rw [HF.out]; exact own_n (HN.out ▸ HO.out) rfl⟩, HB.out⟩
  · have HF : Hid (crossF l x = ([], checkF l)) := hide (if_neg h0)
    generalize checkF l = ck at *
    have hne : (ck != 0) = true := by simpa using h0
    clear h0
    go_enter Try.func22, Try.ntmps22
    go_wp2_with (go_at_call 14; refine HCK.out.mono ?_; rintro e w1 ⟨rfl, hb1⟩)
    go_ret2
    exact ⟨⟨none, 0, by rw [HF.out]; rfl, by rw [HF.out]; exact World.ownsRow_nil _ _ _ _⟩, hb1⟩

set_option maxRecDepth 100000 in
set_option maxHeartbeats 4000000 in
theorem flip_any {w : World} {v : Value} {l : List R4} (hr : RdK encR 4 w w.heap.size v l) (hl : l.length ≤ 100000000) :
    Calls Try.prog 26 #[v] w fun e w' => RegRet w.heap.size (flipF l) e w' ∧ Below w.heap.size w w' := by
  obtain ⟨i1, gi, gz0, gz1, gz2⟩ := info_parts infoRc
  obtain ⟨i2, fi, fz0, fz1, fz2⟩ := info_parts infoSp
  have hck := check_any hr hl
  obtain ⟨A, c, hv, hc⟩ := id hr
  subst hv
  have HCK := hide hck
  have HRC := hide hc
  clear hck hr hc
  by_cases h0 : checkF l = 0
  · obtain ⟨k1, k2, _⟩ := checkF_ok h0
    have hf := congrArg (fun b : Int => b) h0
    rw [h0] at HCK
    have HV := hide k2
    have H0 := hide h0
    clear k2 hf h0
    go_enter Try.func26, Try.ntmps26
    go_wp2_with (go_at_call 14; refine HCK.out.mono ?_; rintro e w1 ⟨rfl, hb1⟩)
    go_loopw [5, 15] (fun v i wr => ∃ m : Nat, m ≤ l.length ∧ i = .int .i64 m ∧ ∃ Av nv cv, v = .slice Av nv cv ∧ Hid (nv = ((l.take m).map flip4).length) ∧ Hid (wr.ownsRow w.heap.size 43 4 v nv (((l.take m).map flip4).flatMap encR)) ∧ Hid (Below w.heap.size w wr)) (fun _ i _ => l.length - (intOf i).toNat)
    case atStart => exact ⟨0, Nat.zero_le _, rfl, none, 0, 0, rfl, hide rfl, hide (World.ownsRow_nil _ _ _ _), hide hb1⟩
    case round =>
      clear hb1
      obtain ⟨m, hm, rfl, Av, nv, cv, rfl, HN, HO, HB⟩ := hrel
      by_cases hlt : m < l.length
      · obtain ⟨⟨x0, y0, x1, y1⟩, hp⟩ : ∃ p, l[m]? = some p := ⟨_, List.getElem?_eq_getElem hlt⟩
        obtain ⟨b, o, rfl, hbl, k⟩ := HRC.out (by intro e; rw [e] at hlt; simp at hlt)
        have d0 : wr.cell? ⟨b, o + m * 4, none⟩ = some (.int .i64 x0) := (HB.out.cell (p := ⟨b, _, none⟩) hbl).trans (k m _ hp 0 _ rfl)
        have d1 : wr.cell? ⟨b, o + m * 4 + 1, none⟩ = some (.int .i64 y0) := (HB.out.cell (p := ⟨b, _, none⟩) hbl).trans (k m _ hp 1 _ rfl)
        have d2 : wr.cell? ⟨b, o + m * 4 + 2, none⟩ = some (.int .i64 x1) := (HB.out.cell (p := ⟨b, _, none⟩) hbl).trans (k m _ hp 2 _ rfl)
        have d3 : wr.cell? ⟨b, o + m * 4 + 3, none⟩ = some (.int .i64 y1) := (HB.out.cell (p := ⟨b, _, none⟩) hbl).trans (k m _ hp 3 _ rfl)
        have mz : (m : Int) < (l.length : Int) := by omega
        have HP := hide hp
        clear k hp
        have HT := hide (map_take flip4 HP.out)
        have hnv : nv ≤ 400 := by have := HN.out; rw [List.length_map, List.length_take] at this; omega
        have hsz := HB.out.size
        generalize (l.take m).map flip4 = E0 at *
        go_wp2_with (at_builtin; go_loud (refine wpList_append_lies _ rfl (.tmp 19) (.tmp 29) 22 rfl w.heap.size 43 i1 (.agg #[.int .i64 0, .int .i64 0, .int .i64 0, .int .i64 0]) 4 32 Try.underlying22 gi gz0 gz1 gz2 rfl (by decide) _ nv _ rfl (World.ownsRow.alloc (World.ownsRow.alloc HO.out _) _) ⟨wr.heap.size + 1, 0, none⟩ 1 1 [.int .i64 y0, .int .i64 x0, .int .i64 y1, .int .i64 x1] rfl rfl (news_new (wr.alloc _) _ _ _ (by simp)) (ints_one rfl) (by omega) (by unfold maxLen; omega) (by omega) (by simp; omega) _ rfl ?_))
        intro g9 cap9 w9 hown9 hgrow9 _ _
        have hx9 : E0.flatMap encR ++ [.int .i64 y0, .int .i64 x0, .int .i64 y1, .int .i64 x1] = (E0 ++ [flip4 ⟨x0, y0, x1, y1⟩]).flatMap encR := by simp [encR, flip4]
        rw [hx9, ← HT.out] at hown9
        have HB9 := hide (((HB.out.alloc hsz _).alloc (by simp; omega) _).grown hgrow9 (by simp; omega) (fun q hq => (HO.out.lt q hq).1))
        have HN9 := hide (own_len (k := 4) hown9 (fun _ => rfl) (by omega))
        have HO9 := hide hown9
        clear hown9 hgrow9 hx9
        go_wp2
        go_roundw
        case rel => exact ⟨m + 1, by omega, by go_num, _, _, cap9, rfl, HN9, HO9, HB9⟩
        case measure => simp [intOf]; omega
      · have mz : ¬ (m : Int) < (l.length : Int) := by omega
        have ht : l.take m = l := List.take_of_length_le (by omega)
        rw [ht] at HN HO
        have HF : Hid (flipF l = madeF (l.map flip4)) := hide (if_pos H0.out)
        have hmd := made_any (w := wr) (own_rd (own_n HO.out HN.out) (fun _ => rfl)) (by simp; omega) (fun r hr => by obtain ⟨q, hq, rfl⟩ := List.mem_map.1 hr; exact flip_valid (HV.out q hq))
        have HMD := hide hmd
        have hsz := HB.out.size
        clear ht hmd
        go_wp2_with (go_at_call 42; refine HMD.out.mono ?_; rintro e w2 ⟨⟨A2, c2, rfl, ho2⟩, hb2⟩; have HO2 := hide ho2; clear ho2)
        go_ret2
        exact ⟨⟨A2, c2, by rw [HF.out]; rfl, by rw [HF.out]; exact own_base HO2.out hsz⟩, HB.out.trans (hb2.mono hsz)⟩
  · have HF : Hid (flipF l = ([], checkF l)) := hide (if_neg h0)
    generalize checkF l = ck at *
    have hne : (ck != 0) = true := by simpa using h0
    clear h0
    go_enter Try.func26, Try.ntmps26
    go_wp2_with (go_at_call 14; refine HCK.out.mono ?_; rintro e w1 ⟨rfl, hb1⟩)
    go_ret2
    exact ⟨⟨none, 0, by rw [HF.out]; rfl, by rw [HF.out]; exact World.ownsRow_nil _ _ _ _⟩, hb1⟩

set_option maxRecDepth 100000 in
set_option maxHeartbeats 4000000 in
theorem move_any {w : World} {v : Value} {l : List R4} (hr : RdK encR 4 w w.heap.size v l) (hl : l.length ≤ 100000000) (x y : Int) :
    Calls Try.prog 24 #[v, .int .i64 x, .int .i64 y] w fun e w' => RegRet w.heap.size (moveF l x y) e w' ∧ Below w.heap.size w w' := by
  obtain ⟨i1, gi, gz0, gz1, gz2⟩ := info_parts infoRc
  obtain ⟨i2, fi, fz0, fz1, fz2⟩ := info_parts infoSp
  have hck := check_any hr hl
  obtain ⟨A, c, hv, hc⟩ := id hr
  subst hv
  have HCK := hide hck
  have HRC := hide hc
  clear hck hr hc
  by_cases h0 : checkF l = 0
  · obtain ⟨k1, k2, _⟩ := checkF_ok h0
    have hf := congrArg (fun b : Int => b) h0
    rw [h0] at HCK
    have HV := hide k2
    have H0 := hide h0
    clear k2 hf h0
    have HMF : Hid (moveF l x y = if l = [] ∨ (inMv x ∧ inMv y ∧ ∀ r ∈ l, valid4 (mv x y r)) then (l.map (mv x y), 0) else ([], 16)) := hide (if_pos H0.out)
    by_cases hle : l = []
    · have HF : Hid (moveF l x y = ([], 0)) := hide (by rw [HMF.out, if_pos (.inl hle), hle]; rfl)
      subst hle
      go_enter Try.func24, Try.ntmps24
      go_wp2_with (go_at_call 14; refine HCK.out.mono ?_; rintro e w1 ⟨rfl, hb1⟩)
      go_loopw [9, 38] (fun v i wr => v = .slice none 0 0 ∧ i = .int .i64 0 ∧ Hid (Below w.heap.size w wr)) (fun _ _ _ => 0)
      case atStart => exact ⟨rfl, rfl, hide hb1⟩
      case round =>
        obtain ⟨rfl, rfl, HB⟩ := hrel
        go_wp2
        go_ret2
        exact ⟨⟨none, 0, by rw [HF.out]; rfl, by rw [HF.out]; exact World.ownsRow_nil _ _ _ _⟩, HB.out⟩
    · have hlp : (0 : Int) < (l.length : Int) := by have := List.length_pos_iff.2 hle; omega
      have hlpn : 0 < l.length := List.length_pos_iff.2 hle
      by_cases hin : inMv x ∧ inMv y
      · obtain ⟨⟨x2, x3⟩, y2, y3⟩ := hin
        go_enter Try.func24, Try.ntmps24
        go_wp2_with (go_at_call 14; refine HCK.out.mono ?_; rintro e w1 ⟨rfl, hb1⟩)
        go_loopw [9, 38] (fun v i wr => ∃ m : Nat, m ≤ l.length ∧ i = .int .i64 m ∧ ∃ Av nv cv, v = .slice Av nv cv ∧ Hid (nv = ((l.take m).map (mv x y)).length) ∧ Hid (wr.ownsRow w.heap.size 43 4 v nv (((l.take m).map (mv x y)).flatMap encR)) ∧ Hid (Below w.heap.size w wr) ∧ Hid (∀ r ∈ l.take m, valid4 (mv x y r))) (fun _ i _ => l.length - (intOf i).toNat)
        case atStart => exact ⟨0, Nat.zero_le _, rfl, none, 0, 0, rfl, hide rfl, hide (World.ownsRow_nil _ _ _ _), hide hb1, hide (by simp)⟩
        case round =>
          clear hb1
          obtain ⟨m, hm, rfl, Av, nv, cv, rfl, HN, HO, HB, HVM⟩ := hrel
          by_cases hlt : m < l.length
          · obtain ⟨⟨x0, y0, x1, y1⟩, hp⟩ : ∃ p, l[m]? = some p := ⟨_, List.getElem?_eq_getElem hlt⟩
            obtain ⟨b, o, rfl, hbl, k⟩ := HRC.out (by intro e; rw [e] at hlt; simp at hlt)
            have d0 : wr.cell? ⟨b, o + m * 4, none⟩ = some (.int .i64 x0) := (HB.out.cell (p := ⟨b, _, none⟩) hbl).trans (k m _ hp 0 _ rfl)
            have d1 : wr.cell? ⟨b, o + m * 4 + 1, none⟩ = some (.int .i64 y0) := (HB.out.cell (p := ⟨b, _, none⟩) hbl).trans (k m _ hp 1 _ rfl)
            have d2 : wr.cell? ⟨b, o + m * 4 + 2, none⟩ = some (.int .i64 x1) := (HB.out.cell (p := ⟨b, _, none⟩) hbl).trans (k m _ hp 2 _ rfl)
            have d3 : wr.cell? ⟨b, o + m * 4 + 3, none⟩ = some (.int .i64 y1) := (HB.out.cell (p := ⟨b, _, none⟩) hbl).trans (k m _ hp 3 _ rfl)
            have mz : (m : Int) < (l.length : Int) := by omega
            have HP := hide hp
            clear k hp
            have HT := hide (map_take (mv x y) HP.out)
            have hnv : nv ≤ 400 := by have := HN.out; rw [List.length_map, List.length_take] at this; omega
            have hsz := HB.out.size
            obtain ⟨v1, v2, ⟨v3, v4⟩, ⟨v5, v6⟩, ⟨v7, v8⟩, ⟨v9, v10⟩⟩ := HV.out _ (List.mem_of_getElem? HP.out)
            simp only at v1 v2 v3 v4 v5 v6 v7 v8 v9 v10
            have hva : ∀ W, Calls Try.prog 41 #[.agg #[.int .i64 (x0 + x), .int .i64 (y0 + y), .int .i64 (x1 + x), .int .i64 (y1 + y)]] W fun e w' => e = .returned (.bool (decide (valid4 ⟨x0 + x, y0 + y, x1 + x, y1 + y⟩))) ∧ Below W.heap.size W w' := fun W => valid_any ⟨x0 + x, y0 + y, x1 + x, y1 + y⟩ W
            have HVA := hide hva
            generalize (l.take m).map (mv x y) = E0 at *
            clear hva
            by_cases hq : valid4 (mv x y ⟨x0, y0, x1, y1⟩)
            · have HQ := hide hq
              have HQD : Hid (decide (valid4 ⟨x0 + x, y0 + y, x1 + x, y1 + y⟩) = true) := hide (decide_eq_true hq)
              clear hq
              go_wp2_with (first
                | (go_at_call 41; refine (HVA.out _).mono ?_; rintro e w2 ⟨rfl, hb2⟩; rw [HQD.out]; obtain ⟨hc2, hf2⟩ := bcell hb2; have hs2 := hb2.size; have HB2 := hide hb2; clear hb2; simp at hs2)
                | (at_builtin; refine wpList_append_lies _ rfl (.tmp 62) (.tmp 64) 25 rfl w.heap.size 43 i1 (.agg #[.int .i64 0, .int .i64 0, .int .i64 0, .int .i64 0]) 4 32 Try.underlying25 gi gz0 gz1 gz2 rfl (by decide) _ nv _ rfl (World.ownsRow.alloc (own_below (World.ownsRow.alloc HO.out _) HB2.out) _) ⟨w2.heap.size, 0, none⟩ 1 1 [.int .i64 (x0 + x), .int .i64 (y0 + y), .int .i64 (x1 + x), .int .i64 (y1 + y)] rfl rfl (news_new w2 _ _ _ rfl) (ints_one rfl) (by omega) (by unfold maxLen; omega) (by omega) (by simp; omega) _ rfl ?_))
              intro g9 cap9 w9 hown9 hgrow9 _ _
              have hx9 : E0.flatMap encR ++ [.int .i64 (x0 + x), .int .i64 (y0 + y), .int .i64 (x1 + x), .int .i64 (y1 + y)] = (E0 ++ [mv x y ⟨x0, y0, x1, y1⟩]).flatMap encR := by simp [encR, mv]
              rw [hx9, ← HT.out] at hown9
              have HB9 := hide ((((HB.out.alloc hsz _).trans (HB2.out.mono (by simp; omega))).alloc (by omega) _).grown hgrow9 (by simp; omega) (fun q hq => (HO.out.lt q hq).1))
              have HN9 := hide (own_len (k := 4) hown9 (fun _ => rfl) (by omega))
              have HO9 := hide hown9
              have HVM2 : Hid (∀ r ∈ l.take (m + 1), valid4 (mv x y r)) := hide (by
                obtain ⟨i1, e1⟩ := List.getElem?_eq_some_iff.1 HP.out
                intro r hr
                rw [List.take_succ_eq_append_getElem i1, List.mem_append] at hr
                rcases hr with hr | hr
                · exact HVM.out r hr
                · rw [List.mem_singleton] at hr
                  subst hr
                  rw [e1]
                  exact HQ.out)
              clear hown9 hgrow9 hx9
              go_wp2
              go_roundw
              case rel => exact ⟨m + 1, by omega, by go_num, _, _, cap9, rfl, HN9, HO9, HB9, HVM2⟩
              case measure => simp [intOf]; omega
            · have HQD : Hid (decide (valid4 ⟨x0 + x, y0 + y, x1 + x, y1 + y⟩) = false) := hide (decide_eq_false hq)
              have HF : Hid (moveF l x y = ([], 16)) := hide (by
                rw [HMF.out, if_neg]
                rintro (h | ⟨_, _, h⟩)
                · rw [h] at hlpn; simp at hlpn
                · exact hq (h _ (List.mem_of_getElem? HP.out)))
              clear hq
              go_wp2_with (go_at_call 41; refine (HVA.out _).mono ?_; rintro e w2 ⟨rfl, hb2⟩; rw [HQD.out])
              go_ret2
              exact ⟨⟨none, 0, by rw [HF.out]; rfl, by rw [HF.out]; exact World.ownsRow_nil _ _ _ _⟩, (HB.out.alloc hsz _).trans (hb2.mono (by simp; omega))⟩
          · have mz : ¬ (m : Int) < (l.length : Int) := by omega
            have ht : l.take m = l := List.take_of_length_le (by omega)
            rw [ht] at HN HO HVM
            have HF : Hid (moveF l x y = (l.map (mv x y), 0)) := hide (by rw [HMF.out, if_pos (.inr ⟨⟨x2, x3⟩, ⟨y2, y3⟩, HVM.out⟩)])
            clear ht
            go_wp2
            go_ret2
            exact ⟨⟨Av, cv, by rw [HF.out, HN.out]; rfl, by rw [HF.out]; exact own_n (HN.out ▸ HO.out) rfl⟩, HB.out⟩
      · have HF : Hid (moveF l x y = ([], 16)) := hide (by
          rw [HMF.out, if_neg]
          rintro (h | ⟨h1, h2, _⟩)
          · exact hle h
          · exact hin ⟨h1, h2⟩)
        have hx4 : x < -2000000 ∨ 2000000 < x ∨ y < -2000000 ∨ 2000000 < y := by
          simp only [inMv] at hin; omega
        clear hin
        by_cases a1 : 2000000 < x
        all_goals by_cases a2 : x < -2000000
        all_goals by_cases a3 : 2000000 < y
        all_goals by_cases a4 : y < -2000000
        all_goals first
          | (exfalso; omega)
          | (go_enter Try.func24, Try.ntmps24
             go_wp2_with (go_at_call 14; refine HCK.out.mono ?_; rintro e w1 ⟨rfl, hb1⟩)
             go_ret2
             exact ⟨⟨none, 0, by rw [HF.out]; rfl, by rw [HF.out]; exact World.ownsRow_nil _ _ _ _⟩, hb1⟩)
  · have HF : Hid (moveF l x y = ([], checkF l)) := hide (if_neg h0)
    generalize checkF l = ck at *
    have hne : (ck != 0) = true := by simpa using h0
    clear h0
    go_enter Try.func24, Try.ntmps24
    go_wp2_with (go_at_call 14; refine HCK.out.mono ?_; rintro e w1 ⟨rfl, hb1⟩)
    go_ret2
    exact ⟨⟨none, 0, by rw [HF.out]; rfl, by rw [HF.out]; exact World.ownsRow_nil _ _ _ _⟩, hb1⟩
end Go.Proofs.Ytamnaojheecopaa
