/- The walk of the law BlockNames. -/
import Derived.Test.YtmnhlcbmoibahaaGreatPk13
import Derived.Test.YtmnhlcbmoibahaaGreatPk9
import Derived.Laws.MakeOwn
namespace Go.Proofs.YtmnhlcbmoibahaaGreat
open Go.RowKit
set_option linter.unusedVariables false
set_option linter.unusedSimpArgs false

def trN : List Sg := [⟨0, 0, 5, 0⟩, ⟨2, 0, 2, 3⟩, ⟨9, 9, 9, 12⟩]
theorem tr_ok : ∀ s ∈ trN, okSg s := by decide
theorem tr_p : partsN trN = 2 := by kernel_rfl
theorem tr_l : lopN trN = 0 := by kernel_rfl
theorem nilS (w : World) : RdK encS 2 w w.heap.size (.slice none 0 0) ([] : List (Int × Int)) := RdK.nil none 0
def manyB : List R4 := List.replicate 401 ⟨0, 0, 0, 0⟩
def zeroB : Array Value := madeCells (Value.agg #[.int .i64 0, .int .i64 0, .int .i64 0, .int .i64 0]).cells 1604
theorem run_manyB (w : World) : (Instr.makeSlice 27 (.int .i64 401) (.int .i64 401)).run Tryz.prog w = .ok (.slice (some ⟨w.heap.size, 0, none⟩) 401 401) (w.alloc (.cells zeroB 65)) := by
  obtain ⟨i1, gi, gz0, gz1, gz2⟩ := info_parts infoRc
  have h := run_make (P := Tryz.prog) w 27 65 i1 _ Tryz.underlying27 gi gz0 .i64 .i64 401 401 (by omega) (by omega) (by rw [gz2]; omega) (by omega)
  rw [gz1] at h
  exact h
theorem zeroB_at (j : Nat) (hj : j < 1604) : zeroB[j]? = some (.int .i64 0) := by
  unfold zeroB madeCells
  rw [Array.getElem?_map, Array.getElem?_range, if_pos hj]
  have h4 : (Value.agg #[.int .i64 0, .int .i64 0, .int .i64 0, .int .i64 0]).cells = #[.int .i64 0, .int .i64 0, .int .i64 0, .int .i64 0] := rfl
  rw [h4]
  have : j % 4 = 0 ∨ j % 4 = 1 ∨ j % 4 = 2 ∨ j % 4 = 3 := by omega
  simp only [Option.map_some, List.size_toArray, List.length_cons, List.length_nil]
  rcases this with e | e | e | e <;> simp [e]
theorem rd_manyB (w : World) (c : Nat) : RdK encR 4 (w.alloc (.cells zeroB 65)) (w.alloc (.cells zeroB 65)).heap.size (.slice (some ⟨w.heap.size, 0, none⟩) 401 c) manyB := by
  have hl : manyB.length = 401 := List.length_replicate
  refine ⟨_, c, by rw [hl], fun _ => ⟨w.heap.size, 0, rfl, by simp, fun j x hx i u hu => ?_⟩⟩
  have hj : j < 401 := by have := (List.getElem?_eq_some_iff.1 hx).1; omega
  have hx0 : x = ⟨0, 0, 0, 0⟩ := by
    obtain ⟨h1, h2⟩ := List.getElem?_eq_some_iff.1 hx
    rw [← h2]
    exact List.getElem_replicate _
  subst hx0
  have hi : i < 4 := (List.getElem?_eq_some_iff.1 hu).1
  have hu0 : u = .int .i64 0 := by
    have e : i = 0 ∨ i = 1 ∨ i = 2 ∨ i = 3 := by omega
    rcases e with rfl | rfl | rfl | rfl <;> (simp [encR] at hu; exact hu.symm)
  subst hu0
  have := World.news_of_block (heap_alloc_new w (.cells zeroB 65)) (0 + j * 4 + i) (.int .i64 0) (by simpa using zeroB_at (j * 4 + i) (by omega))
  rw [addr_add] at this
  exact this
theorem many_bad : checkF manyB = 4 := by
  unfold checkF
  rw [if_pos (by unfold manyB; rw [List.length_replicate]; omega)]
theorem chk_nilB : checkF [] = 0 := by kernel_rfl
theorem chk_zeroB : checkF [⟨0, 0, 0, 0⟩] = 8 := by kernel_rfl
theorem one_parts {r : R4} (h : checkF [r] = 0) : partsE [r] = ([[r]], 0) := by
  have hm : mn [r] 0 = 0 := by have := mn_le [r] 0; omega
  unfold partsE
  rw [if_pos h]
  have e0 : compL [r] 0 = [r] := by
    unfold compL
    simp [List.range_succ, hm]
  unfold partsF
  simp [List.range_succ, hm, e0]
  exact made_self (check_rcan h)
theorem rd_atB {α : Type} {enc : α → List Value} {k : Nat} {w W : World} {v : Value} {l : List α} (h : RdK enc k w w.heap.size v l) (hb : Below w.heap.size w W) : RdK enc k W W.heap.size v l := (h.below hb).mono hb.size
theorem rSameB {w : World} {v v' : Value} {l : List R4} (h : RdK encR 4 w w.heap.size v l) (h' : RdK encR 4 w w.heap.size v' l) (hl : l.length ≤ 100000000) :
    Calls Tryz.prog 20 #[v, v'] w fun e w' => e = .returned (.bool true) ∧ Below w.heap.size w w' := by
  have := rSameRects_any h h' hl (Nat.le_refl _) (Nat.le_refl _)
  rwa [decide_eq_true rfl] at this
theorem nil_parts : partsE [] = ([], 0) := by
  unfold partsE
  rw [if_pos chk_nilB]
  simp [partsF]
theorem nb1_eq : prtF [] [] = (0, 0) := by kernel_rfl
theorem nb1 (W : World) : Calls Tryz.prog 16 #[.agg #[.slice none 0 0, .slice none 0 0]] W fun e w' => e = .returned (.tuple #[.int .i64 0, .int .i64 0]) ∧ Below W.heap.size W w' := by
  have h := parts35_any (nilS W) (nilS W)
  rwa [nb1_eq] at h
theorem nb2_eq : blkF (sqN 2) sqE 2 [⟨-1, -1, 3, 3⟩] = ([], 0) := by
  unfold blkF
  rw [show strF (sqN 2) sqE 2 = ([⟨-2, -2, 4, 4⟩], 0) by kernel_rfl]
  simp only
  rw [show joinF hSub [⟨-1, -1, 3, 3⟩] [⟨-2, -2, 4, 4⟩] = ([], 0) by kernel_rfl]
  simp only [nil_parts]
  rfl
theorem nb2 {W : World} {nv ev va : Value} (hn : RdK encS 2 W W.heap.size nv (sqN 2)) (he : RdK encS 2 W W.heap.size ev sqE) (ha : RdK encR 4 W W.heap.size va [⟨-1, -1, 3, 3⟩]) : Calls Tryz.prog 14 #[.agg #[nv, ev], .int .i64 2, va] W fun e w' => (∃ A c, e = .returned (.tuple #[.slice A 0 c, .int .i64 0])) ∧ Below W.heap.size W w' := by
  refine (blocks_any hn he ha (by simp)).mono ?_
  rintro e w' ⟨hr, hb⟩
  rw [nb2_eq] at hr
  obtain ⟨A, c, he, hq⟩ := hr.rd
  exact ⟨⟨A, c, he⟩, hb⟩
theorem nb3_eq : blkF [] [] 1 [⟨0, 0, 4, 4⟩] = ([[⟨0, 0, 4, 4⟩]], 0) := by
  unfold blkF
  rw [show strF [] [] 1 = ([], 0) by kernel_rfl]
  simp only
  rw [show joinF hSub [⟨0, 0, 4, 4⟩] [] = ([⟨0, 0, 4, 4⟩], 0) by kernel_rfl]
  simp only [one_parts (r := ⟨0, 0, 4, 4⟩) (by kernel_rfl)]
  rfl
theorem nb3 {W : World} {nv ev va : Value} (hn : RdK encS 2 W W.heap.size nv []) (he : RdK encS 2 W W.heap.size ev []) (ha : RdK encR 4 W W.heap.size va [⟨0, 0, 4, 4⟩]) : Calls Tryz.prog 14 #[.agg #[nv, ev], .int .i64 1, va] W fun e w' => (∃ A c, e = .returned (.tuple #[.slice A 1 c, .int .i64 0]) ∧ RdRR w' w'.heap.size (.slice A 1 c) [[⟨0, 0, 4, 4⟩]]) ∧ Below W.heap.size W w' := by
  refine (blocks_any hn he ha (by simp)).mono ?_
  rintro e w' ⟨hr, hb⟩
  rw [nb3_eq] at hr
  obtain ⟨A, c, he, hq⟩ := hr.rd
  exact ⟨⟨A, c, he, hq⟩, hb⟩
theorem nb4_eq : blkF (sqN 8) sqE 1 [] = ([], 0) := by
  unfold blkF
  rw [show strF (sqN 8) sqE 1 = (strL, 0) by kernel_rfl]
  simp only
  rw [show joinF hSub [] strL = ([], 0) by kernel_rfl]
  simp only [nil_parts]
  rfl
theorem nb4 {W : World} {nv ev va : Value} (hn : RdK encS 2 W W.heap.size nv (sqN 8)) (he : RdK encS 2 W W.heap.size ev sqE) (ha : RdK encR 4 W W.heap.size va []) : Calls Tryz.prog 14 #[.agg #[nv, ev], .int .i64 1, va] W fun e w' => (∃ A c, e = .returned (.tuple #[.slice A 0 c, .int .i64 0])) ∧ Below W.heap.size W w' := by
  refine (blocks_any hn he ha (by simp)).mono ?_
  rintro e w' ⟨hr, hb⟩
  rw [nb4_eq] at hr
  obtain ⟨A, c, he, hq⟩ := hr.rd
  exact ⟨⟨A, c, he⟩, hb⟩
theorem nb5_eq : strF (sqN 8) sqE 0 = ([], 2) := by kernel_rfl
theorem nb5 {W : World} {nv ev : Value} (hn : RdK encS 2 W W.heap.size nv (sqN 8)) (he : RdK encS 2 W W.heap.size ev sqE) : Calls Tryz.prog 12 #[.agg #[nv, ev], .int .i64 0] W fun e w' => (∃ A c, e = .returned (.tuple #[.slice A 0 c, .int .i64 2])) ∧ Below W.heap.size W w' := by
  refine (streets_any hn he).mono ?_
  rintro e w' ⟨⟨A, c, he, _⟩, hb⟩
  rw [nb5_eq] at he
  exact ⟨⟨A, c, he⟩, hb⟩
theorem nb6_eq : strF (sqN 8) sqE 1001 = ([], 2) := by kernel_rfl
theorem nb6 {W : World} {nv ev : Value} (hn : RdK encS 2 W W.heap.size nv (sqN 8)) (he : RdK encS 2 W W.heap.size ev sqE) : Calls Tryz.prog 12 #[.agg #[nv, ev], .int .i64 1001] W fun e w' => (∃ A c, e = .returned (.tuple #[.slice A 0 c, .int .i64 2])) ∧ Below W.heap.size W w' := by
  refine (streets_any hn he).mono ?_
  rintro e w' ⟨⟨A, c, he, _⟩, hb⟩
  rw [nb6_eq] at he
  exact ⟨⟨A, c, he⟩, hb⟩
theorem nb7_eq : strF [(999999, 0), (1000000, 0)] [(0, 1)] 1 = ([], 16) := by kernel_rfl
theorem nb7 {W : World} {nv ev : Value} (hn : RdK encS 2 W W.heap.size nv [(999999, 0), (1000000, 0)]) (he : RdK encS 2 W W.heap.size ev [(0, 1)]) : Calls Tryz.prog 12 #[.agg #[nv, ev], .int .i64 1] W fun e w' => (∃ A c, e = .returned (.tuple #[.slice A 0 c, .int .i64 16])) ∧ Below W.heap.size W w' := by
  refine (streets_any hn he).mono ?_
  rintro e w' ⟨⟨A, c, he, _⟩, hb⟩
  rw [nb7_eq] at he
  exact ⟨⟨A, c, he⟩, hb⟩
theorem nb8_eq : strF [(0, 0)] [] 0 = ([], 8) := by kernel_rfl
theorem nb8 {W : World} {nv ev : Value} (hn : RdK encS 2 W W.heap.size nv [(0, 0)]) (he : RdK encS 2 W W.heap.size ev []) : Calls Tryz.prog 12 #[.agg #[nv, ev], .int .i64 0] W fun e w' => (∃ A c, e = .returned (.tuple #[.slice A 0 c, .int .i64 8])) ∧ Below W.heap.size W w' := by
  refine (streets_any hn he).mono ?_
  rintro e w' ⟨⟨A, c, he, _⟩, hb⟩
  rw [nb8_eq] at he
  exact ⟨⟨A, c, he⟩, hb⟩
theorem nb9_eq : blkF (sqN 8) sqE 1 [⟨0, 0, 0, 0⟩] = ([], 8) := by
  unfold blkF
  rw [show strF (sqN 8) sqE 1 = (strL, 0) by kernel_rfl]
  simp only
  rw [show joinF hSub [⟨0, 0, 0, 0⟩] strL = ([], 8) by kernel_rfl]
  rfl
theorem nb9 {W : World} {nv ev va : Value} (hn : RdK encS 2 W W.heap.size nv (sqN 8)) (he : RdK encS 2 W W.heap.size ev sqE) (ha : RdK encR 4 W W.heap.size va [⟨0, 0, 0, 0⟩]) : Calls Tryz.prog 14 #[.agg #[nv, ev], .int .i64 1, va] W fun e w' => (∃ A c, e = .returned (.tuple #[.slice A 0 c, .int .i64 8])) ∧ Below W.heap.size W w' := by
  refine (blocks_any hn he ha (by simp)).mono ?_
  rintro e w' ⟨hr, hb⟩
  rw [nb9_eq] at hr
  obtain ⟨A, c, he, hq⟩ := hr.rd
  exact ⟨⟨A, c, he⟩, hb⟩
theorem nb10_eq : alongF [⟨0, 0, 0, 0⟩] manyB = (0, 8) := by unfold alongF; rw [if_neg (by rw [chk_zeroB]; decide), chk_zeroB]
theorem nb10 {W : World} {v u : Value} (r : RdK encR 4 W W.heap.size v [⟨0, 0, 0, 0⟩]) (q : RdK encR 4 W W.heap.size u manyB) : Calls Tryz.prog 24 #[v, u] W fun e w' => e = .returned (.tuple #[.int .i64 0, .int .i64 8]) ∧ Below W.heap.size W w' := by
  have := along_any r q (by decide) (by unfold manyB; rw [List.length_replicate]; omega)
  rwa [nb10_eq] at this
theorem nb11_eq : alongF [] manyB = (0, 4) := by unfold alongF; rw [if_pos chk_nilB, if_neg (by rw [many_bad]; decide), many_bad]
theorem nb11 {W : World} {v u : Value} (r : RdK encR 4 W W.heap.size v []) (q : RdK encR 4 W W.heap.size u manyB) : Calls Tryz.prog 24 #[v, u] W fun e w' => e = .returned (.tuple #[.int .i64 0, .int .i64 4]) ∧ Below W.heap.size W w' := by
  have := along_any r q (by decide) (by unfold manyB; rw [List.length_replicate]; omega)
  rwa [nb11_eq] at this
theorem nb12_eq : alongF [⟨0, 0, 4, 4⟩] [⟨0, 0, 4, 4⟩] = (0, 0) := by kernel_rfl
theorem nb12 {W : World} {v u : Value} (r : RdK encR 4 W W.heap.size v [⟨0, 0, 4, 4⟩]) (q : RdK encR 4 W W.heap.size u [⟨0, 0, 4, 4⟩]) : Calls Tryz.prog 24 #[v, u] W fun e w' => e = .returned (.tuple #[.int .i64 0, .int .i64 0]) ∧ Below W.heap.size W w' := by
  have := along_any r q (by decide) (by decide)
  rwa [nb12_eq] at this
theorem nb13_eq : alongF [⟨0, 0, 4, 4⟩] [⟨4, 4, 6, 6⟩] = (0, 0) := by kernel_rfl
theorem nb13 {W : World} {v u : Value} (r : RdK encR 4 W W.heap.size v [⟨0, 0, 4, 4⟩]) (q : RdK encR 4 W W.heap.size u [⟨4, 4, 6, 6⟩]) : Calls Tryz.prog 24 #[v, u] W fun e w' => e = .returned (.tuple #[.int .i64 0, .int .i64 0]) ∧ Below W.heap.size W w' := by
  have := along_any r q (by decide) (by decide)
  rwa [nb13_eq] at this
theorem nb14_eq : alongF [⟨0, 0, 4, 4⟩] [⟨4, 2, 5, 9⟩] = (2, 0) := by kernel_rfl
theorem nb14 {W : World} {v u : Value} (r : RdK encR 4 W W.heap.size v [⟨0, 0, 4, 4⟩]) (q : RdK encR 4 W W.heap.size u [⟨4, 2, 5, 9⟩]) : Calls Tryz.prog 24 #[v, u] W fun e w' => e = .returned (.tuple #[.int .i64 2, .int .i64 0]) ∧ Below W.heap.size W w' := by
  have := along_any r q (by decide) (by decide)
  rwa [nb14_eq] at this
theorem nb15_eq : alongF [⟨0, 0, 4, 4⟩] [⟨1, 3, 3, 6⟩] = (0, 0) := by kernel_rfl
theorem nb15 {W : World} {v u : Value} (r : RdK encR 4 W W.heap.size v [⟨0, 0, 4, 4⟩]) (q : RdK encR 4 W W.heap.size u [⟨1, 3, 3, 6⟩]) : Calls Tryz.prog 24 #[v, u] W fun e w' => e = .returned (.tuple #[.int .i64 0, .int .i64 0]) ∧ Below W.heap.size W w' := by
  have := along_any r q (by decide) (by decide)
  rwa [nb15_eq] at this
set_option maxRecDepth 100000 in
set_option maxHeartbeats 8000000 in
theorem bnames_walk (w : World) : Calls Tryz.prog 5 #[] w fun e w' => e = .returned (.bool true) ∧ Below w.heap.size w w' := by
  have K := hide (Below.refl w.heap.size w)
  go_enter Tryz.func5, Tryz.ntmps5
  go_wp2_with (fail)
  refine calls_nm fun v1 hZ => ?_
  have hbz : Below w.heap.size w v1 := by
    rw [hZ]
    exact (Below.refl _ _).alloc (Nat.le_refl _) _
  have RS : Hid (RdK encSg 4 v1 v1.heap.size (.slice (some ⟨w.heap.size, 0, none⟩) 3 3) trN) := hide (by rw [hZ]; exact rd_litK (enc := encSg) (k := 4) (fun _ => rfl) w trN _ 3)
  replace K := hide (K.out.trans (hbz.mono K.out.size))
  clear hZ hbz
  refine (make35_any RS.out tr_ok (by decide)).mono ?_
  rintro e v2 ⟨⟨n0, e0, rfl, hn, he⟩, hb⟩
  replace K := hide (K.out.trans (hb.mono K.out.size))
  replace RS := hide ((RS.out.below hb).mono hb.size)
  have N0 := hide hn
  have E0 := hide he
  obtain ⟨An0, cn0, rfl, -⟩ := hn
  obtain ⟨Ae0, ce0, rfl, -⟩ := he
  clear hb
  clear RS
  go_wp2_with (fail)
  refine calls_nm fun v3 hZ => ?_
  have hbz : Below v2.heap.size v2 v3 := by
    rw [hZ]
    exact (Below.refl _ _).alloc (Nat.le_refl _) _
  have X0 : Hid (NetAt v2.heap.size (.slice An0 (nodesF trN).length cn0) (.slice Ae0 (edI (edgesF trN)).length ce0) v3) := hide (by rw [hZ]; exact ⟨by simp, by simp [go_sem], by simp [go_sem]⟩)
  obtain ⟨g0, hg0⟩ : ∃ g, v2.heap.size = g := ⟨_, rfl⟩
  rw [hg0] at X0 ⊢
  replace K := hide (K.out.trans (hbz.mono K.out.size))
  replace N0 := hide ((N0.out.below hbz).mono hbz.size)
  replace E0 := hide ((E0.out.below hbz).mono hbz.size)
  clear hZ hbz hg0
  have G := parts_made tr_ok (by decide) N0.out E0.out
  rw [tr_p] at G
  refine G.mono ?_
  rintro e v4 ⟨rfl, hb⟩
  clear G
  replace K := hide (K.out.trans (hb.mono K.out.size))
  replace N0 := hide ((N0.out.below hb).mono hb.size)
  replace E0 := hide ((E0.out.below hb).mono hb.size)
  replace X0 := hide (X0.out.keep hb)
  clear hb
  obtain ⟨l0, f0, k0⟩ := X0.out
  go_wp2_with (fail)
  have G := loops_made tr_ok (by decide) N0.out E0.out
  rw [tr_l] at G
  refine G.mono ?_
  rintro e v5 ⟨rfl, hb⟩
  clear G
  clear l0 f0 k0
  replace K := hide (K.out.trans (hb.mono K.out.size))
  replace N0 := hide ((N0.out.below hb).mono hb.size)
  replace E0 := hide ((E0.out.below hb).mono hb.size)
  replace X0 := hide (X0.out.keep hb)
  clear hb
  clear N0 E0 X0
  go_wp2_with (fail)
  refine (nb1 _).mono ?_
  rintro e v6 ⟨rfl, hb⟩
  replace K := hide (K.out.trans (hb.mono K.out.size))
  clear hb
  go_wp2_with (fail)
  refine (square_any 2 _).mono ?_
  rintro e v7 ⟨n1, e1, rfl, hn, he, hb⟩
  replace K := hide (K.out.trans (hb.mono K.out.size))
  obtain ⟨An1, cn1, rfl, -⟩ := id hn
  obtain ⟨Ae1, ce1, rfl, -⟩ := id he
  have N1 := hide hn
  have E1 := hide he
  clear hn he hb
  go_wp2_with (fail)
  refine (land_any (-1) 3 _).mono ?_
  rintro e v8 ⟨u2, rfl, hr, hb⟩
  replace K := hide (K.out.trans (hb.mono K.out.size))
  replace N1 := hide ((N1.out.below hb).mono hb.size)
  replace E1 := hide ((E1.out.below hb).mono hb.size)
  obtain ⟨A2, c2, rfl, -⟩ := id hr
  have R2 := hide hr
  clear hr hb
  go_wp2_with (fail)
  refine (nb2 N1.out E1.out R2.out).mono ?_
  rintro e v9 ⟨⟨A3, c3, rfl⟩, hb⟩
  replace K := hide (K.out.trans (hb.mono K.out.size))
  replace N1 := hide ((N1.out.below hb).mono hb.size)
  replace E1 := hide ((E1.out.below hb).mono hb.size)
  replace R2 := hide ((R2.out.below hb).mono hb.size)
  clear hb
  clear N1 E1 R2
  go_wp2_with (fail)
  refine (land_any 0 4 _).mono ?_
  rintro e v10 ⟨u4, rfl, hr, hb⟩
  replace K := hide (K.out.trans (hb.mono K.out.size))
  obtain ⟨A4, c4, rfl, -⟩ := id hr
  have R4 := hide hr
  clear hr hb
  go_wp2_with (fail)
  refine (nb3 (nilS _) (nilS _) R4.out).mono ?_
  rintro e v11 ⟨⟨AA, cA, rfl, hrr⟩, hb⟩
  replace K := hide (K.out.trans (hb.mono K.out.size))
  replace R4 := hide ((R4.out.below hb).mono hb.size)
  have RR := hide hrr
  clear hb hrr
  clear R4
  go_wp2_with (fail)
  refine (square_any 8 _).mono ?_
  rintro e v12 ⟨n5, e5, rfl, hn, he, hb⟩
  replace K := hide (K.out.trans (hb.mono K.out.size))
  replace RR := hide ((RR.out.below hb).mono hb.size)
  obtain ⟨An5, cn5, rfl, -⟩ := id hn
  obtain ⟨Ae5, ce5, rfl, -⟩ := id he
  have N5 := hide hn
  have E5 := hide he
  clear hn he hb
  go_wp2_with (fail)
  refine (nb4 N5.out E5.out (RdK.nil (enc := encR) (k := 4) none 0)).mono ?_
  rintro e v13 ⟨⟨A6, c6, rfl⟩, hb⟩
  replace K := hide (K.out.trans (hb.mono K.out.size))
  replace RR := hide ((RR.out.below hb).mono hb.size)
  replace N5 := hide ((N5.out.below hb).mono hb.size)
  replace E5 := hide ((E5.out.below hb).mono hb.size)
  clear hb
  clear N5 E5
  go_wp2_with (fail)
  refine (square_any 8 _).mono ?_
  rintro e v14 ⟨n7, e7, rfl, hn, he, hb⟩
  replace K := hide (K.out.trans (hb.mono K.out.size))
  replace RR := hide ((RR.out.below hb).mono hb.size)
  obtain ⟨An7, cn7, rfl, -⟩ := id hn
  obtain ⟨Ae7, ce7, rfl, -⟩ := id he
  have N7 := hide hn
  have E7 := hide he
  clear hn he hb
  go_wp2_with (fail)
  refine (nb5 N7.out E7.out).mono ?_
  rintro e v15 ⟨⟨A8, c8, rfl⟩, hb⟩
  replace K := hide (K.out.trans (hb.mono K.out.size))
  replace RR := hide ((RR.out.below hb).mono hb.size)
  replace N7 := hide ((N7.out.below hb).mono hb.size)
  replace E7 := hide ((E7.out.below hb).mono hb.size)
  clear hb
  clear N7 E7
  go_wp2_with (fail)
  refine (square_any 8 _).mono ?_
  rintro e v16 ⟨n9, e9, rfl, hn, he, hb⟩
  replace K := hide (K.out.trans (hb.mono K.out.size))
  replace RR := hide ((RR.out.below hb).mono hb.size)
  obtain ⟨An9, cn9, rfl, -⟩ := id hn
  obtain ⟨Ae9, ce9, rfl, -⟩ := id he
  have N9 := hide hn
  have E9 := hide he
  clear hn he hb
  go_wp2_with (fail)
  refine (nb6 N9.out E9.out).mono ?_
  rintro e v17 ⟨⟨A10, c10, rfl⟩, hb⟩
  replace K := hide (K.out.trans (hb.mono K.out.size))
  replace RR := hide ((RR.out.below hb).mono hb.size)
  replace N9 := hide ((N9.out.below hb).mono hb.size)
  replace E9 := hide ((E9.out.below hb).mono hb.size)
  clear hb
  clear N9 E9
  go_wp2_with (fail)
  refine calls_nm fun v18 hZ => ?_
  have hbz : Below v17.heap.size v17 v18 := by
    rw [hZ]
    repeat (first | with_reducible exact Below.refl _ _ | with_reducible refine Below.setCell ?_ (by first | (simp; done) | (simp; omega)) _ | with_reducible refine Below.alloc ?_ (by first | omega | (simp; omega) | simp) _)
  obtain ⟨Y, hY⟩ : ∃ x, x = v17.alloc (.cells #[.int .i64 999999, .int .i64 0, .int .i64 1000000, .int .i64 0] 57) := ⟨_, rfl⟩
  have hY1 : RdK encS 2 Y Y.heap.size (.slice (some ⟨v17.heap.size, 0, none⟩) 2 2) ([(999999, 0), (1000000, 0)] : List Pt) := by rw [hY]; exact rd_litK (enc := encS) (k := 2) (fun _ => rfl) _ [(999999, 0), (1000000, 0)] _ 2
  have hY2 : Y.heap.size = v17.heap.size + 1 := by rw [hY]; simp
  have hYb : Below Y.heap.size Y v18 := by rw [hZ, ← hY]; exact (Below.refl _ _).alloc (Nat.le_refl _) _
  have RYn := hide ((hY1.below hYb).mono hYb.size)
  have RYe : Hid (RdK encS 2 v18 v18.heap.size (.slice (some ⟨v17.heap.size + 1, 0, none⟩) 1 1) ([(0, 1)] : List Ei)) := hide (by rw [hZ, ← hY, ← hY2]; exact rd_litK (enc := encS) (k := 2) (fun _ => rfl) Y [(0, 1)] _ 1)
  clear hY hY1 hY2 hYb
  replace K := hide (K.out.trans (hbz.mono K.out.size))
  replace RR := hide ((RR.out.below hbz).mono hbz.size)
  clear hZ hbz
  refine (nb7 RYn.out RYe.out).mono ?_
  rintro e v19 ⟨⟨A11, c11, rfl⟩, hb⟩
  replace K := hide (K.out.trans (hb.mono K.out.size))
  replace RR := hide ((RR.out.below hb).mono hb.size)
  replace RYn := hide ((RYn.out.below hb).mono hb.size)
  replace RYe := hide ((RYe.out.below hb).mono hb.size)
  clear hb
  clear RYn RYe
  go_wp2_with (fail)
  refine calls_nm fun v20 hZ => ?_
  have hbz : Below v19.heap.size v19 v20 := by
    rw [hZ]
    repeat (first | with_reducible exact Below.refl _ _ | with_reducible refine Below.setCell ?_ (by first | (simp; done) | (simp; omega)) _ | with_reducible refine Below.alloc ?_ (by first | omega | (simp; omega) | simp) _)
  have RN : Hid (RdK encS 2 v20 v20.heap.size (.slice (some ⟨v19.heap.size, 0, none⟩) 1 1) ([(0, 0)] : List Pt)) := hide (by rw [hZ]; exact rd_litK (enc := encS) (k := 2) (fun _ => rfl) _ [(0, 0)] _ 1)
  replace K := hide (K.out.trans (hbz.mono K.out.size))
  replace RR := hide ((RR.out.below hbz).mono hbz.size)
  clear hZ hbz
  generalize v19.heap.size = gRN at *
  refine (nb8 RN.out (nilS _)).mono ?_
  rintro e v21 ⟨⟨A12, c12, rfl⟩, hb⟩
  replace K := hide (K.out.trans (hb.mono K.out.size))
  replace RR := hide ((RR.out.below hb).mono hb.size)
  replace RN := hide ((RN.out.below hb).mono hb.size)
  clear hb
  clear RN
  go_wp2_with (fail)
  refine (square_any 8 _).mono ?_
  rintro e v22 ⟨n13, e13, rfl, hn, he, hb⟩
  replace K := hide (K.out.trans (hb.mono K.out.size))
  replace RR := hide ((RR.out.below hb).mono hb.size)
  obtain ⟨An13, cn13, rfl, -⟩ := id hn
  obtain ⟨Ae13, ce13, rfl, -⟩ := id he
  have N13 := hide hn
  have E13 := hide he
  clear hn he hb
  go_wp2_with (fail)
  refine calls_nm fun v23 hZ => ?_
  have hbz : Below v22.heap.size v22 v23 := by
    rw [hZ]
    repeat (first | with_reducible exact Below.refl _ _ | with_reducible refine Below.setCell ?_ (by first | (simp; done) | (simp; omega)) _ | with_reducible refine Below.alloc ?_ (by first | omega | (simp; omega) | simp) _)
  have RZ : Hid (RdK encR 4 v23 v23.heap.size (.slice (some ⟨v22.heap.size, 0, none⟩) 1 1) ([⟨0, 0, 0, 0⟩] : List R4)) := hide (by rw [hZ]; exact rd_litK (enc := encR) (k := 4) (fun _ => rfl) _ [⟨0, 0, 0, 0⟩] _ 1)
  replace K := hide (K.out.trans (hbz.mono K.out.size))
  replace RR := hide ((RR.out.below hbz).mono hbz.size)
  replace N13 := hide ((N13.out.below hbz).mono hbz.size)
  replace E13 := hide ((E13.out.below hbz).mono hbz.size)
  clear hZ hbz
  generalize v22.heap.size = gRZ at *
  refine (nb9 N13.out E13.out RZ.out).mono ?_
  rintro e v24 ⟨⟨A14, c14, rfl⟩, hb⟩
  replace K := hide (K.out.trans (hb.mono K.out.size))
  replace RR := hide ((RR.out.below hb).mono hb.size)
  replace N13 := hide ((N13.out.below hb).mono hb.size)
  replace E13 := hide ((E13.out.below hb).mono hb.size)
  replace RZ := hide ((RZ.out.below hb).mono hb.size)
  clear hb
  clear N13 E13 RZ
  have hmk := run_manyB
  generalize hrep : zeroB = rep at hmk
  go_wp2_with (fail)
  refine calls_nm fun v25 hZ => ?_
  have hbz : Below v24.heap.size v24 v25 := by
    rw [hZ]
    repeat (first | with_reducible exact Below.refl _ _ | with_reducible refine Below.setCell ?_ (by first | (simp; done) | (simp; omega)) _ | with_reducible refine Below.alloc ?_ (by first | omega | (simp; omega) | simp) _)
  obtain ⟨Y, hY⟩ : ∃ x, x = v24.alloc (.cells #[.int .i64 0, .int .i64 0, .int .i64 0, .int .i64 0] 65) := ⟨_, rfl⟩
  have hY1 : RdK encR 4 Y Y.heap.size (.slice (some ⟨v24.heap.size, 0, none⟩) 1 1) ([⟨0, 0, 0, 0⟩] : List R4) := by rw [hY]; exact rd_litK (enc := encR) (k := 4) (fun _ => rfl) _ [⟨0, 0, 0, 0⟩] _ 1
  have hY2 : Y.heap.size = v24.heap.size + 1 := by rw [hY]; simp
  have hYb : Below Y.heap.size Y v25 := by rw [hZ, ← hY]; exact (Below.refl _ _).alloc (Nat.le_refl _) _
  have RZ := hide ((hY1.below hYb).mono hYb.size)
  have RM : Hid (RdK encR 4 v25 v25.heap.size (.slice (some ⟨v24.heap.size + 1, 0, none⟩) 401 401) manyB) := hide (by rw [hZ, ← hY, ← hY2, ← hrep]; exact rd_manyB Y 401)
  clear hY hY1 hY2 hYb
  replace K := hide (K.out.trans (hbz.mono K.out.size))
  replace RR := hide ((RR.out.below hbz).mono hbz.size)
  clear hZ hbz
  refine (nb10 RZ.out RM.out).mono ?_
  rintro e v26 ⟨rfl, hb⟩
  replace K := hide (K.out.trans (hb.mono K.out.size))
  replace RR := hide ((RR.out.below hb).mono hb.size)
  replace RZ := hide ((RZ.out.below hb).mono hb.size)
  replace RM := hide ((RM.out.below hb).mono hb.size)
  clear hb
  clear RZ RM
  go_wp2_with (fail)
  refine calls_nm fun v27 hZ => ?_
  have hbz : Below v26.heap.size v26 v27 := by
    rw [hZ]
    repeat (first | with_reducible exact Below.refl _ _ | with_reducible refine Below.setCell ?_ (by first | (simp; done) | (simp; omega)) _ | with_reducible refine Below.alloc ?_ (by first | omega | (simp; omega) | simp) _)
  have RM : Hid (RdK encR 4 v27 v27.heap.size (.slice (some ⟨v26.heap.size, 0, none⟩) 401 401) manyB) := hide (by rw [hZ, ← hrep]; exact rd_manyB _ 401)
  replace K := hide (K.out.trans (hbz.mono K.out.size))
  replace RR := hide ((RR.out.below hbz).mono hbz.size)
  clear hZ hbz
  clear hmk hrep
  refine (nb11 (RdK.nil (enc := encR) (k := 4) none 0) RM.out).mono ?_
  rintro e v28 ⟨rfl, hb⟩
  replace K := hide (K.out.trans (hb.mono K.out.size))
  replace RR := hide ((RR.out.below hb).mono hb.size)
  replace RM := hide ((RM.out.below hb).mono hb.size)
  clear hb
  clear RM
  go_wp2_with (fail)
  refine (land_any 0 4 _).mono ?_
  rintro e v29 ⟨u15, rfl, hr, hb⟩
  replace K := hide (K.out.trans (hb.mono K.out.size))
  replace RR := hide ((RR.out.below hb).mono hb.size)
  obtain ⟨A15, c15, rfl, -⟩ := id hr
  have R15 := hide hr
  clear hr hb
  go_wp2_with (fail)
  refine (land_any 0 4 _).mono ?_
  rintro e v30 ⟨u16, rfl, hr, hb⟩
  replace K := hide (K.out.trans (hb.mono K.out.size))
  replace RR := hide ((RR.out.below hb).mono hb.size)
  replace R15 := hide ((R15.out.below hb).mono hb.size)
  obtain ⟨A16, c16, rfl, -⟩ := id hr
  have R16 := hide hr
  clear hr hb
  go_wp2_with (fail)
  refine (nb12 R15.out R16.out).mono ?_
  rintro e v31 ⟨rfl, hb⟩
  replace K := hide (K.out.trans (hb.mono K.out.size))
  replace RR := hide ((RR.out.below hb).mono hb.size)
  replace R15 := hide ((R15.out.below hb).mono hb.size)
  replace R16 := hide ((R16.out.below hb).mono hb.size)
  clear hb
  clear R15 R16
  go_wp2_with (fail)
  refine (land_any 0 4 _).mono ?_
  rintro e v32 ⟨u17, rfl, hr, hb⟩
  replace K := hide (K.out.trans (hb.mono K.out.size))
  replace RR := hide ((RR.out.below hb).mono hb.size)
  obtain ⟨A17, c17, rfl, -⟩ := id hr
  have R17 := hide hr
  clear hr hb
  go_wp2_with (fail)
  refine (land_any 4 6 _).mono ?_
  rintro e v33 ⟨u18, rfl, hr, hb⟩
  replace K := hide (K.out.trans (hb.mono K.out.size))
  replace RR := hide ((RR.out.below hb).mono hb.size)
  replace R17 := hide ((R17.out.below hb).mono hb.size)
  obtain ⟨A18, c18, rfl, -⟩ := id hr
  have R18 := hide hr
  clear hr hb
  go_wp2_with (fail)
  refine (nb13 R17.out R18.out).mono ?_
  rintro e v34 ⟨rfl, hb⟩
  replace K := hide (K.out.trans (hb.mono K.out.size))
  replace RR := hide ((RR.out.below hb).mono hb.size)
  replace R17 := hide ((R17.out.below hb).mono hb.size)
  replace R18 := hide ((R18.out.below hb).mono hb.size)
  clear hb
  clear R17 R18
  go_wp2_with (fail)
  refine (land_any 0 4 _).mono ?_
  rintro e v35 ⟨u19, rfl, hr, hb⟩
  replace K := hide (K.out.trans (hb.mono K.out.size))
  replace RR := hide ((RR.out.below hb).mono hb.size)
  obtain ⟨A19, c19, rfl, -⟩ := id hr
  have R19 := hide hr
  clear hr hb
  go_wp2_with (fail)
  refine calls_nm fun v36 hZ => ?_
  have hbz : Below v35.heap.size v35 v36 := by
    rw [hZ]
    repeat (first | with_reducible exact Below.refl _ _ | with_reducible refine Below.setCell ?_ (by first | (simp; done) | (simp; omega)) _ | with_reducible refine Below.alloc ?_ (by first | omega | (simp; omega) | simp) _)
  have RL0 : Hid (RdK encR 4 v36 v36.heap.size (.slice (some ⟨v35.heap.size, 0, none⟩) 1 1) ([⟨4, 2, 5, 9⟩] : List R4)) := hide (by rw [hZ]; exact rd_litK (enc := encR) (k := 4) (fun _ => rfl) _ [⟨4, 2, 5, 9⟩] _ 1)
  replace K := hide (K.out.trans (hbz.mono K.out.size))
  replace RR := hide ((RR.out.below hbz).mono hbz.size)
  replace R19 := hide ((R19.out.below hbz).mono hbz.size)
  clear hZ hbz
  generalize v35.heap.size = gRL0 at *
  refine (nb14 R19.out RL0.out).mono ?_
  rintro e v37 ⟨rfl, hb⟩
  replace K := hide (K.out.trans (hb.mono K.out.size))
  replace RR := hide ((RR.out.below hb).mono hb.size)
  replace R19 := hide ((R19.out.below hb).mono hb.size)
  replace RL0 := hide ((RL0.out.below hb).mono hb.size)
  clear hb
  clear R19 RL0
  go_wp2_with (fail)
  refine (land_any 0 4 _).mono ?_
  rintro e v38 ⟨u20, rfl, hr, hb⟩
  replace K := hide (K.out.trans (hb.mono K.out.size))
  replace RR := hide ((RR.out.below hb).mono hb.size)
  obtain ⟨A20, c20, rfl, -⟩ := id hr
  have R20 := hide hr
  clear hr hb
  go_wp2_with (fail)
  refine calls_nm fun v39 hZ => ?_
  have hbz : Below v38.heap.size v38 v39 := by
    rw [hZ]
    repeat (first | with_reducible exact Below.refl _ _ | with_reducible refine Below.setCell ?_ (by first | (simp; done) | (simp; omega)) _ | with_reducible refine Below.alloc ?_ (by first | omega | (simp; omega) | simp) _)
  have RL1 : Hid (RdK encR 4 v39 v39.heap.size (.slice (some ⟨v38.heap.size, 0, none⟩) 1 1) ([⟨1, 3, 3, 6⟩] : List R4)) := hide (by rw [hZ]; exact rd_litK (enc := encR) (k := 4) (fun _ => rfl) _ [⟨1, 3, 3, 6⟩] _ 1)
  replace K := hide (K.out.trans (hbz.mono K.out.size))
  replace RR := hide ((RR.out.below hbz).mono hbz.size)
  replace R20 := hide ((R20.out.below hbz).mono hbz.size)
  clear hZ hbz
  generalize v38.heap.size = gRL1 at *
  refine (nb15 R20.out RL1.out).mono ?_
  rintro e v40 ⟨rfl, hb⟩
  replace K := hide (K.out.trans (hb.mono K.out.size))
  replace RR := hide ((RR.out.below hb).mono hb.size)
  replace R20 := hide ((R20.out.below hb).mono hb.size)
  replace RL1 := hide ((RL1.out.below hb).mono hb.size)
  clear hb
  clear R20 RL1
  obtain ⟨b9, o9, A9, c9, hA, hb9, hc9, hrd⟩ := RR.out.get (j := 0) (x := [⟨0, 0, 4, 4⟩]) rfl
  simp only [Nat.add_zero] at hc9
  subst hA
  have HU := hide hrd
  have HC9 := hide hc9
  clear hrd
  go_upto_region 20 with fail
  go_region_held3 (fun w' => w'.cell? ⟨b9, o9, none⟩ = some (.slice A9 1 c9)) ((first | exact ((show Below v40.heap.size v40 _ from by have hbK := HB10.out; repeat (first | with_reducible exact Below.refl _ _ | with_reducible assumption | with_reducible refine Below.setCell ?_ (by first | omega | (simp; done) | (simp; omega)) _ | with_reducible refine Below.alloc ?_ (by first | omega | (simp; omega) | simp) _ | with_reducible refine Below.drew ?_)).cell (p := ⟨b9, o9, none⟩) hb9).trans HC9.out | exact ((show Below v40.heap.size v40 _ from by have hbK := HBQ.out; repeat (first | with_reducible exact Below.refl _ _ | with_reducible assumption | with_reducible refine Below.setCell ?_ (by first | omega | (simp; done) | (simp; omega)) _ | with_reducible refine Below.alloc ?_ (by first | omega | (simp; omega) | simp) _ | with_reducible refine Below.drew ?_)).cell (p := ⟨b9, o9, none⟩) hb9).trans HC9.out | exact ((show Below v40.heap.size v40 _ from by repeat (first | with_reducible exact Below.refl _ _ | with_reducible assumption | with_reducible refine Below.setCell ?_ (by first | omega | (simp; done) | (simp; omega)) _ | with_reducible refine Below.alloc ?_ (by first | omega | (simp; omega) | simp) _ | with_reducible refine Below.drew ?_)).cell (p := ⟨b9, o9, none⟩) hb9).trans HC9.out))
    (first
      | (go_at_call 27; refine (land_any 0 4 _).mono ?_; rintro e wq ⟨uq, rfl, hrq, hbq⟩; obtain ⟨Aq, cq, rfl, -⟩ := id hrq; have HRQ := hide hrq; have HBQ : Hid (Below v40.heap.size v40 wq) := hide (Below.trans (by repeat (first | with_reducible exact Below.refl _ _ | with_reducible assumption | with_reducible refine Below.setCell ?_ (by first | omega | (simp; done) | (simp; omega)) _ | with_reducible refine Below.alloc ?_ (by first | omega | (simp; omega) | simp) _ | with_reducible refine Below.drew ?_)) (hbq.mono (by simp <;> omega))); clear hrq; obtain ⟨hcq, hfq⟩ := bcell hbq; clear hbq)
      | (go_at_call 20; refine (rSameB (l := ([⟨0, 0, 4, 4⟩] : List R4)) (rd_atB HU.out (by have hbK := HBQ.out; repeat (first | with_reducible exact Below.refl _ _ | with_reducible assumption | with_reducible refine Below.setCell ?_ (by first | omega | (simp; done) | (simp; omega)) _ | with_reducible refine Below.alloc ?_ (by first | omega | (simp; omega) | simp) _ | with_reducible refine Below.drew ?_))) (rd_atB HRQ.out (by repeat (first | with_reducible exact Below.refl _ _ | with_reducible assumption | with_reducible refine Below.setCell ?_ (by first | omega | (simp; done) | (simp; omega)) _ | with_reducible refine Below.alloc ?_ (by first | omega | (simp; omega) | simp) _ | with_reducible refine Below.drew ?_))) (by decide)).mono ?_; rintro e w10 ⟨rfl, hb10⟩; have HB10 : Hid (Below v40.heap.size v40 w10) := hide (Below.trans (by have hbK := HBQ.out; repeat (first | with_reducible exact Below.refl _ _ | with_reducible assumption | with_reducible refine Below.setCell ?_ (by first | omega | (simp; done) | (simp; omega)) _ | with_reducible refine Below.alloc ?_ (by first | omega | (simp; omega) | simp) _ | with_reducible refine Below.drew ?_)) (hb10.mono (by have := HBQ.out.size; simp <;> omega))); clear hb10))
  all_goals
    go_wp2_with (fail)
    refine (alive35_any _).mono ?_
    rintro e w11 ⟨rfl, hb⟩
    have HB11 := hide (HB10.out.trans (hb.mono HB10.out.size))
    clear hb
    go_wp2_with (fail)
    go_ret
    exact ⟨rfl, K.out.trans (HB11.out.mono K.out.size)⟩
end Go.Proofs.YtmnhlcbmoibahaaGreat
