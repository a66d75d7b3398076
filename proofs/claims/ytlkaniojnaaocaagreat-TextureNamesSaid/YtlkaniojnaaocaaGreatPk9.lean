/- Texts laid together: Alive41, LookH, TexP, TexR, RowSet, MLabel, TouchC, PartsB, PartsM, PartsA, LawParts. Lemmas for the statements of this seat; no condition. -/
import Derived.Test.YtlkaniojnaaocaaGreatPk8
import Derived.Test.YtlkaniojnaaocaaGreatPk7
import Derived.Test.YtlkaniojnaaocaaGreatPk6
import Derived.Test.YtlkaniojnaaocaaGreatPk5
import Derived.Test.YtlkaniojnaaocaaGreatPk4
import Derived.Deep.DeepCutAuto
import Derived.Maps.RangeWalk
import Derived.Maps.Ext

/- The chapter's examples hold: law.go's bond, rect, fit and alive. -/
namespace Go.Proofs.YtlkaniojnaaocaaGreat
open Go.RowKit
set_option linter.unusedVariables false
set_option linter.unusedSimpArgs false

theorem calls_name {P : Program} {F : Nat} {A : Array Value} {W : World} {Q : Ending → World → Prop} (h : ∀ w, w = W → Calls P F A w Q) : Calls P F A W Q := h W rfl
theorem rd_at {α : Type} {enc : α → List Value} {k : Nat} {w W : World} {v : Value} {l : List α} (h : RdK enc k w w.heap.size v l) (hb : Below w.heap.size w W) : RdK enc k W W.heap.size v l := (h.below hb).mono hb.size
/-- Cells of a box. -/
def Cels (b : Nat) (vs : List Value) (W : World) : Prop := b < W.heap.size ∧ ∀ i u, vs[i]? = some u → W.cell? ⟨b, i, none⟩ = some u
theorem Cels.keep {b : Nat} {vs : List Value} {W W' : World} (h : Cels b vs W) (hb : Below W.heap.size W W') : Cels b vs W' := ⟨Nat.lt_of_lt_of_le h.1 hb.size, fun i u hu => (hb.cell (p := ⟨b, i, none⟩) h.1).trans (h.2 i u hu)⟩
theorem bond_any (w : World) : Calls Tryz.prog 14 #[] w fun e w' => e = .returned (.agg #[.int .i64 4, .int .i64 2, .int .i64 2]) ∧ Below w.heap.size w w' := by
  go_enter Tryz.func14, Tryz.ntmps14
  go_wp2
  refine bodyPost_ret (v := .agg #[.int .i64 4, .int .i64 2, .int .i64 2]) (by simp [results, Tryz.results14, go_sem]) rfl ⟨rfl, ?_⟩
  repeat (first | with_reducible exact Below.refl _ _ | with_reducible refine Below.setCell ?_ (by first | (simp; done) | (simp; omega)) _ | with_reducible refine Below.alloc ?_ (by first | omega | (simp; omega) | simp) _)
theorem rect41_any (a b c d : Int) (w : World) : Calls Tryz.prog 17 #[.int .i64 a, .int .i64 b, .int .i64 c, .int .i64 d] w fun e w' => e = .returned (.slice (some ⟨w.heap.size, 0, none⟩) 1 1) ∧ w'.ownsRow w.heap.size 42 4 (.slice (some ⟨w.heap.size, 0, none⟩) 1 1) 1 (([⟨a, b, c, d⟩] : List R4).flatMap encR) ∧ Below w.heap.size w w' := by
  go_enter Tryz.func17, Tryz.ntmps17
  go_wp2
  go_ret
  exact ⟨rfl, ⟨by simp [encR], .inr ⟨w.heap.size, 1, _, rfl, Nat.le_refl _, World.alloc_heap_new _ _, Nat.le_refl _, by simp [maxLen], by simp [encR], by simp [encR]⟩⟩, (Below.refl _ _).alloc (Nat.le_refl _) _⟩
theorem ex41_at (w : World) : Calls Tryz.prog 13 #[.agg #[.int .i64 4, .int .i64 2, .int .i64 2], .int .i64 5, .int .i64 3] w fun e w' => e = .returned (.tuple #[.int .i64 0, .int .i64 1, .int .i64 0]) ∧ Below w.heap.size w w' := by
  have h := at_any 4 2 2 5 3 w
  rwa [show atC 4 2 2 5 3 = 0 by kernel_rfl, show atR 4 2 2 5 3 = 1 by kernel_rfl, show atE 4 2 2 5 3 = 0 by kernel_rfl] at h
theorem ex41_br (w : World) : Calls Tryz.prog 15 #[.agg #[.int .i64 4, .int .i64 2, .int .i64 2], .int .i64 0, .int .i64 1] w fun e w' => e = .returned (.tuple #[.agg #[.int .i64 2, .int .i64 2, .int .i64 6, .int .i64 4], .int .i64 0]) ∧ Below w.heap.size w w' := by
  have h := brk_any 4 2 2 0 1 w
  rwa [show br0 4 2 2 0 1 = 2 by kernel_rfl, show br1 4 2 2 0 1 = 2 by kernel_rfl, show br2 4 2 2 0 1 = 6 by kernel_rfl, show br3 4 2 2 0 1 = 4 by kernel_rfl, show brE 4 2 2 0 1 = 0 by kernel_rfl] at h
theorem ex41_co (w : World) : Calls Tryz.prog 40 #[.agg #[.int .i64 4, .int .i64 2, .int .i64 2], .int .i64 5, .int .i64 3] w fun e w' => e = .returned (.tuple #[.agg #[.int .i64 3, .int .i64 4], .agg #[.int .i64 1, .int .i64 2], .int .i64 0]) ∧ Below w.heap.size w w' := by
  have h := coords_any 4 2 2 5 3 w
  rwa [show co0 4 2 2 5 3 = 3 by kernel_rfl, show co1 4 2 2 5 3 = 4 by kernel_rfl, show co2 4 2 2 5 3 = 1 by kernel_rfl, show co3 4 2 2 5 3 = 2 by kernel_rfl, show atE 4 2 2 5 3 = 0 by kernel_rfl] at h
theorem ex41_t : tileF 4 2 2 [⟨0, 0, 4, 4⟩] = ([((0, 0), [⟨0, 0, 4, 2⟩]), ((1, -1), [⟨0, 2, 2, 4⟩]), ((1, 0), [⟨2, 2, 4, 4⟩])], 0) := by kernel_rfl
theorem ex41_c : countF 4 2 2 [⟨0, 0, 4, 4⟩] = (1, 2, 0) := by kernel_rfl
def fit41 (W H S : Int) (l : List R4) : Prop := l.length ≤ 20 ∧ checkF l = 0 ∧ okPat W H S
set_option maxHeartbeats 4000000 in
theorem fit41_any {w : World} {v : Value} {l : List R4} (hr : RdK encR 4 w w.heap.size v l) (hl : l.length ≤ maxLen) (W H S : Int) :
    Calls Tryz.prog 19 #[v, .agg #[.int .i64 W, .int .i64 H, .int .i64 S]] w fun e w' => (e = .returned (.bool false) ∧ Below w.heap.size w w') ∨ (e = .returned (.bool true) ∧ fit41 W H S l ∧ Below w.heap.size w w') := by
  unfold maxLen at hl
  obtain ⟨A0, c0, rfl, _⟩ := id hr
  have hT0 := hide (T1.start w W H S)
  have HCK := hide (fun (wi : World) (hb : Below w.heap.size w wi) (h : l.length ≤ 20) => rCheck_any (w := wi) ((hr.below hb).mono hb.size) (by omega))
  clear hr
  by_cases h20 : l.length ≤ 20
  · have z20 : (l.length : Int) ≤ 20 := by omega
    by_cases hck : checkF l = 0
    · rw [hck] at HCK
      have hpc := fun wi => rcheck_any W H S wi
      have hcs : (okPat W H S ∧ chk W H S = 0) ∨ (chk W H S ≠ 0) := by
        by_cases hp : okPat W H S
        · exact .inl ⟨hp, chk_ok hp⟩
        · exact .inr (by rw [chk_bad hp]; decide)
      have HPC := hide hpc
      clear hpc
      generalize chk W H S = cc at *
      rcases hcs with ⟨hp, rfl⟩ | hne
      · have HP := hide hp
        clear hp
        go_enter Tryz.func19, Tryz.ntmps19
        go_wp2_with (fail)
        refine (HCK.out _ hT0.out.low h20).mono ?_
        rintro e w1 ⟨rfl, hb1⟩
        have HT1 := hide (hT0.out.below hb1)
        obtain ⟨-, -, p0, p1, p2⟩ := HT1.out
        clear hb1
        go_wp2_with (fail)
        refine (HPC.out _).mono ?_
        rintro e w2 ⟨rfl, hb2⟩
        have HT2 := hide (HT1.out.below hb2)
        clear hb2
        go_wp2_with (fail)
        go_ret
        exact .inr ⟨rfl, ⟨h20, hck, HP.out⟩, HT2.out.low⟩
      · have hnb : (cc == 0) = false := by simpa using hne
        clear hne
        go_enter Tryz.func19, Tryz.ntmps19
        go_wp2_with (fail)
        refine (HCK.out _ hT0.out.low h20).mono ?_
        rintro e w1 ⟨rfl, hb1⟩
        have HT1 := hide (hT0.out.below hb1)
        obtain ⟨-, -, p0, p1, p2⟩ := HT1.out
        clear hb1
        go_wp2_with (fail)
        refine (HPC.out _).mono ?_
        rintro e w2 ⟨rfl, hb2⟩
        have HT2 := hide (HT1.out.below hb2)
        clear hb2
        go_wp2_with (fail)
        go_ret
        exact .inl ⟨rfl, HT2.out.low⟩
    · have hnb : (checkF l == 0) = false := by simpa using hck
      clear hck
      generalize checkF l = ck at *
      go_enter Tryz.func19, Tryz.ntmps19
      go_wp2_with (fail)
      refine (HCK.out _ hT0.out.low h20).mono ?_
      rintro e w1 ⟨rfl, hb1⟩
      have HT1 := hide (hT0.out.below hb1)
      obtain ⟨-, -, p0, p1, p2⟩ := HT1.out
      clear hb1
      go_wp2_with (fail)
      go_ret
      exact .inl ⟨rfl, HT1.out.low⟩
  · have z20 : ¬ (l.length : Int) ≤ 20 := by omega
    clear h20
    obtain ⟨-, -, p0, p1, p2⟩ := id hT0.out
    go_enter Tryz.func19, Tryz.ntmps19
    go_wp2_with (fail)
    go_ret
    exact .inl ⟨rfl, hT0.out.low⟩
set_option maxRecDepth 100000 in
set_option maxHeartbeats 8000000 in
theorem alive41_any (w : World) : Calls Tryz.prog 18 #[] w fun e w' => e = .returned (.bool true) ∧ Below w.heap.size w w' := by
  have G1 := hide (fun (w : World) (v : Value) (h : RdK encR 4 w w.heap.size v ([⟨0, 0, 4, 4⟩] : List R4)) => by have := tile_any h (by simp) 4 2 2; rwa [ex41_t] at this)
  have G2 := hide (fun (w : World) (v : Value) (h : RdK encR 4 w w.heap.size v ([⟨0, 0, 4, 4⟩] : List R4)) => by have := tcount_any h (by simp) 4 2 2; rwa [ex41_c] at this)
  have g30 : Tryz.prog.eqGuardType Tryz.prog.depth 42 = false := by kernel_rfl
  have g36 : Tryz.prog.eqGuardType Tryz.prog.depth 81 = false := by kernel_rfl
  have K := hide (Below.refl w.heap.size w)
  go_enter Tryz.func18, Tryz.ntmps18
  go_wp2_with (fail)
  refine (bond_any _).mono ?_
  rintro e v1 ⟨rfl, hb⟩
  replace K := hide (K.out.trans (hb.mono K.out.size))
  clear hb
  go_wp2_with (fail)
  refine (ex41_at _).mono ?_
  rintro e v2 ⟨rfl, hb⟩
  replace K := hide (K.out.trans (hb.mono K.out.size))
  clear hb
  go_wp2_with (fail)
  refine (bond_any _).mono ?_
  rintro e v3 ⟨rfl, hb⟩
  replace K := hide (K.out.trans (hb.mono K.out.size))
  clear hb
  go_wp2_with (fail)
  refine (ex41_br _).mono ?_
  rintro e v4 ⟨rfl, hb⟩
  replace K := hide (K.out.trans (hb.mono K.out.size))
  clear hb
  go_wp2_with (fail)
  refine calls_name fun v5 hZ => ?_
  have hbz : Below v4.heap.size v4 v5 := by
    rw [hZ]
    repeat (first | with_reducible exact Below.refl _ _ | with_reducible refine Below.setCell ?_ (by first | (simp; done) | (simp; omega)) _ | with_reducible refine Below.alloc ?_ (by first | omega | (simp; omega) | simp) _)
  have BX : Hid (Cels (v4.heap.size) [.int .i64 2, .int .i64 2, .int .i64 6, .int .i64 4] v5) := hide (by
    rw [hZ]
    refine ⟨by simp; try omega, fun i u hu => ?_⟩
    match i, hu with
    | 0, hu => injection hu with hu; subst hu; simp [go_sem]
    | 1, hu => injection hu with hu; subst hu; simp [go_sem]
    | 2, hu => injection hu with hu; subst hu; simp [go_sem]
    | 3, hu => injection hu with hu; subst hu; simp [go_sem])
  replace K := hide (K.out.trans (hbz.mono K.out.size))
  clear hZ hbz
  refine (bond_any _).mono ?_
  rintro e v6 ⟨rfl, hb⟩
  replace K := hide (K.out.trans (hb.mono K.out.size))
  replace BX := hide (BX.out.keep hb)
  clear hb
  go_wp2_with (fail)
  refine (ex41_co _).mono ?_
  rintro e v7 ⟨rfl, hb⟩
  replace K := hide (K.out.trans (hb.mono K.out.size))
  replace BX := hide (BX.out.keep hb)
  clear hb
  go_wp2_with (fail)
  refine calls_name fun v8 hZ => ?_
  have hbz : Below v7.heap.size v7 v8 := by
    rw [hZ]
    repeat (first | with_reducible exact Below.refl _ _ | with_reducible refine Below.setCell ?_ (by first | (simp; done) | (simp; omega)) _ | with_reducible refine Below.alloc ?_ (by first | omega | (simp; omega) | simp) _)
  have BU : Hid (Cels (v7.heap.size) [.int .i64 3, .int .i64 4] v8) := hide (by
    rw [hZ]
    refine ⟨by simp; try omega, fun i u hu => ?_⟩
    match i, hu with
    | 0, hu => injection hu with hu; subst hu; simp [go_sem]
    | 1, hu => injection hu with hu; subst hu; simp [go_sem])
  have BV : Hid (Cels (v7.heap.size + 1) [.int .i64 1, .int .i64 2] v8) := hide (by
    rw [hZ]
    refine ⟨by simp; try omega, fun i u hu => ?_⟩
    match i, hu with
    | 0, hu => injection hu with hu; subst hu; simp [go_sem]
    | 1, hu => injection hu with hu; subst hu; simp [go_sem])
  replace K := hide (K.out.trans (hbz.mono K.out.size))
  replace BX := hide (BX.out.keep hbz)
  clear hZ hbz
  refine (rect41_any 0 0 4 4 _).mono ?_
  rintro e v9 ⟨rfl, ho, hb⟩
  replace K := hide (K.out.trans (hb.mono K.out.size))
  replace BX := hide (BX.out.keep hb)
  replace BU := hide (BU.out.keep hb)
  replace BV := hide (BV.out.keep hb)
  have HR1 := hide (own_rd (l := ([⟨0, 0, 4, 4⟩] : List R4)) ho (fun _ => rfl))
  clear ho
  clear hb
  go_wp2_with (fail)
  refine (bond_any _).mono ?_
  rintro e v10 ⟨rfl, hb⟩
  replace K := hide (K.out.trans (hb.mono K.out.size))
  replace HR1 := hide ((HR1.out.below hb).mono hb.size)
  replace BX := hide (BX.out.keep hb)
  replace BU := hide (BU.out.keep hb)
  replace BV := hide (BV.out.keep hb)
  clear hb
  go_wp2_with (fail)
  refine (G1.out _ _ HR1.out).mono ?_
  rintro e v11 ⟨hpc, hb⟩
  replace K := hide (K.out.trans (hb.mono K.out.size))
  replace HR1 := hide ((HR1.out.below hb).mono hb.size)
  replace BX := hide (BX.out.keep hb)
  replace BU := hide (BU.out.keep hb)
  replace BV := hide (BV.out.keep hb)
  obtain ⟨xA, rfl, hA⟩ := pcs_rd hpc
  obtain ⟨Aa, ca, rfl, -⟩ := id hA
  have HA := hide hA
  clear hpc hA
  clear hb
  clear HR1
  go_wp2_with (fail)
  refine (rect41_any 0 0 4 4 _).mono ?_
  rintro e v12 ⟨rfl, ho, hb⟩
  replace K := hide (K.out.trans (hb.mono K.out.size))
  replace HA := hide ((HA.out.below hb).mono hb.size)
  replace BX := hide (BX.out.keep hb)
  replace BU := hide (BU.out.keep hb)
  replace BV := hide (BV.out.keep hb)
  have HR2 := hide (own_rd (l := ([⟨0, 0, 4, 4⟩] : List R4)) ho (fun _ => rfl))
  clear ho
  clear hb
  go_wp2_with (fail)
  refine (bond_any _).mono ?_
  rintro e v13 ⟨rfl, hb⟩
  replace K := hide (K.out.trans (hb.mono K.out.size))
  replace HA := hide ((HA.out.below hb).mono hb.size)
  replace HR2 := hide ((HR2.out.below hb).mono hb.size)
  replace BX := hide (BX.out.keep hb)
  replace BU := hide (BU.out.keep hb)
  replace BV := hide (BV.out.keep hb)
  clear hb
  go_wp2_with (fail)
  refine (G2.out _ _ HR2.out).mono ?_
  rintro e v14 ⟨rfl, hb⟩
  replace K := hide (K.out.trans (hb.mono K.out.size))
  replace HA := hide ((HA.out.below hb).mono hb.size)
  replace HR2 := hide ((HR2.out.below hb).mono hb.size)
  replace BX := hide (BX.out.keep hb)
  replace BU := hide (BU.out.keep hb)
  replace BV := hide (BV.out.keep hb)
  clear hb
  clear HR2
  have bx0 := BX.out.2 0 _ rfl
  have bx1 := BX.out.2 1 _ rfl
  have bx2 := BX.out.2 2 _ rfl
  have bx3 := BX.out.2 3 _ rfl
  have bu0 := BU.out.2 0 _ rfl
  have bu1 := BU.out.2 1 _ rfl
  have bv0 := BV.out.2 0 _ rfl
  have bv1 := BV.out.2 1 _ rfl
  go_upto_region 7 with fail
  clear bx0 bx1 bx2 bx3 bu0 bu1 bv0 bv1
  clear BX BU BV
  obtain ⟨A9, c9, e9, hx⟩ := HA.out
  injection e9 with e1 _ e3
  subst e1; subst e3
  obtain ⟨g9, rfl, hg9, kx⟩ := hx (by simp)
  obtain ⟨_, _, u9, x2, hu⟩ := kx 0 _ _ rfl
  have x2' : v14.cell? ⟨g9, 2, none⟩ = some u9 := x2
  have HU := hide hu
  clear hx kx hu x2 G1 G2 HA
  go_region_held3 (fun w' => w'.cell? ⟨g9, 2, none⟩ = some u9) ((first | exact ((show Below v14.heap.size v14 _ from by have hbK := HB10.out; repeat (first | with_reducible exact Below.refl _ _ | with_reducible assumption | with_reducible refine Below.setCell ?_ (by first | omega | (simp; done) | (simp; omega)) _ | with_reducible refine Below.alloc ?_ (by first | omega | (simp; omega) | simp) _ | with_reducible refine Below.drew ?_)).cell (p := ⟨g9, 2, none⟩) hg9).trans x2' | exact ((show Below v14.heap.size v14 _ from by have hbK := HBQ.out; repeat (first | with_reducible exact Below.refl _ _ | with_reducible assumption | with_reducible refine Below.setCell ?_ (by first | omega | (simp; done) | (simp; omega)) _ | with_reducible refine Below.alloc ?_ (by first | omega | (simp; omega) | simp) _ | with_reducible refine Below.drew ?_)).cell (p := ⟨g9, 2, none⟩) hg9).trans x2' | exact ((show Below v14.heap.size v14 _ from by repeat (first | with_reducible exact Below.refl _ _ | with_reducible assumption | with_reducible refine Below.setCell ?_ (by first | omega | (simp; done) | (simp; omega)) _ | with_reducible refine Below.alloc ?_ (by first | omega | (simp; omega) | simp) _ | with_reducible refine Below.drew ?_)).cell (p := ⟨g9, 2, none⟩) hg9).trans x2'))
    (first
      | (go_at_call 17; refine (rect41_any 0 0 4 2 _).mono ?_; rintro e wq ⟨rfl, ho, hbq⟩; have HRQ := hide (own_rd (l := ([⟨0, 0, 4, 2⟩] : List R4)) ho (fun _ => rfl)); have HBQ : Hid (Below v14.heap.size v14 wq) := hide (Below.trans (by repeat (first | with_reducible exact Below.refl _ _ | with_reducible assumption | with_reducible refine Below.setCell ?_ (by first | omega | (simp; done) | (simp; omega)) _ | with_reducible refine Below.alloc ?_ (by first | omega | (simp; omega) | simp) _ | with_reducible refine Below.drew ?_)) (hbq.mono (by simp <;> omega))); clear ho; obtain ⟨hcq, hfq⟩ := bcell hbq; clear hbq)
      | (go_at_call 21; refine (rSameSelf (l := ([⟨0, 0, 4, 2⟩] : List R4)) (rd_at HU.out (by have hbK := HBQ.out; repeat (first | with_reducible exact Below.refl _ _ | with_reducible assumption | with_reducible refine Below.setCell ?_ (by first | omega | (simp; done) | (simp; omega)) _ | with_reducible refine Below.alloc ?_ (by first | omega | (simp; omega) | simp) _ | with_reducible refine Below.drew ?_))) (rd_at HRQ.out (by repeat (first | with_reducible exact Below.refl _ _ | with_reducible assumption | with_reducible refine Below.setCell ?_ (by first | omega | (simp; done) | (simp; omega)) _ | with_reducible refine Below.alloc ?_ (by first | omega | (simp; omega) | simp) _ | with_reducible refine Below.drew ?_))) (by decide)).mono ?_; rintro e w10 ⟨rfl, hb10⟩; have HB10 : Hid (Below v14.heap.size v14 w10) := hide (Below.trans (by have hbK := HBQ.out; repeat (first | with_reducible exact Below.refl _ _ | with_reducible assumption | with_reducible refine Below.setCell ?_ (by first | omega | (simp; done) | (simp; omega)) _ | with_reducible refine Below.alloc ?_ (by first | omega | (simp; omega) | simp) _ | with_reducible refine Below.drew ?_)) (hb10.mono (by have := HBQ.out.size; simp <;> omega))); clear hb10))
  all_goals (go_wp2_with (fail); go_ret)
  all_goals exact ⟨rfl, K.out.trans ((show Below v14.heap.size v14 _ from by have hbK := HB10.out; repeat (first | with_reducible exact Below.refl _ _ | with_reducible assumption | with_reducible refine Below.setCell ?_ (by first | omega | (simp; done) | (simp; omega)) _ | with_reducible refine Below.alloc ?_ (by first | omega | (simp; omega) | simp) _ | with_reducible refine Below.drew ?_)).mono K.out.size)⟩
end Go.Proofs.YtlkaniojnaaocaaGreat

/- region.Hull and the reference's Hull. -/
namespace Go.Proofs.YtlkaniojnaaocaaGreat
open Go.RowKit
set_option linter.unusedVariables false
set_option linter.unusedSimpArgs false

/-- The result's box R and the hull's box H, between two rectangles. -/
structure HullR (w : World) (H : Nat) (P : R4) (wr : World) : Prop where
  low : Below w.heap.size w wr
  gt : w.heap.size < H
  lt : H < wr.heap.size
  c : wr.cell? ⟨H, 0, none⟩ = some (.int .i64 P.x0) ∧ wr.cell? ⟨H, 1, none⟩ = some (.int .i64 P.y0) ∧ wr.cell? ⟨H, 2, none⟩ = some (.int .i64 P.x1) ∧ wr.cell? ⟨H, 3, none⟩ = some (.int .i64 P.y1)
  f : ∀ j, wr.frozen? ⟨H, j, none⟩ = false
  r : wr.cell? ⟨w.heap.size, 0, none⟩ = some (.int .i64 0) ∧ wr.cell? ⟨w.heap.size, 1, none⟩ = some (.int .i64 0) ∧ wr.cell? ⟨w.heap.size, 2, none⟩ = some (.int .i64 0) ∧ wr.cell? ⟨w.heap.size, 3, none⟩ = some (.int .i64 0)
  fr : ∀ j, wr.frozen? ⟨w.heap.size, j, none⟩ = false
theorem HullR.below {w wr w2 : World} {H : Nat} {P : R4} (h : HullR w H P wr) (hb : Below wr.heap.size wr w2) : HullR w H P w2 := by
  have hl := h.lt
  have hg := h.gt
  have k1 := fun j => hb.cell (p := ⟨H, j, none⟩) hl
  have k2 := fun j => hb.frozen (p := ⟨H, j, none⟩) hl
  have k3 := fun j => hb.cell (p := ⟨w.heap.size, j, none⟩) (by show w.heap.size < _; omega)
  have k4 := fun j => hb.frozen (p := ⟨w.heap.size, j, none⟩) (by show w.heap.size < _; omega)
  exact ⟨h.low.trans (hb.mono h.low.size), hg, Nat.lt_of_lt_of_le hl hb.size, ⟨(k1 0).trans h.c.1, (k1 1).trans h.c.2.1, (k1 2).trans h.c.2.2.1, (k1 3).trans h.c.2.2.2⟩, fun j => (k2 j).trans (h.f j), ⟨(k3 0).trans h.r.1, (k3 1).trans h.r.2.1, (k3 2).trans h.r.2.2.1, (k3 3).trans h.r.2.2.2⟩, fun j => (k4 j).trans (h.fr j)⟩
theorem HullR.set {w wr : World} {H : Nat} {P : R4} (h : HullR w H P wr) (a b c d : Int) : HullR w H ⟨a, b, c, d⟩ ((((wr.setCell ⟨H, 0, none⟩ (.int .i64 a)).setCell ⟨H, 1, none⟩ (.int .i64 b)).setCell ⟨H, 2, none⟩ (.int .i64 c)).setCell ⟨H, 3, none⟩ (.int .i64 d)) := by
  have hl := h.lt
  have hg := h.gt
  obtain ⟨c0, c1, c2, c3⟩ := h.c
  obtain ⟨r0, r1, r2, r3⟩ := h.r
  have ne : w.heap.size ≠ H := by omega
  have ge : w.heap.size ≤ H := by omega
  refine ⟨(((h.low.setCell ge _).setCell ge _).setCell ge _).setCell ge _, hg, by simpa [World.setCell] using hl, ⟨by simp [go_sem, c0], by simp [go_sem, c1], by simp [go_sem, c2], by simp [go_sem, c3]⟩, fun j => ?_, ⟨by simp [go_sem, r0, ne], by simp [go_sem, r1, ne], by simp [go_sem, r2, ne], by simp [go_sem, r3, ne]⟩, fun j => ?_⟩
  · rw [World.frozen?_setCell, World.frozen?_setCell, World.frozen?_setCell, World.frozen?_setCell]; exact h.f j
  · rw [World.frozen?_setCell, World.frozen?_setCell, World.frozen?_setCell, World.frozen?_setCell]; exact h.fr j

set_option maxRecDepth 100000 in
set_option maxHeartbeats 4000000 in
theorem rHull_any {w : World} {v : Value} {l : List R4} (hr : RdK encR 4 w w.heap.size v l) (hl : l.length ≤ 100000000) :
    Calls Tryz.prog 54 #[v] w fun e w' => e = .returned (.tuple #[.agg (encR (hullF l).1).toArray, .int .i64 (hullF l).2]) ∧ Below w.heap.size w w' := by
  have hck := fun (W : World) (hW : Below w.heap.size w W) => rCheck_any (w := W) ((hr.below hW).mono hW.size) hl
  obtain ⟨A, c, hv, hc⟩ := id hr
  subst hv
  have HCK := hide hck
  have HR := hide hr
  clear hck hr hc
  have hb0 : Below w.heap.size w (w.alloc (.cells #[.int .i64 0, .int .i64 0, .int .i64 0, .int .i64 0] 42)) := (Below.refl _ _).alloc (Nat.le_refl _) _
  have HB0 := hide hb0
  clear hb0
  have key : ∀ w1, Below (w.alloc (.cells #[.int .i64 0, .int .i64 0, .int .i64 0, .int .i64 0] 42)).heap.size (w.alloc (.cells #[.int .i64 0, .int .i64 0, .int .i64 0, .int .i64 0] 42)) w1 →
      (w1.cell? ⟨w.heap.size, 0, none⟩ = some (.int .i64 0) ∧ w1.cell? ⟨w.heap.size, 1, none⟩ = some (.int .i64 0) ∧ w1.cell? ⟨w.heap.size, 2, none⟩ = some (.int .i64 0) ∧ w1.cell? ⟨w.heap.size, 3, none⟩ = some (.int .i64 0)) ∧ ∀ j, w1.frozen? ⟨w.heap.size, j, none⟩ = false := by
    intro w1 hb
    have hc := fun j => hb.cell (p := ⟨w.heap.size, j, none⟩) (by simp)
    have hf := fun j => hb.frozen (p := ⟨w.heap.size, j, none⟩) (by simp)
    exact ⟨⟨(hc 0).trans (by simp [go_sem]), (hc 1).trans (by simp [go_sem]), (hc 2).trans (by simp [go_sem]), (hc 3).trans (by simp [go_sem])⟩, fun j => (hf j).trans (by simp [go_sem])⟩
  have KEY := hide key
  clear key
  by_cases h0 : checkF l = 0
  · obtain ⟨k1, k2, _⟩ := checkF_ok h0
    rw [h0] at HCK
    have H0 := hide h0
    clear h0
    by_cases hle : l = []
    · have HF : Hid (hullF l = (⟨0, 0, 0, 0⟩, 6)) := hide (by unfold hullF; rw [if_pos H0.out, if_pos hle])
      subst hle
      clear k2
      go_enter Tryz.func54, Tryz.ntmps54
      go_wp2_with (fail)
      refine (HCK.out _ HB0.out).mono ?_
      rintro e w1 ⟨rfl, hb1⟩
      obtain ⟨⟨r0, r1, r2, r3⟩, hf⟩ := KEY.out w1 hb1
      have f0 := hf 0
      have f1 := hf 1
      have f2 := hf 2
      have f3 := hf 3
      have HB1 := hide hb1
      clear hb1 hf
      go_wp2_with (fail)
      refine bodyPost_ret (v := .tuple #[.agg #[.int .i64 0, .int .i64 0, .int .i64 0, .int .i64 0], .int .i64 6]) (by simp [results, Tryz.results54, go_sem, r0, r1, r2, r3]) rfl ⟨by rw [HF.out]; rfl, ?_⟩
      exact ((((HB0.out.trans (HB1.out.mono (by simp))).setCell (Nat.le_refl _) _).setCell (Nat.le_refl _) _).setCell (Nat.le_refl _) _).setCell (Nat.le_refl _) _
    · have HF : Hid (hullF l = (hullL l, 0)) := hide (by unfold hullF; rw [if_pos H0.out, if_neg hle])
      have hlp : 0 < l.length := List.length_pos_iff.2 hle
      have hne0 : ((l.length : Int) == 0) = false := by simp; omega
      have hcuts := hull_cuts hle (fun r hr => ⟨(k2 r hr).1, (k2 r hr).2.1⟩)
      have hX := fun (W : World) (hW : Below w.heap.size w W) => rXs_any (w := W) ((HR.out.below hW).mono hW.size) (RdK.nil (α := R4) none 0) (Nat.le_refl _) (by omega) (by simp)
      have hY := fun (W : World) (hW : Below w.heap.size w W) => rYs_any (w := W) ((HR.out.below hW).mono hW.size) (RdK.nil (α := R4) none 0) (Nat.le_refl _) (by omega) (by simp)
      have hxl : (srt (cutsL l ++ cutsL [])).length ≤ 1000 := by have := srt_len (cutsL l ++ cutsL []); rw [List.length_append, cutsL_len, cutsL_len] at this; simp at this; omega
      have hyl : (srt (cutsY l ++ cutsY [])).length ≤ 1000 := by have := srt_len (cutsY l ++ cutsY []); rw [List.length_append, cutsY_len, cutsY_len] at this; simp at this; omega
      generalize srt (cutsL l ++ cutsL []) = xs at *
      generalize srt (cutsY l ++ cutsY []) = ys at *
      generalize hullL l = P at *
      obtain ⟨p0, p1, p2, p3⟩ := P
      obtain ⟨⟨e0, e2, lx⟩, e1, e3, ly⟩ := hcuts
      obtain ⟨nx, hnx⟩ : ∃ nx, xs.length = nx + 1 := ⟨xs.length - 1, by omega⟩
      obtain ⟨ny, hny⟩ : ∃ ny, ys.length = ny + 1 := ⟨ys.length - 1, by omega⟩
      rw [hnx, Nat.add_sub_cancel] at e2
      rw [hny, Nat.add_sub_cancel] at e3
      have hnx2 : nx ≤ 1000 := by omega
      have hny2 : ny ≤ 1000 := by omega
      have HE := hide (And.intro (And.intro e0 e2) (And.intro e1 e3))
      have HNX := hide hnx
      have HNY := hide hny
      have HX := hide hX
      have HY := hide hY
      clear hle k2 hX hY e0 e1 e2 e3 hnx hny hxl hyl lx ly
      go_enter Tryz.func54, Tryz.ntmps54
      go_wp2_with (fail)
      refine (HCK.out _ HB0.out).mono ?_
      rintro e w1 ⟨rfl, hb1⟩
      have HB1 := hide (HB0.out.trans (hb1.mono (by simp)))
      have HB1' := hide hb1
      clear hb1
      go_wp2_with (fail)
      refine (HX.out _ HB1.out).mono ?_
      rintro e w2 ⟨vx, rfl, ox, hb2⟩
      have HB2 := hide (HB1.out.trans (hb2.mono HB1.out.size))
      have HB2' := hide (HB1'.out.trans (hb2.mono HB1'.out.size))
      obtain ⟨gx, cpx, hvx, hgx0, hgx⟩ := ox.form (by rw [HNX.out]; omega)
      subst hvx
      have OX := hide ox
      clear hb2 ox
      go_wp2_with (fail)
      refine (HY.out _ HB2.out).mono ?_
      rintro e w3 ⟨vy, rfl, oy, hb3⟩
      obtain ⟨gy, cpy, hvy, hgy0, hgy⟩ := oy.form (by rw [HNY.out]; omega)
      subst hvy
      have ox3 := own_below OX.out hb3
      have x0 : w3.cell? ⟨gx, 0, none⟩ = some (.int .i64 p0) := by
        have := (ox3.cells (g := gx) rfl) 0 (iv p0) (by rw [List.getElem?_map, HE.out.1.1]; rfl)
        rwa [addr_add] at this
      have x2 : w3.cell? ⟨gx, nx, none⟩ = some (.int .i64 p2) := by
        have := (ox3.cells (g := gx) rfl) nx (iv p2) (by rw [List.getElem?_map, HE.out.1.2]; rfl)
        rwa [addr_add] at this
      have x1 : w3.cell? ⟨gy, 0, none⟩ = some (.int .i64 p1) := by
        have := (oy.cells (g := gy) rfl) 0 (iv p1) (by rw [List.getElem?_map, HE.out.2.1]; rfl)
        rwa [addr_add] at this
      have x3 : w3.cell? ⟨gy, ny, none⟩ = some (.int .i64 p3) := by
        have := (oy.cells (g := gy) rfl) ny (iv p3) (by rw [List.getElem?_map, HE.out.2.2]; rfl)
        rwa [addr_add] at this
      have HB3 := hide (HB2.out.trans (hb3.mono HB2.out.size))
      have hs1 : w.heap.size < w1.heap.size := by have := HB1'.out.size; simp at this; omega
      have hs2 := HB2'.out.size
      have hs3 := HB2.out.size
      have nx1 : gx ≠ w.heap.size := by omega
      have ny1 : gy ≠ w.heap.size := by simp at hs2; omega
      have nx2 : w.heap.size ≠ gx := fun e => nx1 e.symm
      have ny2 : w.heap.size ≠ gy := fun e => ny1 e.symm
      obtain ⟨⟨r0, r1, r2, r3⟩, hf⟩ := KEY.out w3 (HB2'.out.trans (hb3.mono HB2'.out.size))
      have f0 := hf 0
      have f1 := hf 1
      have f2 := hf 2
      have f3 := hf 3
      clear hb3 oy ox3 hf
      rw [HNX.out, HNY.out]
      have t1 : IntKind.i64.wrap (nx : Int) = nx := by simp [IntKind.wrap, IntKind.bits, IntKind.signed]; omega
      have t2 : IntKind.i64.wrap (ny : Int) = ny := by simp [IntKind.wrap, IntKind.bits, IntKind.signed]; omega
      have q1 : (0 : Int) ≤ (nx : Int) := by omega
      have q2 : (0 : Int) ≤ (ny : Int) := by omega
      have q3 : (nx : Int) < (nx : Int) + 1 := by omega
      have q4 : (ny : Int) < (ny : Int) + 1 := by omega
      have q5 : (0 : Int) < (nx : Int) + 1 := by omega
      have q6 : (0 : Int) < (ny : Int) + 1 := by omega
      go_wp2_with (fail)
      refine wp_region_mix [0, 1, 2, 3, 4, 5, 6, 7, 8, 9, 10, 11, 12, 13, 14, 15, 16, 17, 18] [19, 20] (fun w' => (w'.cell? ⟨gx, 0, none⟩ = some (.int .i64 p0) ∧ w'.cell? ⟨gx, nx, none⟩ = some (.int .i64 p2)) ∧ w'.cell? ⟨gy, 0, none⟩ = some (.int .i64 p1) ∧ w'.cell? ⟨gy, ny, none⟩ = some (.int .i64 p3)) (by kernel_rfl) (by kernel_rfl) ⟨⟨x0, x2⟩, x1, x3⟩ ?_
      simp only [List.map_cons, List.map_nil, opAt, List.getElem?_cons_succ, List.getElem?_cons_zero, Option.getD_some]
      iterate 19
        refine ⟨?_, Or.inl ⟨by rfl, ?_⟩, ?_⟩
        rotate_left 1
        · intro w' hSw
          obtain ⟨⟨z1, z2⟩, z3, z4⟩ := hSw
          go_simp
          first | done | with_reducible rfl
        simp only [Act.put, List.setIfInBounds_toArray, List.set_cons_zero, List.set_cons_succ]
      clear t1 t2 q1 q2 q3 q4 q5 q6
      simp only [wpReads]
      intro K hK
      simp only [Act.put, List.setIfInBounds_toArray, List.set_cons_zero, List.set_cons_succ] at hK ⊢
      go_simp
      refine hK _ _ (fun _ => ⟨⟨by go_keep, by go_keep⟩, by go_keep, by go_keep⟩) ?_
      clear hK K
      intro K hK
      simp only [Act.put, List.setIfInBounds_toArray, List.set_cons_zero, List.set_cons_succ] at hK ⊢
      go_simp
      refine hK _ _ (fun h => absurd rfl h) ?_
      clear hK K
      refine NoPanic.normal ?_
      go_wp2_with (fail)
      refine bodyPost_ret (v := .tuple #[.agg #[.int .i64 p0, .int .i64 p1, .int .i64 p2, .int .i64 p3], .int .i64 0]) (by simp [results, Tryz.results54, go_sem, r0, r1, r2, r3]) rfl ⟨by rw [HF.out]; rfl, ?_⟩
      exact ((((HB3.out.drew).setCell (Nat.le_refl _) _).setCell (Nat.le_refl _) _).setCell (Nat.le_refl _) _).setCell (Nat.le_refl _) _
  · have HF : Hid (hullF l = (⟨0, 0, 0, 0⟩, checkF l)) := hide (if_neg h0)
    generalize checkF l = ck at *
    have hne : (ck != 0) = true := by simpa using h0
    clear h0
    go_enter Tryz.func54, Tryz.ntmps54
    go_wp2_with (fail)
    refine (HCK.out _ HB0.out).mono ?_
    rintro e w1 ⟨rfl, hb1⟩
    have HB1 := hide (HB0.out.trans (hb1.mono (by simp)))
    have HB1' := hide hb1
    clear hb1
    go_wp2_with (fail)
    refine (HCK.out _ HB1.out).mono ?_
    rintro e w2 ⟨rfl, hb2⟩
    obtain ⟨⟨r0, r1, r2, r3⟩, hf⟩ := KEY.out w2 (HB1'.out.trans (hb2.mono HB1'.out.size))
    have f0 := hf 0
    have f1 := hf 1
    have f2 := hf 2
    have f3 := hf 3
    have HB2 := hide (HB1.out.trans (hb2.mono HB1.out.size))
    clear hb2 hf
    go_wp2_with (fail)
    refine bodyPost_ret (v := .tuple #[.agg #[.int .i64 0, .int .i64 0, .int .i64 0, .int .i64 0], .int .i64 ck]) (by simp [results, Tryz.results54, go_sem, r0, r1, r2, r3]) rfl ⟨by rw [HF.out]; rfl, ?_⟩
    exact (((HB2.out.setCell (Nat.le_refl _) _).setCell (Nat.le_refl _) _).setCell (Nat.le_refl _) _).setCell (Nat.le_refl _) _
end Go.Proofs.YtlkaniojnaaocaaGreat

/- gambrelref41.Tile for regions near the origin: the pieces come out in order, one by one, as their points are met. -/
namespace Go.Proofs.YtlkaniojnaaocaaGreat
open Go.RowKit
set_option linter.unusedVariables false
set_option linter.unusedSimpArgs false
attribute [local go_sem] Oper.semAt_some

theorem rd_block {W W' : World} {B B' bb n c : Nat} {l : List R4} (h : RdK encR 4 W B (.slice (some ⟨bb, 0, none⟩) n c) l) (hb : W'.heap[bb]? = W.heap[bb]?) (hlt : bb < B') : RdK encR 4 W' B' (.slice (some ⟨bb, 0, none⟩) n c) l := by
  obtain ⟨A, c', e, h⟩ := h
  refine ⟨A, c', e, fun hne => ?_⟩
  obtain ⟨b, o, e2, hl2, k⟩ := h hne
  injection e with e1 _ _
  rw [e2] at e1
  injection e1 with e1
  injection e1 with e1 e3
  subst e1; subst e3
  exact ⟨bb, 0, e2, hlt, fun j x hx i u hu => (World.cell?_of_block hb).trans (k j x hx i u hu)⟩
theorem keyP_bd {W H S x y : Int} (hp : okPat W H S) (h1 : -30 ≤ x ∧ x ≤ 30) (h2 : -30 ≤ y ∧ y ≤ 30) : (-1000000 ≤ rowI H y ∧ rowI H y ≤ 1000000) ∧ (-2000000 ≤ colI W H S x y ∧ colI W H S x y ≤ 2000000) := by
  have hsb := shiftI_bd hp (y / H)
  have hp' := hp
  unfold okPat at hp'
  have q1 := ediv_bd y H 1000000 (by omega) (by omega) (by omega) (by omega)
  have q2 := ediv_bd (x - shiftI W S (y / H)) W 2000000 (by omega) (by omega) (by omega) (by omega)
  exact ⟨q1, q2⟩
theorem own_row3 {w wy : World} {b n m g c : Nat} {v : Value} {xs ys : List Value} (h : w.ownsRow b 42 4 v n xs) (h' : w.ownsRow b 54 3 (.slice (some ⟨g, 0, none⟩) m c) m ys) (hg : w.grownBy wy (some g)) : wy.ownsRow b 42 4 v n xs := h.kept hg (own_apart h h' (by decide))
theorem Pcs.ones {wr : World} {b : Nat} {R : List (Ky × List R4)} {L : List (Ky × Value)} (l0 : L.length = R.length) (l2 : ∀ (i : Nat) (k : Ky) (r : List R4), R[i]? = some (k, r) → ∃ u, L[i]? = some (k, u) ∧ wr.ownsRow b 42 4 u r.length (r.flatMap encR)) : ∀ q ∈ L, q.2.oneCell' = true := by
  intro q hq
  obtain ⟨i, hi⟩ := List.getElem?_of_mem hq
  have h1 := (List.getElem?_eq_some_iff.1 hi).1
  obtain ⟨⟨k, r⟩, hr⟩ : ∃ x, R[i]? = some x := ⟨_, List.getElem?_eq_getElem (by omega)⟩
  obtain ⟨u, h2, h3⟩ := l2 i k r hr
  rw [hi] at h2
  injection h2 with h2
  subst h2
  exact ids h3
set_option maxRecDepth 100000 in
set_option maxHeartbeats 4000000 in
theorem rtile_any {w : World} {v : Value} {l : List R4} (hr : RdK encR 4 w w.heap.size v l) (hl : l.length ≤ 420) (W H S : Int) (hn : checkF l = 0 → ∀ r ∈ l, near4 30 r) :
    Calls Tryz.prog 31 #[v, .agg #[.int .i64 W, .int .i64 H, .int .i64 S]] w fun e w' => PcsRet w.heap.size (tileF W H S l) e w' ∧ Below w.heap.size w w' := by
  obtain ⟨A0, c0, hv, hc⟩ := id hr
  subst hv
  have HR := hide hr
  clear hr hc
  have HCK := hide (fun (wi : World) (hb : Below w.heap.size w wi) => rCheck_any (w := wi) ((HR.out.below hb).mono hb.size) (by omega))
  have hT0 := hide (T1.start w W H S)
  by_cases h0 : checkF l = 0
  · rw [h0] at HCK
    by_cases hp : okPat W H S
    · have hpc := fun wi => rcheck_any W H S wi
      rw [chk_ok hp] at hpc
      have HPC := hide hpc
      clear hpc
      have hF : Hid (tileF W H S l = if 400 < (keysT W H S l).length then ([], 4) else ((keysT W H S l).map fun k => (k, pieceR W H S l k), 0)) := hide (by unfold tileF; rw [if_pos h0, if_pos hp])
      have HWF := hide (check_wfs h0)
      have HPL : Hid (∀ k, (pieceR W H S l k).length ≤ 400) := hide (fun k => piece_len hp h0 k)
      obtain ⟨i2, fi, fz0, fz1, fz2⟩ := info_parts infoPc
      obtain ⟨x0, y0, x1, y1, ee, hhu, hhc, hx0, hy0, hx1, hy1, hxx, hyy⟩ := hull_near h0 (hn h0)
      have HHU := hide (fun (wi : World) (hb : Below w.heap.size w wi) => (by
        have h := rHull_any (w := wi) ((HR.out.below hb).mono hb.size) (by omega)
        rw [hhu] at h
        exact h : Calls Tryz.prog 54 #[.slice A0 l.length c0] wi fun e w' => e = .returned (.tuple #[.agg #[.int .i64 x0, .int .i64 y0, .int .i64 x1, .int .i64 y1], .int .i64 ee]) ∧ Below wi.heap.size wi w'))
      have hez : y0 < y1 → (ee == 0) = true := fun h => by
        rcases hhc with ⟨_, _, q1, _, q2⟩ | ⟨_, _, q⟩
        · omega
        · simp [q]
      have HHC := hide hhc
      have HEZ := hide hez
      clear hhu hhc hez h0 hn
      go_enter Tryz.func31, Tryz.ntmps31
      go_wp2_with (first
        | (go_at_call 26; refine (HCK.out _ hT0.out.low).mono ?_; rintro e w1 ⟨rfl, hb1⟩; have HT1 := hide (hT0.out.below hb1); have p0 := HT1.out.p0; have p1 := HT1.out.p1; have p2 := HT1.out.p2; clear hb1)
        | (go_at_call 23; refine (HPC.out _).mono ?_; rintro e w2 ⟨rfl, hb2⟩; have HT2 := hide (HT1.out.below hb2); clear hb2 p0 p1 p2)
        | (go_at_call 54; refine (HHU.out _ HT2.out.low).mono ?_; rintro e w3 ⟨rfl, hb3⟩; have HT3 := hide (HT2.out.below hb3); clear hb3))
      obtain ⟨bH, hbH⟩ : ∃ bH, bH = w3.heap.size := ⟨_, rfl⟩
      rw [← hbH]
      refine wp_name fun wb hwb => ?_
      have HTb : Hid (T1 w W H S wb) := hide (by rw [hwb]; exact HT3.out.below ((Below.refl _ _).alloc (Nat.le_refl _) _))
      have b0 : wb.cell? ⟨bH, 0, none⟩ = some (.int .i64 x0) := by rw [hwb, hbH]; simp [go_sem]
      have b1 : wb.cell? ⟨bH, 1, none⟩ = some (.int .i64 y0) := by rw [hwb, hbH]; simp [go_sem]
      have b2 : wb.cell? ⟨bH, 2, none⟩ = some (.int .i64 x1) := by rw [hwb, hbH]; simp [go_sem]
      have b3 : wb.cell? ⟨bH, 3, none⟩ = some (.int .i64 y1) := by rw [hwb, hbH]; simp [go_sem]
      have hbw : bH < wb.heap.size := by rw [hwb, hbH]; simp
      have HRb : Hid (RdK encR 4 wb wb.heap.size (.slice A0 l.length c0) l) := hide ((HR.out.below HTb.out.low).mono HTb.out.low.size)
      clear hwb hbH HT1 HT2 HT3 HCK HPC HHU hT0
      go_loopw [6, 9] (fun v i wr => ∃ (y : Int) (L : List Ky) (Ao : Option Addr) (co : Nat), y0 ≤ y ∧ y ≤ y1 ∧ i = .int .i64 y ∧ v = .slice Ao L.length co ∧ Hid (SK W H S l ⟨x0, y0, x1, y1⟩ y x0 L) ∧ (L.length : Int) ≤ 60 * (y - y0) ∧ Hid (Pcs wb (.slice Ao L.length co) (L.map fun k => (k, pieceR W H S l k)) wr)) (fun _ i _ => (y1 - intOf i).toNat)
      case atStart => exact ⟨y0, [], none, 0, by omega, hyy, rfl, rfl, hide (SK.start W H S l ⟨x0, y0, x1, y1⟩), by simp, hide ⟨Below.refl _ _, [], rfl, World.ownsRow_nil _ _ _ _, fun i k r h => by simp at h⟩⟩
      case round =>
        obtain ⟨y, L, Ao, co, hya, hyb, rfl, rfl, HS, hLl, HP⟩ := hrel
        have hlow := HP.out.low
        have hls := hlow.size
        have e0 : wr.cell? ⟨bH, 0, none⟩ = some (.int .i64 x0) := (hlow.cell (p := ⟨bH, 0, none⟩) hbw).trans b0
        have e2 : wr.cell? ⟨bH, 2, none⟩ = some (.int .i64 x1) := (hlow.cell (p := ⟨bH, 2, none⟩) hbw).trans b2
        have e3 : wr.cell? ⟨bH, 3, none⟩ = some (.int .i64 y1) := (hlow.cell (p := ⟨bH, 3, none⟩) hbw).trans b3
        clear hlow
        by_cases hlt : y < y1
        · have hee := HEZ.out (by omega)
          go_wp2
          go_loopw [6, 10] (fun v i wr => ∃ (x : Int) (L : List Ky) (Ao : Option Addr) (co : Nat), x0 ≤ x ∧ x ≤ x1 ∧ i = .int .i64 x ∧ v = .slice Ao L.length co ∧ Hid (SK W H S l ⟨x0, y0, x1, y1⟩ y x L) ∧ (L.length : Int) ≤ 60 * (y - y0) + (x - x0) ∧ Hid (Pcs wb (.slice Ao L.length co) (L.map fun k => (k, pieceR W H S l k)) wr)) (fun _ i _ => (x1 - intOf i).toNat)
          case atStart => exact ⟨x0, L, Ao, co, by omega, hxx, rfl, rfl, HS, by omega, HP⟩
          case round =>
            clear HS HP hLl e0 e2 e3 hls
            obtain ⟨x, L, Ao, co, hxa, hxb, rfl, rfl, HS, hLl, HP⟩ := hrel
            have hlow := HP.out.low
            have hls := hlow.size
            have e2 : wr.cell? ⟨bH, 2, none⟩ = some (.int .i64 x1) := (hlow.cell (p := ⟨bH, 2, none⟩) hbw).trans b2
            by_cases hlx : x < x1
            · have hRr := (HRb.out.below hlow).mono hlow.size
              have HRr := hide hRr
              by_cases hm : pmem l x y
              · have hha := rHas_any (w := wr) hRr (by omega) x y
                rw [decide_eq_true hm] at hha
                have HHA := hide hha
                have HM := hide hm
                have HTr := hide (HTb.out.below hlow)
                have p0 := HTr.out.p0
                have p1 := HTr.out.p1
                have p2 := HTr.out.p2
                have hkb := keyP_bd (x := x) (y := y) hp ⟨by omega, by omega⟩ ⟨by omega, by omega⟩
                have HWH := hide (fun wi => where_any W H S x y wi hp (by omega) (by omega) (by omega) (by omega))
                obtain ⟨row, col, hk⟩ : ∃ row col, keyP W H S x y = (row, col) := ⟨_, _, rfl⟩
                have HK := hide hk
                have hk' := hk
                unfold keyP at hk'
                injection hk' with hk1 hk2
                rw [hk1, hk2] at hkb HWH
                obtain ⟨⟨ka, kb⟩, kc, kd⟩ := hkb
                clear hk hk1 hk2 hha hm hRr hlow
                go_wp2_with (first
                  | (go_at_call 55; refine HHA.out.mono ?_; rintro e w' ⟨rfl, rfl⟩)
                  | (go_at_call 56; refine (HWH.out _).mono ?_; rintro e w1 ⟨rfl, hb1⟩; have HP1 := hide (HP.out.below hb1); clear hb1 p0 p1 p2 e2 HTr))
                have hL1 := HP1.out.low.size
                have HTr := hide (HTb.out.below HP1.out.low)
                have p0 := HTr.out.p0
                have p1 := HTr.out.p1
                have p2 := HTr.out.p2
                have HRL : Hid ((L.map fun k => (k, pieceR W H S l k)).length = L.length) := hide (by simp)
                have HRN : Hid (∀ (j : Nat) (k : Ky), L[j]? = some k → (L.map fun k => (k, pieceR W H S l k))[j]? = some (k, pieceR W H S l k)) := hide (fun j k h => by rw [List.getElem?_map, h]; rfl)
                have hL36 : L.length ≤ 3600 := by omega
                go_loopw [13] (fun at_ wx => ∃ k : Nat, k ≤ L.length ∧ at_ = .int .i64 (k : Int) ∧ wx = w1 ∧ Hid (∀ (j : Nat) (q : Ky), k ≤ j → L[j]? = some q → ¬ klt q (row, col))) (fun at_ _ => (intOf at_).toNat)
                case atStart => exact ⟨L.length, Nat.le_refl _, rfl, rfl, hide (fun j q h1 h2 => by rw [List.getElem?_eq_none h1] at h2; cases h2)⟩
                case round =>
                  obtain ⟨k, hk, rfl, rfl, HG⟩ := hrel
                  go_upto_region 16 with fail
                  go_cut [95] (fun c wx => ∃ b : Bool, c = .bool b ∧ wx = wr ∧ Hid (b = true → 0 < k ∧ ∀ q, L[k - 1]? = some q → ¬ klt q (row, col)) ∧ Hid (b = false → ∀ q, k ≠ 0 → L[k - 1]? = some q → klt q (row, col)))
                  case first =>
                    rcases Nat.eq_zero_or_pos k with rfl | hkp
                    · rw [show ((0 : Nat) : Int) = 0 from rfl]
                      go_wp2
                      go_meet
                      exact ⟨false, rfl, rfl, hide (fun h => by cases h), hide (fun _ q h => absurd rfl h)⟩
                    · obtain ⟨j, rfl⟩ : ∃ j, k = j + 1 := ⟨k - 1, by omega⟩
                      obtain ⟨⟨r2, c2⟩, hy⟩ : ∃ q, L[j]? = some q := ⟨_, List.getElem?_eq_getElem (by omega)⟩
                      obtain ⟨g, rfl, hg1, hg2, hcl⟩ := HP1.out.form (by rw [HRL.out]; omega)
                      obtain ⟨d0, d1, _⟩ := hcl j _ _ (HRN.out j _ hy)
                      have q1 : (0 : Int) < (j : Int) + 1 := by omega
                      have q2 : (j : Int) < (L.length : Int) := by omega
                      have q3 : IntKind.i64.wrap ((j : Int) + 1 - 1) = j := by simp [IntKind.wrap, IntKind.bits, IntKind.signed]; omega
                      have q4 : (0 : Int) ≤ (j : Int) := by omega
                      have HY := hide hy
                      clear hy hkp hcl
                      rw [show ((j + 1 : Nat) : Int) = (j : Int) + 1 from rfl]
                      by_cases hgt : klt (r2, c2) (row, col)
                      · have hgs : (decide (row < r2) = false ∧ (r2 == row) = false) ∨ (decide (row < r2) = false ∧ (r2 == row) = true ∧ decide (col ≤ c2) = false) := by
                          unfold klt at hgt
                          simp only at hgt
                          by_cases h : r2 = row
                          · exact .inr ⟨decide_eq_false (by omega), by simp [h], decide_eq_false (by omega)⟩
                          · exact .inl ⟨decide_eq_false (by omega), by simpa using h⟩
                        have HG2 := hide hgt
                        clear hgt
                        rcases hgs with ⟨h1, h2⟩ | ⟨h1, h2, h3⟩
                        all_goals
                          go_wp2
                          go_meet
                          exact ⟨false, rfl, rfl, hide (fun h => by cases h), hide (fun _ q _ h => by
                            rw [Nat.add_sub_cancel, HY.out] at h
                            injection h with h
                            subst h
                            exact HG2.out)⟩
                      · have hgs : row < r2 ∨ (decide (row < r2) = false ∧ (r2 == row) = true ∧ col ≤ c2) := by
                          unfold klt at hgt
                          simp only at hgt
                          by_cases h : row < r2
                          · exact .inl h
                          · exact .inr ⟨decide_eq_false h, by simp; omega, by omega⟩
                        have HG2 := hide hgt
                        clear hgt
                        rcases hgs with h1 | ⟨h1, h2, h3⟩
                        all_goals
                          go_wp2
                          go_meet
                          exact ⟨true, rfl, rfl, hide (fun _ => ⟨by omega, fun q h => by
                            rw [Nat.add_sub_cancel, HY.out] at h
                            injection h with h
                            subst h
                            exact HG2.out⟩), hide (fun h => by cases h)⟩
                  case rest =>
                    obtain ⟨b, rfl, rfl, HT, HFL⟩ := hcut
                    cases b with
                    | true =>
                      obtain ⟨hkp, hkq⟩ := HT.out rfl
                      obtain ⟨j, rfl⟩ : ∃ j, k = j + 1 := ⟨k - 1, by omega⟩
                      have HKQ := hide hkq
                      clear hkq hkp
                      rw [show ((j + 1 : Nat) : Int) = (j : Int) + 1 from rfl]
                      go_wp2
                      go_roundw
                      case rel =>
                        exact ⟨j, by omega, by go_num, trivial, hide (fun i q h1 h2 => by
                          by_cases hij : i = j
                          · subst hij; exact HKQ.out q (by simpa using h2)
                          · exact HG.out i q (by omega) h2)⟩
                      case measure => first | (simp [intOf]; done) | (simp [intOf]; omega)
                    | false =>
                      have HLE := hide (HFL.out rfl)
                      clear HFL HT
                      go_upto_region 18 with fail
                      go_cut [119] (fun c wx => ∃ b : Bool, c = .bool b ∧ wx = wc ∧ Hid (b = true → L[k]? = some (row, col)) ∧ Hid (b = false → L[k]? ≠ some (row, col)))
                      case first =>
                        by_cases hkl : k < L.length
                        · obtain ⟨⟨r2, c2⟩, hy⟩ : ∃ q, L[k]? = some q := ⟨_, List.getElem?_eq_getElem hkl⟩
                          obtain ⟨g, rfl, hg1, hg2, hcl⟩ := HP1.out.form (by rw [HRL.out]; omega)
                          obtain ⟨d0, d1, _⟩ := hcl k _ _ (HRN.out k _ hy)
                          have q2 : (k : Int) < (L.length : Int) := by omega
                          have HY := hide hy
                          clear hy hcl
                          have hgs : (r2 == row) = false ∨ ((r2 == row) = true ∧ (c2 == col) = false) ∨ ((r2 == row) = true ∧ (c2 == col) = true) := by
                            by_cases h1 : r2 = row
                            · by_cases h2 : c2 = col
                              · exact .inr (.inr ⟨by simp [h1], by simp [h2]⟩)
                              · exact .inr (.inl ⟨by simp [h1], by simp [h2]⟩)
                            · exact .inl (by simp [h1])
                          rcases hgs with h1 | ⟨h1, h2⟩ | ⟨h1, h2⟩
                          · go_wp2
                            go_meet
                            exact ⟨false, rfl, rfl, hide (fun h => by cases h), hide (fun _ h => by
                              rw [HY.out] at h
                              injection h with h
                              injection h with e1 e2
                              simp [e1] at h1)⟩
                          · go_wp2
                            go_meet
                            exact ⟨false, rfl, rfl, hide (fun h => by cases h), hide (fun _ h => by
                              rw [HY.out] at h
                              injection h with h
                              injection h with e1 e2
                              simp [e2] at h2)⟩
                          · go_wp2
                            go_meet
                            exact ⟨true, rfl, rfl, hide (fun _ => by
                              rw [HY.out]
                              simp at h1 h2
                              rw [h1, h2]), hide (fun h => by cases h)⟩
                        · have q2 : ¬ (k : Int) < (L.length : Int) := by omega
                          go_wp2
                          go_meet
                          exact ⟨false, rfl, rfl, hide (fun h => by cases h), hide (fun _ h => by rw [List.getElem?_eq_none (by omega)] at h; cases h)⟩
                      case rest =>
                        obtain ⟨b, rfl, rfl, HT, HFL⟩ := hcut
                        cases b with
                        | true =>
                          have hin : insK (row, col) L = L := insK_there _ L HS.out.srt (List.mem_of_getElem? (HT.out rfl))
                          have hS2 := HS.out.on hxa HM.out
                          rw [HK.out, hin] at hS2
                          have HS3 := hide hS2
                          clear HT HFL hin hS2
                          go_wp2
                          go_roundw
                          case rel =>
                            exact ⟨x + 1, L, Ao, co, by omega, by omega, by go_num, rfl, HS3, by omega, HP1⟩
                          case measure => first | (simp [intOf]; done) | (simp [intOf]; omega)
                        | false =>
                          have hgt : ∀ (j : Nat) (q : Ky), k ≤ j → L[j]? = some q → klt (row, col) q := fun j q h1 h2 => by
                            have hne := HFL.out rfl
                            have hkk : k < L.length := by
                              have := (List.getElem?_eq_some_iff.1 h2).1
                              omega
                            obtain ⟨p, hpk⟩ : ∃ q, L[k]? = some q := ⟨_, List.getElem?_eq_getElem hkk⟩
                            have hp1 : klt (row, col) p := klt_of (HG.out k p (Nat.le_refl _) hpk) (fun e => hne (by rw [hpk, e]))
                            by_cases e : j = k
                            · subst e
                              rw [hpk] at h2
                              injection h2 with h2
                              subst h2
                              exact hp1
                            · exact klt_trans hp1 (klt_lt HS.out.srt hpk h2 (by omega))
                          have HIN : Hid (insK (row, col) L = L.take k ++ (row, col) :: L.drop k) := hide (insK_at (row, col) L k HS.out.srt hk hgt HLE.out)
                          have hS2 := HS.out.on hxa HM.out
                          rw [HK.out, HIN.out] at hS2
                          have HS3 := hide hS2
                          have HIL : Hid ((L.take k ++ (row, col) :: L.drop k).length = L.length + 1) := hide (by simp; omega)
                          obtain ⟨q0, q1, q2, q3, hq⟩ : ∃ q0 q1 q2 q3, brR W H S (row, col) = ⟨q0, q1, q2, q3⟩ := ⟨_, _, _, _, rfl⟩
                          have HBR := hide (fun wi => (by
                            have h := brect_any W H S col row wi hp kc kd ka kb
                            unfold brR at hq
                            injection hq with h1 h2 h3 h4
                            simp only at h1 h2 h3 h4
                            rw [h3, h1, h2, h4] at h
                            exact h : Calls Tryz.prog 28 #[.agg #[.int .i64 W, .int .i64 H, .int .i64 S], .int .i64 col, .int .i64 row] wi fun e w' => e = .returned (.agg #[.int .i64 q0, .int .i64 q1, .int .i64 q2, .int .i64 q3]) ∧ Below wi.heap.size wi w'))
                          have HBW : Hid (wf4 ⟨q0, q1, q2, q3⟩) := hide (by rw [← hq]; exact brR_wf hp _)
                          have HPC : Hid (pieceR W H S l (row, col) = rjoin hAnd l [⟨q0, q1, q2, q3⟩]) := hide (by unfold pieceR; rw [hq])
                          clear HT HFL hgt hS2 HLE HG HWH hq
                          go_upto_region 20 with (go_at_call 28; refine (HBR.out _).mono ?_; rintro e w2 ⟨rfl, hb2⟩; have HP2 := hide (HP1.out.below hb2); clear hb2 p0 p1 p2)
                          obtain ⟨bb, hbb⟩ : ∃ bb, bb = w2.heap.size := ⟨_, rfl⟩
                          rw [← hbb]
                          refine wp_name fun w3 hw3 => ?_
                          have hb3 : Below w2.heap.size w2 w3 := by rw [hw3]; exact (Below.refl _ _).alloc (Nat.le_refl _) _
                          have hs3 : bb < w3.heap.size := by rw [hw3, hbb]; simp
                          have HBL : Hid (RdK encR 4 w3 w3.heap.size (.slice (some ⟨bb, 0, none⟩) 1 1) [⟨q0, q1, q2, q3⟩]) := hide (by rw [hw3, hbb]; exact rd_lit w2 [⟨q0, q1, q2, q3⟩] 42 1)
                          have HP3 := hide (HP2.out.below hb3)
                          obtain ⟨L0, m0, m1, _⟩ := HP2.out.o
                          have HVO : Hid (∀ q, (Value.slice Ao L.length co).ownBlock = some q → q < bb) := hide (fun q hq => by rw [hbb]; exact (m1.lt q hq).2)
                          obtain ⟨LL, l0, l1, l2⟩ := HP3.out.o
                          have HL0 := hide (l0.trans HRL.out)
                          have HL1 := hide (own_n l1 HRL.out)
                          have HL2 := hide l2
                          have HLN : Hid (∀ q ∈ LL, q.2.oneCell' = true) := hide (Pcs.ones l0 l2)
                          have hL3 := HP3.out.low.size
                          clear hw3 hb3 hbb m0 m1 l0 l1 l2 HP1 HP2 HBR
                          go_wp2_with (at_builtin; go_loud (refine wpList_append_lies _ rfl (.tmp 125) (.tmp 127) 29 rfl wb.heap.size 54 i2 (.agg #[.int .i64 0, .int .i64 0, .slice none 0 0]) 3 40 Tryz.underlying29 fi fz0 fz1 fz2 rfl (by decide) _ L.length _ rfl (World.ownsRow.alloc HL1.out _) ⟨w3.heap.size, 0, none⟩ 1 1 [.int .i64 0, .int .i64 0, .slice none 0 0] rfl rfl (news_new w3 _ _ _ rfl) (one3 _ _ _ _ _) (by omega) (by unfold maxLen; omega) (by omega) (by simp; omega) _ rfl ?_))
                          intro g9 cap9 w9 hown9 hgrow9 hg9 _
                          have hx2 : LL.flatMap encP ++ [.int .i64 0, .int .i64 0, .slice none 0 0] = (LL ++ [((0, 0), Value.slice none 0 0)]).flatMap encP := by simp [encP]
                          rw [hx2] at hown9
                          have hvb : (Value.slice Ao L.length co).ownBlock ≠ some bb := fun e => by have := HVO.out bb e; omega
                          have hgb : g9 ≠ bb := by
                            rintro rfl
                            rcases hg9 with h | h
                            · exact hvb h
                            · (try simp at h); omega
                          have hblk9 : w9.heap[bb]? = w3.heap[bb]? := (hgrow9.block bb (by simp; omega) (fun e => hvb e.symm)).trans (((Below.refl _ w3).alloc (Nat.le_refl _) _).block bb hs3)
                          have hs9 : w3.heap.size < w9.heap.size := Nat.lt_of_lt_of_le (by simp) hgrow9.size
                          have HBL9 := hide (rd_block (B' := w9.heap.size) HBL.out hblk9 (by omega))
                          have HKP9 : Hid (∀ (v : Value) (m : Nat) (xs : List Value), w3.ownsRow wb.heap.size 42 4 v m xs → w9.ownsRow wb.heap.size 42 4 v m xs) := hide (by
                            obtain ⟨wA, hA, hgA⟩ : ∃ wA, wA = w3.alloc _ ∧ World.grownBy wA w9 _ := ⟨_, rfl, hgrow9⟩
                            intro v m xs h
                            have h1 : wA.ownsRow wb.heap.size 42 4 v m xs := by rw [hA]; exact World.ownsRow.alloc h _
                            have h2 : wA.ownsRow wb.heap.size 54 3 (.slice Ao L.length co) L.length (LL.flatMap encP) := by rw [hA]; exact World.ownsRow.alloc HL1.out _
                            exact h1.kept hgA (own_apart h1 h2 (by decide)))
                          have hb9 : Below wb.heap.size wb w9 := (HP3.out.low.alloc hL3 _).grown hgrow9 (by simp; omega) (fun q hq => (HL1.out.lt q hq).1)
                          obtain ⟨_, cap9', cur9, e9, hbg9, hh9, hn9, hm9, hs9', ht9⟩ : ∃ (g' cap' : Nat) (cur : Array Value), Value.slice (some ⟨g9, 0, none⟩) (L.length + 1) cap9 = .slice (some ⟨g', 0, none⟩) (L.length + 1) cap' ∧ wb.heap.size ≤ g' ∧ w9.heap[g']? = some (.cells cur 54 (0, 0)) ∧ L.length + 1 ≤ cap' ∧ cap' ≤ maxLen ∧ cur.size = cap' * 3 ∧ cur.toList.take ((L.length + 1) * 3) = (LL ++ [((0, 0), Value.slice none 0 0)]).flatMap encP := by
                            rcases hown9.2 with ⟨e0, _⟩ | q
                            · cases e0
                            · exact q
                          injection e9 with e1 _ e3
                          injection e1 with e1
                          injection e1 with e1
                          subst e1; subst e3
                          have HX9 := hide hown9
                          have HB9 := hide hb9
                          have HH9 := hide hh9
                          have HS9 := hide hs9'
                          unfold maxLen at hm9
                          clear hown9 hgrow9 hb9 hx2 hg9 hh9 hs9' ht9 hvb hblk9
                          go_wp2
                          have r1 : IntKind.i64.wrap ((k : Int) + 1) = (k : Int) + 1 := by simp [IntKind.wrap, IntKind.bits, IntKind.signed]; omega
                          have r2 : (0 : Int) ≤ (k : Int) + 1 := by omega
                          have r3 : (k : Int) + 1 ≤ (L.length : Int) + 1 := by omega
                          have r4 : ((k : Int) + 1).toNat = k + 1 := by omega
                          have r5 : (0 : Int) ≤ (k : Int) := by omega
                          have r6 : (k : Int) ≤ (L.length : Int) + 1 := by omega
                          have r7 : ((k : Int)).toNat = k := by omega
                          refine wp_region_reads0 7 (by kernel_rfl) (by kernel_rfl) ?_
                          simp only [List.take_succ_cons, List.take_zero, List.drop_succ_cons, List.drop_zero]
                          iterate 7
                            refine ⟨?_, Or.inl ⟨by rfl, ?_⟩, ?_⟩
                            rotate_left 1
                            · intro w' _
                              go_simp
                              first | done | with_reducible rfl
                            simp only [Act.put, List.setIfInBounds_toArray, List.set_cons_zero, List.set_cons_succ]
                          clear r1 r2 r3 r4 r5 r6 r7
                          simp only [wpReads]
                          intro K hK
                          have hcur : w9.drew.heap[g9]? = some (.cells cur9.toList.toArray 54 (0, 0)) := by show w9.heap[g9]? = _; simpa using HH9.out
                          have hcl : cur9.toList.length = cap9 * 3 := by simpa using HS9.out
                          have hfl : ((LL.drop k).flatMap encP).length = (L.length - k) * 3 := by rw [flatN_len (k := 3) (fun _ => rfl), List.length_drop, HL0.out]
                          refine step_copy_n rfl (.tmp 132) (.tmp 135) 29 29 rfl 54 Tryz.underlying29 3 (by kernel_rfl) _ _ _ _ _ _ rfl rfl g9 ((k + 1) * 3) cur9.toList 54 hcur ((LL.drop k).flatMap encP) (L.length - k) (by show _ = min _ _; omega) hfl ?_ (by omega) (encP_one fun q hq => HLN.out q (List.mem_of_mem_drop hq)) wb.heap.size wb (HB9.out.drew) hbg9 ?_
                          · intro hpos
                            refine ⟨by first | rfl | rw [if_neg (by omega)], ⟨g9, k * 3, none⟩, by first | rfl | rw [if_neg (by omega)], fun i u hi => ?_⟩
                            have hi2 : ((LL ++ [((0, 0), Value.slice none 0 0)]).flatMap encP)[k * 3 + i]? = some u := by
                              have e0 : (LL ++ [((0, 0), Value.slice none 0 0)]).flatMap encP = (LL.take k).flatMap encP ++ ((LL.drop k).flatMap encP ++ encP ((0, 0), Value.slice none 0 0)) := by
                                rw [← List.append_assoc, ← List.flatMap_append, List.take_append_drop, List.flatMap_append]
                                rw [List.flatMap_cons, List.flatMap_nil, List.append_nil]
                              have e1 : ((LL.take k).flatMap encP).length = k * 3 := by rw [flatN_len (k := 3) (fun _ => rfl), List.length_take, HL0.out]; omega
                              rw [e0, List.getElem?_append_right (by omega), e1, Nat.add_sub_cancel_left, List.getElem?_append_left (List.getElem?_eq_some_iff.1 hi).1]
                              exact hi
                            have := (HX9.out.cells (g := g9) rfl) _ _ hi2
                            rw [addr_add] at this
                            rw [addr_add']
                            exact this
                          · intro w10 hsp hb10 hgr10
                            have hx10 := own_copied_n HX9.out (by simpa using HH9.out) hsp.out (by omega)
                            have HKP10 : Hid (∀ (v : Value) (m : Nat) (xs : List Value), w9.ownsRow wb.heap.size 42 4 v m xs → w10.ownsRow wb.heap.size 42 4 v m xs) := hide (fun v m xs h => own_row3 (w := w9.drew) h HX9.out hgr10)
                            have hs10 := hgr10.size
                            have hblk10 : w10.heap[bb]? = w9.heap[bb]? := hgr10.block bb (by show bb < w9.heap.size; omega) (fun e => hgb (by injection e with e; exact e.symm))
                            have hbl10 := rd_block (B' := w10.heap.size) HBL9.out hblk10 (by have : w9.heap.size ≤ w10.heap.size := hs10; omega)
                            have hrl10 : RdK encR 4 w10 w10.heap.size (.slice A0 l.length c0) l := (HRb.out.below hb10).mono hb10.size
                            have hj := rJoined_any 1 (.inl rfl) hrl10 hbl10 (Nat.le_refl _) (by omega) (by simp)
                            rw [ref_join (h := Proofs.YtlkaniojnaaocaaGreat.hk 1) rfl HWF.out (fun r hr => by rw [List.mem_singleton] at hr; subst hr; exact HBW.out), show Proofs.YtlkaniojnaaocaaGreat.hk 1 = hAnd from by funext a b; simp [Proofs.YtlkaniojnaaocaaGreat.hk, hAnd], ← HPC.out] at hj
                            have HJN := hide hj
                            have HX10 := hide hx10
                            have HB10 := hide hb10
                            refine hK _ _ (fun _ => trivial) ?_
                            clear hK K hj hx10 hb10 hsp hgr10 hs10 hblk10 hbl10 hrl10 hcur hcl hfl
                            refine NoPanic.normal ?_
                            have hlJ : (pieceR W H S l (row, col)).length ≤ 400 := HPL.out _
                            generalize hJ : pieceR W H S l (row, col) = J at *
                            go_wp2_with (go_at_call 48; refine HJN.out.mono ?_; rintro e w11 ⟨vj, rfl, hoj, hb11⟩
                                         obtain ⟨Aj, cj, hvj⟩ := own_form hoj
                                         subst hvj
                                         have hx11 := own_below HX10.out hb11
                                         have hlen11 := hx11.1
                                         have hfl2 := flatN_len (enc := encP) (k := 3) (fun _ => rfl) (LL ++ [((0, 0), Value.slice none 0 0)])
                                         obtain ⟨u0, c30⟩ : ∃ u, w11.cell? ⟨g9, k * 3, none⟩ = some u := by
                                           have := (hx11.cells (g := g9) rfl) (k * 3) _ (List.getElem?_eq_getElem (by omega))
                                           rw [addr_add] at this
                                           exact ⟨_, this⟩
                                         obtain ⟨u1, c31⟩ : ∃ u, w11.cell? ⟨g9, k * 3 + 1, none⟩ = some u := by
                                           have := (hx11.cells (g := g9) rfl) (k * 3 + 1) _ (List.getElem?_eq_getElem (by omega))
                                           rw [addr_add] at this
                                           exact ⟨_, this⟩
                                         obtain ⟨u2, c32⟩ : ∃ u, w11.cell? ⟨g9, k * 3 + 2, none⟩ = some u := by
                                           have := (hx11.cells (g := g9) rfl) (k * 3 + 2) _ (List.getElem?_eq_getElem (by omega))
                                           rw [addr_add] at this
                                           exact ⟨_, this⟩
                                         have f30 : w11.frozen? ⟨g9, k * 3, none⟩ = false := hx11.frozenAt _
                                         have f31 : w11.frozen? ⟨g9, k * 3 + 1, none⟩ = false := hx11.frozenAt _
                                         have f32 : w11.frozen? ⟨g9, k * 3 + 2, none⟩ = false := hx11.frozenAt _
                                         have HX11 := hide hx11
                                         have HOJ := hide hoj
                                         have HB11 := hide hb11
                                         clear hx11 hoj hb11 hlen11 hfl2)
                            have s1 := (HX11.out.stored (k * 3) (.int .i64 col)).1
                            have s2 := (s1.stored (k * 3 + 1) (.int .i64 row)).1
                            have s3 := (s2.stored (k * 3 + 2) (.slice Aj J.length cj)).1
                            rw [set_three _ _ _ _ _ (by have := HX11.out.1; omega)] at s3
                            have hsp2 := ins_splice_n (enc := encP) (k := 3) (fun _ => rfl) LL ((0, 0), Value.slice none 0 0) ((row, col), .slice Aj J.length cj) k (by rw [HL0.out]; exact hk)
                            rw [show ([.int .i64 col, .int .i64 row, .slice Aj J.length cj] : List Value) = encP ((row, col), .slice Aj J.length cj) from rfl, hsp2] at s3
                            have low12 : Below wb.heap.size wb (((w11.setCell ⟨g9, k * 3, none⟩ (.int .i64 col)).setCell ⟨g9, k * 3 + 1, none⟩ (.int .i64 row)).setCell ⟨g9, k * 3 + 2, none⟩ (.slice Aj J.length cj)) := ((((HB10.out.trans (HB11.out.mono HB10.out.size)).setCell (p := ⟨g9, _, none⟩) hbg9 _).setCell (p := ⟨g9, _, none⟩) hbg9 _).setCell (p := ⟨g9, _, none⟩) hbg9 _)
                            have kp : ∀ (v : Value) (m : Nat) (xs : List Value), w11.ownsRow wb.heap.size 42 4 v m xs → (((w11.setCell ⟨g9, k * 3, none⟩ (.int .i64 col)).setCell ⟨g9, k * 3 + 1, none⟩ (.int .i64 row)).setCell ⟨g9, k * 3 + 2, none⟩ (.slice Aj J.length cj)).ownsRow wb.heap.size 42 4 v m xs := fun v m xs h =>
                              own_row3 (own_row3 (own_row3 h HX11.out (grown_setCell _ _ _ _)) s1 (grown_setCell _ _ _ _)) s2 (grown_setCell _ _ _ _)
                            have hins := Pcs.ins (R := L.map fun k => (k, pieceR W H S l k)) (L := LL) (n := k) (k := (row, col)) (r := J) (u := .slice Aj J.length cj) low12 (HL0.out.trans HRL.out.symm) (by rw [HRL.out]; exact hk) HL2.out (fun v m xs h => kp v m xs (own_below (HKP10.out v m xs (HKP9.out v m xs h)) HB11.out)) (kp _ _ _ (own_base HOJ.out HB10.out.size)) (by rw [HRL.out]; exact s3)
                            have hRj : (L.map fun k => (k, pieceR W H S l k)).take k ++ ((row, col), J) :: (L.map fun k => (k, pieceR W H S l k)).drop k = (L.take k ++ (row, col) :: L.drop k).map fun k => (k, pieceR W H S l k) := by rw [List.map_append, List.map_cons, List.map_take, List.map_drop, hJ]
                            rw [hRj] at hins
                            have HNS := hide hins
                            clear s1 s2 s3 hsp2 low12 kp hins hRj
                            go_wp2
                            go_roundw
                            case rel =>
                              exact ⟨x + 1, L.take k ++ (row, col) :: L.drop k, some ⟨g9, 0, none⟩, cap9, by omega, by omega, by go_num, by rw [HIL.out], HS3, by rw [HIL.out]; omega, hide (by rw [HIL.out]; exact HNS.out)⟩
                            case measure => first | (simp [intOf]; done) | (simp [intOf]; omega)
              · have hha := rHas_any (w := wr) hRr (by omega) x y
                rw [decide_eq_false hm] at hha
                have HHA := hide hha
                have HM := hide hm
                clear hha hm hRr hlow
                go_wp2_with (go_at_call 55; refine HHA.out.mono ?_; rintro e w' ⟨rfl, rfl⟩)
                go_roundw
                case rel => exact ⟨x + 1, L, Ao, co, by omega, by omega, by go_num, rfl, hide (HS.out.off hxa HM.out), by omega, HP⟩
                case measure => first | (simp [intOf]; done) | (simp [intOf]; omega)
            · obtain rfl : x = x1 := by omega
              clear hlow
              go_wp2
              go_roundw
              case rel => exact ⟨y + 1, L, Ao, co, by omega, by omega, by go_num, rfl, hide (HS.out.line hya), by omega, HP⟩
              case measure => first | (simp [intOf]; done) | (simp [intOf]; omega)
        · have hLK : L = keysT W H S l := HS.out.fin hp HWF.out HHC.out (by simp only; omega)
          have HFT : Hid (tileF W H S l = if 400 < L.length then ([], 4) else (L.map fun k => (k, pieceR W H S l k), 0)) := hide (by rw [hF.out, ← hLK])
          have hL36 : L.length ≤ 3600 := by omega
          have HLW := hide (HTb.out.low.size)
          clear hLK HS
          by_cases hmany : 400 < L.length
          · have HF4 : Hid (tileF W H S l = ([], 4)) := hide (by rw [HFT.out, if_pos hmany])
            have mz : (400 : Int) < (L.length : Int) := by omega
            clear hmany
            go_wp2
            go_ret2
            exact ⟨⟨none, 0, [], by rw [HF4.out]; rfl, by rw [HF4.out]; rfl, by rw [HF4.out]; exact World.ownsRow_nil _ _ _ _, fun i k r h => by rw [HF4.out] at h; simp at h⟩, HTb.out.low.trans (HP.out.low.mono HTb.out.low.size)⟩
          · have HF0 : Hid (tileF W H S l = (L.map fun k => (k, pieceR W H S l k), 0)) := hide (by rw [HFT.out, if_neg hmany])
            have mz : ¬ (400 : Int) < (L.length : Int) := by omega
            clear hmany
            go_wp2
            go_ret2
            obtain ⟨LL, l0, l1, l2⟩ := HP.out.o
            have hml : (L.map fun k => (k, pieceR W H S l k)).length = L.length := by simp
            refine ⟨⟨Ao, co, LL, by rw [HF0.out]; show Ending.returned (.tuple #[.slice Ao L.length co, .int .i64 0]) = .returned (.tuple #[.slice Ao (L.map fun k => (k, pieceR W H S l k)).length co, .int .i64 0]); rw [hml], by rw [HF0.out]; exact l0, ?_, ?_⟩, HTb.out.low.trans (HP.out.low.mono HTb.out.low.size)⟩
            · rw [HF0.out]
              show wr.ownsRow w.heap.size 54 3 (.slice Ao (L.map fun k => (k, pieceR W H S l k)).length co) (L.map fun k => (k, pieceR W H S l k)).length (LL.flatMap encP)
              have l1' := own_base l1 HTb.out.low.size
              rw [hml] at l1' ⊢
              exact l1'
            · rw [HF0.out]
              intro i k r hi
              obtain ⟨u, q1, q2⟩ := l2 i k r hi
              exact ⟨u, q1, own_base q2 HTb.out.low.size⟩
    · have hpc := fun wi => rcheck_any W H S wi
      rw [chk_bad hp] at hpc
      have HPC := hide hpc
      clear hpc
      have hF : Hid (tileF W H S l = ([], 8)) := hide (by unfold tileF; rw [if_pos h0, if_neg hp])
      clear h0 hp hn
      go_enter Tryz.func31, Tryz.ntmps31
      go_wp2_with (go_at_call 26; refine (HCK.out _ hT0.out.low).mono ?_; rintro e w1 ⟨rfl, hb1⟩; have HT1 := hide (hT0.out.below hb1); have p0 := HT1.out.p0; have p1 := HT1.out.p1; have p2 := HT1.out.p2; clear hb1)
      refine (HPC.out _).mono ?_
      rintro e w2 ⟨rfl, hb2⟩
      have HT2 := hide (HT1.out.below hb2)
      clear hb2 p0 p1 p2
      have p0 := HT2.out.p0
      have p1 := HT2.out.p1
      have p2 := HT2.out.p2
      go_wp2_with (fail)
      refine (HPC.out _).mono ?_
      rintro e w3 ⟨rfl, hb3⟩
      have HT3 := hide (HT2.out.below hb3)
      clear hb3 p0 p1 p2
      go_wp2
      go_ret2
      exact ⟨⟨none, 0, [], by rw [hF.out]; rfl, by rw [hF.out]; rfl, by rw [hF.out]; exact World.ownsRow_nil _ _ _ _, fun i k r h => by rw [hF.out] at h; simp at h⟩, HT3.out.low⟩
  · have hF : Hid (tileF W H S l = ([], checkF l)) := hide (by unfold tileF; rw [if_neg h0])
    generalize checkF l = ck at *
    have hne : (ck != 0) = true := by simpa using h0
    clear h0 hn
    go_enter Tryz.func31, Tryz.ntmps31
    go_wp2_with (fail)
    refine (HCK.out _ hT0.out.low).mono ?_
    rintro e w1 ⟨rfl, hb1⟩
    have HT1 := hide (hT0.out.below hb1)
    clear hb1
    go_wp2_with (fail)
    refine (HCK.out _ HT1.out.low).mono ?_
    rintro e w2 ⟨rfl, hb2⟩
    have HT2 := hide (HT1.out.below hb2)
    clear hb2
    go_wp2
    go_ret2
    exact ⟨⟨none, 0, [], by rw [hF.out]; rfl, by rw [hF.out]; rfl, by rw [hF.out]; exact World.ownsRow_nil _ _ _ _, fun i k r h => by rw [hF.out] at h; simp at h⟩, HT2.out.low⟩
end Go.Proofs.YtlkaniojnaaocaaGreat

/- gambrelref41.Count: how many pieces have a brick's area. -/
namespace Go.Proofs.YtlkaniojnaaocaaGreat
open Go.RowKit
set_option linter.unusedVariables false
set_option linter.unusedSimpArgs false
attribute [local go_sem] Oper.semAt_some

theorem tileF_area {W H S : Int} {l : List R4} {q : Ky × List R4} (h : q ∈ (tileF W H S l).1) : areaF q.2 = (areaS q.2, 0) := by
  obtain ⟨h1, h2, h3, h4⟩ := tileF_mem h
  unfold areaF
  rw [h4, if_pos (piece_check h2 h1 _)]
theorem pat_mul {W H S : Int} (h : okPat W H S) : 0 ≤ W * H ∧ W * H ≤ 1000000 := by
  obtain ⟨h1, h2, h3, h4, _⟩ := h
  have := Int.mul_le_mul h2 h4 (by omega) (by omega)
  exact ⟨Int.mul_nonneg (by omega) (by omega), by omega⟩
end Go.Proofs.YtlkaniojnaaocaaGreat

/- A store into a row of the call's own; the sum of a row of numbers, read off the world. -/
namespace Go.Proofs.YtlkaniojnaaocaaGreat
open Go.RowKit
set_option linter.unusedVariables false
set_option linter.unusedSimpArgs false

theorem heap_set_same {w : World} {g j : Nat} {cur : Array Value} {e : TypeId} (h : w.heap[g]? = some (.cells cur e (0, 0))) (u : Value) : (w.setCell ⟨g, j, none⟩ u).heap[g]? = some (.cells (cur.setIfInBounds j u) e (0, 0)) := by
  simp only [World.setCell, Array.getElem?_modify, h]
  simp
theorem own_set {w : World} {base g n cap j : Nat} {e : TypeId} {xs : List Value} (h : w.ownsRow base e 1 (.slice (some ⟨g, 0, none⟩) n cap) n xs) (u : Value) : (w.setCell ⟨g, j, none⟩ u).ownsRow base e 1 (.slice (some ⟨g, 0, none⟩) n cap) n (xs.set j u) := by
  refine ⟨by rw [List.length_set]; exact h.1, ?_⟩
  rcases h.2 with ⟨hv, _⟩ | ⟨g', cap', cur, hv, hb, hg, hnc, hcm, hcs, ht⟩
  · cases hv
  · injection hv with e1 _ e3
    injection e1 with e1
    injection e1 with e1
    subst e1; subst e3
    refine .inr ⟨g, cap, cur.setIfInBounds j u, rfl, hb, heap_set_same hg u, hnc, hcm, by simpa using hcs, ?_⟩
    rw [Array.toList_setIfInBounds, List.take_set, ht]
/-- The sum of n numbers of a row. -/
def cellSum (w : World) (v : Value) (n : Nat) : Nat :=
  match v with
  | .slice (some p) _ _ => ((List.range n).map fun j => match w.cell? ⟨p.block, p.off + j, none⟩ with | some (.int _ x) => x.toNat | _ => 0).sum
  | _ => 0
theorem cellSum_own {w : World} {base : Nat} {e : TypeId} {v : Value} {l : List Int} (h : w.ownsRow base e 1 v l.length (l.map iv)) : cellSum w v l.length = (l.map Int.toNat).sum := by
  rcases h.2 with ⟨rfl, h0⟩ | ⟨g, cap, cur, rfl, hb, hg, _⟩
  · have := List.eq_nil_of_length_eq_zero h0
    subst this
    rfl
  · unfold cellSum
    show (List.map _ (List.range l.length)).sum = _
    refine congrArg List.sum ?_
    apply List.ext_getElem?
    intro k
    rw [List.getElem?_map, List.getElem?_map]
    by_cases hk : k < l.length
    · rw [List.getElem?_range hk, List.getElem?_eq_getElem hk]
      have := (h.cells (g := g) rfl) k (iv l[k]) (by simp [hk])
      rw [addr_add] at this
      simp only [Option.map_some, Nat.zero_add] at this ⊢
      rw [this]
    · rw [List.getElem?_eq_none (by simpa using hk), List.getElem?_eq_none (by omega)]
      rfl
end Go.Proofs.YtlkaniojnaaocaaGreat

/- Plain law: labels that go down along neighbours, step by step. -/
namespace Go.Proofs.YtlkaniojnaaocaaGreat
set_option linter.unusedVariables false
set_option linter.unusedSimpArgs false

/-- Each label names a rectangle of the component, not behind its own. -/
def Lb (l : List R4) (L : List Int) : Prop := L.length = l.length ∧ ∀ (i : Nat) x, L[i]? = some x → ∃ j : Nat, x = (j : Int) ∧ Conn l i j ∧ j ≤ i
def sumN (L : List Int) : Nat := (L.map Int.toNat).sum
/-- No label is below a neighbour's, as far as the pairs have been seen: rows before m, and row m before j. -/
def Seen (l : List R4) (L : List Int) (m j : Nat) : Prop := ∀ i k x y, adj l i k → L[i]? = some x → L[k]? = some y → (i < m ∨ (i = m ∧ k < j)) → x ≤ y
/-- Inside one pass over all pairs: something went down, or nothing yet. -/
def Pass (l : List R4) (L0 L : List Int) (mb : Bool) (m j : Nat) : Prop := Lb l L ∧ ((mb = true ∧ sumN L < sumN L0) ∨ (mb = false ∧ L = L0 ∧ Seen l L m j))
theorem sumN_set : ∀ {L : List Int} {i : Nat} {x y : Int}, L[i]? = some x → sumN (L.set i y) + x.toNat = sumN L + y.toNat
  | [], i, x, y, h => by simp at h
  | a :: L, 0, x, y, h => by
    simp at h
    subst h
    simp [sumN]; omega
  | a :: L, i + 1, x, y, h => by
    have := sumN_set (L := L) (i := i) (y := y) (by simpa using h)
    simp [sumN] at this ⊢
    omega
theorem Lb.start (l : List R4) : Lb l ((List.range l.length).map fun i : Nat => (i : Int)) := by
  refine ⟨by simp, fun i x h => ?_⟩
  rw [List.getElem?_map] at h
  obtain ⟨j, hj, rfl⟩ := Option.map_eq_some_iff.1 h
  obtain ⟨h1, h2⟩ := List.getElem?_eq_some_iff.1 hj
  simp at h2
  subst h2
  exact ⟨i, rfl, .refl, Nat.le_refl _⟩
/-- The step of a pair whose second label is smaller. -/
theorem Pass.down {l : List R4} {L0 L : List Int} {mb : Bool} {m j : Nat} {x y : Int} (h : Pass l L0 L mb m j) (ha : adj l m j) (hx : L[m]? = some x) (hy : L[j]? = some y) (hlt : y < x) : Pass l L0 (L.set m y) true m (j + 1) := by
  obtain ⟨⟨h1, h2⟩, h3⟩ := h
  obtain ⟨jy, ey, cy, _⟩ := h2 j y hy
  obtain ⟨jx, ex, cx, lx⟩ := h2 m x hx
  refine ⟨⟨by simpa using h1, fun i z hz => ?_⟩, .inl ⟨rfl, ?_⟩⟩
  · by_cases hi : m = i
    · subst hi
      have hm : m < L.length := (List.getElem?_eq_some_iff.1 hx).1
      rw [List.getElem?_set_self hm] at hz
      injection hz with hz
      subst hz
      exact ⟨jy, ey, (Conn.refl.step ha).trans cy, by omega⟩
    · rw [List.getElem?_set_ne hi] at hz
      exact h2 i z hz
  · have := sumN_set (y := y) hx
    rcases h3 with ⟨_, h3⟩ | ⟨_, rfl, _⟩ <;> omega
theorem Pass.stay {l : List R4} {L0 L : List Int} {mb : Bool} {m j : Nat} (h : Pass l L0 L mb m j) (hn : ∀ x y, adj l m j → L[m]? = some x → L[j]? = some y → x ≤ y) : Pass l L0 L mb m (j + 1) := by
  refine ⟨h.1, h.2.imp id fun ⟨a, b, c⟩ => ⟨a, b, fun i k x y ha hx hy hs => ?_⟩⟩
  by_cases e : i = m ∧ k = j
  · obtain ⟨rfl, rfl⟩ := e
    exact hn x y ha hx hy
  · exact c i k x y ha hx hy (by omega)
theorem Pass.row {l : List R4} {L0 L : List Int} {mb : Bool} {m j : Nat} (h : Pass l L0 L mb m j) (hj : l.length ≤ j) : Pass l L0 L mb (m + 1) 0 := by
  refine ⟨h.1, h.2.imp id fun ⟨a, b, c⟩ => ⟨a, b, fun i k x y ha hx hy hs => ?_⟩⟩
  have hk : k < L.length := (List.getElem?_eq_some_iff.1 hy).1
  have := h.1.1
  exact c i k x y ha hx hy (by omega)
/-- Labels of a pass that changed nothing are the least indices. -/
theorem Pass.done {l : List R4} {L0 L : List Int} {m j : Nat} (h : Pass l L0 L false m j) (hm : l.length ≤ m) : L = (List.range l.length).map fun i => ((mn l i : Nat) : Int) := by
  obtain ⟨⟨h1, h2⟩, h3⟩ := h
  obtain ⟨_, _, hs⟩ := h3.resolve_left (fun q => by cases q.1)
  have key := labels_mn (l := l) (f := fun i => ((L[i]?).getD 0).toNat) (fun i hi => by
    obtain ⟨x, hx⟩ : ∃ x, L[i]? = some x := ⟨_, List.getElem?_eq_getElem (by omega)⟩
    obtain ⟨j, rfl, c, le⟩ := h2 i x hx
    simp only [hx, Option.getD_some, Int.toNat_natCast]
    exact ⟨c, le⟩) (fun i k ha => by
    obtain ⟨x0, y0, g1, g2, _⟩ := id ha
    have hi := (List.getElem?_eq_some_iff.1 g1).1
    have hk := (List.getElem?_eq_some_iff.1 g2).1
    obtain ⟨x, hx⟩ : ∃ x, L[i]? = some x := ⟨_, List.getElem?_eq_getElem (by omega)⟩
    obtain ⟨y, hy⟩ : ∃ y, L[k]? = some y := ⟨_, List.getElem?_eq_getElem (by omega)⟩
    have := hs i k x y ha hx hy (.inl (by omega))
    simp only [hx, hy, Option.getD_some]
    omega)
  apply List.ext_getElem?
  intro i
  by_cases hi : i < l.length
  · obtain ⟨x, hx⟩ : ∃ x, L[i]? = some x := ⟨_, List.getElem?_eq_getElem (by omega)⟩
    obtain ⟨j, rfl, c, le⟩ := h2 i x hx
    have := key i hi
    simp only [hx, Option.getD_some, Int.toNat_natCast] at this
    rw [hx, List.getElem?_map, List.getElem?_range hi]
    simp [this]
  · rw [List.getElem?_eq_none (by omega), List.getElem?_eq_none (by simpa using hi)]
end Go.Proofs.YtlkaniojnaaocaaGreat

/- The reference's Touch. -/
namespace Go.Proofs.YtlkaniojnaaocaaGreat
open Go.RowKit
set_option linter.unusedVariables false
set_option linter.unusedSimpArgs false

end Go.Proofs.YtlkaniojnaaocaaGreat

/- The reference's Parts. -/
namespace Go.Proofs.YtlkaniojnaaocaaGreat
open Go.RowKit
set_option linter.unusedVariables false
set_option linter.unusedSimpArgs false

/-- A list of regions of the call's own. -/
structure Regs (w : World) (vo : Value) (R : List (List R4)) (wr : World) : Prop where
  low : Below w.heap.size w wr
  o : ∃ vs, wr.ownsRow w.heap.size 47 1 vo R.length vs ∧ ∀ (i : Nat) (r : List R4), R[i]? = some r → ∃ v, vs[i]? = some v ∧ wr.ownsRow w.heap.size 42 4 v r.length (r.flatMap encR)
theorem Regs.below {w wr w2 : World} {vo : Value} {R : List (List R4)} (h : Regs w vo R wr) (hb : Below wr.heap.size wr w2) : Regs w vo R w2 := by
  obtain ⟨vs, h1, h2⟩ := h.o
  refine ⟨h.low.trans (hb.mono h.low.size), vs, own_below h1 hb, fun i r hr => ?_⟩
  obtain ⟨v, h3, h4⟩ := h2 i r hr
  exact ⟨v, h3, own_below h4 hb⟩
theorem Regs.push {w wr w2 : World} {vo v2 v : Value} {R : List (List R4)} {r : List R4} {vs : List Value} (low : Below w.heap.size w wr) (h1 : wr.ownsRow w.heap.size 47 1 vo R.length vs)
    (h2 : ∀ (i : Nat) (r : List R4), R[i]? = some r → ∃ v, vs[i]? = some v ∧ wr.ownsRow w.heap.size 42 4 v r.length (r.flatMap encR)) (hv : wr.ownsRow w.heap.size 42 4 v r.length (r.flatMap encR))
    (hg : wr.grownBy w2 vo.ownBlock) (h3 : w2.ownsRow w.heap.size 47 1 v2 (R.length + 1) (vs ++ [v])) : Regs w v2 (R ++ [r]) w2 := by
  have hl : vs.length = R.length := by have := h1.1; omega
  refine ⟨low.grown hg low.size (fun q hq => (h1.lt q hq).1), vs ++ [v], by simpa using h3, fun i x hx => ?_⟩
  by_cases hi : i < R.length
  · rw [List.getElem?_append_left hi] at hx
    obtain ⟨u, h4, h5⟩ := h2 i x hx
    exact ⟨u, by rw [List.getElem?_append_left (by omega)]; exact h4, h5.kept hg (own_apart h5 h1 (by decide))⟩
  · rw [List.getElem?_append_right (by omega)] at hx
    have hi0 : i - R.length = 0 := by
      have := (List.getElem?_eq_some_iff.1 hx).1
      simp at this
      omega
    rw [hi0] at hx
    simp at hx
    subst hx
    refine ⟨v, by rw [List.getElem?_append_right (by omega), hl, hi0]; rfl, hv.kept hg (own_apart hv h1 (by decide))⟩
def RegsRet (B : Nat) (x : List (List R4) × Int) (e : Ending) (w' : World) : Prop :=
  ∃ A c vs, e = .returned (.tuple #[.slice A x.1.length c, .int .i64 x.2]) ∧ w'.ownsRow B 47 1 (.slice A x.1.length c) x.1.length vs ∧ ∀ (i : Nat) (r : List R4), x.1[i]? = some r → ∃ v, vs[i]? = some v ∧ w'.ownsRow B 42 4 v r.length (r.flatMap encR)
noncomputable def partsE (l : List R4) : List (List R4) × Int := if checkF l = 0 then (partsF l, 0) else ([], checkF l)
theorem infoRg : (Tryz.prog.info? 47).map (fun i => (i.zero, i.size, i.bytes)) = some (some (.slice none 0 0), 1, 24) := by kernel_rfl
theorem cmn_apart {l : List R4} (h : l.Pairwise apart4) {i k : Nat} {x y : R4} (hx : l[i]? = some x) (hy : l[k]? = some y) (hne : i ≠ k) (wx : wf4 x) (wy : wf4 y) : cmn x y = false := by
  obtain ⟨hi, ex⟩ := List.getElem?_eq_some_iff.1 hx
  obtain ⟨hk, ey⟩ := List.getElem?_eq_some_iff.1 hy
  have key : ∀ a b : R4, apart4 a b → wf4 a → wf4 b → cmn a b = false := fun a b hab w1 w2 => by
    have := hab (max a.x0 b.x0) (max a.y0 b.y0)
    unfold wf4 at w1 w2
    simp only [rin] at this
    unfold cmn
    by_cases c1 : a.x0 < b.x1 <;> by_cases c2 : b.x0 < a.x1 <;> by_cases c3 : a.y0 < b.y1 <;> by_cases c4 : b.y0 < a.y1 <;> simp only [c1, c2, c3, c4, decide_true, decide_false, Bool.and_true, Bool.and_false, Bool.false_and]
    exact absurd ⟨⟨by omega, by omega, by omega, by omega⟩, by omega, by omega, by omega, by omega⟩ this
  have P := List.pairwise_iff_getElem.1 h
  rcases Nat.lt_or_gt_of_ne hne with hlt | hlt
  · exact key x y (by have := P i k hi hk hlt; rwa [ex, ey] at this) wx wy
  · exact key x y (fun u v ⟨h1, h2⟩ => by have := P k i hk hi hlt; rw [ex, ey] at this; exact this u v ⟨h2, h1⟩) wx wy
/-- The component's rectangles among the first j. -/
noncomputable def compP (l : List R4) (i j : Nat) : List R4 := ((List.range j).filter fun k => decide (mn l k = i)).filterMap fun k => l[k]?
theorem compP_in {l : List R4} {i j : Nat} {r : R4} (hr : l[j]? = some r) (h : mn l j = i) : compP l i (j + 1) = compP l i j ++ [r] := by
  unfold compP
  rw [List.range_succ, List.filter_append, List.filterMap_append]
  simp [h, hr]
theorem compP_out {l : List R4} {i j : Nat} (h : mn l j ≠ i) : compP l i (j + 1) = compP l i j := by
  unfold compP
  rw [List.range_succ, List.filter_append, List.filterMap_append]
  simp [h]
theorem compP_all (l : List R4) (i : Nat) : compP l i l.length = compL l i := rfl
theorem compP_len (l : List R4) (i j : Nat) : (compP l i j).length ≤ j := by
  unfold compP
  exact Nat.le_trans (List.length_filterMap_le _ _) (Nat.le_trans (List.length_filter_le _ _) (by simp))
noncomputable def partsP (l : List R4) (m : Nat) : List (List R4) := ((List.range m).filter fun i => decide (mn l i = i)).map fun i => rjoin hFst (compL l i) []
theorem partsP_in {l : List R4} {m : Nat} (h : mn l m = m) : partsP l (m + 1) = partsP l m ++ [rjoin hFst (compL l m) []] := by
  unfold partsP
  rw [List.range_succ, List.filter_append, List.map_append]
  simp [h]
theorem partsP_out {l : List R4} {m : Nat} (h : mn l m ≠ m) : partsP l (m + 1) = partsP l m := by
  unfold partsP
  rw [List.range_succ, List.filter_append, List.map_append]
  simp [h]
theorem partsP_all (l : List R4) : partsP l l.length = partsF l := rfl
theorem partsP_len (l : List R4) (m : Nat) : (partsP l m).length ≤ m := by
  unfold partsP
  rw [List.length_map]
  exact Nat.le_trans (List.length_filter_le _ _) (by simp)
/-- The labels' row, at one place. -/
theorem lab_cell {w wr : World} {g n c i : Nat} {L : List Int} {x : Int} (h : wr.ownsRow w.heap.size 3 1 (.slice (some ⟨g, 0, none⟩) n c) n (L.map iv)) (hx : L[i]? = some x) : wr.cell? ⟨g, i, none⟩ = some (.int .i64 x) := by
  have := (h.cells (g := g) rfl) i (iv x) (by simp [hx])
  rwa [addr_add] at this
theorem rects_at {W wr : World} {l : List R4} {b o m : Nat} (hk : ∀ (j : Nat) (x : R4), l[j]? = some x → ∀ (i : Nat) (u : Value), (encR x)[i]? = some u → W.cell? ⟨b, o + j * 4 + i, none⟩ = some u) (hb : ∀ q, wr.cell? ⟨b, q, none⟩ = W.cell? ⟨b, q, none⟩) {p0 p1 p2 p3 : Int} (hp : l[m]? = some ⟨p0, p1, p2, p3⟩) :
    wr.cell? ⟨b, o + m * 4, none⟩ = some (.int .i64 p0) ∧ wr.cell? ⟨b, o + m * 4 + 1, none⟩ = some (.int .i64 p1) ∧ wr.cell? ⟨b, o + m * 4 + 2, none⟩ = some (.int .i64 p2) ∧ wr.cell? ⟨b, o + m * 4 + 3, none⟩ = some (.int .i64 p3) :=
  ⟨(hb _).trans (hk m _ hp 0 _ rfl), (hb _).trans (hk m _ hp 1 _ rfl), (hb _).trans (hk m _ hp 2 _ rfl), (hb _).trans (hk m _ hp 3 _ rfl)⟩
def lab0 (m : Nat) : List Int := (List.range m).map fun i : Nat => (i : Int)
theorem lab0_len (m : Nat) : (lab0 m).length = m := by simp [lab0]
theorem lab0_snoc (m : Nat) : (lab0 m).map iv ++ [.int .i64 (m : Int)] = (lab0 (m + 1)).map iv := by
  unfold lab0
  rw [List.range_succ, List.map_append, List.map_append]
  rfl
theorem cellSum_lab {w : World} {base n : Nat} {e : TypeId} {v : Value} {L : List Int} (h : w.ownsRow base e 1 v n (L.map iv)) : cellSum w v n = sumN L := by
  have hn : n = L.length := by have := h.1; simp at this; omega
  subst hn
  exact cellSum_own h
def labR (l : List R4) (w : World) (vf : Value) (L : List Int) (wr : World) : Prop := wr.ownsRow w.heap.size 3 1 vf l.length (L.map iv) ∧ Below w.heap.size w wr

end Go.Proofs.YtlkaniojnaaocaaGreat

/- A map from indexes to rectangles: its words, and the laws at its operations; a component that grows. -/
namespace Go.Proofs.YtlkaniojnaaocaaGreat
open Go.RowKit Go.Maps
set_option linter.unusedVariables false
set_option linter.unusedSimpArgs false

theorem lawI : Keyed Tryz.prog 3 := int_keyed Tryz.underlying3
def rectD (r : R4) : DataW Unit := .agg [.lit (.int .i64 r.x0), .lit (.int .i64 r.y0), .lit (.int .i64 r.x1), .lit (.int .i64 r.y1)]
def rectE (v : Value) : Option (DataW Unit × List MemPlace) :=
  match v with
  | .agg xs => match xs.toList with
    | [.int .i64 a, .int .i64 b, .int .i64 c, .int .i64 d] => some (rectD ⟨a, b, c, d⟩, [])
    | _ => none
  | _ => none
theorem rectE_mk (r : R4) : rectE (.agg (encR r).toArray) = some (rectD r, []) := rfl
theorem rectE_mk4 (a b c d : Int) : rectE (.agg #[.int .i64 a, .int .i64 b, .int .i64 c, .int .i64 d]) = some (rectD ⟨a, b, c, d⟩, []) := rfl
theorem rectE_inv {v : Value} {y : DataW Unit × List MemPlace} (h : rectE v = some y) : ∃ r : R4, v = .agg #[.int .i64 r.x0, .int .i64 r.y0, .int .i64 r.x1, .int .i64 r.y1] ∧ y = (rectD r, []) := by
  unfold rectE at h
  split at h
  · rename_i xs
    split at h
    · rename_i a b c d e
      injection h with h
      refine ⟨⟨a, b, c, d⟩, ?_, h.symm⟩
      congr 1
      apply Array.toList_inj.1
      exact e
    · cases h
  · cases h
theorem rectD_inj {r s : R4} (h : rectD r = rectD s) : r = s := by
  unfold rectD at h
  simp only [DataW.agg.injEq, List.cons.injEq, DataW.lit.injEq, Lit.int.injEq, true_and, and_true] at h
  obtain ⟨h1, h2, h3, h4⟩ := h
  cases r; cases s
  simp_all
theorem zeroR (w : World) : (zeroValue 42).run Tryz.prog w = .ok (.agg #[.int .i64 0, .int .i64 0, .int .i64 0, .int .i64 0]) w := by kernel_rfl
abbrev ownsM (b n : Nat) (D : DataW Unit) (w : World) : Prop := w.ownsMap Tryz.prog 3 rectE b n D
/-- The map holds the rectangles of l at the indexes S. -/
def Mp (l : List R4) (S : Nat → Prop) (D : DataW Unit) : Prop :=
  (∀ kl, Maps.has D kl = true ↔ ∃ k, k < l.length ∧ S k ∧ kl = .int .i64 (k : Int)) ∧ ∀ (k : Nat) r, l[k]? = some r → S k → ∀ zd, D.atKey (.int .i64 (k : Int)) zd = rectD r
theorem key_ne {k j : Nat} (h : k ≠ j) : (Lit.int .i64 (k : Int)) ≠ .int .i64 (j : Int) := fun e => h (by injection e with _ e; omega)
theorem Mp.start (l : List R4) : Mp l (fun k => k < 0) (.map []) := by
  refine ⟨fun kl => ?_, fun k r _ h => absurd h (Nat.not_lt_zero _)⟩
  rw [has_eq]
  simp
theorem Mp.put {l : List R4} {D : DataW Unit} {m : Nat} {r : R4} (h : Mp l (fun k => k < m) D) (hD : IsMap D) (hr : l[m]? = some r) : Mp l (fun k => k < m + 1) (D.put (.int .i64 (m : Int)) (rectD r)) := by
  have hm := (List.getElem?_eq_some_iff.1 hr).1
  refine ⟨fun kl => ?_, fun k s hs hk zd => ?_⟩
  · by_cases e : kl = .int .i64 (m : Int)
    · subst e
      rw [has_put_same hD (show WideAt.IsKeyLit (.int .i64 (m : Int)) from trivial)]
      exact ⟨fun _ => ⟨m, hm, by omega, rfl⟩, fun _ => rfl⟩
    · rw [has_put_other e, h.1]
      constructor
      · rintro ⟨k, h1, h2, h3⟩
        exact ⟨k, h1, by omega, h3⟩
      · rintro ⟨k, h1, h2, rfl⟩
        exact ⟨k, h1, by have : k ≠ m := fun e2 => e (by rw [e2]); omega, rfl⟩
  · by_cases e : k = m
    · subst e
      rw [hr] at hs
      injection hs with hs
      subst hs
      exact atKey_put_same hD (show WideAt.IsKeyLit (.int .i64 (k : Int)) from trivial) _ _
    · rw [atKey_put_other (key_ne e)]
      exact h.2 k s hs (by omega) zd
theorem Mp.del {l : List R4} {S : Nat → Prop} {D : DataW Unit} {m : Nat} (h : Mp l S D) : Mp l (fun k => S k ∧ k ≠ m) (D.del (.int .i64 (m : Int))) := by
  refine ⟨fun kl => ?_, fun k s hs hk zd => ?_⟩
  · by_cases e : kl = .int .i64 (m : Int)
    · subst e
      rw [has_del_same]
      constructor
      · intro h; cases h
      · rintro ⟨k, h1, h2, h3⟩
        injection h3 with _ h3
        exact absurd (by omega) h2.2
    · rw [has_del_other e, h.1]
      constructor
      · rintro ⟨k, h1, h2, h3⟩
        exact ⟨k, h1, ⟨h2, fun e2 => e (by rw [h3, e2])⟩, h3⟩
      · rintro ⟨k, h1, h2, h3⟩
        exact ⟨k, h1, h2.1, h3⟩
  · rw [atKey_del_other (key_ne hk.2)]
    exact h.2 k s hs hk.1 zd
theorem Mp.iff {l : List R4} {S T : Nat → Prop} {D : DataW Unit} (h : Mp l S D) (e : ∀ k, k < l.length → (S k ↔ T k)) : Mp l T D := by
  refine ⟨fun kl => ?_, fun k r hr hk => h.2 k r hr ((e k (List.getElem?_eq_some_iff.1 hr).1).2 hk)⟩
  rw [h.1]
  constructor
  · rintro ⟨k, h1, h2, h3⟩; exact ⟨k, h1, (e k h1).1 h2, h3⟩
  · rintro ⟨k, h1, h2, h3⟩; exact ⟨k, h1, (e k h1).2 h2, h3⟩
theorem Mp.is {l : List R4} {S : Nat → Prop} {D : DataW Unit} (h : Mp l S D) {k : Nat} (hk : k < l.length) : Maps.has D (.int .i64 (k : Int)) = true ↔ S k := by
  rw [h.1]
  constructor
  · rintro ⟨j, _, h2, h3⟩
    injection h3 with _ h3
    obtain rfl : k = j := by omega
    exact h2
  · exact fun h => ⟨k, hk, h, rfl⟩
/-- The laws at the operations, the element's shape written out. -/
theorem own_map_apart {w : World} {B n bM k : Nat} {size : Nat} {e : TypeId} {v : Value} {xs : List Value} {D : DataW Unit} (h : w.ownsRow B e size v n xs) (hm : ownsM bM k D w) : v.ownBlock = none ∨ v.ownBlock ≠ some bM := by
  rcases h.2 with ⟨rfl, _⟩ | ⟨g, cap, cur, rfl, _, hg, _⟩
  · exact .inl rfl
  · right
    intro he
    obtain ⟨es, c, hb, _⟩ := hm
    have : g = bM := by simpa [Value.ownBlock] using he
    subst this
    rw [hg] at hb
    cases hb
section
variable {w : World} {ops : Array Oper} {rest : List Oper} {o : Oper} {a : Act} {Q : Exit → Act → World → Prop}
theorem wpList_next_rect (hg : o.guard = none) (it : Operand) (hop : o.op = Op.next it false) (b r n : Nat) (D : DataW Unit) (left : Lit → Bool) (cnt : Nat) (hit : a.eval it = .pointer (some ⟨r, 0, none⟩)) (h : w.ranges Tryz.prog 3 rectE b r n D left cnt) {l : List R4} {S : Nat → Prop} (hM : Mp l S D)
    (hDone : (∀ kl, left kl = false) → wpList Tryz.prog ops Q rest (a.put o.dst (.tuple #[.bool false])) w)
    (hMore : ∀ (k : Nat) (q0 q1 q2 q3 : Int) (w' : World) (cnt' : Nat), l[k]? = some ⟨q0, q1, q2, q3⟩ → S k → left (.int .i64 (k : Int)) = true → w'.ranges Tryz.prog 3 rectE b r n D (fun z => left z && !z.sameKey (.int .i64 (k : Int))) cnt' → cnt' < cnt →
      w.grownBy w' (some r) → w'.heap.size = w.heap.size → (Instr.entry (.pointer (some ⟨r, 0, none⟩))).run Tryz.prog w' = .ok (.tuple #[.int .i64 (k : Int), .agg #[.int .i64 q0, .int .i64 q1, .int .i64 q2, .int .i64 q3]]) w' → wpList Tryz.prog ops Q rest (a.put o.dst (.tuple #[.bool true, .int .i64 (k : Int), .agg #[.int .i64 q0, .int .i64 q1, .int .i64 q2, .int .i64 q3]])) w') :
    wpList Tryz.prog ops Q (o :: rest) a w :=
  wpList_next_ranges w hg it hop 3 lawI rectE (fun x : Int => .int .i64 x) (fun r : R4 => .agg #[.int .i64 r.x0, .int .i64 r.y0, .int .i64 r.x1, .int .i64 r.y1])
    (fun key kl hk => by obtain ⟨x, rfl, _⟩ := Maps.keyOf_int_inv Tryz.underlying3 hk; exact ⟨x, rfl⟩) (fun v y hv => by obtain ⟨r, rfl, _⟩ := rectE_inv hv; exact ⟨r, rfl⟩) b r n D left cnt hit h (fun _ hl => hDone hl)
    (fun x c kl y w' cnt' hkey hlk hv hat hrg hlt hgr hsz hen => by
      obtain ⟨x', e1, rfl, _⟩ := Maps.keyOf_int_inv Tryz.underlying3 hkey
      injection e1 with _ e1
      subst e1
      have hh := has_true_of_atKey (D := D) (k := .int .i64 x) hat
      obtain ⟨k, hk, hS, e2⟩ := (hM.1 _).1 hh
      injection e2 with _ e2
      subst e2
      obtain ⟨s, hs⟩ : ∃ s, l[k]? = some s := ⟨_, List.getElem?_eq_getElem hk⟩
      obtain ⟨r, e3, e4⟩ := rectE_inv hv
      have e5 := (hM.2 k s hs hS (rectD s)).symm.trans (hat (rectD s))
      rw [e4] at e5
      have e6 := rectD_inj e5
      subst e6
      obtain ⟨s0, s1, s2, s3⟩ := s
      obtain ⟨c0, c1, c2, c3⟩ := c
      simp only [Value.agg.injEq, Array.mk.injEq, List.cons.injEq, Value.int.injEq, true_and, and_true] at e3
      obtain ⟨rfl, rfl, rfl, rfl⟩ := e3
      exact hMore k _ _ _ _ w' cnt' hs hS hlk hrg hlt hgr hsz hen)
end
/-! ### a component that grows -/
/-- P: indexes of the component of m; of the first kk of them all neighbours are in P. -/
def Grow (l : List R4) (m : Nat) (P : List Nat) (kk : Nat) : Prop := (∀ p ∈ P, Conn l m p) ∧ m ∈ P ∧ ∀ i, i < kk → ∀ p, P[i]? = some p → ∀ n, adj l p n → n ∈ P
theorem Grow.start (l : List R4) (m : Nat) : Grow l m [m] 0 := ⟨fun p hp => by rw [List.mem_singleton] at hp; subst hp; exact .refl, List.mem_singleton.2 rfl, fun i h => absurd h (Nat.not_lt_zero _)⟩
theorem Grow.push {l : List R4} {m : Nat} {P : List Nat} {kk p n : Nat} (h : Grow l m P kk) (hkk : kk ≤ P.length) (hp : p ∈ P) (ha : adj l p n) : Grow l m (P ++ [n]) kk := by
  refine ⟨fun q hq => ?_, List.mem_append_left _ h.2.1, fun i hi q hq k hk => ?_⟩
  · rcases List.mem_append.1 hq with hq | hq
    · exact h.1 q hq
    · rw [List.mem_singleton] at hq
      subst hq
      exact (h.1 p hp).step ha
  · rw [List.getElem?_append_left (by omega)] at hq
    exact List.mem_append_left _ (h.2.2 i hi q hq k hk)
theorem Grow.next {l : List R4} {m : Nat} {P : List Nat} {kk p : Nat} (h : Grow l m P kk) (hp : P[kk]? = some p) (ha : ∀ n, adj l p n → n ∈ P) : Grow l m P (kk + 1) := by
  refine ⟨h.1, h.2.1, fun i hi q hq => ?_⟩
  by_cases e : i = kk
  · subst e
    rw [hp] at hq
    injection hq with hq
    subst hq
    exact ha
  · exact h.2.2 i (by omega) q hq
theorem Grow.all {l : List R4} {m : Nat} {P : List Nat} {kk : Nat} (h : Grow l m P kk) (hkk : P.length ≤ kk) {k : Nat} : k ∈ P ↔ Conn l m k := by
  refine ⟨h.1 k, fun c => ?_⟩
  induction c with
  | refl => exact h.2.1
  | step _ a ih =>
    obtain ⟨i, hi, e⟩ := List.getElem_of_mem ih
    exact h.2.2 i (by omega) _ (by rw [← e]; exact List.getElem?_eq_getElem hi) _ a
def left4 (l : List R4) (P : List Nat) : List R4 := P.filterMap fun k => l[k]?
theorem left4_snoc {l : List R4} {P : List Nat} {n : Nat} {r : R4} (h : l[n]? = some r) : left4 l (P ++ [n]) = left4 l P ++ [r] := by simp [left4, h]
theorem left4_at {l : List R4} {P : List Nat} (hP : ∀ p ∈ P, p < l.length) {i p : Nat} {r : R4} (hi : P[i]? = some p) (hr : l[p]? = some r) : (left4 l P)[i]? = some r := by
  unfold left4
  induction P generalizing i with
  | nil => simp at hi
  | cons q P ih =>
    have h1 := hP q (by simp)
    rw [List.filterMap_cons_some (List.getElem?_eq_getElem h1)]
    cases i with
    | zero =>
      have e : q = p := by simpa using hi
      subst e
      rw [List.getElem?_eq_getElem h1] at hr
      simpa using hr
    | succ i => exact ih (fun q hq => hP q (by simp [hq])) (by simpa using hi)
theorem left4_len {l : List R4} {P : List Nat} (hP : ∀ p ∈ P, p < l.length) : (left4 l P).length = P.length := by
  unfold left4
  induction P with
  | nil => rfl
  | cons p P ih =>
    have h1 := hP p (by simp)
    rw [List.filterMap_cons_some (List.getElem?_eq_getElem h1), List.length_cons, List.length_cons, ih (fun q hq => hP q (by simp [hq]))]
/-- The component, in whatever order it was found, makes the part. -/
theorem grow_made {l : List R4} {m : Nat} {P : List Nat} {kk : Nat} (hc : RCan l) (hv : ∀ r ∈ l, wf4 r) (hl : l.length ≤ 400) (h : Grow l m P kk) (hkk : P.length ≤ kk) (hm : mn l m = m) : madeF (left4 l P) = (rjoin hFst (compL l m) [], 0) := by
  have hset : ∀ r, r ∈ left4 l P ↔ r ∈ compL l m := fun r => by
    rw [mem_compL]
    unfold left4
    rw [List.mem_filterMap]
    constructor
    · rintro ⟨k, hk, hr⟩
      exact ⟨k, by rw [← mn_eq ((h.all hkk).1 hk), hm], hr⟩
    · rintro ⟨k, hk, hr⟩
      exact ⟨k, (h.all hkk).2 (conn_of_mn (by rw [hm, hk])), hr⟩
  have hsub := compL_sub l m
  have e := rjoin_set (a := left4 l P) (b := compL l m) (fun r hr => hv r (hsub.subset ((hset r).1 hr))) (fun r hr => hv r (hsub.subset hr)) hset
  have hcnt := sub_count hc hv hsub
  have := hsub.length_le
  unfold madeF
  rw [e, if_neg (by omega)]
/-- What the outer loop's round has struck. -/
theorem grow_rest {l : List R4} {m : Nat} {P : List Nat} {kk : Nat} (h : Grow l m P kk) (hkk : P.length ≤ kk) (hm : mn l m = m) (k : Nat) : (m ≤ mn l k ∧ k ∉ P) ↔ m + 1 ≤ mn l k := by
  rw [h.all hkk]
  constructor
  · rintro ⟨h1, h2⟩
    have : mn l k ≠ m := fun e => h2 (conn_of_mn (by rw [hm, e]))
    omega
  · intro h1
    refine ⟨by omega, fun c => ?_⟩
    have := mn_eq c
    omega
theorem rest_skip {l : List R4} {m : Nat} (hm : mn l m ≠ m) (k : Nat) : m ≤ mn l k ↔ m + 1 ≤ mn l k := by
  constructor
  · intro h
    have : mn l k ≠ m := fun e => hm (by rw [← e, mn_mn])
    omega
  · intro h; omega
theorem below_grown {w w' : World} (h : Below w.heap.size w w') : w.grownBy w' none := ⟨h.os, h.tape, h.output, h.size, fun k hk _ => h.block k hk⟩
end Go.Proofs.YtlkaniojnaaocaaGreat

/- region.Parts. -/
namespace Go.Proofs.YtlkaniojnaaocaaGreat
open Go.RowKit Go.Maps
set_option linter.unusedVariables false
set_option linter.unusedSimpArgs false

theorem Regs.but {w a c : World} {vo : Value} {R : List (List R4)} {bM k : Nat} {D : DataW Unit} (h : Regs w vo R a) (hm : ownsM bM k D a) (hg : a.grownBy c (some bM)) (hb : w.heap.size ≤ bM) : Regs w vo R c := by
  obtain ⟨vs, h1, h2⟩ := h.o
  exact ⟨h.low.grown hg h.low.size (fun q hq => by cases hq; exact hb), vs, h1.kept hg (own_map_apart h1 hm), fun i r hr => by
    obtain ⟨v, h3, h4⟩ := h2 i r hr
    exact ⟨v, h3, h4.kept hg (own_map_apart h4 hm)⟩⟩
theorem own_ranges_apart {w : World} {B n bM rI k cnt : Nat} {size : Nat} {e : TypeId} {v : Value} {xs : List Value} {D : DataW Unit} {left : Lit → Bool} (h : w.ownsRow B e size v n xs) (hm : w.ranges Tryz.prog 3 rectE bM rI k D left cnt) : v.ownBlock = none ∨ v.ownBlock ≠ some rI := by
  rcases h.2 with ⟨rfl, _⟩ | ⟨g, cap, cur, rfl, _, hg, _⟩
  · exact .inl rfl
  · right
    intro he
    obtain ⟨es, c, s1, s2, s3, _, _, _, _, hb, _⟩ := hm
    have : g = rI := by simpa [Value.ownBlock] using he
    subst this
    rw [hg] at hb
    cases hb
theorem apart_ne {v : Value} {q : Nat} (h : v.ownBlock = none ∨ v.ownBlock ≠ some q) : some q ≠ v.ownBlock := by
  rcases h with h | h
  · rw [h]; simp
  · exact fun e => h e.symm
theorem box_cells {w : World} {B : Nat} (hB : w.heap.size = B) (a b c d : Value) (t : TypeId) : (w.alloc (.cells #[a, b, c, d] t)).cell? ⟨B, 0, none⟩ = some a ∧ (w.alloc (.cells #[a, b, c, d] t)).cell? ⟨B, 1, none⟩ = some b ∧ (w.alloc (.cells #[a, b, c, d] t)).cell? ⟨B, 2, none⟩ = some c ∧ (w.alloc (.cells #[a, b, c, d] t)).cell? ⟨B, 3, none⟩ = some d := by
  have h := news_new w [a, b, c, d] t B hB
  have h0 := h 0 a rfl
  have h1 := h 1 b rfl
  have h2 := h 2 c rfl
  have h3 := h 3 d rfl
  simp only [addr_add] at h0 h1 h2 h3
  exact ⟨h0, h1, h2, h3⟩
/-- The part that is being found, the map, and all else as it was at W. -/
structure PS (l : List R4) (W : World) (bM m : Nat) (P : List Nat) (kk : Nat) (v : Value) (D : DataW Unit) (wi : World) : Prop where
  grow : Grow l m P kk
  mp : Mp l (fun k => m ≤ mn l k ∧ k ∉ P) D
  size : P.length + Maps.size D ≤ l.length
  row : wi.ownsRow W.heap.size 42 4 v P.length ((left4 l P).flatMap encR)
  same : W.grownBy wi (some bM)
theorem PS.lt {l : List R4} {W wi : World} {bM m kk : Nat} {P : List Nat} {v : Value} {D : DataW Unit} (h : PS l W bM m P kk v D wi) (hm : m < l.length) : ∀ p ∈ P, p < l.length := fun p hp => (h.grow.1 p hp).lt hm
/-- What the range has left over so far is not beside p. -/
def Off (l : List R4) (p : Nat) (D : DataW Unit) (left : Lit → Bool) : Prop := ∀ n, n < l.length → Maps.has D (.int .i64 (n : Int)) = true → left (.int .i64 (n : Int)) = false → ¬ adj l p n
theorem Off.start (l : List R4) (p : Nat) (D : DataW Unit) : Off l p D (Maps.has D) := fun n _ h1 h2 => by rw [h1] at h2; cases h2
theorem same_false {k n : Nat} (h : k ≠ n) : (Lit.int .i64 (n : Int)).sameKey (.int .i64 (k : Int)) = false := sameKey_ne (key_ne (Ne.symm h))
theorem Off.stay {l : List R4} {p k : Nat} {D : DataW Unit} {left : Lit → Bool} (h : Off l p D left) (hn : ¬ adj l p k) : Off l p D (fun z => left z && !z.sameKey (.int .i64 (k : Int))) := fun n hn1 h1 h2 => by
  by_cases e : k = n
  · subst e; exact hn
  · refine h n hn1 h1 ?_
    simpa [same_false e] using h2
theorem Off.strike {l : List R4} {p k : Nat} {D : DataW Unit} {left : Lit → Bool} (h : Off l p D left) : Off l p (D.del (.int .i64 (k : Int))) (fun z => left z && !z.sameKey (.int .i64 (k : Int))) := fun n hn1 h1 h2 => by
  by_cases e : k = n
  · subst e; rw [has_del_same] at h1; cases h1
  · rw [has_del_other (key_ne (Ne.symm e))] at h1
    refine h n hn1 h1 ?_
    simpa [same_false e] using h2
theorem Off.done {l : List R4} {W wi : World} {bM m kk : Nat} {P : List Nat} {v : Value} {D : DataW Unit} {p : Nat} {left : Lit → Bool} (h : PS l W bM m P kk v D wi) (hm : mn l m = m) (hp : P[kk]? = some p) (ho : Off l p D left) (hl : ∀ kl, left kl = false) : PS l W bM m P (kk + 1) v D wi := by
  refine ⟨h.grow.next hp fun n ha => ?_, h.mp, h.size, h.row, h.same⟩
  by_cases hn : n ∈ P
  · exact hn
  · obtain ⟨_, y, _, hy, _⟩ := id ha
    have hlt := (List.getElem?_eq_some_iff.1 hy).1
    have hc := (h.grow.1 p (List.mem_of_getElem? hp)).step ha
    have hmn := mn_eq hc
    exact absurd ha (ho n hlt ((h.mp.is hlt).2 ⟨by omega, hn⟩) (hl _))

end Go.Proofs.YtlkaniojnaaocaaGreat

/- RegionParts' walk: Touch and Parts against the reference. -/
namespace Go.Proofs.YtlkaniojnaaocaaGreat
open Go.RowKit
set_option linter.unusedVariables false
set_option linter.unusedSimpArgs false

theorem partsE_len (l : List R4) : (partsE l).1.length ≤ 400 ∧ ∀ r ∈ (partsE l).1, r.length ≤ 400 := by
  unfold partsE
  by_cases h : checkF l = 0
  · rw [if_pos h]
    obtain ⟨k1, k2, _⟩ := checkF_ok h
    refine ⟨Nat.le_trans (partsP_len l l.length) k1, fun r hr => ?_⟩
    obtain ⟨i, _, rfl⟩ := List.mem_map.1 hr
    exact Nat.le_trans (sub_count (check_rcan h) (fun r hr => by have := k2 r hr; exact ⟨this.1, this.2.1⟩) (compL_sub l i)) (Nat.le_trans (compL_sub l i).length_le k1)
  · rw [if_neg h]
    simp
/-- A list of regions lies at v. -/
def RgsAt (R : List (List R4)) (v : Value) (W : World) : Prop := ∃ B vs, W.ownsRow B 47 1 v R.length vs ∧ ∀ (i : Nat) (r : List R4), R[i]? = some r → ∃ v, vs[i]? = some v ∧ W.ownsRow B 42 4 v r.length (r.flatMap encR)
theorem RgsAt.below {R : List (List R4)} {v : Value} {W W' : World} (h : RgsAt R v W) (hb : Below W.heap.size W W') : RgsAt R v W' := by
  obtain ⟨B, vs, h1, h2⟩ := h
  exact ⟨B, vs, own_below h1 hb, fun i r hr => by obtain ⟨v, h3, h4⟩ := h2 i r hr; exact ⟨v, h3, own_below h4 hb⟩⟩
theorem RgsAt.get {R : List (List R4)} {A : Option Addr} {n c : Nat} {W : World} (h : RgsAt R (.slice A n c) W) {i : Nat} {r : List R4} (hr : R[i]? = some r) : ∃ g, A = some ⟨g, 0, none⟩ ∧ g < W.heap.size ∧ ∃ A2 c2, W.cell? ⟨g, i, none⟩ = some (.slice A2 r.length c2) ∧ RdK encR 4 W W.heap.size (.slice A2 r.length c2) r := by
  obtain ⟨B, vs, h1, h2⟩ := h
  have hi := (List.getElem?_eq_some_iff.1 hr).1
  obtain ⟨g, cap, hv, hB, hg⟩ := h1.form (by omega)
  injection hv with e1 _ e3
  subst e1; subst e3
  obtain ⟨v, h3, h4⟩ := h2 i r hr
  obtain ⟨A2, c2, rfl⟩ := own_form h4
  refine ⟨g, rfl, (h1.lt g rfl).2, A2, c2, ?_, own_rd h4 (fun _ => rfl)⟩
  have := (h1.cells (g := g) rfl) i _ h3
  rwa [addr_add] at this
end Go.Proofs.YtlkaniojnaaocaaGreat
