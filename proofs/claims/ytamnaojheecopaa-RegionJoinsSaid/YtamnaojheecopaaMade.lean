/- region.made: the region of a list of valid rectangles. -/
import Derived.Test.YtamnaojheecopaaAdd
import Derived.Test.YtamnaojheecopaaMMade
namespace Go.Proofs.Ytamnaojheecopaa
open Go.RowKit
set_option linter.unusedVariables false
set_option linter.unusedSimpArgs false
attribute [local go_sem] Oper.semAt_some

/-- A region and an error code come back; the region's row lies at or above B. -/
def RegRet (B : Nat) (x : List R4 × Int) (e : Ending) (w' : World) : Prop :=
  ∃ A c, e = .returned (.tuple #[.slice A x.1.length c, .int .i64 x.2]) ∧ w'.ownsRow B 43 4 (.slice A x.1.length c) x.1.length (x.1.flatMap encR)

theorem BW.below {bb Bo : Nat} {S : List Slab} {last : List Sp} {first : Nat} {e : Int} {A B : World} (h : BW bb Bo S last first e A) (hb : Below A.heap.size A B) : BW bb Bo S last first e B := by
  have hbs : bb < A.heap.size := Nat.lt_of_lt_of_le h.low h.size
  have hc : ∀ o, B.cell? ⟨bb, o, none⟩ = A.cell? ⟨bb, o, none⟩ := fun o => hb.cell (p := ⟨bb, o, none⟩) hbs
  have hf : ∀ o, B.frozen? ⟨bb, o, none⟩ = A.frozen? ⟨bb, o, none⟩ := fun o => hb.frozen (p := ⟨bb, o, none⟩) hbs
  obtain ⟨vo, o1, o2⟩ := h.out
  obtain ⟨vl, l1, l2⟩ := h.la
  exact ⟨h.low, Nat.le_trans h.size hb.size, ⟨vo, (hc 0).trans o1, own_below o2 hb⟩, ⟨vl, (hc 1).trans l1, own_below l2 hb⟩, (hc 2).trans h.fi, (hc 3).trans h.en, fun j => (hf j).trans (h.fz j), h.inv⟩
theorem BW.putObj {bb Bo : Nat} {S : List Slab} {last : List Sp} {first : Nat} {e : Int} {A : World} (h : BW bb Bo S last first e A) {l : Nat} {o o' : Obj} (hl : A.heap[l]? = some o) (ho : o.isCells = false) (ho' : o'.isCells = false) : BW bb Bo S last first e (A.putObj l o') := by
  have hc := cell_putObj (o' := o') hl ho ho'
  obtain ⟨vo, o1, o2⟩ := h.out
  obtain ⟨vl, l1, l2⟩ := h.la
  exact ⟨h.low, by simpa using h.size, ⟨vo, (hc _).1.trans o1, own_putObj o2 hl ho⟩, ⟨vl, (hc _).1.trans l1, own_putObj l2 hl ho⟩, (hc _).1.trans h.fi, (hc _).1.trans h.en, fun j => (hc _).2.trans (h.fz j), h.inv⟩
theorem KpX.below {bb n : Nat} {A B : World} (hn : n ≤ A.heap.size) (hb : Below A.heap.size A B) : KpX bb n A B := ⟨hb.size, fun b o h _ => hb.cell (p := ⟨b, o, none⟩) (by show b < _; omega)⟩

theorem KeepsFrom.of_below' {n : Nat} {A B : World} (hb : Below A.heap.size A B) : KeepsFrom n A B := (keeps_below hb).from n
theorem BW.grown {bb Bo : Nat} {S : List Slab} {last : List Sp} {first : Nat} {e : Int} {A B : World} (h : BW bb Bo S last first e A) {l : Nat} {o : Obj} (hg : A.grownBy B (some l)) (hl : A.heap[l]? = some o) (ho : o.isCells = false) : BW bb Bo S last first e B := by
  have hbs : bb < A.heap.size := Nat.lt_of_lt_of_le h.low h.size
  have hne : bb ≠ l := by
    rintro rfl
    obtain ⟨ob, h1, h2⟩ := cells_of_cell h.fi
    rw [hl] at h1
    injection h1 with h1
    subst h1
    rw [ho] at h2; cases h2
  have hbk := hg.block bb hbs (fun e => by injection e with e; exact hne e)
  have hc : ∀ o, B.cell? ⟨bb, o, none⟩ = A.cell? ⟨bb, o, none⟩ := fun o => World.cell?_of_block (w := A) hbk
  have hf : ∀ o, B.frozen? ⟨bb, o, none⟩ = A.frozen? ⟨bb, o, none⟩ := fun o => World.frozen?_of_block (w := A) hbk
  have key : ∀ {t size v n xs}, A.ownsRow Bo t size v n xs → B.ownsRow Bo t size v n xs := fun {t size v n xs} hw => hw.kept hg (by
    right
    intro e
    have := own_cells hw l o e hl
    rw [ho] at this; cases this)
  obtain ⟨vo, o1, o2⟩ := h.out
  obtain ⟨vl, l1, l2⟩ := h.la
  exact ⟨h.low, Nat.le_trans h.size hg.size, ⟨vo, (hc 0).trans o1, key o2⟩, ⟨vl, (hc 1).trans l1, key l2⟩, (hc 2).trans h.fi, (hc 3).trans h.en, fun j => (hf j).trans (h.fz j), h.inv⟩

/-- Behind some rounds. -/
structure MI (bb Bo : Nat) (g : Int → List Sp) (m : Nat) (w : World) (pre : List (Int × Int)) (W : World) : Prop where
  bw : ∃ last first e, BW bb Bo (swp g pre) last first e W ∧ last.length ≤ m ∧ (pre = [] ∨ ∃ p, pre.getLast? = some p ∧ e = p.2)
  low : Below w.heap.size w W
theorem MI.below {bb Bo : Nat} {g : Int → List Sp} {m : Nat} {w : World} {pre : List (Int × Int)} {A B : World} (h : MI bb Bo g m w pre A) (hb : Below A.heap.size A B) : MI bb Bo g m w pre B := by
  obtain ⟨last, first, e, h1, h2, h3⟩ := h.bw
  exact ⟨⟨last, first, e, h1.below hb, h2, h3⟩, h.low.trans (hb.mono h.low.size)⟩
theorem MI.putObj {bb Bo : Nat} {g : Int → List Sp} {m : Nat} {w : World} {pre : List (Int × Int)} {A : World} (h : MI bb Bo g m w pre A) {l : Nat} {o o' : Obj} (hw : w.heap.size ≤ l) (hl : A.heap[l]? = some o) (ho : o.isCells = false) (ho' : o'.isCells = false) : MI bb Bo g m w pre (A.putObj l o') := by
  obtain ⟨last, first, e, h1, h2, h3⟩ := h.bw
  exact ⟨⟨last, first, e, h1.putObj hl ho ho', h2, h3⟩, below_putObj h.low hw _⟩

theorem MI.grown {bb Bo : Nat} {g : Int → List Sp} {m : Nat} {w : World} {pre : List (Int × Int)} {A B : World} (h : MI bb Bo g m w pre A) {l : Nat} {o : Obj} (hw : w.heap.size ≤ l) (hg : A.grownBy B (some l)) (hl : A.heap[l]? = some o) (ho : o.isCells = false) : MI bb Bo g m w pre B := by
  obtain ⟨last, first, e, h1, h2, h3⟩ := h.bw
  exact ⟨⟨last, first, e, h1.grown hg hl ho, h2, h3⟩, h.low.grown hg h.low.size (fun k hk => by injection hk with hk; omega)⟩

set_option maxRecDepth 100000 in
set_option maxHeartbeats 4000000 in
theorem made_any {l : List R4} {v : Value} {w : World} (hr : RdK encR 4 w w.heap.size v l) (hl : l.length ≤ 400) (hv : ∀ r ∈ l, valid4 r) :
    Calls Try.prog 42 #[v] w fun e w' => RegRet w.heap.size (madeF l) e w' ∧ Below w.heap.size w w' := by
  have hwf : ∀ r ∈ l, wf4 r := fun r h => ⟨(hv r h).1, (hv r h).2.1⟩
  have hcl : (List.flatMap cutsL [l]).length ≤ 100000000 := by simp [cutsL_len]; omega
  have hcs := cutsOf_ok (List.flatMap cutsL [l])
  have hcn := cutsOf_len (List.flatMap cutsL [l])
  have hfin := swp_join (h := hFst) rfl hwf (b := []) (by simp) hcs.1 (fun c hc => (hcs.2 c).2 (by simpa using hc)) (by simp [cutsL])
  have hgl : ∀ c, (sjoin hFst (crossL l c) (crossL [] c)).length ≤ 1000 := by
    intro c
    have h1 := sjoin_len hFst (crossL l c) (crossL [] c)
    have h2 := crossL_len l c
    have h3 : (crossL [] c).length = 0 := rfl
    omega
  have hslab : ∀ (W : World) (L : Nat), L < W.heap.size → (∃ v, W.cell? ⟨L, 0, none⟩ = some v ∧ RdK encR 4 W W.heap.size v l) → _ := fun W L h1 h2 =>
    slabsA_any [l] L 1 W h1 (fun k l' hk => by
      have : k = 0 ∧ l = l' := by
        cases k with
        | zero => simpa using hk
        | succ k => simp at hk
      obtain ⟨rfl, rfl⟩ := this
      exact h2) hcl (by simp)
  simp only [List.length_singleton] at hslab
  generalize hcsd : cutsOf (List.flatMap cutsL [l]) = cs at *
  clear hcsd
  have HR := hide hr
  have HV := hide hv
  have HS := hide hslab
  have HF := hide hfin
  have HG := hide hgl
  have HC := hide hcs
  clear hr hv hslab hfin hgl hcs hwf
  obtain ⟨A0, c0, hv0, _⟩ := HR.out
  subst hv0
  refine (callsIn_wide (n := 0)).1 ?_
  refine callsIn_of_wp_marks Try.func42 rfl trivial ?_
  simp only [Try.ntmps42, List.size_toArray, List.length_cons, List.length_nil, Nat.reduceAdd, Nat.reduceSub, Array.replicate_succ, Array.replicate_zero, List.push_toArray, List.append_toArray, List.nil_append, List.cons_append]
  refine wpIn_wide.2 ?_
  go_wp2_with (fail)
  have hb1 : Below w.heap.size w ((w.alloc (.cells #[.slice none 0 0, .slice none 0 0, .int .i64 0, .int .i64 0] 91)).alloc (.cells #[.slice A0 l.length c0] 22)) := ((Below.refl _ _).alloc (Nat.le_refl _) _).alloc (by simp) _
  have hL1 : ((w.alloc (.cells #[.slice none 0 0, .slice none 0 0, .int .i64 0, .int .i64 0] 91)).alloc (.cells #[.slice A0 l.length c0] 22)).cell? ⟨w.heap.size + 1, 0, none⟩ = some (.slice A0 l.length c0) := by simp [go_sem]
  have hs := HS.out ((w.alloc (.cells #[.slice none 0 0, .slice none 0 0, .int .i64 0, .int .i64 0] 91)).alloc (.cells #[.slice A0 l.length c0] 22)) (w.heap.size + 1) (by simp) ⟨_, hL1, (HR.out.below hb1).mono hb1.size⟩
  simp only [World.size_alloc, Nat.add_assoc, Nat.reduceAdd] at hs
  have hbc : ∀ j u, (#[Value.slice none 0 0, .slice none 0 0, .int .i64 0, .int .i64 0] : Array Value)[j]? = some u → ((w.alloc (.cells #[.slice none 0 0, .slice none 0 0, .int .i64 0, .int .i64 0] 91)).alloc (.cells #[.slice A0 l.length c0] 22)).cell? ⟨w.heap.size, j, none⟩ = some u := by
    intro j u hj
    refine (World.cell?_alloc_lt (w.alloc _) _ ⟨w.heap.size, j, none⟩ (by simp)).trans ?_
    have := news_new w [Value.slice none 0 0, .slice none 0 0, .int .i64 0, .int .i64 0] 91 w.heap.size rfl j u (by simpa using hj)
    rwa [addr_add] at this
  refine hs.mono ?_
  clear hs
  rintro e wS ⟨vc, rfl, hbl, hbc2, hown, hbS⟩
  have hsz1 : ((w.alloc (.cells #[.slice none 0 0, .slice none 0 0, .int .i64 0, .int .i64 0] 91)).alloc (.cells #[.slice A0 l.length c0] 22)).heap.size = w.heap.size + 2 := by simp
  have hz1 : ∀ j, ((w.alloc (.cells #[.slice none 0 0, .slice none 0 0, .int .i64 0, .int .i64 0] 91)).alloc (.cells #[.slice A0 l.length c0] 22)).frozen? ⟨w.heap.size, j, none⟩ = false := fun j => by simp [go_sem]
  go_wp2_with (fail)
  obtain ⟨w1, hw1⟩ : ∃ w1, (w.alloc (.cells #[.slice none 0 0, .slice none 0 0, .int .i64 0, .int .i64 0] 91)).alloc (.cells #[.slice A0 l.length c0] 22) = w1 := ⟨_, rfl⟩
  rw [hw1] at hb1 hL1 hbc hbS hsz1 hz1
  clear hw1
  have hcsz := hbS.size
  obtain ⟨Ac, cc, hvc⟩ := own_form hown
  subst hvc
  have hbS2 : Below (w.heap.size + 2) w1 wS := hbS.mono (by omega)
  have hlow : Below w.heap.size w wS := hb1.trans (hbS.mono (by omega))
  have kS : ∀ j, wS.cell? ⟨w.heap.size, j, none⟩ = w1.cell? ⟨w.heap.size, j, none⟩ := fun j => hbS2.cell (p := ⟨w.heap.size, j, none⟩) (by show w.heap.size < _; omega)
  have zS : ∀ j, wS.frozen? ⟨w.heap.size, j, none⟩ = w1.frozen? ⟨w.heap.size, j, none⟩ := fun j => hbS2.frozen (p := ⟨w.heap.size, j, none⟩) (by show w.heap.size < _; omega)
  have hbw0 : BW w.heap.size wS.heap.size (swp (fun c => sjoin hFst (crossL l c) (crossL [] c)) []) [] 0 0 wS :=
    ⟨by omega, Nat.le_refl _, ⟨_, (kS 0).trans (hbc 0 _ rfl), World.ownsRow_nil _ _ _ _⟩, ⟨_, (kS 1).trans (hbc 1 _ rfl), World.ownsRow_nil _ _ _ _⟩, (kS 2).trans (hbc 2 _ rfl), (kS 3).trans (hbc 3 _ rfl), fun j => (zS j).trans (hz1 j), BInv.start⟩
  have hL1S := (hbS2.cell (p := ⟨w.heap.size + 1, 0, none⟩) (by show w.heap.size + 1 < _; omega)).trans hL1
  have hit := slabsItA [l] cs (w.heap.size + 3) (w.heap.size + 2) (w.heap.size + 1) 1 cc w.heap.size (w.heap.size + 4) Ac wS (lt_of_cell hbl) (lt_of_cell hbc2) (by omega) (by omega) (by omega) (by omega) (by omega) (by omega)
    hbl hbc2 hown (fun k l' hk => by
      have : k = 0 ∧ l = l' := by
        cases k with
        | zero => simpa using hk
        | succ k => simp at hk
      obtain ⟨rfl, rfl⟩ := this
      exact ⟨by omega, _, hL1S, (HR.out.below (hb1.trans (hbS.mono (by omega))))⟩) (by simp) (by simp [cutsL_len] at hcn hcl; omega)
  have hws : w.heap.size + 4 ≤ wS.heap.size := lt_of_cell hbc2
  have hI0 : MI w.heap.size wS.heap.size (fun c => sjoin hFst (crossL l c) (crossL [] c)) 1000 w [] wS := ⟨⟨[], 0, 0, hbw0, by simp, .inl rfl⟩, hlow⟩
  clear hb1 hL1 hbc hbS hsz1 hz1 hcsz hbS2 hlow kS zS hbw0 hL1S hbl hbc2 hown
  refine (wpIn_wide (n := 0)).1 ?_
  refine wp_range rfl (enters_of Try.func78 (by kernel_rfl) rfl) hit (Below.refl _ _) (fun x args A hx => by obtain ⟨Rw, rfl, _⟩ := hx; rfl) KpX.trans ?_
    (MI w.heap.size wS.heap.size (fun c => sjoin hFst (crossL l c) (crossL [] c)) 1000 w) (fun _ _ => False) (fun pre A B h hb => h.below hb) (fun pre A l o o' h hw hl ho ho' => h.putObj (by omega) hl ho ho') (fun _ _ _ _ _ h => h.elim) hI0 ?_ ?_ (fun _ _ _ _ h => h.elim)
  · intro A l o o' _ h1 h2 h3
    exact ⟨by simp, fun b off _ _ => (cell_putObj h1 h2 h3 _).1⟩
  · rintro l2 pre ⟨c, d⟩ args A hMI ⟨post, hpost⟩ ⟨Rw, rfl, hRw, hrows⟩ hl1 ⟨ol, hl2, hl3⟩
    have hll : l2 < A.heap.size := (Array.getElem?_eq_some_iff.1 hl2).1
    obtain ⟨vx, hx1, hx2⟩ := hrows 0 l rfl
    have hlo := hMI.low.size
    have hBoA : wS.heap.size ≤ A.heap.size := by obtain ⟨_, _, _, h1, _⟩ := hMI.bw; exact h1.size
    have hM := hide hMI
    have HX1 := hide hx1
    have HX2 := hide hx2
    have HL2 := hide hl2
    have HP := hide hpost
    clear hMI hrows hx1 hx2 hit hI0 hl2 hpost
    simp only [List.length_singleton]
    gi_wp2
    refine ⟨KeepsFrom.of_below' ((Below.refl _ _).alloc (Nat.le_refl _) _), KpX.below hBoA ((Below.refl _ _).alloc (Nat.le_refl _) _), ?_⟩
    intro A2 g2 s2 e2 f2
    have c20 : A2.cell? ⟨A.heap.size, 0, none⟩ = some (.int .i64 c) := (e2 _).trans (by simp [go_sem])
    have c21 : A2.cell? ⟨A.heap.size, 1, none⟩ = some (.int .i64 d) := (e2 _).trans (by simp [go_sem])
    have c22 : A2.cell? ⟨A.heap.size, 2, none⟩ = some (.slice (some ⟨Rw, 0, none⟩) 1 1) := (e2 _).trans (by simp [go_sem])
    have s3 : A2.heap.size = A.heap.size + 1 := by rw [s2]; simp
    have cRw : A2.cell? ⟨Rw, 0, none⟩ = some vx := (e2 _).trans ((World.cell?_alloc_lt A _ ⟨Rw, 0, none⟩ hRw).trans HX1.out)
    have rd : RdK encS 2 A2 A2.heap.size vx (crossL l c) := (HX2.out.keep fun b o hb => (e2 _).trans (World.cell?_alloc_lt A _ ⟨b, o, none⟩ hb)).mono (by omega)
    have M2 := (hM.out.below ((Below.refl _ _).alloc (Nat.le_refl _) (.cells #[.int .i64 c, .int .i64 d, .slice (some ⟨Rw, 0, none⟩) 1 1] 96))).grown (by omega) g2 ((Below.heap_alloc _ _ _ hll).trans HL2.out) hl3
    have hmk := spanMake_ok rd (Nat.le_trans (crossL_len l c) hl) (fun p hp => by
      obtain ⟨r, hr, rfl⟩ := List.mem_map.1 hp
      have hvr := HV.out r (List.mem_filter.1 hr).1
      exact ⟨hvr.2.1, hvr.2.2.2.2.1.1, hvr.2.2.2.2.2.2⟩)
    obtain ⟨last, first, e, B2, q1, q2⟩ := M2.bw
    have hprs := HP.out
    have hlt := prs_lt cs HC.out.1 (c, d) (by rw [hprs]; simp)
    have hnx := prs_next cs pre (c, d) post hprs
    have hplen : pre.length ≤ 800 := by
      have h1 := prs_len cs
      rw [hprs] at h1
      simp [cutsL_len] at h1 hcn
      omega
    have hfl := swp_len (fun c => sjoin hFst (crossL l c) (crossL [] c)) 1000 HG.out pre
    have hsl := HG.out c
    have hef : swp (fun c => sjoin hFst (crossL l c) (crossL [] c)) pre = [] ∨ e ≤ c := by
      rcases q2 with rfl | ⟨p, hp, rfl⟩
      · exact .inl rfl
      · exact .inr (by rw [hnx p hp]; exact Int.le_refl _)
    have hadd : ∀ (A3 : World) (Am : Option Addr) (cm : Nat), Below A2.heap.size A2 A3 → A3.ownsRow A2.heap.size 78 2 (.slice Am (sjoin hFst (crossL l c) []).length cm) (sjoin hFst (crossL l c) []).length ((sjoin hFst (crossL l c) []).flatMap encS) → _ := fun A3 Am cm hb ho =>
      add_any (s := sjoin hFst (crossL l c) []) (f := c) (t := d) (B2.below hb) (own_base ho (by omega)) (by omega) (Nat.le_trans hsl (by omega)) (by omega) hef hlt.1
    have HA := hide hadd
    have HB2 := hide B2
    have HM2 := hide M2.low
    have HR2 := hide rd
    have HN := hide hnx
    clear g2 s2 e2 f2 M2 B2 hadd rd hlt hnx hef hprs q2
    obtain ⟨av, cv, hvx, _⟩ := HR2.out
    subst hvx
    gi_wp2_with (first
      | (refine ⟨trivial, rfl, ?_⟩)
      | (gi_at_call 65; refine (CallsIn.inRound l2 (callsIn_wide.2 hmk)).mono ?_; rintro e' A3 ⟨Am, cm, rfl, ho3, hb3⟩; have d0 := (hb3.cell (p := ⟨A.heap.size, 0, none⟩) (by show A.heap.size < _; omega)).trans c20; have d1 := (hb3.cell (p := ⟨A.heap.size, 1, none⟩) (by show A.heap.size < _; omega)).trans c21; have hadd := HA.out A3 Am cm hb3 ho3; have HO3 := hide ho3; have HB3 := hide hb3; clear ho3 hb3 c20 c21 c22 cRw hmk)
      | (gi_at_call 66; refine (CallsIn.inRound l2 (callsIn_wide.2 hadd)).mono ?_; rintro e' A4 ⟨rfl, first', hbw4, hb4, hblk4, hk4⟩))
    have hb3 := HB3.out
    refine ⟨(KeepsFrom.of_below' hb3).trans (hk4.from _), (KpX.below (by omega) hb3).trans ⟨hk4.size, fun b o h1 h2 => World.cell?_of_block (w := A3) (hblk4 b h1 h2)⟩, ⟨_, first', d, by rw [swp_snoc]; exact hbw4, hsl, .inr ⟨(c, d), by simp, rfl⟩⟩, ?_⟩
    exact (HM2.out.trans (hb3.mono (by omega))).trans hb4
  · rintro D W hD hMI hK
    obtain ⟨last, first, e, hB, _, _⟩ := hMI.bw
    have hplen : (prs cs).length ≤ 800 := by
      have h1 := prs_len cs
      simp [cutsL_len] at hcn
      omega
    have hfl := swp_len (fun c => sjoin hFst (crossL l c) (crossL [] c)) 1000 HG.out (prs cs)
    have hres := result_any hB (by omega)
    rw [HF.out] at hres
    have hws2 := hB.size
    have HM := hide hMI.low
    have HK := hide hK
    have hD2 : D < W.heap.size := (Array.getElem?_eq_some_iff.1 hK).1
    clear hB hMI hfl hit hI0 hK
    simp only [Exit.inBlock, Exit.then]
    by_cases h4 : 400 < (rjoin hFst l []).length
    · have hm : madeF l = ([], 4) := if_pos h4
      have HMF := hide hm
      clear hm
      go_wp2_with (go_at_call 67; refine hres.mono ?_; rintro e' w' ⟨rfl, hq⟩; obtain rfl : e' = .returned (.tuple #[.slice none 0 0, .int .i64 4]) := hq.elim (fun q => q.2) (fun q => absurd q.1 (by omega)); clear hq)
      refine ⟨by simp, .inl ⟨_, _, rfl, run_takeDeferred HK.out, ?_⟩⟩
      refine ⟨_, results_tmp2 rfl _ _ _, ⟨none, 0, by rw [HMF.out]; rfl, by rw [HMF.out]; exact World.ownsRow_nil _ _ _ _⟩, below_putObj HM.out (by omega) _⟩
    · have hm : madeF l = (rjoin hFst l [], 0) := if_neg h4
      have HMF := hide hm
      clear hm
      generalize rjoin hFst l [] = R at *
      go_wp2_with (go_at_call 67; refine hres.mono ?_; rintro e' w' ⟨rfl, hq⟩; obtain ⟨Ar, cr, rfl, hor⟩ := hq.elim (fun q => absurd q.1 h4) (fun q => q.2); have HOR := hide hor; clear hq hor)
      refine ⟨by simp, .inl ⟨_, _, rfl, run_takeDeferred HK.out, ?_⟩⟩
      refine ⟨_, results_tmp2 rfl _ _ _, ⟨Ar, cr, by rw [HMF.out]; rfl, by rw [HMF.out]; exact own_base (own_putObj HOR.out HK.out rfl) (by omega)⟩, below_putObj HM.out (by omega) _⟩
end Go.Proofs.Ytamnaojheecopaa
