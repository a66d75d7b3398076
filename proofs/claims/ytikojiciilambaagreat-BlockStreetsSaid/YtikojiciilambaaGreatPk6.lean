/- Texts laid together: Made, EqR, IdxA, IdxB, Chk, RefK, LookA, JoinA, TouchA, TouchB, MParts, MLook, MCount, RowSet. Lemmas for the statements of this seat; no condition. -/
import Derived.Test.YtikojiciilambaaGreatPk4
import Derived.Test.YtikojiciilambaaGreatPk2
import Derived.Test.YtikojiciilambaaGreatPk1
import Derived.Laws.StructEq
import Derived.Deep.QuietTactic
import Derived.BigQuiet
import Derived.Deep.LoopGhost
import Derived.Shelf.Abstract
import Derived.Test.YtikojiciilambaaGreatPk5

/- region.made: the region of a list of valid rectangles. -/
namespace Go.Proofs.YtikojiciilambaaGreat
open Go.RowKit
set_option linter.unusedVariables false
set_option linter.unusedSimpArgs false
attribute [local go_sem] Oper.semAt_some
def RegRet (B : Nat) (x : List R4 × Int) (e : Ending) (w' : World) : Prop :=
 ∃ A c, e = .returned (.tuple #[.slice A x.1.length c, .int .i64 x.2]) ∧ w'.ownsRow B 49 4 (.slice A x.1.length c) x.1.length (x.1.flatMap encR)
theorem BW.below {bb Bo : Nat} {S : List Slab} {last : List Sp} {first : Nat} {e : Int} {A B : World} (h : BW bb Bo S last first e A) (hb : Below A.heap.size A B) : BW bb Bo S last first e B := by
 have hbs : bb < A.heap.size := Nat.lt_of_lt_of_le h.low h.size
 have hc : ∀ o, B.cell? ⟨bb, o, none⟩ = A.cell? ⟨bb, o, none⟩ := fun o => hb.cell (p := ⟨bb, o, none⟩) hbs
 have hf : ∀ o, B.frozen? ⟨bb, o, none⟩ = A.frozen? ⟨bb, o, none⟩ := fun o => hb.frozen (p := ⟨bb, o, none⟩) hbs
 obtain ⟨vo, o1, o2⟩ := h.out
 obtain ⟨vl, l1, l2⟩ := h.la
 exact ⟨h.low, Nat.le_trans h.size hb.size, ⟨vo, (hc 0).trans o1, own_below o2 hb⟩, ⟨vl, (hc 1).trans l1, own_below l2 hb⟩, (hc 2).trans h.fi, (hc 3).trans h.en, fun j => (hf j).trans (h.fz j), h.inv⟩
theorem BW.putObj {bb Bo : Nat} {S : List Slab} {last : List Sp} {first : Nat} {e : Int} {A : World} (h : BW bb Bo S last first e A) {l : Nat} {o o' : Obj} (hl : A.heap[l]? = some o) (ho : o.isCells = false) (ho' : o'.isCells = false) : BW bb Bo S last first e (A.putObj l o') := by
 have hc := cell_putObj (o' := o') hl ho ho'
 obtain ⟨vo, o1, o2⟩ := h.out
 obtain ⟨vl, l1, l2⟩ := h.la
 exact ⟨h.low, by simpa using h.size, ⟨vo, (hc _).1.trans o1, own_putObj o2 hl ho⟩, ⟨vl, (hc _).1.trans l1, own_putObj l2 hl ho⟩, (hc _).1.trans h.fi, (hc _).1.trans h.en, fun j => (hc _).2.trans (h.fz j), h.inv⟩
theorem KpX.below {bb n : Nat} {A B : World} (hn : n ≤ A.heap.size) (hb : Below A.heap.size A B) : KpX bb n A B := ⟨hb.size, fun b o h _ => hb.cell (p := ⟨b, o, none⟩) (by show b < _; omega)⟩
theorem KeepsFrom.of_below' {n : Nat} {A B : World} (hb : Below A.heap.size A B) : KeepsFrom n A B := (keeps_below hb).from n
theorem BW.grown {bb Bo : Nat} {S : List Slab} {last : List Sp} {first : Nat} {e : Int} {A B : World} (h : BW bb Bo S last first e A) {l : Nat} {o : Obj} (hg : A.grownBy B (some l)) (hl : A.heap[l]? = some o) (ho : o.isCells = false) : BW bb Bo S last first e B := by
 have hbs : bb < A.heap.size := Nat.lt_of_lt_of_le h.low h.size
 have hne : bb ≠ l := by
  rintro rfl
  obtain ⟨ob, h1, h2⟩ := cells_of_cell h.fi
  rw [hl] at h1
  injection h1 with h1
  subst h1
  rw [ho] at h2; cases h2
 have hbk := hg.block bb hbs (fun e => by injection e with e; exact hne e)
 have hc : ∀ o, B.cell? ⟨bb, o, none⟩ = A.cell? ⟨bb, o, none⟩ := fun o => World.cell?_of_block (w := A) hbk
 have hf : ∀ o, B.frozen? ⟨bb, o, none⟩ = A.frozen? ⟨bb, o, none⟩ := fun o => World.frozen?_of_block (w := A) hbk
 have key : ∀ {t size v n xs}, A.ownsRow Bo t size v n xs → B.ownsRow Bo t size v n xs := fun {t size v n xs} hw => hw.kept hg (by
  right
  intro e
  have := own_cells hw l o e hl
  rw [ho] at this; cases this)
 obtain ⟨vo, o1, o2⟩ := h.out
 obtain ⟨vl, l1, l2⟩ := h.la
 exact ⟨h.low, Nat.le_trans h.size hg.size, ⟨vo, (hc 0).trans o1, key o2⟩, ⟨vl, (hc 1).trans l1, key l2⟩, (hc 2).trans h.fi, (hc 3).trans h.en, fun j => (hf j).trans (h.fz j), h.inv⟩
structure MI (bb Bo : Nat) (g : Int → List Sp) (m : Nat) (w : World) (pre : List (Int × Int)) (W : World) : Prop where
 bw : ∃ last first e, BW bb Bo (swp g pre) last first e W ∧ last.length ≤ m ∧ (pre = [] ∨ ∃ p, pre.getLast? = some p ∧ e = p.2)
 low : Below w.heap.size w W
theorem MI.below {bb Bo : Nat} {g : Int → List Sp} {m : Nat} {w : World} {pre : List (Int × Int)} {A B : World} (h : MI bb Bo g m w pre A) (hb : Below A.heap.size A B) : MI bb Bo g m w pre B := by
 obtain ⟨last, first, e, h1, h2, h3⟩ := h.bw
 exact ⟨⟨last, first, e, h1.below hb, h2, h3⟩, h.low.trans (hb.mono h.low.size)⟩
theorem MI.putObj {bb Bo : Nat} {g : Int → List Sp} {m : Nat} {w : World} {pre : List (Int × Int)} {A : World} (h : MI bb Bo g m w pre A) {l : Nat} {o o' : Obj} (hw : w.heap.size ≤ l) (hl : A.heap[l]? = some o) (ho : o.isCells = false) (ho' : o'.isCells = false) : MI bb Bo g m w pre (A.putObj l o') := by
 obtain ⟨last, first, e, h1, h2, h3⟩ := h.bw
 exact ⟨⟨last, first, e, h1.putObj hl ho ho', h2, h3⟩, below_putObj h.low hw _⟩
theorem MI.grown {bb Bo : Nat} {g : Int → List Sp} {m : Nat} {w : World} {pre : List (Int × Int)} {A B : World} (h : MI bb Bo g m w pre A) {l : Nat} {o : Obj} (hw : w.heap.size ≤ l) (hg : A.grownBy B (some l)) (hl : A.heap[l]? = some o) (ho : o.isCells = false) : MI bb Bo g m w pre B := by
 obtain ⟨last, first, e, h1, h2, h3⟩ := h.bw
 exact ⟨⟨last, first, e, h1.grown hg hl ho, h2, h3⟩, h.low.grown hg h.low.size (fun k hk => by injection hk with hk; omega)⟩
set_option maxRecDepth 100000 in
set_option maxHeartbeats 4000000 in
theorem made_any {l : List R4} {v : Value} {w : World} (hr : RdK encR 4 w w.heap.size v l) (hl : l.length ≤ 400) (hv : ∀ r ∈ l, valid4 r) :
  Calls Tryz.prog 55 #[v] w fun e w' => RegRet w.heap.size (madeF l) e w' ∧ Below w.heap.size w w' := by
 have hwf : ∀ r ∈ l, wf4 r := fun r h => ⟨(hv r h).1, (hv r h).2.1⟩
 have hcl : (List.flatMap cutsL [l]).length ≤ 100000000 := by simp [cutsL_len]; omega
 have hcs := cutsOf_ok (List.flatMap cutsL [l])
 have hcn := cutsOf_len (List.flatMap cutsL [l])
 have hfin := swp_join (h := hFst) rfl hwf (b := []) (by simp) hcs.1 (fun c hc => (hcs.2 c).2 (by simpa using hc)) (by simp [cutsL])
 have hgl : ∀ c, (sjoin hFst (crossL l c) (crossL [] c)).length ≤ 1000 := by
  intro c
  have h1 := sjoin_len hFst (crossL l c) (crossL [] c)
  have h2 := crossL_len l c
  have h3 : (crossL [] c).length = 0 := rfl
  omega
 have hslab : ∀ (W : World) (L : Nat), L < W.heap.size → (∃ v, W.cell? ⟨L, 0, none⟩ = some v ∧ RdK encR 4 W W.heap.size v l) → _ := fun W L h1 h2 =>
  slabsA_any [l] L 1 W h1 (fun k l' hk => by
   have : k = 0 ∧ l = l' := by
    cases k with
    | zero => simpa using hk
    | succ k => simp at hk
   obtain ⟨rfl, rfl⟩ := this
   exact h2) hcl (by simp)
 simp only [List.length_singleton] at hslab
 generalize hcsd : cutsOf (List.flatMap cutsL [l]) = cs at *
 clear hcsd
 have HR := hide hr
 have HV := hide hv
 have HS := hide hslab
 have HF := hide hfin
 have HG := hide hgl
 have HC := hide hcs
 clear hr hv hslab hfin hgl hcs hwf
 obtain ⟨A0, c0, hv0, _⟩ := HR.out
 subst hv0
 refine (callsIn_wide (n := 0)).1 ?_
 refine callsIn_of_wp_marks Tryz.func55 rfl trivial ?_
 simp only [Tryz.ntmps55, List.size_toArray, List.length_cons, List.length_nil, Nat.reduceAdd, Nat.reduceSub, Array.replicate_succ, Array.replicate_zero, List.push_toArray, List.append_toArray, List.nil_append, List.cons_append]
 refine wpIn_wide.2 ?_
 go_wp2_with (fail)
 have hb1 : Below w.heap.size w ((w.alloc (.cells #[.slice none 0 0, .slice none 0 0, .int .i64 0, .int .i64 0] 151)).alloc (.cells #[.slice A0 l.length c0] 22)) := ((Below.refl _ _).alloc (Nat.le_refl _) _).alloc (by simp) _
 have hL1 : ((w.alloc (.cells #[.slice none 0 0, .slice none 0 0, .int .i64 0, .int .i64 0] 151)).alloc (.cells #[.slice A0 l.length c0] 22)).cell? ⟨w.heap.size + 1, 0, none⟩ = some (.slice A0 l.length c0) := by simp [go_sem]
 have hs := HS.out ((w.alloc (.cells #[.slice none 0 0, .slice none 0 0, .int .i64 0, .int .i64 0] 151)).alloc (.cells #[.slice A0 l.length c0] 22)) (w.heap.size + 1) (by simp) ⟨_, hL1, (HR.out.below hb1).mono hb1.size⟩
 simp only [World.size_alloc, Nat.add_assoc, Nat.reduceAdd] at hs
 have hbc : ∀ j u, (#[Value.slice none 0 0, .slice none 0 0, .int .i64 0, .int .i64 0] : Array Value)[j]? = some u → ((w.alloc (.cells #[.slice none 0 0, .slice none 0 0, .int .i64 0, .int .i64 0] 151)).alloc (.cells #[.slice A0 l.length c0] 22)).cell? ⟨w.heap.size, j, none⟩ = some u := by
  intro j u hj
  refine (World.cell?_alloc_lt (w.alloc _) _ ⟨w.heap.size, j, none⟩ (by simp)).trans ?_
  have := news_new w [Value.slice none 0 0, .slice none 0 0, .int .i64 0, .int .i64 0] 151 w.heap.size rfl j u (by simpa using hj)
  rwa [addr_add] at this
 refine hs.mono ?_
 clear hs
 rintro e wS ⟨vc, rfl, hbl, hbc2, hown, hbS⟩
 have hsz1 : ((w.alloc (.cells #[.slice none 0 0, .slice none 0 0, .int .i64 0, .int .i64 0] 151)).alloc (.cells #[.slice A0 l.length c0] 22)).heap.size = w.heap.size + 2 := by simp
 have hz1 : ∀ j, ((w.alloc (.cells #[.slice none 0 0, .slice none 0 0, .int .i64 0, .int .i64 0] 151)).alloc (.cells #[.slice A0 l.length c0] 22)).frozen? ⟨w.heap.size, j, none⟩ = false := fun j => by simp [go_sem]
 go_wp2_with (fail)
 obtain ⟨w1, hw1⟩ : ∃ w1, (w.alloc (.cells #[.slice none 0 0, .slice none 0 0, .int .i64 0, .int .i64 0] 151)).alloc (.cells #[.slice A0 l.length c0] 22) = w1 := ⟨_, rfl⟩
 rw [hw1] at hb1 hL1 hbc hbS hsz1 hz1
 clear hw1
 have hcsz := hbS.size
 obtain ⟨Ac, cc, hvc⟩ := own_form hown
 subst hvc
 have hbS2 : Below (w.heap.size + 2) w1 wS := hbS.mono (by omega)
 have hlow : Below w.heap.size w wS := hb1.trans (hbS.mono (by omega))
 have kS : ∀ j, wS.cell? ⟨w.heap.size, j, none⟩ = w1.cell? ⟨w.heap.size, j, none⟩ := fun j => hbS2.cell (p := ⟨w.heap.size, j, none⟩) (by show w.heap.size < _; omega)
 have zS : ∀ j, wS.frozen? ⟨w.heap.size, j, none⟩ = w1.frozen? ⟨w.heap.size, j, none⟩ := fun j => hbS2.frozen (p := ⟨w.heap.size, j, none⟩) (by show w.heap.size < _; omega)
 have hbw0 : BW w.heap.size wS.heap.size (swp (fun c => sjoin hFst (crossL l c) (crossL [] c)) []) [] 0 0 wS :=
  ⟨by omega, Nat.le_refl _, ⟨_, (kS 0).trans (hbc 0 _ rfl), World.ownsRow_nil _ _ _ _⟩, ⟨_, (kS 1).trans (hbc 1 _ rfl), World.ownsRow_nil _ _ _ _⟩, (kS 2).trans (hbc 2 _ rfl), (kS 3).trans (hbc 3 _ rfl), fun j => (zS j).trans (hz1 j), BInv.start⟩
 have hL1S := (hbS2.cell (p := ⟨w.heap.size + 1, 0, none⟩) (by show w.heap.size + 1 < _; omega)).trans hL1
 have hit := slabsItA [l] cs (w.heap.size + 3) (w.heap.size + 2) (w.heap.size + 1) 1 cc w.heap.size (w.heap.size + 4) Ac wS (lt_of_cell hbl) (lt_of_cell hbc2) (by omega) (by omega) (by omega) (by omega) (by omega) (by omega)
  hbl hbc2 hown (fun k l' hk => by
   have : k = 0 ∧ l = l' := by
    cases k with
    | zero => simpa using hk
    | succ k => simp at hk
   obtain ⟨rfl, rfl⟩ := this
   exact ⟨by omega, _, hL1S, (HR.out.below (hb1.trans (hbS.mono (by omega))))⟩) (by simp) (by simp [cutsL_len] at hcn hcl; omega)
 have hws : w.heap.size + 4 ≤ wS.heap.size := lt_of_cell hbc2
 have hI0 : MI w.heap.size wS.heap.size (fun c => sjoin hFst (crossL l c) (crossL [] c)) 1000 w [] wS := ⟨⟨[], 0, 0, hbw0, by simp, .inl rfl⟩, hlow⟩
 clear hb1 hL1 hbc hbS hsz1 hz1 hcsz hbS2 hlow kS zS hbw0 hL1S hbl hbc2 hown
 refine (wpIn_wide (n := 0)).1 ?_
 refine wp_range rfl (enters_of Tryz.func144 (by kernel_rfl) rfl) hit (Below.refl _ _) (fun x args A hx => by obtain ⟨Rw, rfl, _⟩ := hx; rfl) KpX.trans ?_
  (MI w.heap.size wS.heap.size (fun c => sjoin hFst (crossL l c) (crossL [] c)) 1000 w) (fun _ _ => False) (fun pre A B h hb => h.below hb) (fun pre A l o o' h hw hl ho ho' => h.putObj (by omega) hl ho ho') (fun _ _ _ _ _ h => h.elim) hI0 ?_ ?_ (fun _ _ _ _ h => h.elim)
 ·intro A l o o' _ h1 h2 h3
  exact ⟨by simp, fun b off _ _ => (cell_putObj h1 h2 h3 _).1⟩
 ·rintro l2 pre ⟨c, d⟩ args A hMI ⟨post, hpost⟩ ⟨Rw, rfl, hRw, hrows⟩ hl1 ⟨ol, hl2, hl3⟩
  have hll : l2 < A.heap.size := (Array.getElem?_eq_some_iff.1 hl2).1
  obtain ⟨vx, hx1, hx2⟩ := hrows 0 l rfl
  have hlo := hMI.low.size
  have hBoA : wS.heap.size ≤ A.heap.size := by obtain ⟨_, _, _, h1, _⟩ := hMI.bw; exact h1.size
  have hM := hide hMI
  have HX1 := hide hx1
  have HX2 := hide hx2
  have HL2 := hide hl2
  have HP := hide hpost
  clear hMI hrows hx1 hx2 hit hI0 hl2 hpost
  simp only [List.length_singleton]
  gi_wp2
  refine ⟨KeepsFrom.of_below' ((Below.refl _ _).alloc (Nat.le_refl _) _), KpX.below hBoA ((Below.refl _ _).alloc (Nat.le_refl _) _), ?_⟩
  intro A2 g2 s2 e2 f2
  have c20 : A2.cell? ⟨A.heap.size, 0, none⟩ = some (.int .i64 c) := (e2 _).trans (by simp [go_sem])
  have c21 : A2.cell? ⟨A.heap.size, 1, none⟩ = some (.int .i64 d) := (e2 _).trans (by simp [go_sem])
  have c22 : A2.cell? ⟨A.heap.size, 2, none⟩ = some (.slice (some ⟨Rw, 0, none⟩) 1 1) := (e2 _).trans (by simp [go_sem])
  have s3 : A2.heap.size = A.heap.size + 1 := by rw [s2]; simp
  have cRw : A2.cell? ⟨Rw, 0, none⟩ = some vx := (e2 _).trans ((World.cell?_alloc_lt A _ ⟨Rw, 0, none⟩ hRw).trans HX1.out)
  have rd : RdK encS 2 A2 A2.heap.size vx (crossL l c) := (HX2.out.keep fun b o hb => (e2 _).trans (World.cell?_alloc_lt A _ ⟨b, o, none⟩ hb)).mono (by omega)
  have M2 := (hM.out.below ((Below.refl _ _).alloc (Nat.le_refl _) (.cells #[.int .i64 c, .int .i64 d, .slice (some ⟨Rw, 0, none⟩) 1 1] 156))).grown (by omega) g2 ((Below.heap_alloc _ _ _ hll).trans HL2.out) hl3
  have hmk := spanMake_ok rd (Nat.le_trans (crossL_len l c) hl) (fun p hp => by
   obtain ⟨r, hr, rfl⟩ := List.mem_map.1 hp
   have hvr := HV.out r (List.mem_filter.1 hr).1
   exact ⟨hvr.2.1, hvr.2.2.2.2.1.1, hvr.2.2.2.2.2.2⟩)
  obtain ⟨last, first, e, B2, q1, q2⟩ := M2.bw
  have hprs := HP.out
  have hlt := prs_lt cs HC.out.1 (c, d) (by rw [hprs]; simp)
  have hnx := prs_next cs pre (c, d) post hprs
  have hplen : pre.length ≤ 800 := by
   have h1 := prs_len cs
   rw [hprs] at h1
   simp [cutsL_len] at h1 hcn
   omega
  have hfl := swp_len (fun c => sjoin hFst (crossL l c) (crossL [] c)) 1000 HG.out pre
  have hsl := HG.out c
  have hef : swp (fun c => sjoin hFst (crossL l c) (crossL [] c)) pre = [] ∨ e ≤ c := by
   rcases q2 with rfl | ⟨p, hp, rfl⟩
   ·exact .inl rfl
   ·exact .inr (by rw [hnx p hp]; exact Int.le_refl _)
  have hadd : ∀ (A3 : World) (Am : Option Addr) (cm : Nat), Below A2.heap.size A2 A3 → A3.ownsRow A2.heap.size 141 2 (.slice Am (sjoin hFst (crossL l c) []).length cm) (sjoin hFst (crossL l c) []).length ((sjoin hFst (crossL l c) []).flatMap encS) → _ := fun A3 Am cm hb ho =>
   add_any (s := sjoin hFst (crossL l c) []) (f := c) (t := d) (B2.below hb) (own_base ho (by omega)) (by omega) (Nat.le_trans hsl (by omega)) (by omega) hef hlt.1
  have HA := hide hadd
  have HB2 := hide B2
  have HM2 := hide M2.low
  have HR2 := hide rd
  have HN := hide hnx
  clear g2 s2 e2 f2 M2 B2 hadd rd hlt hnx hef hprs q2
  obtain ⟨av, cv, hvx, _⟩ := HR2.out
  subst hvx
  gi_wp2_with (first
   | (refine ⟨trivial, rfl, ?_⟩)
   | (gi_at_call 100; refine (CallsIn.inRound l2 (callsIn_wide.2 hmk)).mono ?_; rintro e' A3 ⟨Am, cm, rfl, ho3, hb3⟩; have d0 := (hb3.cell (p := ⟨A.heap.size, 0, none⟩) (by show A.heap.size < _; omega)).trans c20; have d1 := (hb3.cell (p := ⟨A.heap.size, 1, none⟩) (by show A.heap.size < _; omega)).trans c21; have hadd := HA.out A3 Am cm hb3 ho3; have HO3 := hide ho3; have HB3 := hide hb3; clear ho3 hb3 c20 c21 c22 cRw hmk)
   | (gi_at_call 101; refine (CallsIn.inRound l2 (callsIn_wide.2 hadd)).mono ?_; rintro e' A4 ⟨rfl, first', hbw4, hb4, hblk4, hk4⟩))
  have hb3 := HB3.out
  refine ⟨(KeepsFrom.of_below' hb3).trans (hk4.from _), (KpX.below (by omega) hb3).trans ⟨hk4.size, fun b o h1 h2 => World.cell?_of_block (w := A3) (hblk4 b h1 h2)⟩, ⟨_, first', d, by rw [swp_snoc]; exact hbw4, hsl, .inr ⟨(c, d), by simp, rfl⟩⟩, ?_⟩
  exact (HM2.out.trans (hb3.mono (by omega))).trans hb4
 ·rintro D W hD hMI hK
  obtain ⟨last, first, e, hB, _, _⟩ := hMI.bw
  have hplen : (prs cs).length ≤ 800 := by
   have h1 := prs_len cs
   simp [cutsL_len] at hcn
   omega
  have hfl := swp_len (fun c => sjoin hFst (crossL l c) (crossL [] c)) 1000 HG.out (prs cs)
  have hres := result_any hB (by omega)
  rw [HF.out] at hres
  have hws2 := hB.size
  have HM := hide hMI.low
  have HK := hide hK
  have hD2 : D < W.heap.size := (Array.getElem?_eq_some_iff.1 hK).1
  clear hB hMI hfl hit hI0 hK
  simp only [Exit.inBlock, Exit.then]
  by_cases h4 : 400 < (rjoin hFst l []).length
  ·have hm : madeF l = ([], 4) := if_pos h4
   have HMF := hide hm
   clear hm
   go_wp2_with (go_at_call 102; refine hres.mono ?_; rintro e' w' ⟨rfl, hq⟩; obtain rfl : e' = .returned (.tuple #[.slice none 0 0, .int .i64 4]) := hq.elim (fun q => q.2) (fun q => absurd q.1 (by omega)); clear hq)
   refine ⟨by simp, .inl ⟨_, _, rfl, run_takeDeferred HK.out, ?_⟩⟩
   refine ⟨_, results_tmp2 rfl _ _ _, ⟨none, 0, by rw [HMF.out]; rfl, by rw [HMF.out]; exact World.ownsRow_nil _ _ _ _⟩, below_putObj HM.out (by omega) _⟩
  ·have hm : madeF l = (rjoin hFst l [], 0) := if_neg h4
   have HMF := hide hm
   clear hm
   generalize rjoin hFst l [] = R at *
   go_wp2_with (go_at_call 102; refine hres.mono ?_; rintro e' w' ⟨rfl, hq⟩; obtain ⟨Ar, cr, rfl, hor⟩ := hq.elim (fun q => absurd q.1 h4) (fun q => q.2); have HOR := hide hor; clear hq hor)
   refine ⟨by simp, .inl ⟨_, _, rfl, run_takeDeferred HK.out, ?_⟩⟩
   refine ⟨_, results_tmp2 rfl _ _ _, ⟨Ar, cr, by rw [HMF.out]; rfl, by rw [HMF.out]; exact own_base (own_putObj HOR.out HK.out rfl) (by omega)⟩, below_putObj HM.out (by omega) _⟩
end Go.Proofs.YtikojiciilambaaGreat

/- slices.Equal at Region: two lists are one. -/
namespace Go.Proofs.YtikojiciilambaaGreat
open Go.RowKit
set_option linter.unusedVariables false
set_option linter.unusedSimpArgs false
set_option maxHeartbeats 4000000 in
theorem eqRect_any {w : World} {vs vt : Value} {s t : List R4} {B C : Nat} (hs : RdK encR 4 w B vs s) (ht : RdK encR 4 w C vt t) (ns : s.length ≤ 100000000) (hB : B ≤ w.heap.size) (hC : C ≤ w.heap.size) :
  Calls Tryz.prog 81 #[vs, vt] w fun e w' => e = .returned (.bool (decide (s = t))) ∧ Below w.heap.size w w' := by
 obtain ⟨A1, c1, rfl, h1⟩ := hs
 obtain ⟨A2, c2, rfl, h2⟩ := ht
 have g : Tryz.prog.eqGuardType Tryz.prog.depth 49 = false := by kernel_rfl
 have H1 := hide h1
 have H2 := hide h2
 clear h1 h2
 go_enter Tryz.func81, Tryz.ntmps81
 by_cases hl : s.length = t.length
 ·have hne : ((s.length : Int) != (t.length : Int)) = false := by rw [hl]; simp
  have HL := hide hl
  clear hl
  go_wp2
  go_loopw [13] (fun i wr => ∃ k : Nat, k ≤ s.length ∧ i = .int .i64 k ∧ Hid (s.take k = t.take k) ∧ Below w.heap.size w wr) (fun i _ => s.length - (intOf i).toNat)
  case atStart => exact ⟨0, Nat.zero_le _, rfl, hide rfl, Below.refl _ _⟩
  case round =>
   obtain ⟨k, hk, rfl, HT, hb⟩ := hrel
   by_cases hlt : k < s.length
   ·obtain ⟨⟨a0, a1, a2, a3⟩, hp⟩ : ∃ p, s[k]? = some p := ⟨_, List.getElem?_eq_getElem hlt⟩
    have hlt2 : k < t.length := by rw [← HL.out]; exact hlt
    obtain ⟨⟨b0, b1, b2, b3⟩, hq⟩ : ∃ p, t[k]? = some p := ⟨_, List.getElem?_eq_getElem hlt2⟩
    obtain ⟨p1, o1, rfl, hp1, k1⟩ := H1.out (by intro e; rw [e] at hlt; simp at hlt)
    obtain ⟨p2, o2, rfl, hp2, k2⟩ := H2.out (by intro e; rw [e] at hlt2; simp at hlt2)
    have x0 : wr.cell? ⟨p1, o1 + k * 4, none⟩ = some (.int .i64 a0) := (hb.cell (p := ⟨p1, _, none⟩) (by show p1 < _; omega)).trans (k1 k _ hp 0 _ rfl)
    have y0 : wr.cell? ⟨p2, o2 + k * 4, none⟩ = some (.int .i64 b0) := (hb.cell (p := ⟨p2, _, none⟩) (by show p2 < _; omega)).trans (k2 k _ hq 0 _ rfl)
    have x1 : wr.cell? ⟨p1, o1 + k * 4 + 1, none⟩ = some (.int .i64 a1) := (hb.cell (p := ⟨p1, _, none⟩) (by show p1 < _; omega)).trans (k1 k _ hp 1 _ rfl)
    have y1 : wr.cell? ⟨p2, o2 + k * 4 + 1, none⟩ = some (.int .i64 b1) := (hb.cell (p := ⟨p2, _, none⟩) (by show p2 < _; omega)).trans (k2 k _ hq 1 _ rfl)
    have x2 : wr.cell? ⟨p1, o1 + k * 4 + 2, none⟩ = some (.int .i64 a2) := (hb.cell (p := ⟨p1, _, none⟩) (by show p1 < _; omega)).trans (k1 k _ hp 2 _ rfl)
    have y2 : wr.cell? ⟨p2, o2 + k * 4 + 2, none⟩ = some (.int .i64 b2) := (hb.cell (p := ⟨p2, _, none⟩) (by show p2 < _; omega)).trans (k2 k _ hq 2 _ rfl)
    have x3 : wr.cell? ⟨p1, o1 + k * 4 + 3, none⟩ = some (.int .i64 a3) := (hb.cell (p := ⟨p1, _, none⟩) (by show p1 < _; omega)).trans (k1 k _ hp 3 _ rfl)
    have y3 : wr.cell? ⟨p2, o2 + k * 4 + 3, none⟩ = some (.int .i64 b3) := (hb.cell (p := ⟨p2, _, none⟩) (by show p2 < _; omega)).trans (k2 k _ hq 3 _ rfl)
    have z1 : (k : Int) < (s.length : Int) := by omega
    have z2 : (k : Int) < (t.length : Int) := by omega
    have HP := hide hp
    have HQ := hide hq
    clear hp hq k1 k2
    by_cases e0 : a0 = b0
    rotate_left 1
    ·have hd : decide (s = t) = false := decide_eq_false fun e => by
      subst e
      have := HP.out.symm.trans HQ.out
      simp only [Option.some.injEq, R4.mk.injEq] at this
      omega
     have HD := hide hd
     clear hd
     go_wp2
     go_region
     go_wp2
     go_ret
     exact ⟨ret_eq (bool_eq HD.out.symm), hb.drew⟩
    by_cases e1 : a1 = b1
    rotate_left 1
    ·have hd : decide (s = t) = false := decide_eq_false fun e => by
      subst e
      have := HP.out.symm.trans HQ.out
      simp only [Option.some.injEq, R4.mk.injEq] at this
      omega
     have HD := hide hd
     clear hd
     subst e0
     go_wp2
     go_region
     go_wp2
     go_ret
     exact ⟨ret_eq (bool_eq HD.out.symm), hb.drew⟩
    by_cases e2 : a2 = b2
    rotate_left 1
    ·have hd : decide (s = t) = false := decide_eq_false fun e => by
      subst e
      have := HP.out.symm.trans HQ.out
      simp only [Option.some.injEq, R4.mk.injEq] at this
      omega
     have HD := hide hd
     clear hd
     subst e0
     subst e1
     go_wp2
     go_region
     go_wp2
     go_ret
     exact ⟨ret_eq (bool_eq HD.out.symm), hb.drew⟩
    by_cases e3 : a3 = b3
    rotate_left 1
    ·have hd : decide (s = t) = false := decide_eq_false fun e => by
      subst e
      have := HP.out.symm.trans HQ.out
      simp only [Option.some.injEq, R4.mk.injEq] at this
      omega
     have HD := hide hd
     clear hd
     subst e0
     subst e1
     subst e2
     go_wp2
     go_region
     go_wp2
     go_ret
     exact ⟨ret_eq (bool_eq HD.out.symm), hb.drew⟩
    subst e0
    subst e1
    subst e2
    subst e3
    go_wp2
    go_region
    go_wp2
    go_roundw
    case rel =>
     refine ⟨k + 1, by omega, by go_num, hide ?_, hb.drew⟩
     obtain ⟨i1, e1⟩ := List.getElem?_eq_some_iff.1 HP.out
     obtain ⟨i2, e2⟩ := List.getElem?_eq_some_iff.1 HQ.out
     rw [List.take_succ_eq_append_getElem i1, List.take_succ_eq_append_getElem i2, HT.out, e1, e2]
    case measure => simp [intOf]; omega
   ·have hlz : ¬ (k : Int) < (s.length : Int) := by omega
    have hd : decide (s = t) = true := decide_eq_true (by
     have := HT.out
     rw [List.take_of_length_le (by omega), List.take_of_length_le (by rw [← HL.out]; omega)] at this
     exact this)
    have HD := hide hd
    clear hd
    go_wp2
    go_ret
    exact ⟨ret_eq (bool_eq HD.out.symm), hb⟩
 ·have hne : ((s.length : Int) != (t.length : Int)) = true := by simp; omega
  have hd : decide (s = t) = false := decide_eq_false fun e => hl (by rw [e])
  rw [hd]
  clear hl hd
  go_wp2
  go_ret
  exact ⟨rfl, Below.refl _ _⟩
end Go.Proofs.YtikojiciilambaaGreat

/- slices.IndexFunc and slices.ContainsFunc at the program's structs. -/
namespace Go.Proofs.YtikojiciilambaaGreat
open Go.RowKit Go.Shelf
set_option linter.unusedVariables false
set_option linter.unusedSimpArgs false
set_option maxHeartbeats 1000000 in
theorem cfRect_idx {w : World} {v : Value} {l : List R4} (h : RdK encR 4 w w.heap.size v l) (hl : l.length ≤ 1000000000) (g : Nat) (lb : Array Value) (p : R4 → Bool)
  (eg : ∀ args w, (callFunc g args).run Tryz.prog w = .ok (.enter g args) w)
  (hp : ∀ (W : World) (x : R4), x ∈ l → Below w.heap.size w W → Calls Tryz.prog g (#[.agg (encR x).toArray] ++ lb) W fun e w' => e = .returned (.bool (p x)) ∧ Below W.heap.size W w') :
  Calls Tryz.prog 155 #[v, .func (.func g) #[] lb] w fun e w' => e = .returned (.int .i64 (idxI p l)) ∧ Below w.heap.size w w' := by
 obtain ⟨A, c, rfl, hc⟩ := h
 go_enter Tryz.func155, Tryz.ntmps155
 go_wp2
 go_loopg [5, 8] l.length (fun gg _ s8 wr => ∃ kk : Nat, kk ≤ l.length ∧ l.length - kk ≤ gg ∧ s8 = .int .i64 kk ∧ Hid (Below w.heap.size w wr) ∧ Hid (∀ x ∈ l.take kk, p x = false))
 case atStart => exact ⟨0, Nat.zero_le _, by omega, rfl, hide (Below.refl _ w), hide (by simp)⟩
 case round =>
  obtain ⟨kk, hkk, hg, rfl, BW, A'⟩ := hrel
  by_cases hlt : kk < l.length
  ·have hltz : (kk : Int) < (l.length : Int) := by omega
   obtain ⟨b, off, rfl, hb, hcell⟩ := hc (by intro e; rw [e] at hlt; simp at hlt)
   have hx : l[kk]? = some l[kk] := List.getElem?_eq_getElem hlt
   have hcall := hp wr l[kk] (List.getElem_mem hlt) BW.out
   have hfi : l.take (kk + 1) = l.take kk ++ [l[kk]] := List.take_succ_eq_append_getElem hlt
   have c0 : wr.cell? ⟨b, off + kk * 4, none⟩ = some (.int .i64 l[kk].x0) := (BW.out.cell (p := ⟨b, off + kk * 4, none⟩) hb).trans (hcell kk _ hx 0 _ rfl)
   have c1 : wr.cell? ⟨b, off + kk * 4 + 1, none⟩ = some (.int .i64 l[kk].y0) := (BW.out.cell (p := ⟨b, off + kk * 4 + 1, none⟩) hb).trans (hcell kk _ hx 1 _ rfl)
   have c2 : wr.cell? ⟨b, off + kk * 4 + 2, none⟩ = some (.int .i64 l[kk].x1) := (BW.out.cell (p := ⟨b, off + kk * 4 + 2, none⟩) hb).trans (hcell kk _ hx 2 _ rfl)
   have c3 : wr.cell? ⟨b, off + kk * 4 + 3, none⟩ = some (.int .i64 l[kk].y1) := (BW.out.cell (p := ⟨b, off + kk * 4 + 3, none⟩) hb).trans (hcell kk _ hx 3 _ rfl)
   clear hc hcell hp
   obtain ⟨x, hxe⟩ : ∃ x, l[kk] = x := ⟨_, rfl⟩
   have XE := hide hxe
   have FI := hide hfi
   rw [hxe] at hcall c0 c1 c2 c3
   clear hx hxe hfi
   cases hq : p x with
   | true =>
    have HQ := hide hq
    rw [hq] at hcall
    clear hq
    go_wp2_with (go_at_fn g; refine hcall.mono ?_; rintro e w' ⟨rfl, hb'⟩)
    go_ret
    refine ⟨ret_eq (int_eq ?_), BW.out.trans (hb'.mono BW.out.size)⟩
    have hxl : p l[kk] = true := by rw [XE.out]; exact HQ.out
    unfold idxI
    rw [if_pos (List.any_eq_true.2 ⟨l[kk], List.getElem_mem hlt, hxl⟩)]
    have : l.findIdx p = kk := by
     rw [List.findIdx_eq hlt]
     refine ⟨hxl, fun j hj => ?_⟩
     have := A'.out l[j] (by rw [List.mem_take_iff_getElem]; exact ⟨j, by omega, rfl⟩)
     simpa using this
    rw [this]
   | false =>
    have HQ := hide hq
    rw [hq] at hcall
    clear hq
    go_wp2_with (go_at_fn g; refine hcall.mono ?_; rintro e w' ⟨rfl, hb'⟩)
    go_roundg (l.length - (kk + 1))
    case measure => omega
    case rel =>
     refine ⟨kk + 1, by omega, by omega, by go_num, hide (BW.out.trans (hb'.mono BW.out.size)), hide fun y hy => ?_⟩
     rw [FI.out, List.mem_append] at hy
     rcases hy with hy | hy
     ·exact A'.out y hy
     ·simp only [List.mem_singleton] at hy
      rw [hy, XE.out]; exact HQ.out
  ·have hltz : ¬ (kk : Int) < (l.length : Int) := by omega
   have hk : kk = l.length := by omega
   go_wp2
   go_ret
   refine ⟨ret_eq (int_eq ?_), BW.out⟩
   have hA := A'.out
   rw [hk, List.take_length] at hA
   unfold idxI
   rw [if_neg (by rw [List.any_eq_true]; rintro ⟨y, hy, hpy⟩; rw [hA y hy] at hpy; cases hpy)]
set_option maxHeartbeats 400000 in
theorem cfRect_any {w : World} {v : Value} {l : List R4} (h : RdK encR 4 w w.heap.size v l) (hl : l.length ≤ 1000000000) (g : Nat) (lb : Array Value) (p : R4 → Bool)
  (eg : ∀ args w, (callFunc g args).run Tryz.prog w = .ok (.enter g args) w)
  (hp : ∀ (W : World) (x : R4), x ∈ l → Below w.heap.size w W → Calls Tryz.prog g (#[.agg (encR x).toArray] ++ lb) W fun e w' => e = .returned (.bool (p x)) ∧ Below W.heap.size W w') :
  Calls Tryz.prog 111 #[v, .func (.func g) #[] lb] w fun e w' => e = .returned (.bool (l.any p)) ∧ Below w.heap.size w w' := by
 have hi := cfRect_idx h hl g lb p eg hp
 obtain ⟨A, c, rfl, hc⟩ := h
 clear hp hc eg
 cases ha : l.any p with
 | true =>
  simp only [idxI, ha, if_true] at hi
  clear ha
  obtain ⟨n, hn⟩ : ∃ n, l.findIdx p = n := ⟨_, rfl⟩
  rw [hn] at hi
  clear hn
  have hn0 : decide ((0 : Int) ≤ (n : Int)) = true := by simp
  go_enter Tryz.func111, Tryz.ntmps111
  go_wp2_with (go_at_call 155; refine hi.mono ?_; rintro e w1 ⟨rfl, hb1⟩)
  go_ret
  exact ⟨rfl, hb1⟩
 | false =>
  simp only [idxI, ha, Bool.false_eq_true, if_false] at hi
  clear ha
  go_enter Tryz.func111, Tryz.ntmps111
  go_wp2_with (go_at_call 155; refine hi.mono ?_; rintro e w1 ⟨rfl, hb1⟩)
  go_ret
  exact ⟨rfl, hb1⟩
end Go.Proofs.YtikojiciilambaaGreat

/- slices.IndexFunc and slices.ContainsFunc at the program's structs. -/
namespace Go.Proofs.YtikojiciilambaaGreat
open Go.RowKit Go.Shelf
set_option linter.unusedVariables false
set_option linter.unusedSimpArgs false
set_option maxHeartbeats 1000000 in
theorem cfReg_idx {w : World} {v : Value} {l : List R4} (h : RdK encR 4 w w.heap.size v l) (hl : l.length ≤ 1000000000) (g : Nat) (lb : Array Value) (p : R4 → Bool)
  (eg : ∀ args w, (callFunc g args).run Tryz.prog w = .ok (.enter g args) w)
  (hp : ∀ (W : World) (x : R4), x ∈ l → Below w.heap.size w W → Calls Tryz.prog g (#[.agg (encR x).toArray] ++ lb) W fun e w' => e = .returned (.bool (p x)) ∧ Below W.heap.size W w') :
  Calls Tryz.prog 127 #[v, .func (.func g) #[] lb] w fun e w' => e = .returned (.int .i64 (idxI p l)) ∧ Below w.heap.size w w' := by
 obtain ⟨A, c, rfl, hc⟩ := h
 go_enter Tryz.func127, Tryz.ntmps127
 go_wp2
 go_loopg [5, 8] l.length (fun gg _ s8 wr => ∃ kk : Nat, kk ≤ l.length ∧ l.length - kk ≤ gg ∧ s8 = .int .i64 kk ∧ Hid (Below w.heap.size w wr) ∧ Hid (∀ x ∈ l.take kk, p x = false))
 case atStart => exact ⟨0, Nat.zero_le _, by omega, rfl, hide (Below.refl _ w), hide (by simp)⟩
 case round =>
  obtain ⟨kk, hkk, hg, rfl, BW, A'⟩ := hrel
  by_cases hlt : kk < l.length
  ·have hltz : (kk : Int) < (l.length : Int) := by omega
   obtain ⟨b, off, rfl, hb, hcell⟩ := hc (by intro e; rw [e] at hlt; simp at hlt)
   have hx : l[kk]? = some l[kk] := List.getElem?_eq_getElem hlt
   have hcall := hp wr l[kk] (List.getElem_mem hlt) BW.out
   have hfi : l.take (kk + 1) = l.take kk ++ [l[kk]] := List.take_succ_eq_append_getElem hlt
   have c0 : wr.cell? ⟨b, off + kk * 4, none⟩ = some (.int .i64 l[kk].x0) := (BW.out.cell (p := ⟨b, off + kk * 4, none⟩) hb).trans (hcell kk _ hx 0 _ rfl)
   have c1 : wr.cell? ⟨b, off + kk * 4 + 1, none⟩ = some (.int .i64 l[kk].y0) := (BW.out.cell (p := ⟨b, off + kk * 4 + 1, none⟩) hb).trans (hcell kk _ hx 1 _ rfl)
   have c2 : wr.cell? ⟨b, off + kk * 4 + 2, none⟩ = some (.int .i64 l[kk].x1) := (BW.out.cell (p := ⟨b, off + kk * 4 + 2, none⟩) hb).trans (hcell kk _ hx 2 _ rfl)
   have c3 : wr.cell? ⟨b, off + kk * 4 + 3, none⟩ = some (.int .i64 l[kk].y1) := (BW.out.cell (p := ⟨b, off + kk * 4 + 3, none⟩) hb).trans (hcell kk _ hx 3 _ rfl)
   clear hc hcell hp
   obtain ⟨x, hxe⟩ : ∃ x, l[kk] = x := ⟨_, rfl⟩
   have XE := hide hxe
   have FI := hide hfi
   rw [hxe] at hcall c0 c1 c2 c3
   clear hx hxe hfi
   cases hq : p x with
   | true =>
    have HQ := hide hq
    rw [hq] at hcall
    clear hq
    go_wp2_with (go_at_fn g; refine hcall.mono ?_; rintro e w' ⟨rfl, hb'⟩)
    go_ret
    refine ⟨ret_eq (int_eq ?_), BW.out.trans (hb'.mono BW.out.size)⟩
    have hxl : p l[kk] = true := by rw [XE.out]; exact HQ.out
    unfold idxI
    rw [if_pos (List.any_eq_true.2 ⟨l[kk], List.getElem_mem hlt, hxl⟩)]
    have : l.findIdx p = kk := by
     rw [List.findIdx_eq hlt]
     refine ⟨hxl, fun j hj => ?_⟩
     have := A'.out l[j] (by rw [List.mem_take_iff_getElem]; exact ⟨j, by omega, rfl⟩)
     simpa using this
    rw [this]
   | false =>
    have HQ := hide hq
    rw [hq] at hcall
    clear hq
    go_wp2_with (go_at_fn g; refine hcall.mono ?_; rintro e w' ⟨rfl, hb'⟩)
    go_roundg (l.length - (kk + 1))
    case measure => omega
    case rel =>
     refine ⟨kk + 1, by omega, by omega, by go_num, hide (BW.out.trans (hb'.mono BW.out.size)), hide fun y hy => ?_⟩
     rw [FI.out, List.mem_append] at hy
     rcases hy with hy | hy
     ·exact A'.out y hy
     ·simp only [List.mem_singleton] at hy
      rw [hy, XE.out]; exact HQ.out
  ·have hltz : ¬ (kk : Int) < (l.length : Int) := by omega
   have hk : kk = l.length := by omega
   go_wp2
   go_ret
   refine ⟨ret_eq (int_eq ?_), BW.out⟩
   have hA := A'.out
   rw [hk, List.take_length] at hA
   unfold idxI
   rw [if_neg (by rw [List.any_eq_true]; rintro ⟨y, hy, hpy⟩; rw [hA y hy] at hpy; cases hpy)]
set_option maxHeartbeats 400000 in
theorem cfReg_any {w : World} {v : Value} {l : List R4} (h : RdK encR 4 w w.heap.size v l) (hl : l.length ≤ 1000000000) (g : Nat) (lb : Array Value) (p : R4 → Bool)
  (eg : ∀ args w, (callFunc g args).run Tryz.prog w = .ok (.enter g args) w)
  (hp : ∀ (W : World) (x : R4), x ∈ l → Below w.heap.size w W → Calls Tryz.prog g (#[.agg (encR x).toArray] ++ lb) W fun e w' => e = .returned (.bool (p x)) ∧ Below W.heap.size W w') :
  Calls Tryz.prog 78 #[v, .func (.func g) #[] lb] w fun e w' => e = .returned (.bool (l.any p)) ∧ Below w.heap.size w w' := by
 have hi := cfReg_idx h hl g lb p eg hp
 obtain ⟨A, c, rfl, hc⟩ := h
 clear hp hc eg
 cases ha : l.any p with
 | true =>
  simp only [idxI, ha, if_true] at hi
  clear ha
  obtain ⟨n, hn⟩ : ∃ n, l.findIdx p = n := ⟨_, rfl⟩
  rw [hn] at hi
  clear hn
  have hn0 : decide ((0 : Int) ≤ (n : Int)) = true := by simp
  go_enter Tryz.func78, Tryz.ntmps78
  go_wp2_with (go_at_call 127; refine hi.mono ?_; rintro e w1 ⟨rfl, hb1⟩)
  go_ret
  exact ⟨rfl, hb1⟩
 | false =>
  simp only [idxI, ha, Bool.false_eq_true, if_false] at hi
  clear ha
  go_enter Tryz.func78, Tryz.ntmps78
  go_wp2_with (go_at_call 127; refine hi.mono ?_; rintro e w1 ⟨rfl, hb1⟩)
  go_ret
  exact ⟨rfl, hb1⟩
end Go.Proofs.YtikojiciilambaaGreat

/- region.Make, region.Check, region.Has, region.Same, region.Area. -/
namespace Go.Proofs.YtikojiciilambaaGreat
open Go.RowKit
set_option linter.unusedVariables false
set_option linter.unusedSimpArgs false
def makeF (l : List R4) : List R4 × Int := if 400 < l.length then ([], 4) else if l.any (fun r => !decide (valid4 r)) then ([], 8) else madeF l
def checkF (l : List R4) : Int := if 400 < l.length then 4 else if l.any (fun r => !decide (valid4 r)) then 8 else if (madeF l).2 = 0 ∧ (madeF l).1 = l then 0 else 8
theorem all_valid {l : List R4} (h : l.any (fun r => !decide (valid4 r)) = false) : ∀ r ∈ l, valid4 r := by
 intro r hr
 have := List.any_eq_false.1 h r hr
 simpa using this
theorem madeF_code (l : List R4) : (madeF l).2 = 0 ∨ (madeF l).2 = 4 := by
 unfold madeF
 split
 ·exact .inr rfl
 ·exact .inl rfl
theorem RegRet.mono {B B' : Nat} {x : List R4 × Int} {e : Ending} {w' : World} (h : RegRet B' x e w') (hb : B ≤ B') : RegRet B x e w' := by
 obtain ⟨A, c, h1, h2⟩ := h
 exact ⟨A, c, h1, own_base h2 hb⟩
set_option maxHeartbeats 1000000 in
theorem mkInv_any (r : R4) (w : World) :
  Calls Tryz.prog 112 #[.agg (encR r).toArray] w fun e w' => e = .returned (.bool (!decide (valid4 r))) ∧ Below w.heap.size w w' := by
 have hv := fun W => valid_any r W
 obtain ⟨a, b, c, d⟩ := r
 generalize decide (valid4 ⟨a, b, c, d⟩) = r at hv ⊢
 show Calls Tryz.prog 112 #[.agg #[.int .i64 a, .int .i64 b, .int .i64 c, .int .i64 d]] w _
 change ∀ W, Calls Tryz.prog 80 #[.agg #[.int .i64 a, .int .i64 b, .int .i64 c, .int .i64 d]] W _ at hv
 go_enter Tryz.func112, Tryz.ntmps112
 go_wp2_with (go_at_call 80; refine (hv _).mono ?_; rintro e w1 ⟨rfl, hb⟩)
 go_ret
 exact ⟨rfl, ((Below.refl _ _).alloc (Nat.le_refl _) _).trans (hb.mono (by simp))⟩
set_option maxHeartbeats 1000000 in
theorem ckInv_any (r : R4) (w : World) :
  Calls Tryz.prog 79 #[.agg (encR r).toArray] w fun e w' => e = .returned (.bool (!decide (valid4 r))) ∧ Below w.heap.size w w' := by
 have hv := fun W => valid_any r W
 obtain ⟨a, b, c, d⟩ := r
 generalize decide (valid4 ⟨a, b, c, d⟩) = r at hv ⊢
 show Calls Tryz.prog 79 #[.agg #[.int .i64 a, .int .i64 b, .int .i64 c, .int .i64 d]] w _
 change ∀ W, Calls Tryz.prog 80 #[.agg #[.int .i64 a, .int .i64 b, .int .i64 c, .int .i64 d]] W _ at hv
 go_enter Tryz.func79, Tryz.ntmps79
 go_wp2_with (go_at_call 80; refine (hv _).mono ?_; rintro e w1 ⟨rfl, hb⟩)
 go_ret
 exact ⟨rfl, ((Below.refl _ _).alloc (Nat.le_refl _) _).trans (hb.mono (by simp))⟩
theorem enter_mkInv : ∀ args w, (callFunc 112 args).run Tryz.prog w = .ok (.enter 112 args) w := enters_of Tryz.func112 (by kernel_rfl) rfl
theorem enter_ckInv : ∀ args w, (callFunc 79 args).run Tryz.prog w = .ok (.enter 79 args) w := enters_of Tryz.func79 (by kernel_rfl) rfl
set_option maxHeartbeats 1000000 in
theorem make_any {w : World} {v : Value} {l : List R4} (hr : RdK encR 4 w w.heap.size v l) (hl : l.length ≤ 100000000) :
  Calls Tryz.prog 65 #[v] w fun e w' => RegRet w.heap.size (makeF l) e w' ∧ Below w.heap.size w w' := by
 have hcf := cfRect_any hr (by omega) 112 #[] (fun r => !decide (valid4 r)) enter_mkInv (fun W x _ _ => mkInv_any x W)
 obtain ⟨A, c, hv, _⟩ := id hr
 subst hv
 have HR := hide hr
 have HCF := hide hcf
 clear hcf hr
 by_cases h4 : 400 < l.length
 ·have hz : (400 : Int) < (l.length : Int) := by omega
  have hm : makeF l = ([], 4) := if_pos h4
  have HM := hide hm
  clear hm
  go_enter Tryz.func65, Tryz.ntmps65
  go_wp2
  go_ret2
  exact ⟨⟨none, 0, by rw [HM.out]; rfl, by rw [HM.out]; exact World.ownsRow_nil _ _ _ _⟩, Below.refl _ _⟩
 ·have hz : (l.length : Int) ≤ 400 := by omega
  cases ha : l.any (fun r => !decide (valid4 r)) with
  | true =>
   have hm : makeF l = ([], 8) := by unfold makeF; rw [if_neg h4, ha]; rfl
   rw [ha] at HCF
   have HM := hide hm
   clear hm ha
   go_enter Tryz.func65, Tryz.ntmps65
   go_wp2_with (first
    | (go_at_call 111; refine HCF.out.mono ?_; rintro e w1 ⟨rfl, hb1⟩))
   go_ret2
   exact ⟨⟨none, 0, by rw [HM.out]; rfl, by rw [HM.out]; exact World.ownsRow_nil _ _ _ _⟩, hb1⟩
  | false =>
   have hm : makeF l = madeF l := by unfold makeF; rw [if_neg h4, ha]; rfl
   have HV := hide (all_valid ha)
   rw [ha] at HCF
   have HM := hide hm
   clear hm ha
   go_enter Tryz.func65, Tryz.ntmps65
   go_wp2_with (first
    | (go_at_call 111; refine HCF.out.mono ?_; rintro e w1 ⟨rfl, hb1⟩)
    | (go_at_call 55; refine (made_any ((HR.out.below hb1).mono hb1.size) (by omega) HV.out).mono ?_; rintro e w2 ⟨⟨A2, c2, rfl, ho2⟩, hb2⟩; have HO := hide ho2; clear ho2))
   go_ret2
   exact ⟨⟨A2, c2, by rw [HM.out]; rfl, by rw [HM.out]; exact own_base HO.out hb1.size⟩, hb1.trans (hb2.mono hb1.size)⟩
set_option maxHeartbeats 1000000 in
theorem check_any {w : World} {v : Value} {l : List R4} (hr : RdK encR 4 w w.heap.size v l) (hl : l.length ≤ 100000000) :
    Calls Tryz.prog 45 #[v] w fun e w' => e = .returned (.int .i64 (checkF l)) ∧ Below w.heap.size w w' := by
  have hcf := cfReg_any hr (by omega) 79 #[] (fun r => !decide (valid4 r)) enter_ckInv (fun W x _ _ => ckInv_any x W)
  obtain ⟨A, c, hv, _⟩ := id hr
  subst hv
  have HR := hide hr
  have HCF := hide hcf
  clear hcf hr
  by_cases h4 : 400 < l.length
  · have hz : (400 : Int) < (l.length : Int) := by omega
    have hm : checkF l = 4 := if_pos h4
    have HM := hide hm
    clear hm
    go_enter Tryz.func45, Tryz.ntmps45
    go_wp2
    go_ret
    exact ⟨ret_eq (int_eq HM.out.symm), Below.refl _ _⟩
  · have hz : (l.length : Int) ≤ 400 := by omega
    cases ha : l.any (fun r => !decide (valid4 r)) with
    | true =>
      have hm : checkF l = 8 := by unfold checkF; rw [if_neg h4, ha]; rfl
      rw [ha] at HCF
      have HM := hide hm
      clear hm ha
      go_enter Tryz.func45, Tryz.ntmps45
      go_wp2_with (first
        | (go_at_call 78; refine HCF.out.mono ?_; rintro e w1 ⟨rfl, hb1⟩))
      go_ret
      exact ⟨ret_eq (int_eq HM.out.symm), hb1⟩
    | false =>
      have hm : checkF l = if (madeF l).2 = 0 ∧ (madeF l).1 = l then 0 else 8 := by unfold checkF; rw [if_neg h4, ha]; rfl
      have HV := hide (all_valid ha)
      have hcode := madeF_code l
      have hmd : ∀ W, Below w.heap.size w W → _ := fun W hb => made_any ((HR.out.below hb).mono hb.size) (by omega) HV.out
      have heq : ∀ (W : World) (vs : Value), Below w.heap.size w W → RdK encR 4 W W.heap.size vs (madeF l).1 → (madeF l).1.length ≤ 100000000 → _ := fun W vs hb h1 h2 => eqRect_any h1 ((HR.out.below hb).mono hb.size) h2 (Nat.le_refl _) (Nat.le_refl _)
      have hlen : (madeF l).1.length ≤ 400 := by unfold madeF; split; · simp
                                                 · simp only; omega
      rw [ha] at HCF
      generalize madeF l = R at *
      obtain ⟨R1, R2⟩ := R
      simp only at *
      have HMD := hide hmd
      have HEQ := hide heq
      have HM := hide hm
      clear hm ha hmd heq
      rcases hcode with rfl | rfl
      · cases hd : decide (R1 = l) with
        | true =>
          have HD := hide hd
          clear hd
          go_enter Tryz.func45, Tryz.ntmps45
          go_wp2_with (first
            | (go_at_call 78; refine HCF.out.mono ?_; rintro e w1 ⟨rfl, hb1⟩)
            | (go_at_call 55; refine (HMD.out _ hb1).mono ?_; rintro e w2 ⟨⟨A2, c2, rfl, ho2⟩, hb2⟩; have HO := hide ho2; clear ho2)
            | (go_at_call 81; refine (HEQ.out _ _ (hb1.trans (hb2.mono hb1.size)) (own_rd HO.out (fun _ => rfl)) (by omega)).mono ?_; rintro e w3 ⟨rfl, hb3⟩; rw [HD.out]))
          go_ret
          exact ⟨ret_eq (int_eq (by rw [HM.out, if_pos ⟨trivial, of_decide_eq_true HD.out⟩])), (hb1.trans (hb2.mono hb1.size)).trans (hb3.mono (Nat.le_trans hb1.size hb2.size))⟩
        | false =>
          have HD := hide hd
          clear hd
          go_enter Tryz.func45, Tryz.ntmps45
          go_wp2_with (first
            | (go_at_call 78; refine HCF.out.mono ?_; rintro e w1 ⟨rfl, hb1⟩)
            | (go_at_call 55; refine (HMD.out _ hb1).mono ?_; rintro e w2 ⟨⟨A2, c2, rfl, ho2⟩, hb2⟩; have HO := hide ho2; clear ho2)
            | (go_at_call 81; refine (HEQ.out _ _ (hb1.trans (hb2.mono hb1.size)) (own_rd HO.out (fun _ => rfl)) (by omega)).mono ?_; rintro e w3 ⟨rfl, hb3⟩; rw [HD.out]))
          go_ret
          exact ⟨ret_eq (int_eq (by rw [HM.out, if_neg (fun h => of_decide_eq_false HD.out h.2)])), (hb1.trans (hb2.mono hb1.size)).trans (hb3.mono (Nat.le_trans hb1.size hb2.size))⟩
      · go_enter Tryz.func45, Tryz.ntmps45
        go_wp2_with (first
          | (go_at_call 78; refine HCF.out.mono ?_; rintro e w1 ⟨rfl, hb1⟩)
          | (go_at_call 55; refine (HMD.out _ hb1).mono ?_; rintro e w2 ⟨⟨A2, c2, rfl, ho2⟩, hb2⟩; have HO := hide ho2; clear ho2))
        go_ret
        exact ⟨ret_eq (int_eq (by rw [HM.out, if_neg (fun h => by simp at h)])), hb1.trans (hb2.mono hb1.size)⟩
theorem checkF_ok {l : List R4} (h : checkF l = 0) : l.length ≤ 400 ∧ (∀ r ∈ l, valid4 r) ∧ madeF l = (l, 0) := by
 unfold checkF at h
 by_cases h4 : 400 < l.length
 ·rw [if_pos h4] at h; simp at h
 rw [if_neg h4] at h
 cases ha : l.any (fun r => !decide (valid4 r)) with
 | true => rw [ha] at h; simp at h
 | false =>
  rw [ha] at h
  refine ⟨by omega, all_valid ha, ?_⟩
  by_cases hm : (madeF l).2 = 0 ∧ (madeF l).1 = l
  ·exact Prod.ext hm.2 hm.1
  ·simp [hm] at h
end Go.Proofs.YtikojiciilambaaGreat

/- The reference's Check, Make, Area. -/
namespace Go.Proofs.YtikojiciilambaaGreat
open Go.RowKit
set_option linter.unusedVariables false
set_option linter.unusedSimpArgs false
theorem rjoin_or {l : List R4} (h : ∀ r ∈ l, wf4 r) : rjoin (hk 2) l [] = rjoin hFst l [] := by
 obtain ⟨h1, h2⟩ := rjoin_ok (h := hk 2) rfl h (b := []) (by simp)
 refine rjoin_eq rfl h (by simp) h1 fun x y => ?_
 rw [h2]
 have : decide (pmem ([] : List R4) x y) = false := decide_eq_false pmem_nil
 rw [this]
 simp [hk, hFst]
theorem isortI_len : ∀ (l : List Int), (isortI l).length ≤ l.length
 | [] => Nat.le_refl _
 | c :: l => by
  have h1 := insI_len c (isortI l)
  have h2 := isortI_len l
  simp only [isortI, List.length_cons]
  omega
theorem rjoin_len (l : List R4) (hl : l.length ≤ 400) : (rjoin hFst l []).length ≤ 100000000 := by
 have h1 := swp_len (fun c => sjoin hFst (crossL l c) (crossL [] c)) 1000 (fun c => by
  have h1 := sjoin_len hFst (crossL l c) (crossL [] c)
  have h2 := crossL_len l c
  have h3 : (crossL [] c).length = 0 := rfl
  omega) (prs (isortI (cutsL l ++ cutsL [])))
 rw [swp_sweep] at h1
 have h2 := prs_len (isortI (cutsL l ++ cutsL []))
 have h3 := isortI_len (cutsL l ++ cutsL [])
 rw [List.length_append, cutsL_len, cutsL_len] at h3
 simp only [List.length_nil] at h3
 unfold rjoin
 have h4 : (prs (isortI (cutsL l ++ cutsL []))).length ≤ 1000 := by omega
 have h5 := Nat.mul_le_mul_right 1000 h4
 omega
theorem makeF_len (l : List R4) : (makeF l).1.length ≤ 400 := by
 unfold makeF
 split
 ·simp
 ·split
  ·simp
  ·unfold madeF
   split
   ·simp
   ·simp only; omega
theorem checkF_valid {l : List R4} (h4 : ¬ 400 < l.length) (ha : l.any (fun r => !decide (valid4 r)) = false) : checkF l = if rjoin hFst l [] = l then 0 else 8 := by
 unfold checkF
 rw [if_neg h4, ha]
 simp only [Bool.false_eq_true, if_false]
 unfold madeF
 by_cases hr : rjoin hFst l [] = l
 ·rw [hr, if_neg h4, if_pos rfl, if_pos ⟨rfl, rfl⟩]
 ·rw [if_neg hr]
  by_cases h5 : 400 < (rjoin hFst l []).length
  ·rw [if_pos h5, if_neg (by simp)]
  ·rw [if_neg h5, if_neg (fun h => hr h.2)]
set_option maxRecDepth 100000 in
set_option maxHeartbeats 2000000 in
theorem rCheck_any {w : World} {v : Value} {l : List R4} (hr : RdK encR 4 w w.heap.size v l) (hl : l.length ≤ 100000000) :
  Calls Tryz.prog 44 #[v] w fun e w' => e = .returned (.int .i64 (checkF l)) ∧ Below w.heap.size w w' := by
 obtain ⟨A, c, hv, hc⟩ := id hr
 subst hv
 have HR := hide hr
 have HRC := hide hc
 clear hr hc
 by_cases h4 : 400 < l.length
 ·have hz : (400 : Int) < (l.length : Int) := by omega
  have hm : checkF l = 4 := if_pos h4
  have HM := hide hm
  clear hm
  go_enter Tryz.func44, Tryz.ntmps44
  go_wp2
  go_ret
  exact ⟨ret_eq (int_eq HM.out.symm), Below.refl _ _⟩
 ·have hz : (l.length : Int) ≤ 400 := by omega
  have hck : ∀ ha : l.any (fun r => !decide (valid4 r)) = false, checkF l = if rjoin hFst l [] = l then 0 else 8 := checkF_valid h4
  have hck8 : ∀ ha : l.any (fun r => !decide (valid4 r)) = true, checkF l = 8 := fun ha => by unfold checkF; rw [if_neg h4, ha]; rfl
  have HCK := hide hck
  have HCK8 := hide hck8
  clear hck hck8
  go_enter Tryz.func44, Tryz.ntmps44
  go_wp2
  go_loopw [3] (fun i wr => ∃ m : Nat, m ≤ l.length ∧ i = .int .i64 m ∧ Hid (∀ r ∈ l.take m, valid4 r) ∧ Hid (Below w.heap.size w wr)) (fun i _ => l.length - (intOf i).toNat)
  case atStart => exact ⟨0, Nat.zero_le _, rfl, hide (by simp), hide (Below.refl _ _)⟩
  case round =>
   obtain ⟨m, hm, rfl, HV, HB⟩ := hrel
   by_cases hlt : m < l.length
   ·obtain ⟨⟨x0, y0, x1, y1⟩, hp⟩ : ∃ p, l[m]? = some p := ⟨_, List.getElem?_eq_getElem hlt⟩
    obtain ⟨b, o, rfl, hbl, k⟩ := HRC.out (by intro e; rw [e] at hlt; simp at hlt)
    have d0 : wr.cell? ⟨b, o + m * 4, none⟩ = some (.int .i64 x0) := (HB.out.cell (p := ⟨b, _, none⟩) hbl).trans (k m _ hp 0 _ rfl)
    have d1 : wr.cell? ⟨b, o + m * 4 + 1, none⟩ = some (.int .i64 y0) := (HB.out.cell (p := ⟨b, _, none⟩) hbl).trans (k m _ hp 1 _ rfl)
    have d2 : wr.cell? ⟨b, o + m * 4 + 2, none⟩ = some (.int .i64 x1) := (HB.out.cell (p := ⟨b, _, none⟩) hbl).trans (k m _ hp 2 _ rfl)
    have d3 : wr.cell? ⟨b, o + m * 4 + 3, none⟩ = some (.int .i64 y1) := (HB.out.cell (p := ⟨b, _, none⟩) hbl).trans (k m _ hp 3 _ rfl)
    have mz : (m : Int) < (l.length : Int) := by omega
    have hva := rValid_any ⟨x0, y0, x1, y1⟩ wr
    have HP := hide hp
    simp only [encR] at hva
    have HVA := hide hva
    have hp' := hp
    clear k hp hva
    cases hq : decide (valid4 ⟨x0, y0, x1, y1⟩) with
    | true =>
     have HQ := hide hq
     rw [hq] at HVA
     clear hq hp'
     go_wp2_with (go_at_call 76; refine HVA.out.mono ?_; rintro e w2 ⟨rfl, hb2⟩)
     go_roundw
     case rel =>
      refine ⟨m + 1, by omega, by go_num, hide ?_, hide (HB.out.trans (hb2.mono HB.out.size))⟩
      obtain ⟨i1, e1⟩ := List.getElem?_eq_some_iff.1 HP.out
      intro r hr
      rw [List.take_succ_eq_append_getElem i1, List.mem_append] at hr
      rcases hr with hr | hr
      ·exact HV.out r hr
      ·rw [List.mem_singleton] at hr
       subst hr
       rw [e1]
       exact of_decide_eq_true HQ.out
     case measure => simp [intOf]; omega
    | false =>
     have hany : l.any (fun r => !decide (valid4 r)) = true := List.any_eq_true.2 ⟨_, List.mem_of_getElem? hp', by rw [hq]; rfl⟩
     have HAN := hide hany
     rw [hq] at HVA
     clear hq hany hp'
     go_wp2_with (go_at_call 76; refine HVA.out.mono ?_; rintro e w2 ⟨rfl, hb2⟩)
     go_ret
     exact ⟨ret_eq (int_eq (HCK8.out HAN.out).symm), HB.out.trans (hb2.mono HB.out.size)⟩
   ·have mz : ¬ (m : Int) < (l.length : Int) := by omega
    have hva : ∀ r ∈ l, valid4 r := by have := HV.out; rwa [List.take_of_length_le (by omega)] at this
    have hany : l.any (fun r => !decide (valid4 r)) = false := by
     rw [List.any_eq_false]
     intro r hr
     simp [hva r hr]
    have HAN := hide hany
    have HW := hide (fun (r : R4) (h : r ∈ l) => (show wf4 r from ⟨(hva r h).1, (hva r h).2.1⟩))
    have hjo := rJoined_any 2 (.inr (.inl rfl)) (w := wr) (HR.out.below HB.out) (RdK.nil (α := R4) none 0) HB.out.size (by omega) (by simp)
    rw [ref_join (h := hk 2) rfl HW.out (by simp), rjoin_or HW.out] at hjo
    have hsz := HB.out.size
    have HJO := hide hjo
    clear hjo hany hva
    have HRL := hide (rjoin_len l (by omega))
    generalize rjoin hFst l [] = R at *
    have heq : ∀ (W : World) (vs : Value), Below w.heap.size w W → W.ownsRow wr.heap.size 49 4 vs R.length (R.flatMap encR) → _ := fun W vs h1 h2 => rSameRects_any (w := W) (own_rd h2 (fun _ => rfl)) ((HR.out.below h1).mono h1.size) HRL.out (Nat.le_refl _) (Nat.le_refl _)
    have HEQ := hide heq
    clear heq
    cases hd : decide (R = l) with
    | true =>
     have HD := hide hd
     clear hd
     go_wp2_with (first
      | (go_at_call 77; refine HJO.out.mono ?_; rintro e w2 ⟨vo, rfl, ho, hb2⟩; have HO := hide ho; have HB2 := hide hb2; clear ho hb2)
      | (go_at_call 21; refine (HEQ.out _ _ (HB.out.trans (HB2.out.mono hsz)) HO.out).mono ?_; rintro e w3 ⟨rfl, hb3⟩; rw [HD.out]))
     go_ret
     exact ⟨ret_eq (int_eq (by rw [HCK.out HAN.out, if_pos (of_decide_eq_true HD.out)])), (HB.out.trans (HB2.out.mono hsz)).trans (hb3.mono (Nat.le_trans hsz HB2.out.size))⟩
    | false =>
     have HD := hide hd
     clear hd
     go_wp2_with (first
      | (go_at_call 77; refine HJO.out.mono ?_; rintro e w2 ⟨vo, rfl, ho, hb2⟩; have HO := hide ho; have HB2 := hide hb2; clear ho hb2)
      | (go_at_call 21; refine (HEQ.out _ _ (HB.out.trans (HB2.out.mono hsz)) HO.out).mono ?_; rintro e w3 ⟨rfl, hb3⟩; rw [HD.out]))
     go_ret
     exact ⟨ret_eq (int_eq (by rw [HCK.out HAN.out, if_neg (of_decide_eq_false HD.out)])), (HB.out.trans (HB2.out.mono hsz)).trans (hb3.mono (Nat.le_trans hsz HB2.out.size))⟩
set_option maxRecDepth 100000 in
set_option maxHeartbeats 2000000 in
theorem rMake_any {w : World} {v : Value} {l : List R4} (hr : RdK encR 4 w w.heap.size v l) (hl : l.length ≤ 100000000) :
  Calls Tryz.prog 69 #[v] w fun e w' => RegRet w.heap.size (makeF l) e w' ∧ Below w.heap.size w w' := by
 obtain ⟨A, c, hv, hc⟩ := id hr
 subst hv
 have HR := hide hr
 have HRC := hide hc
 clear hr hc
 by_cases h4 : 400 < l.length
 ·have hz : (400 : Int) < (l.length : Int) := by omega
  have hm : makeF l = ([], 4) := if_pos h4
  have HM := hide hm
  clear hm
  go_enter Tryz.func69, Tryz.ntmps69
  go_wp2
  go_ret2
  exact ⟨⟨none, 0, by rw [HM.out]; rfl, by rw [HM.out]; exact World.ownsRow_nil _ _ _ _⟩, Below.refl _ _⟩
 ·have hz : (l.length : Int) ≤ 400 := by omega
  have hck : ∀ ha : l.any (fun r => !decide (valid4 r)) = false, makeF l = if 400 < (rjoin hFst l []).length then ([], 4) else (rjoin hFst l [], 0) := fun ha => by unfold makeF madeF; rw [if_neg h4, ha]; rfl
  have hck8 : ∀ ha : l.any (fun r => !decide (valid4 r)) = true, makeF l = ([], 8) := fun ha => by unfold makeF; rw [if_neg h4, ha]; rfl
  have HCK := hide hck
  have HCK8 := hide hck8
  clear hck hck8
  go_enter Tryz.func69, Tryz.ntmps69
  go_wp2
  go_loopw [4] (fun i wr => ∃ m : Nat, m ≤ l.length ∧ i = .int .i64 m ∧ Hid (∀ r ∈ l.take m, valid4 r) ∧ Hid (Below w.heap.size w wr)) (fun i _ => l.length - (intOf i).toNat)
  case atStart => exact ⟨0, Nat.zero_le _, rfl, hide (by simp), hide (Below.refl _ _)⟩
  case round =>
   obtain ⟨m, hm, rfl, HV, HB⟩ := hrel
   by_cases hlt : m < l.length
   ·obtain ⟨⟨x0, y0, x1, y1⟩, hp⟩ : ∃ p, l[m]? = some p := ⟨_, List.getElem?_eq_getElem hlt⟩
    obtain ⟨b, o, rfl, hbl, k⟩ := HRC.out (by intro e; rw [e] at hlt; simp at hlt)
    have d0 : wr.cell? ⟨b, o + m * 4, none⟩ = some (.int .i64 x0) := (HB.out.cell (p := ⟨b, _, none⟩) hbl).trans (k m _ hp 0 _ rfl)
    have d1 : wr.cell? ⟨b, o + m * 4 + 1, none⟩ = some (.int .i64 y0) := (HB.out.cell (p := ⟨b, _, none⟩) hbl).trans (k m _ hp 1 _ rfl)
    have d2 : wr.cell? ⟨b, o + m * 4 + 2, none⟩ = some (.int .i64 x1) := (HB.out.cell (p := ⟨b, _, none⟩) hbl).trans (k m _ hp 2 _ rfl)
    have d3 : wr.cell? ⟨b, o + m * 4 + 3, none⟩ = some (.int .i64 y1) := (HB.out.cell (p := ⟨b, _, none⟩) hbl).trans (k m _ hp 3 _ rfl)
    have mz : (m : Int) < (l.length : Int) := by omega
    have hva := rValid_any ⟨x0, y0, x1, y1⟩ wr
    have HP := hide hp
    simp only [encR] at hva
    have HVA := hide hva
    have hp' := hp
    clear k hp hva
    cases hq : decide (valid4 ⟨x0, y0, x1, y1⟩) with
    | true =>
     have HQ := hide hq
     rw [hq] at HVA
     clear hq hp'
     go_wp2_with (go_at_call 76; refine HVA.out.mono ?_; rintro e w2 ⟨rfl, hb2⟩)
     go_roundw
     case rel =>
      refine ⟨m + 1, by omega, by go_num, hide ?_, hide (HB.out.trans (hb2.mono HB.out.size))⟩
      obtain ⟨i1, e1⟩ := List.getElem?_eq_some_iff.1 HP.out
      intro r hr
      rw [List.take_succ_eq_append_getElem i1, List.mem_append] at hr
      rcases hr with hr | hr
      ·exact HV.out r hr
      ·rw [List.mem_singleton] at hr
       subst hr
       rw [e1]
       exact of_decide_eq_true HQ.out
     case measure => simp [intOf]; omega
    | false =>
     have hany : l.any (fun r => !decide (valid4 r)) = true := List.any_eq_true.2 ⟨_, List.mem_of_getElem? hp', by rw [hq]; rfl⟩
     have HAN := hide hany
     rw [hq] at HVA
     clear hq hany hp'
     go_wp2_with (go_at_call 76; refine HVA.out.mono ?_; rintro e w2 ⟨rfl, hb2⟩)
     go_ret2
     exact ⟨⟨none, 0, by rw [HCK8.out HAN.out]; rfl, by rw [HCK8.out HAN.out]; exact World.ownsRow_nil _ _ _ _⟩, HB.out.trans (hb2.mono HB.out.size)⟩
   ·have mz : ¬ (m : Int) < (l.length : Int) := by omega
    have hva : ∀ r ∈ l, valid4 r := by have := HV.out; rwa [List.take_of_length_le (by omega)] at this
    have hany : l.any (fun r => !decide (valid4 r)) = false := by
     rw [List.any_eq_false]
     intro r hr
     simp [hva r hr]
    have HAN := hide hany
    have HW := hide (fun (r : R4) (h : r ∈ l) => (show wf4 r from ⟨(hva r h).1, (hva r h).2.1⟩))
    have hjo := rJoined_any 2 (.inr (.inl rfl)) (w := wr) (HR.out.below HB.out) (RdK.nil (α := R4) none 0) HB.out.size (by omega) (by simp)
    rw [ref_join (h := hk 2) rfl HW.out (by simp), rjoin_or HW.out] at hjo
    have hsz := HB.out.size
    have HJO := hide hjo
    clear hjo hany hva
    have HRL := hide (rjoin_len l (by omega))
    generalize rjoin hFst l [] = R at *
    by_cases h5 : 400 < R.length
    ·have h5z : (400 : Int) < (R.length : Int) := by omega
     have HM : Hid (makeF l = ([], 4)) := hide (by rw [HCK.out HAN.out, if_pos h5])
     go_wp2_with (first
      | (go_at_call 77; refine HJO.out.mono ?_; rintro e w2 ⟨vo, rfl, ho, hb2⟩; obtain ⟨Ao, co, hvo⟩ := own_form ho; subst hvo; have HO := hide ho; have HB2 := hide hb2; clear ho hb2))
     go_ret2
     exact ⟨⟨none, 0, by rw [HM.out]; rfl, by rw [HM.out]; exact World.ownsRow_nil _ _ _ _⟩, HB.out.trans (HB2.out.mono hsz)⟩
    ·have h5z : (R.length : Int) ≤ 400 := by omega
     have HM : Hid (makeF l = (R, 0)) := hide (by rw [HCK.out HAN.out, if_neg h5])
     go_wp2_with (first
      | (go_at_call 77; refine HJO.out.mono ?_; rintro e w2 ⟨vo, rfl, ho, hb2⟩; obtain ⟨Ao, co, hvo⟩ := own_form ho; subst hvo; have HO := hide ho; have HB2 := hide hb2; clear ho hb2))
     go_ret2
     exact ⟨⟨Ao, co, by rw [HM.out]; rfl, by rw [HM.out]; exact own_base HO.out hsz⟩, HB.out.trans (HB2.out.mono hsz)⟩
end Go.Proofs.YtikojiciilambaaGreat

/- region.Cross, region.Move, region.Flip. -/
namespace Go.Proofs.YtikojiciilambaaGreat
open Go.RowKit
set_option linter.unusedVariables false
set_option linter.unusedSimpArgs false
def SpnRet (B : Nat) (x : List Sp × Int) (e : Ending) (w' : World) : Prop :=
 ∃ A c, e = .returned (.tuple #[.slice A x.1.length c, .int .i64 x.2]) ∧ w'.ownsRow B 141 2 (.slice A x.1.length c) x.1.length (x.1.flatMap encS)
def mv (x y : Int) (r : R4) : R4 := ⟨r.x0 + x, r.y0 + y, r.x1 + x, r.y1 + y⟩
def inMv (x : Int) : Prop := -2000000 ≤ x ∧ x ≤ 2000000
instance (x : Int) : Decidable (inMv x) := by unfold inMv; infer_instance
end Go.Proofs.YtikojiciilambaaGreat

/- span.Check at a canonical set; span.checked; span.Union, Meet, Minus; region.both and the reference's Both and Join. -/
namespace Go.Proofs.YtikojiciilambaaGreat
open Go.RowKit
set_option linter.unusedVariables false
set_option linter.unusedSimpArgs false
set_option maxRecDepth 100000 in
set_option maxHeartbeats 2000000 in
theorem spCheck_can {w : World} {v : Value} {s : List Sp} (hr : RdK encS 2 w w.heap.size v s) (hl : s.length ≤ 400) (hc : SCan s) (hv : ∀ p ∈ s, validS p) :
  Calls Tryz.prog 180 #[v] w fun e w' => e = .returned (.int .i64 0) ∧ Below w.heap.size w w' := by
 obtain ⟨A, c, rfl, hrd⟩ := hr
 have HR := hide hrd
 have HC := hide hc
 have HV := hide hv
 have lz : (s.length : Int) ≤ 400 := by omega
 clear hrd hc hv
 go_enter Tryz.func180, Tryz.ntmps180
 go_wp2
 go_loopw [10] (fun i wr => ∃ m : Nat, m ≤ s.length ∧ i = .int .i64 m ∧ Hid (Below w.heap.size w wr)) (fun i _ => s.length - (intOf i).toNat)
 case atStart => exact ⟨0, Nat.zero_le _, rfl, hide (Below.refl _ _)⟩
 case round =>
  obtain ⟨m, hm, rfl, HB⟩ := hrel
  by_cases hlt : m < s.length
  ·obtain ⟨⟨x, y⟩, hp⟩ : ∃ p, s[m]? = some p := ⟨_, List.getElem?_eq_getElem hlt⟩
   obtain ⟨b, o, rfl, hbl, k⟩ := HR.out (by intro e; rw [e] at hlt; simp at hlt)
   have d0 : wr.cell? ⟨b, o + m * 2, none⟩ = some (.int .i64 x) := (HB.out.cell (p := ⟨b, _, none⟩) hbl).trans (k m _ hp 0 _ rfl)
   have d1 : wr.cell? ⟨b, o + m * 2 + 1, none⟩ = some (.int .i64 y) := (HB.out.cell (p := ⟨b, _, none⟩) hbl).trans (k m _ hp 1 _ rfl)
   have mz : (m : Int) < (s.length : Int) := by omega
   have hsz := HB.out.size
   have hbw : b < wr.heap.size := by omega
   have HVA : Hid (∀ W, Calls Tryz.prog 147 #[.agg #[.int .i64 x, .int .i64 y]] W fun e w' => e = .returned (.bool true) ∧ Below W.heap.size W w') := hide (fun W => by
    have := validS_any (x, y) W
    rw [decide_eq_true (HV.out _ (List.mem_of_getElem? hp))] at this
    exact this)
   have HP := hide hp
   clear hp
   rcases Nat.eq_zero_or_pos m with rfl | hmp
   ·clear k
    simp only [Nat.zero_mul, Nat.add_zero] at d0 d1
    rw [show ((0 : Nat) : Int) = 0 from rfl] at *
    go_wp2
    refine wp_hab fun hab => ?_
    refine wp_region_above (by kernel_rfl) (by kernel_rfl) ?_
    repeat (go_big_quiet_step ((go_at_call 147; exact above_of (HVA.out _))))
    refine wpQuiet_nil ?_
    refine above_ends fun w3 hb3 => ?_
    clear hab
    have HB3 := hide ((HB.out.alloc hsz _).trans (hb3.mono (by simp; omega)))
    clear hb3
    go_wp2
    go_roundw
    case rel => exact ⟨0 + 1, by omega, by go_num, HB3⟩
    case measure => simp [intOf]; omega
   ·obtain ⟨j, rfl⟩ : ∃ j, m = j + 1 := ⟨m - 1, by omega⟩
    obtain ⟨⟨p, q⟩, hq⟩ : ∃ p, s[j]? = some p := ⟨_, List.getElem?_eq_getElem (by omega)⟩
    have d2 : wr.cell? ⟨b, o + j * 2 + 1, none⟩ = some (.int .i64 q) := (HB.out.cell (p := ⟨b, _, none⟩) hbl).trans (k j _ hq 1 _ rfl)
    have hqx : q < x := by
     obtain ⟨i1, e1⟩ := List.getElem?_eq_some_iff.1 hq
     obtain ⟨i2, e2⟩ := List.getElem?_eq_some_iff.1 HP.out
     have := List.pairwise_iff_getElem.1 HC.out.2 j (j + 1) i1 i2 (by omega)
     rw [e1, e2] at this
     exact this
    have hge : decide (x ≤ q) = false := decide_eq_false (by omega)
    have q1 : (0 : Int) < (j : Int) + 1 := by omega
    have q2 : (j : Int) < (s.length : Int) := by omega
    have q3 : IntKind.i64.wrap ((j : Int) + 1 - 1) = j := by simp [IntKind.wrap, IntKind.bits, IntKind.signed]; omega
    have q5 : IntKind.i64.wrap (j : Int) = j := by simp [IntKind.wrap, IntKind.bits, IntKind.signed]; omega
    have q4 : (0 : Int) ≤ (j : Int) := by omega
    have q6 : decide ((0 : Int) < (j : Int) + 1) = true := decide_eq_true q1
    clear k hq hmp
    rw [show ((j + 1 : Nat) : Int) = (j : Int) + 1 from rfl] at *
    go_wp2
    refine wp_hab fun hab => ?_
    refine wp_region_above (by kernel_rfl) (by kernel_rfl) ?_
    repeat (go_big_quiet_step ((go_at_call 147; exact above_of (HVA.out _))))
    refine wpQuiet_nil ?_
    refine above_ends fun w3 hb3 => ?_
    clear hab
    have HB3 := hide ((HB.out.alloc hsz _).trans (hb3.mono (by simp; omega)))
    clear hb3 q3 q5
    go_wp2
    go_roundw
    case rel => exact ⟨j + 1 + 1, by omega, by go_num, HB3⟩
    case measure => simp [intOf]; omega
  ·have mz : ¬ (m : Int) < (s.length : Int) := by omega
   go_wp2
   go_ret
   exact ⟨rfl, HB.out⟩
def sjF (h : Bool → Bool → Bool) (a b : List Sp) : List Sp × Int := if 400 < (sjoin h a b).length then ([], 4) else (sjoin h a b, 0)
set_option maxHeartbeats 2000000 in
theorem checked_any (a b : List Sp) (va vb : Value) (w : World) (g : Nat) (h : Bool → Bool → Bool) (h0 : h false false = false) (eg : ∀ args w, (callFunc g args).run Tryz.prog w = .ok (.enter g args) w)
  (hg : ∀ (x y : Bool) (W : World), Calls Tryz.prog g #[.bool x, .bool y] W fun e w' => e = .returned (.bool (h x y)) ∧ W = w')
  (ra : RdK encS 2 w w.heap.size va a) (rb : RdK encS 2 w w.heap.size vb b) (na : a.length ≤ 400) (nb : b.length ≤ 400) (ca : SCan a) (cb : SCan b) (ba : ∀ p ∈ a, validS p) (bb : ∀ p ∈ b, validS p) :
  Calls Tryz.prog 130 #[va, vb, .func (.func g) #[] #[]] w fun e w' => SpnRet w.heap.size (sjF h a b) e w' ∧ Below w.heap.size w w' := by
 have hcA := spCheck_can ra na ca ba
 have hcB := fun (W : World) (hW : Below w.heap.size w W) => spCheck_can (w := W) ((rb.below hW).mono hW.size) nb cb bb
 have hj := fun (W : World) (hW : Below w.heap.size w W) => sjoin_any a b va vb W g h h0 eg hg ((ra.below hW).mono hW.size) ((rb.below hW).mono hW.size) (by omega) (by omega) ba bb
 obtain ⟨A1, c1, hva, _⟩ := ra
 obtain ⟨A2, c2, hvb, _⟩ := rb
 subst hva; subst hvb
 have HCA := hide hcA
 have HCB := hide hcB
 have HJ := hide hj
 have hsl := sjoin_len h a b
 have hF : sjF h a b = if 400 < (sjoin h a b).length then ([], 4) else (sjoin h a b, 0) := rfl
 have HF := hide hF
 clear hcA hcB hj ca cb ba bb hg hF
 generalize sjoin h a b = s at *
 by_cases h4 : 400 < s.length
 ·have hz : (400 : Int) < (s.length : Int) := by omega
  have HF2 : Hid (sjF h a b = ([], 4)) := hide (by rw [HF.out, if_pos h4])
  go_enter Tryz.func130, Tryz.ntmps130
  go_wp2_with (fail)
  refine HCA.out.mono ?_
  rintro e w1 ⟨rfl, hb1⟩
  have HB1 := hide hb1
  clear hb1
  go_wp2_with (fail)
  refine (HCB.out _ HB1.out).mono ?_
  rintro e w2 ⟨rfl, hb2⟩
  have HB2 := hide (HB1.out.trans (hb2.mono HB1.out.size))
  clear hb2
  go_wp2_with (fail)
  refine (HJ.out _ HB2.out).mono ?_
  rintro e w3 ⟨A3, c3, rfl, ho3, hb3⟩
  have HO3 := hide ho3
  have HB3 := hide (HB2.out.trans (hb3.mono HB2.out.size))
  clear hb3 ho3
  go_wp2_with (fail)
  go_ret2
  exact ⟨⟨none, 0, by rw [HF2.out]; rfl, by rw [HF2.out]; exact World.ownsRow_nil _ _ _ _⟩, HB3.out⟩
 ·have hz : (s.length : Int) ≤ 400 := by omega
  have HF2 : Hid (sjF h a b = (s, 0)) := hide (by rw [HF.out, if_neg h4])
  go_enter Tryz.func130, Tryz.ntmps130
  go_wp2_with (fail)
  refine HCA.out.mono ?_
  rintro e w1 ⟨rfl, hb1⟩
  have HB1 := hide hb1
  clear hb1
  go_wp2_with (fail)
  refine (HCB.out _ HB1.out).mono ?_
  rintro e w2 ⟨rfl, hb2⟩
  have HB2 := hide (HB1.out.trans (hb2.mono HB1.out.size))
  clear hb2
  go_wp2_with (fail)
  refine (HJ.out _ HB2.out).mono ?_
  rintro e w3 ⟨A3, c3, rfl, ho3, hb3⟩
  have HO3 := hide (own_base (base := w.heap.size) ho3 HB2.out.size)
  have HB3 := hide (HB2.out.trans (hb3.mono HB2.out.size))
  clear hb3 ho3
  go_wp2_with (fail)
  go_ret2
  exact ⟨⟨A3, c3, by rw [HF2.out]; rfl, by rw [HF2.out]; exact HO3.out⟩, HB3.out⟩
theorem clSub_any (x y : Bool) (W : World) : Calls Tryz.prog 131 #[.bool x, .bool y] W fun e w' => e = .returned (.bool (hSub x y)) ∧ W = w' := by
 cases x <;> cases y
 all_goals
  go_enter Tryz.func131, Tryz.ntmps131
  go_wp2
  go_ret
  exact ⟨rfl, rfl⟩
theorem enter_clSub : ∀ args w, (callFunc 131 args).run Tryz.prog w = .ok (.enter 131 args) w := enters_of Tryz.func131 (by kernel_rfl) rfl
theorem enter_spSub : ∀ args w, (callFunc 91 args).run Tryz.prog w = .ok (.enter 91 args) w := enters_of Tryz.func91 (by kernel_rfl) rfl
def SpJoin (f : Nat) (h : Bool → Bool → Bool) : Prop := ∀ (a b : List Sp) (va vb : Value) (w : World), RdK encS 2 w w.heap.size va a → RdK encS 2 w w.heap.size vb b → a.length ≤ 400 → b.length ≤ 400 → SCan a → SCan b → (∀ p ∈ a, validS p) → (∀ p ∈ b, validS p) →
 Calls Tryz.prog f #[va, vb] w fun e w' => SpnRet w.heap.size (sjF h a b) e w' ∧ Below w.heap.size w w'
set_option maxHeartbeats 1000000 in
theorem spSub_any : SpJoin 91 hSub := by
 intro a b va vb w ra rb na nb ca cb ba bb
 have hc := checked_any a b va vb w 131 hSub rfl enter_clSub clSub_any ra rb na nb ca cb ba bb
 obtain ⟨A1, c1, hva, _⟩ := ra
 obtain ⟨A2, c2, hvb, _⟩ := rb
 subst hva; subst hvb
 have HC := hide hc
 clear hc ca cb ba bb
 generalize sjF hSub a b = R at *
 obtain ⟨R1, R2⟩ := R
 go_enter Tryz.func91, Tryz.ntmps91
 go_wp2_with (fail)
 refine HC.out.mono ?_
 rintro e w1 ⟨⟨A3, c3, rfl, ho⟩, hb⟩
 have HO := hide ho
 clear ho
 go_wp2_with (fail)
 go_ret2
 exact ⟨⟨A3, c3, rfl, HO.out⟩, hb⟩
def bothF (a b : List R4) : Int := if checkF a = 0 then checkF b else checkF a
set_option maxHeartbeats 1000000 in
theorem both_any {w : World} {va vb : Value} {a b : List R4} (ra : RdK encR 4 w w.heap.size va a) (rb : RdK encR 4 w w.heap.size vb b) (na : a.length ≤ 100000000) (nb : b.length ≤ 100000000) :
  Calls Tryz.prog 157 #[va, vb] w fun e w' => e = .returned (.int .i64 (bothF a b)) ∧ Below w.heap.size w w' := by
 have hA := check_any ra na
 have hB := fun (W : World) (hW : Below w.heap.size w W) => check_any (w := W) ((rb.below hW).mono hW.size) nb
 obtain ⟨A1, c1, hva, _⟩ := ra
 obtain ⟨A2, c2, hvb, _⟩ := rb
 subst hva; subst hvb
 have HA := hide hA
 have HB := hide hB
 clear hA hB
 by_cases h0 : checkF a = 0
 ·have HF : Hid (bothF a b = checkF b) := hide (if_pos h0)
  rw [h0] at HA
  clear h0
  go_enter Tryz.func157, Tryz.ntmps157
  go_wp2_with (fail)
  refine HA.out.mono ?_
  rintro e w1 ⟨rfl, hb1⟩
  have HB1 := hide hb1
  clear hb1
  go_wp2_with (fail)
  refine (HB.out _ HB1.out).mono ?_
  rintro e w2 ⟨rfl, hb2⟩
  go_wp2_with (fail)
  go_ret
  exact ⟨ret_eq (int_eq HF.out.symm), HB1.out.trans (hb2.mono HB1.out.size)⟩
 ·have HF : Hid (bothF a b = checkF a) := hide (if_neg h0)
  generalize checkF a = ck at *
  have hne : (ck != 0) = true := by simpa using h0
  clear h0
  go_enter Tryz.func157, Tryz.ntmps157
  go_wp2_with (fail)
  refine HA.out.mono ?_
  rintro e w1 ⟨rfl, hb1⟩
  go_wp2_with (fail)
  go_ret
  exact ⟨ret_eq (int_eq HF.out.symm), hb1⟩
set_option maxHeartbeats 1000000 in
theorem rBoth_any {w : World} {va vb : Value} {a b : List R4} (ra : RdK encR 4 w w.heap.size va a) (rb : RdK encR 4 w w.heap.size vb b) (na : a.length ≤ 100000000) (nb : b.length ≤ 100000000) :
  Calls Tryz.prog 115 #[va, vb] w fun e w' => e = .returned (.int .i64 (bothF a b)) ∧ Below w.heap.size w w' := by
 have hA := fun (W : World) (hW : Below w.heap.size w W) => rCheck_any (w := W) ((ra.below hW).mono hW.size) na
 have hB := fun (W : World) (hW : Below w.heap.size w W) => rCheck_any (w := W) ((rb.below hW).mono hW.size) nb
 obtain ⟨A1, c1, hva, _⟩ := ra
 obtain ⟨A2, c2, hvb, _⟩ := rb
 subst hva; subst hvb
 have HA := hide hA
 have HB := hide hB
 clear hA hB
 by_cases h0 : checkF a = 0
 ·have HF : Hid (bothF a b = checkF b) := hide (if_pos h0)
  rw [h0] at HA
  clear h0
  go_enter Tryz.func115, Tryz.ntmps115
  go_wp2_with (fail)
  refine (HA.out _ (Below.refl _ _)).mono ?_
  rintro e w1 ⟨rfl, hb1⟩
  have HB1 := hide hb1
  clear hb1
  go_wp2_with (fail)
  refine (HB.out _ HB1.out).mono ?_
  rintro e w2 ⟨rfl, hb2⟩
  go_wp2_with (fail)
  go_ret
  exact ⟨ret_eq (int_eq HF.out.symm), HB1.out.trans (hb2.mono HB1.out.size)⟩
 ·have HF : Hid (bothF a b = checkF a) := hide (if_neg h0)
  generalize checkF a = ck at *
  have hne : (ck != 0) = true := by simpa using h0
  clear h0
  go_enter Tryz.func115, Tryz.ntmps115
  go_wp2_with (fail)
  refine (HA.out _ (Below.refl _ _)).mono ?_
  rintro e w1 ⟨rfl, hb1⟩
  have HB1 := hide hb1
  clear hb1
  go_wp2_with (fail)
  refine (HA.out _ HB1.out).mono ?_
  rintro e w2 ⟨rfl, hb2⟩
  go_wp2_with (fail)
  go_ret
  exact ⟨ret_eq (int_eq HF.out.symm), HB1.out.trans (hb2.mono HB1.out.size)⟩
def joinF (h : Bool → Bool → Bool) (a b : List R4) : List R4 × Int := if bothF a b = 0 then (if 400 < (rjoin h a b).length then ([], 4) else (rjoin h a b, 0)) else ([], bothF a b)
theorem bothF_ok {a b : List R4} (h : bothF a b = 0) : checkF a = 0 ∧ checkF b = 0 := by
 unfold bothF at h
 by_cases h0 : checkF a = 0
 ·rw [if_pos h0] at h; exact ⟨h0, h⟩
 ·rw [if_neg h0] at h; exact absurd h h0
theorem check_wf {l : List R4} (h : checkF l = 0) : ∀ r ∈ l, wf4 r := fun r hr => ⟨((checkF_ok h).2.1 r hr).1, ((checkF_ok h).2.1 r hr).2.1⟩
theorem rjoin_len2 (h : Bool → Bool → Bool) (a b : List R4) (ha : a.length ≤ 400) (hb : b.length ≤ 400) : (rjoin h a b).length ≤ 100000000 := by
 have h1 := swp_len (fun c => sjoin h (crossL a c) (crossL b c)) 1600 (fun c => by
  have h1 := sjoin_len h (crossL a c) (crossL b c)
  have h2 := crossL_len a c
  have h3 := crossL_len b c
  omega) (prs (isortI (cutsL a ++ cutsL b)))
 rw [swp_sweep] at h1
 have h2 := prs_len (isortI (cutsL a ++ cutsL b))
 have h3 := isortI_len (cutsL a ++ cutsL b)
 rw [List.length_append, cutsL_len, cutsL_len] at h3
 unfold rjoin
 have h4 : (prs (isortI (cutsL a ++ cutsL b))).length ≤ 1600 := by omega
 have h5 := Nat.mul_le_mul_right 1600 h4
 omega
set_option maxRecDepth 100000 in
set_option maxHeartbeats 2000000 in
theorem rJoin_any (kd : Int) (hkd : kd = 1 ∨ kd = 2 ∨ kd = 3) {w : World} {va vb : Value} {a b : List R4} (ra : RdK encR 4 w w.heap.size va a) (rb : RdK encR 4 w w.heap.size vb b) (na : a.length ≤ 100000000) (nb : b.length ≤ 100000000) :
  Calls Tryz.prog 71 #[.int .i64 kd, va, vb] w fun e w' => RegRet w.heap.size (joinF (hk kd) a b) e w' ∧ Below w.heap.size w w' := by
 have hA := fun (W : World) (hW : Below w.heap.size w W) => rBoth_any (w := W) ((ra.below hW).mono hW.size) ((rb.below hW).mono hW.size) na nb
 have hk0 : hk kd false false = false := by rcases hkd with rfl | rfl | rfl <;> rfl
 have hJ := fun (W : World) (hW : Below w.heap.size w W) (h1 : a.length ≤ 2500) (h2 : b.length ≤ 2500) => rJoined_any kd hkd (w := W) (ra.below hW) (rb.below hW) hW.size h1 h2
 obtain ⟨A1, c1, hva, _⟩ := ra
 obtain ⟨A2, c2, hvb, _⟩ := rb
 subst hva; subst hvb
 have HA := hide hA
 by_cases h0 : bothF a b = 0
 ·obtain ⟨ca, cb⟩ := bothF_ok h0
  have la := (checkF_ok ca).1
  have lb := (checkF_ok cb).1
  have hJ2 := fun W hW => hJ W hW (by omega) (by omega)
  rw [ref_join hk0 (check_wf ca) (check_wf cb)] at hJ2
  have HJ := hide hJ2
  have hF : joinF (hk kd) a b = if 400 < (rjoin (hk kd) a b).length then ([], 4) else (rjoin (hk kd) a b, 0) := if_pos h0
  have HF := hide hF
  have hl := rjoin_len2 (hk kd) a b la lb
  rw [h0] at HA
  clear hA hJ hJ2 hF h0 ca cb hkd
  generalize rjoin (hk kd) a b = R at *
  by_cases h4 : 400 < R.length
  ·have hz : (400 : Int) < (R.length : Int) := by omega
   have HF2 : Hid (joinF (hk kd) a b = ([], 4)) := hide (by rw [HF.out, if_pos h4])
   go_enter Tryz.func71, Tryz.ntmps71
   go_wp2_with (fail)
   refine (HA.out _ (Below.refl _ _)).mono ?_
   rintro e w1 ⟨rfl, hb1⟩
   have HB1 := hide hb1
   clear hb1
   go_wp2_with (fail)
   refine (HJ.out _ HB1.out).mono ?_
   rintro e w2 ⟨vo, rfl, ho, hb2⟩
   obtain ⟨Ao, co, hvo⟩ := own_form ho
   subst hvo
   have HB2 := hide (HB1.out.trans (hb2.mono HB1.out.size))
   clear ho hb2
   go_wp2_with (fail)
   go_ret2
   exact ⟨⟨none, 0, by rw [HF2.out]; rfl, by rw [HF2.out]; exact World.ownsRow_nil _ _ _ _⟩, HB2.out⟩
  ·have hz : (R.length : Int) ≤ 400 := by omega
   have HF2 : Hid (joinF (hk kd) a b = (R, 0)) := hide (by rw [HF.out, if_neg h4])
   go_enter Tryz.func71, Tryz.ntmps71
   go_wp2_with (fail)
   refine (HA.out _ (Below.refl _ _)).mono ?_
   rintro e w1 ⟨rfl, hb1⟩
   have HB1 := hide hb1
   clear hb1
   go_wp2_with (fail)
   refine (HJ.out _ HB1.out).mono ?_
   rintro e w2 ⟨vo, rfl, ho, hb2⟩
   obtain ⟨Ao, co, hvo⟩ := own_form ho
   subst hvo
   have HB2 := hide (HB1.out.trans (hb2.mono HB1.out.size))
   have HO := hide (own_base (base := w.heap.size) ho HB1.out.size)
   clear ho hb2
   go_wp2_with (fail)
   go_ret2
   exact ⟨⟨Ao, co, by rw [HF2.out]; rfl, by rw [HF2.out]; exact HO.out⟩, HB2.out⟩
 ·have HF : Hid (joinF (hk kd) a b = ([], bothF a b)) := hide (if_neg h0)
  generalize bothF a b = ck at *
  have hne : (ck != 0) = true := by simpa using h0
  clear h0 hA hJ hkd
  go_enter Tryz.func71, Tryz.ntmps71
  go_wp2_with (fail)
  refine (HA.out _ (Below.refl _ _)).mono ?_
  rintro e w1 ⟨rfl, hb1⟩
  have HB1 := hide hb1
  clear hb1
  go_wp2_with (fail)
  refine (HA.out _ HB1.out).mono ?_
  rintro e w2 ⟨rfl, hb2⟩
  go_wp2_with (fail)
  go_ret2
  exact ⟨⟨none, 0, by rw [HF.out]; rfl, by rw [HF.out]; exact World.ownsRow_nil _ _ _ _⟩, HB1.out.trans (hb2.mono HB1.out.size)⟩
end Go.Proofs.YtikojiciilambaaGreat

/- Rectangles side by side: region.beside, and the reference's near and common. -/
namespace Go.Proofs.YtikojiciilambaaGreat
open Go.RowKit
set_option linter.unusedVariables false
set_option linter.unusedSimpArgs false
def cmn (a b : R4) : Bool := decide (a.x0 < b.x1) && decide (b.x0 < a.x1) && decide (a.y0 < b.y1) && decide (b.y0 < a.y1)
def nearF (a b : R4) : Bool := cmn ⟨a.x0 - 1, a.y0, a.x1 + 1, a.y1⟩ b || cmn ⟨a.x0, a.y0 - 1, a.x1, a.y1 + 1⟩ b
def bsd (a b : R4) : Bool := (decide (min a.x1 b.x1 - max a.x0 b.x0 = 0) && decide (0 < min a.y1 b.y1 - max a.y0 b.y0)) || (decide (0 < min a.x1 b.x1 - max a.x0 b.x0) && decide (min a.y1 b.y1 - max a.y0 b.y0 = 0))
theorem bsd_near {a b : R4} (ha : wf4 a) (hb : wf4 b) (h : cmn a b = false) : nearF a b = bsd a b := by
 obtain ⟨a0, a1, a2, a3⟩ := a
 obtain ⟨b0, b1, b2, b3⟩ := b
 obtain ⟨p, q⟩ := ha
 obtain ⟨r, s⟩ := hb
 simp only at p q r s
 rw [Bool.eq_iff_iff]
 simp only [cmn, nearF, bsd, Bool.and_eq_true, Bool.or_eq_true, decide_eq_true_eq, ← Bool.not_eq_true] at h ⊢
 omega
theorem bsd_symm (a b : R4) : bsd a b = bsd b a := by
 unfold bsd
 rw [Int.min_comm a.x1, Int.max_comm a.x0, Int.min_comm a.y1, Int.max_comm a.y0]
set_option maxHeartbeats 1000000 in
theorem common_any (r s : R4) (w : World) :
  Calls Tryz.prog 159 #[.agg (encR r).toArray, .agg (encR s).toArray] w fun e w' => e = .returned (.bool (cmn r s)) ∧ Below w.heap.size w w' := by
 obtain ⟨a0, a1, a2, a3⟩ := r
 obtain ⟨b0, b1, b2, b3⟩ := s
 show Calls Tryz.prog 159 #[.agg #[.int .i64 a0, .int .i64 a1, .int .i64 a2, .int .i64 a3], .agg #[.int .i64 b0, .int .i64 b1, .int .i64 b2, .int .i64 b3]] w _
 have hF : cmn ⟨a0, a1, a2, a3⟩ ⟨b0, b1, b2, b3⟩ = (decide (a0 < b2) && decide (b0 < a2) && decide (a1 < b3) && decide (b1 < a3)) := rfl
 rw [hF]
 have fin : Below w.heap.size w ((w.alloc (.cells #[.int .i64 a0, .int .i64 a1, .int .i64 a2, .int .i64 a3] 49)).alloc (.cells #[.int .i64 b0, .int .i64 b1, .int .i64 b2, .int .i64 b3] 49)) := ((Below.refl _ _).alloc (Nat.le_refl _) _).alloc (by simp) _
 have FIN := hide fin
 clear fin hF
 by_cases t1 : a0 < b2
 ·by_cases t2 : b0 < a2
  ·by_cases t3 : a1 < b3
   ·go_enter Tryz.func159, Tryz.ntmps159
    go_wp2_with (fail)
    go_ret
    exact ⟨ret_eq (bool_eq (by simp [t1, t2, t3])), FIN.out⟩
   ·go_enter Tryz.func159, Tryz.ntmps159
    go_wp2_with (fail)
    go_ret
    exact ⟨ret_eq (bool_eq (by simp; omega)), FIN.out⟩
  ·go_enter Tryz.func159, Tryz.ntmps159
   go_wp2_with (fail)
   go_ret
   exact ⟨ret_eq (bool_eq (by simp; omega)), FIN.out⟩
 ·go_enter Tryz.func159, Tryz.ntmps159
  go_wp2_with (fail)
  go_ret
  exact ⟨ret_eq (bool_eq (by simp; omega)), FIN.out⟩
def mid4 (r : R4) : Prop := (-1000000 ≤ r.x0 ∧ r.x0 ≤ 1000000) ∧ (-1000000 ≤ r.y0 ∧ r.y0 ≤ 1000000) ∧ (-1000000 ≤ r.x1 ∧ r.x1 ≤ 1000000) ∧ (-1000000 ≤ r.y1 ∧ r.y1 ≤ 1000000)
set_option maxHeartbeats 1000000 in
theorem beside_any (r s : R4) (hr : mid4 r) (hs : mid4 s) (w : World) :
  Calls Tryz.prog 54 #[.agg (encR r).toArray, .agg (encR s).toArray] w fun e w' => e = .returned (.bool (bsd r s)) ∧ Below w.heap.size w w' := by
 obtain ⟨a0, a1, a2, a3⟩ := r
 obtain ⟨b0, b1, b2, b3⟩ := s
 obtain ⟨⟨p0, p0'⟩, ⟨p1, p1'⟩, ⟨p2, p2'⟩, p3, p3'⟩ := hr
 obtain ⟨⟨q0, q0'⟩, ⟨q1, q1'⟩, ⟨q2, q2'⟩, q3, q3'⟩ := hs
 simp only at p0 p0' p1 p1' p2 p2' p3 p3' q0 q0' q1 q1' q2 q2' q3 q3'
 show Calls Tryz.prog 54 #[.agg #[.int .i64 a0, .int .i64 a1, .int .i64 a2, .int .i64 a3], .agg #[.int .i64 b0, .int .i64 b1, .int .i64 b2, .int .i64 b3]] w _
 have wx : wrap64 (min a2 b2 - max a0 b0) = min a2 b2 - max a0 b0 := by unfold wrap64; omega
 have wy : wrap64 (min a3 b3 - max a1 b1) = min a3 b3 - max a1 b1 := by unfold wrap64; omega
 have hF : bsd ⟨a0, a1, a2, a3⟩ ⟨b0, b1, b2, b3⟩ = ((decide (min a2 b2 - max a0 b0 = 0) && decide (0 < min a3 b3 - max a1 b1)) || (decide (0 < min a2 b2 - max a0 b0) && decide (min a3 b3 - max a1 b1 = 0))) := rfl
 rw [hF]
 have fin : Below w.heap.size w ((w.alloc (.cells #[.int .i64 a0, .int .i64 a1, .int .i64 a2, .int .i64 a3] 49)).alloc (.cells #[.int .i64 b0, .int .i64 b1, .int .i64 b2, .int .i64 b3] 49)) := ((Below.refl _ _).alloc (Nat.le_refl _) _).alloc (by simp) _
 have FIN := hide fin
 clear fin hF p0 p0' p1 p1' p2 p2' p3 p3' q0 q0' q1 q1' q2 q2' q3 q3'
 go_enter Tryz.func54, Tryz.ntmps54
 go_wp2_with (fail)
 all_goals go_ret
 all_goals refine ⟨ret_eq (bool_eq ?_), FIN.out⟩
 all_goals first
  | rfl
  | (rw [Bool.eq_iff_iff]; simp only [Bool.or_eq_true, Bool.and_eq_true, decide_eq_true_eq, Bool.false_eq_true, true_iff, iff_true, false_iff, iff_false, beq_iff_eq]; omega)
set_option maxHeartbeats 1000000 in
theorem near_any (r s : R4) (hr : mid4 r) (hs : mid4 s) (w : World) :
  Calls Tryz.prog 116 #[.agg (encR r).toArray, .agg (encR s).toArray] w fun e w' => e = .returned (.bool (nearF r s)) ∧ Below w.heap.size w w' := by
 have hc1 := fun W => common_any ⟨r.x0 - 1, r.y0, r.x1 + 1, r.y1⟩ s W
 have hc2 := fun W => common_any ⟨r.x0, r.y0 - 1, r.x1, r.y1 + 1⟩ s W
 obtain ⟨a0, a1, a2, a3⟩ := r
 obtain ⟨b0, b1, b2, b3⟩ := s
 obtain ⟨⟨p0, p0'⟩, ⟨p1, p1'⟩, ⟨p2, p2'⟩, p3, p3'⟩ := hr
 simp only at p0 p0' p1 p1' p2 p2' p3 p3'
 show Calls Tryz.prog 116 #[.agg #[.int .i64 a0, .int .i64 a1, .int .i64 a2, .int .i64 a3], .agg #[.int .i64 b0, .int .i64 b1, .int .i64 b2, .int .i64 b3]] w _
 have w0 : wrap64 (a0 - 1) = a0 - 1 := by unfold wrap64; omega
 have w1 : wrap64 (a1 - 1) = a1 - 1 := by unfold wrap64; omega
 have w2 : wrap64 (a2 + 1) = a2 + 1 := by unfold wrap64; omega
 have w3 : wrap64 (a3 + 1) = a3 + 1 := by unfold wrap64; omega
 have hF : nearF ⟨a0, a1, a2, a3⟩ ⟨b0, b1, b2, b3⟩ = (cmn ⟨a0 - 1, a1, a2 + 1, a3⟩ ⟨b0, b1, b2, b3⟩ || cmn ⟨a0, a1 - 1, a2, a3 + 1⟩ ⟨b0, b1, b2, b3⟩) := rfl
 rw [hF]
 simp only [encR] at hc1 hc2
 generalize cmn ⟨a0 - 1, a1, a2 + 1, a3⟩ ⟨b0, b1, b2, b3⟩ = c1 at *
 generalize cmn ⟨a0, a1 - 1, a2, a3 + 1⟩ ⟨b0, b1, b2, b3⟩ = c2 at *
 have H1 := hide hc1
 have H2 := hide hc2
 have nb : Below w.heap.size w ((((w.alloc (.cells #[.int .i64 a0, .int .i64 a1, .int .i64 a2, .int .i64 a3] 49)).alloc (.cells #[.int .i64 b0, .int .i64 b1, .int .i64 b2, .int .i64 b3] 49)).alloc (.cells #[.int .i64 (a0 - 1), .int .i64 a1, .int .i64 (a2 + 1), .int .i64 a3] 49)).alloc (.cells #[.int .i64 a0, .int .i64 (a1 - 1), .int .i64 a2, .int .i64 (a3 + 1)] 49)) := ((((Below.refl _ _).alloc (Nat.le_refl _) _).alloc (by simp) _).alloc (by simp; omega) _).alloc (by simp; omega) _
 have NB := hide nb
 clear nb
 clear hc1 hc2 hF hs p0 p0' p1 p1' p2 p2' p3 p3'
 cases c1 with
 | true =>
  go_enter Tryz.func116, Tryz.ntmps116
  go_wp2_with (fail)
  refine (H1.out _).mono ?_
  rintro e wa ⟨rfl, hb⟩
  have hb2 := NB.out.trans (hb.mono (by simp; omega))
  clear hb
  go_wp2_with (fail)
  go_ret
  exact ⟨rfl, hb2⟩
 | false =>
  go_enter Tryz.func116, Tryz.ntmps116
  go_wp2_with (fail)
  refine (H1.out _).mono ?_
  rintro e wa ⟨rfl, hb⟩
  have hb2 := NB.out.trans (hb.mono (by simp; omega))
  have x0 := (hb.cell (p := ⟨w.heap.size + 1, 0, none⟩) (by simp)).trans (by simp [go_sem] : _ = some (.int .i64 b0))
  have x1 := (hb.cell (p := ⟨w.heap.size + 1, 1, none⟩) (by simp)).trans (by simp [go_sem] : _ = some (.int .i64 b1))
  have x2 := (hb.cell (p := ⟨w.heap.size + 1, 2, none⟩) (by simp)).trans (by simp [go_sem] : _ = some (.int .i64 b2))
  have x3 := (hb.cell (p := ⟨w.heap.size + 1, 3, none⟩) (by simp)).trans (by simp [go_sem] : _ = some (.int .i64 b3))
  have y0 := (hb.cell (p := ⟨w.heap.size + 1 + 1 + 1, 0, none⟩) (by simp)).trans (by simp [go_sem] : _ = some (.int .i64 a0))
  have y1 := (hb.cell (p := ⟨w.heap.size + 1 + 1 + 1, 1, none⟩) (by simp)).trans (by simp [go_sem] : _ = some (.int .i64 (a1 - 1)))
  have y2 := (hb.cell (p := ⟨w.heap.size + 1 + 1 + 1, 2, none⟩) (by simp)).trans (by simp [go_sem] : _ = some (.int .i64 a2))
  have y3 := (hb.cell (p := ⟨w.heap.size + 1 + 1 + 1, 3, none⟩) (by simp)).trans (by simp [go_sem] : _ = some (.int .i64 (a3 + 1)))
  have HB2 := hide hb2
  clear hb hb2
  go_wp2_with (fail)
  refine (H2.out _).mono ?_
  rintro e wb ⟨rfl, hb⟩
  have hb3 := HB2.out.trans (hb.mono HB2.out.size)
  clear hb
  go_wp2_with (fail)
  go_ret
  exact ⟨rfl, hb3⟩
end Go.Proofs.YtikojiciilambaaGreat

/- region.Touch. -/
namespace Go.Proofs.YtikojiciilambaaGreat
open Go.RowKit
set_option linter.unusedVariables false
set_option linter.unusedSimpArgs false
theorem valid_mid {r : R4} (h : valid4 r) : mid4 r := by
 obtain ⟨_, _, h1, h2, h3, h4⟩ := h
 unfold fineP at h1 h2 h3 h4
 unfold mid4
 omega
end Go.Proofs.YtikojiciilambaaGreat

/- Plain law: components of a list of rectangles, each named by its least index. -/
namespace Go.Proofs.YtikojiciilambaaGreat
set_option linter.unusedVariables false
set_option linter.unusedSimpArgs false
def adj (l : List R4) (i j : Nat) : Prop := ∃ x y, l[i]? = some x ∧ l[j]? = some y ∧ bsd x y = true
theorem adj.symm {l : List R4} {i j : Nat} (h : adj l i j) : adj l j i := by
 obtain ⟨x, y, h1, h2, h3⟩ := h
 exact ⟨y, x, h2, h1, by rw [bsd_symm]; exact h3⟩
inductive Conn (l : List R4) (i : Nat) : Nat → Prop where
 | refl : Conn l i i
 | step {j k : Nat} : Conn l i j → adj l j k → Conn l i k
theorem Conn.trans {l : List R4} {i j k : Nat} (h : Conn l i j) (g : Conn l j k) : Conn l i k := by
 induction g with
 | refl => exact h
 | step _ a ih => exact ih.step a
theorem Conn.symm {l : List R4} {i j : Nat} (h : Conn l i j) : Conn l j i := by
 induction h with
 | refl => exact .refl
 | step _ a ih => exact (Conn.refl.step a.symm).trans ih
theorem Conn.lt {l : List R4} {i j : Nat} (h : Conn l i j) (hi : i < l.length) : j < l.length := by
 cases h with
 | refl => exact hi
 | step _ a =>
  obtain ⟨x, y, _, h2, _⟩ := a
  exact (List.getElem?_eq_some_iff.1 h2).1
theorem least (p : Nat → Prop) : ∀ n, p n → ∃ m, p m ∧ ∀ k, p k → m ≤ k := by
 intro n
 induction n using Nat.strongRecOn with
 | _ n ih =>
  intro h
  by_cases hk : ∃ k, k < n ∧ p k
  ·obtain ⟨k, h1, h2⟩ := hk
   exact ih k h1 h2
  ·refine ⟨n, h, fun k hp => ?_⟩
   by_cases hkn : k < n
   ·exact absurd ⟨k, hkn, hp⟩ hk
   ·omega
noncomputable def mn (l : List R4) (i : Nat) : Nat := Classical.choose (least (Conn l i) i .refl)
theorem mn_conn (l : List R4) (i : Nat) : Conn l i (mn l i) := (Classical.choose_spec (least (Conn l i) i .refl)).1
theorem mn_least {l : List R4} {i k : Nat} (h : Conn l i k) : mn l i ≤ k := (Classical.choose_spec (least (Conn l i) i .refl)).2 k h
theorem mn_le (l : List R4) (i : Nat) : mn l i ≤ i := mn_least .refl
theorem mn_eq {l : List R4} {i j : Nat} (h : Conn l i j) : mn l i = mn l j := by
 have h1 := mn_least (h.trans (mn_conn l j))
 have h2 := mn_least (h.symm.trans (mn_conn l i))
 omega
theorem mn_mn (l : List R4) (i : Nat) : mn l (mn l i) = mn l i := (mn_eq (mn_conn l i)).symm
theorem conn_of_mn {l : List R4} {i j : Nat} (h : mn l i = mn l j) : Conn l i j := by
 have h1 := mn_conn l i
 rw [h] at h1
 exact h1.trans (mn_conn l j).symm
theorem labels_mn {l : List R4} {f : Nat → Nat} (h1 : ∀ i, i < l.length → Conn l i (f i) ∧ f i ≤ i) (h2 : ∀ i k, adj l i k → f i ≤ f k) : ∀ i, i < l.length → f i = mn l i := by
 have key : ∀ i k, Conn l i k → f i = f k := by
  intro i k h
  induction h with
  | refl => rfl
  | step _ a ih => have := h2 _ _ a; have := h2 _ _ a.symm; omega
 intro i hi
 have a1 := mn_least (h1 i hi).1
 have a2 := (h1 _ ((mn_conn l i).lt hi)).2
 have a3 := key _ _ (mn_conn l i)
 omega
open Classical in
noncomputable def compL (l : List R4) (i : Nat) : List R4 := ((List.range l.length).filter fun j => decide (mn l j = i)).filterMap fun j => l[j]?
open Classical in
noncomputable def partsF (l : List R4) : List (List R4) := ((List.range l.length).filter fun i => decide (mn l i = i)).map fun i => rjoin hFst (compL l i) []
theorem mem_compL {l : List R4} {i : Nat} {r : R4} : r ∈ compL l i ↔ ∃ j, mn l j = i ∧ l[j]? = some r := by
 unfold compL
 simp only [List.mem_filterMap, List.mem_filter, List.mem_range, decide_eq_true_eq]
 constructor
 ·rintro ⟨j, ⟨_, h2⟩, h3⟩
  exact ⟨j, h2, h3⟩
 ·rintro ⟨j, h2, h3⟩
  exact ⟨j, ⟨(List.getElem?_eq_some_iff.1 h3).1, h2⟩, h3⟩
theorem rjoin_set {a b : List R4} (ha : ∀ r ∈ a, wf4 r) (hb : ∀ r ∈ b, wf4 r) (h : ∀ r, r ∈ a ↔ r ∈ b) : rjoin hFst a [] = rjoin hFst b [] := by
 obtain ⟨c1, p1⟩ := rjoin_ok (h := hFst) rfl ha (b := []) (by simp)
 obtain ⟨c2, p2⟩ := rjoin_ok (h := hFst) rfl hb (b := []) (by simp)
 refine c1.ext c2 fun x y => ?_
 rw [p1, p2]
 have : decide (pmem a x y) = decide (pmem b x y) := decide_eq_decide.2 (by
  unfold pmem
  constructor
  ·rintro ⟨r, h1, h2⟩
   exact ⟨r, (h r).1 h1, h2⟩
  ·rintro ⟨r, h1, h2⟩
   exact ⟨r, (h r).2 h1, h2⟩)
 rw [this]
end Go.Proofs.YtikojiciilambaaGreat

/- Plain law: cross-sections of a canonical region; hulls; moved regions. -/
namespace Go.Proofs.YtikojiciilambaaGreat
set_option linter.unusedVariables false
set_option linter.unusedSimpArgs false
theorem crossL_append (a b : List R4) (x : Int) : crossL (a ++ b) x = crossL a x ++ crossL b x := by simp [crossL]
theorem crossL_flat1 (a : Slab) (x : Int) : crossL (flat1 a) x = if a.f ≤ x ∧ x < a.t then a.s else [] := by
 unfold crossL flat1
 rw [List.filter_map, List.map_map]
 by_cases hx : a.f ≤ x ∧ x < a.t
 ·rw [if_pos hx]
  have : (fun p : Sp => decide (a.f ≤ x) && decide (x < a.t)) = fun _ => true := by funext p; simp [hx.1, hx.2]
  show List.map _ (List.filter (fun p : Sp => decide (a.f ≤ x) && decide (x < a.t)) a.s) = _
  rw [this, List.filter_eq_self.2 (fun _ _ => rfl)]
  show List.map (fun p : Sp => (p.1, p.2)) a.s = a.s
  simp
 ·rw [if_neg hx]
  have : (fun p : Sp => decide (a.f ≤ x) && decide (x < a.t)) = fun _ => false := by
   funext p
   by_cases h1 : a.f ≤ x
   ·have h2 : ¬ x < a.t := fun h => hx ⟨h1, h⟩
    simp [h2]
   ·simp [h1]
  show List.map _ (List.filter (fun p : Sp => decide (a.f ≤ x) && decide (x < a.t)) a.s) = _
  rw [this, List.filter_eq_nil_iff.2 (by simp)]
  rfl
theorem crossL_flat : ∀ {S : List Slab} (x : Int), SOK S → crossL (flat S) x = cr S x
 | [], x, _ => rfl
 | a :: S, x, h => by
  have e : flat (a :: S) = flat1 a ++ flat S := by simp [flat]
  rw [e, crossL_append, crossL_flat1, crossL_flat x h.tail]
  simp only [cr]
  by_cases hx : a.f ≤ x ∧ x < a.t
  ·rw [if_pos hx, if_pos hx, cr_far (S := S) (fun b hb => .inl (by have := h.after b hb; omega)), List.append_nil]
  ·rw [if_neg hx, if_neg hx, List.nil_append]
theorem check_rcan {l : List R4} (h : checkF l = 0) : RCan l := by
 obtain ⟨h1, h2, h3⟩ := checkF_ok h
 have hr : rjoin hFst l [] = l := by
  unfold madeF at h3
  split at h3
  ·simp at h3
  ·exact (Prod.mk.inj h3).1
 rw [← hr]
 exact (rjoin_ok (h := hFst) rfl (fun r hr => ⟨(h2 r hr).1, (h2 r hr).2.1⟩) (by simp)).1
theorem crossL_can {l : List R4} (h : RCan l) (x : Int) : SCan (crossL l x) := by
 obtain ⟨S, hS, rfl⟩ := h
 rw [crossL_flat x hS]
 exact cr_can x hS
def hullS (h r : R4) : R4 := ⟨min h.x0 r.x0, min h.y0 r.y0, max h.x1 r.x1, max h.y1 r.y1⟩
structure IsHull (l : List R4) (h : R4) : Prop where
 a0 : ∃ r ∈ l, r.x0 = h.x0
 a1 : ∃ r ∈ l, r.y0 = h.y0
 a2 : ∃ r ∈ l, r.x1 = h.x1
 a3 : ∃ r ∈ l, r.y1 = h.y1
 b : ∀ r ∈ l, h.x0 ≤ r.x0 ∧ h.y0 ≤ r.y0 ∧ r.x1 ≤ h.x1 ∧ r.y1 ≤ h.y1
theorem IsHull.step {l : List R4} {h r : R4} (hh : IsHull l h) : IsHull (l ++ [r]) (hullS h r) := by
 obtain ⟨⟨p0, q0, e0⟩, ⟨p1, q1, e1⟩, ⟨p2, q2, e2⟩, ⟨p3, q3, e3⟩, hb⟩ := hh
 refine ⟨?_, ?_, ?_, ?_, ?_⟩
 ·by_cases c : h.x0 ≤ r.x0
  ·exact ⟨p0, by simp [q0], by simp only [hullS]; omega⟩
  ·exact ⟨r, by simp, by simp only [hullS]; omega⟩
 ·by_cases c : h.y0 ≤ r.y0
  ·exact ⟨p1, by simp [q1], by simp only [hullS]; omega⟩
  ·exact ⟨r, by simp, by simp only [hullS]; omega⟩
 ·by_cases c : r.x1 ≤ h.x1
  ·exact ⟨p2, by simp [q2], by simp only [hullS]; omega⟩
  ·exact ⟨r, by simp, by simp only [hullS]; omega⟩
 ·by_cases c : r.y1 ≤ h.y1
  ·exact ⟨p3, by simp [q3], by simp only [hullS]; omega⟩
  ·exact ⟨r, by simp, by simp only [hullS]; omega⟩
 ·intro q hq
  rcases List.mem_append.1 hq with hq | hq
  ·have := hb q hq
   simp only [hullS]; omega
  ·rw [List.mem_singleton] at hq
   subst hq
   simp only [hullS]; omega
theorem IsHull.one (r : R4) : IsHull [r] r := ⟨⟨r, by simp, rfl⟩, ⟨r, by simp, rfl⟩, ⟨r, by simp, rfl⟩, ⟨r, by simp, rfl⟩, by simp⟩
end Go.Proofs.YtikojiciilambaaGreat

/- Plain law: a part of a canonical region, made a region, has no more rectangles than the part. -/
namespace Go.Proofs.YtikojiciilambaaGreat
set_option linter.unusedVariables false
set_option linter.unusedSimpArgs false
theorem swp_sum_from (g : Int → List Sp) : ∀ (ps : List (Int × Int)) (S : List Slab), (flat (ps.foldl (fun S p => addS S p.1 p.2 (g p.1)) S)).length ≤ (flat S).length + (ps.map fun p => (g p.1).length).sum
 | [], S => by simp
 | p :: ps, S => by
  have h1 := swp_sum_from g ps (addS S p.1 p.2 (g p.1))
  have h2 := addS_len S p.1 p.2 (g p.1)
  simp only [List.foldl_cons, List.map_cons, List.sum_cons]
  omega
theorem prs_sum (f : Int → Nat) : ∀ cs : List Int, ((prs cs).map fun p => f p.1).sum ≤ (cs.map f).sum
 | [] => by simp [prs]
 | [c] => by simp [prs]
 | c :: d :: r => by
  have := prs_sum f (d :: r)
  simp only [prs, List.map_cons, List.sum_cons] at this ⊢
  omega
theorem crossL_cons_len (r : R4) (C : List R4) (c : Int) : (crossL (r :: C) c).length = (if r.x0 ≤ c ∧ c < r.x1 then 1 else 0) + (crossL C c).length := by
 unfold crossL
 by_cases h : r.x0 ≤ c ∧ c < r.x1
 ·rw [List.filter_cons_of_pos (by simp [h.1, h.2]), if_pos h]
  simp; omega
 ·rw [List.filter_cons_of_neg (by simpa using h), if_neg h]
  simp
theorem sum_add {α : Type} (f g : α → Nat) : ∀ l : List α, (l.map fun x => f x + g x).sum = (l.map f).sum + (l.map g).sum
 | [] => rfl
 | a :: l => by have := sum_add f g l; simp only [List.map_cons, List.sum_cons, this]; omega
theorem one_cut {r : R4} : ∀ {cs : List Int}, cs.Pairwise (· < ·) → (∀ c ∈ cs, r.x0 ≤ c → c < r.x1 → r.x0 = c) → (cs.map fun c => if r.x0 ≤ c ∧ c < r.x1 then 1 else 0).sum ≤ 1
  | [], _, _ => by simp
  | c :: cs, hs, h => by
    have ih := one_cut (r := r) (List.pairwise_cons.1 hs).2 (fun c hc => h c (List.mem_cons_of_mem _ hc))
    simp only [List.map_cons, List.sum_cons]
    by_cases hc : r.x0 ≤ c ∧ c < r.x1
    · have e := h c (List.mem_cons_self) hc.1 hc.2
      have hz : (cs.map fun c => if r.x0 ≤ c ∧ c < r.x1 then 1 else 0).sum = 0 := by
        rw [List.sum_eq_zero_iff_forall_eq_nat]
        intro n hn
        obtain ⟨d, hd, rfl⟩ := List.mem_map.1 hn
        have h1 := (List.pairwise_cons.1 hs).1 d hd
        rw [if_neg]
        rintro ⟨h2, h3⟩
        have := h d (List.mem_cons_of_mem _ hd) h2 h3
        omega
      rw [if_pos hc, hz]
      omega
    · rw [if_neg hc]
      omega
theorem sum_cross {cs : List Int} (hs : cs.Pairwise (· < ·)) : ∀ {C : List R4}, (∀ r ∈ C, ∀ c ∈ cs, r.x0 ≤ c → c < r.x1 → r.x0 = c) → (cs.map fun c => (crossL C c).length).sum ≤ C.length
  | [], _ => by
    have : (cs.map fun c => (crossL [] c).length).sum = 0 := by
      rw [List.sum_eq_zero_iff_forall_eq_nat]
      intro n hn
      obtain ⟨d, _, rfl⟩ := List.mem_map.1 hn
      rfl
    omega
  | r :: C, h => by
    have ih := sum_cross hs (C := C) (fun r hr => h r (List.mem_cons_of_mem _ hr))
    have h1 := one_cut hs (h r (List.mem_cons_self))
    simp only [crossL_cons_len]
    rw [sum_add]
    simp only [List.length_cons]
    omega
theorem SOK.apart : ∀ {S : List Slab}, SOK S → ∀ a ∈ S, ∀ b ∈ S, a = b ∨ a.t ≤ b.f ∨ b.t ≤ a.f
 | [], _, a, ha, _, _ => by cases ha
 | c :: S, h, a, ha, b, hb => by
  rcases List.mem_cons.1 ha with e1 | ha'
  ·rcases List.mem_cons.1 hb with e2 | hb'
   ·exact .inl (e1.trans e2.symm)
   ·exact .inr (.inl (e1 ▸ h.after b hb'))
  ·rcases List.mem_cons.1 hb with e2 | hb'
   ·exact .inr (.inr (e2 ▸ h.after a ha'))
   ·exact SOK.apart h.tail a ha' b hb'
theorem SOK.wide : ∀ {S : List Slab}, SOK S → ∀ a ∈ S, a.f < a.t
 | [], _, a, ha => by cases ha
 | c :: S, h, a, ha => by
  rcases List.mem_cons.1 ha with rfl | ha
  ·exact h.head.1
  ·exact SOK.wide h.tail a ha
theorem mem_flat {S : List Slab} {r : R4} (h : r ∈ flat S) : ∃ a ∈ S, r.x0 = a.f ∧ r.x1 = a.t := by
 obtain ⟨a, ha, h⟩ := List.mem_flatMap.1 h
 obtain ⟨p, hp, rfl⟩ := List.mem_map.1 h
 exact ⟨a, ha, rfl, rfl⟩
theorem can_cut {l : List R4} (h : RCan l) {r s : R4} (hr : r ∈ l) (hs : s ∈ l) {c : Int} (hc : c = s.x0 ∨ c = s.x1) (h1 : r.x0 ≤ c) (h2 : c < r.x1) : r.x0 = c := by
 obtain ⟨S, hS, rfl⟩ := h
 obtain ⟨a, ha, a1, a2⟩ := mem_flat hr
 obtain ⟨b, hb, b1, b2⟩ := mem_flat hs
 have w1 := hS.wide a ha
 have w2 := hS.wide b hb
 rcases hS.apart a ha b hb with rfl | h3 | h3 <;> rcases hc with rfl | rfl <;> omega
theorem sub_count {l C : List R4} (h : RCan l) (hw : ∀ r ∈ l, wf4 r) (hC : C.Sublist l) : (rjoin hFst C []).length ≤ C.length := by
 have hcs := cutsOf_ok (cutsL C)
 have hwC : ∀ r ∈ C, wf4 r := fun r hr => hw r (hC.subset hr)
 have hg : ∀ c, sjoin hFst (crossL C c) (crossL [] c) = crossL C c := fun c => by
  refine (sjoin_eq (h := hFst) rfl (crossL_wf hwC c) (by simp [crossL]) ⟨crossL_wf hwC c, (crossL_can h c).2.sublist ((hC.filter _).map _)⟩ fun x => by simp [hFst]).symm
 rw [← swp_join (h := hFst) rfl hwC (b := []) (by simp) hcs.1 (fun c hc => (hcs.2 c).2 hc) (by simp [cutsL])]
 have h1 := swp_sum_from (fun c => sjoin hFst (crossL C c) (crossL [] c)) (prs (cutsOf (cutsL C))) []
 simp only [hg] at h1
 have h2 := prs_sum (fun c => (crossL C c).length) (cutsOf (cutsL C))
 have h3 := sum_cross hcs.1 (C := C) (fun r hr c hc q1 q2 => by
  have hc2 := (hcs.2 c).1 hc
  obtain ⟨s, hs, he⟩ : ∃ s ∈ C, c = s.x0 ∨ c = s.x1 := by simpa [cutsL] using hc2
  exact can_cut h (hC.subset hr) (hC.subset hs) he q1 q2)
 have h4 : (flat ([] : List Slab)).length = 0 := rfl
 unfold swp
 simp only [hg]
 omega
theorem filterMap_at {α : Type} : ∀ l : List α, (List.range l.length).filterMap (fun j => l[j]?) = l
 | [] => rfl
 | a :: l => by
  have ih := filterMap_at l
  rw [List.length_cons, List.range_succ_eq_map, List.filterMap_cons_some (by rfl : (a :: l)[0]? = some a), List.filterMap_map]
  show a :: List.filterMap (fun j => l[j]?) (List.range l.length) = a :: l
  rw [ih]
theorem compL_sub (l : List R4) (i : Nat) : (compL l i).Sublist l := by
 have h := filterMap_at l
 have h2 : (compL l i).Sublist ((List.range l.length).filterMap (fun j => l[j]?)) := (List.filter_sublist).filterMap _
 rwa [h] at h2
end Go.Proofs.YtikojiciilambaaGreat

/- A store into a row of the call's own; the sum of a row of numbers, read off the world. -/
namespace Go.Proofs.YtikojiciilambaaGreat
open Go.RowKit
set_option linter.unusedVariables false
set_option linter.unusedSimpArgs false
theorem heap_set_same {w : World} {g j : Nat} {cur : Array Value} {e : TypeId} (h : w.heap[g]? = some (.cells cur e (0, 0))) (u : Value) : (w.setCell ⟨g, j, none⟩ u).heap[g]? = some (.cells (cur.setIfInBounds j u) e (0, 0)) := by
 simp only [World.setCell, Array.getElem?_modify, h]
 simp
theorem own_set {w : World} {base g n cap j : Nat} {e : TypeId} {xs : List Value} (h : w.ownsRow base e 1 (.slice (some ⟨g, 0, none⟩) n cap) n xs) (u : Value) : (w.setCell ⟨g, j, none⟩ u).ownsRow base e 1 (.slice (some ⟨g, 0, none⟩) n cap) n (xs.set j u) := by
 refine ⟨by rw [List.length_set]; exact h.1, ?_⟩
 rcases h.2 with ⟨hv, _⟩ | ⟨g', cap', cur, hv, hb, hg, hnc, hcm, hcs, ht⟩
 ·cases hv
 ·injection hv with e1 _ e3
  injection e1 with e1
  injection e1 with e1
  subst e1; subst e3
  refine .inr ⟨g, cap, cur.setIfInBounds j u, rfl, hb, heap_set_same hg u, hnc, hcm, by simpa using hcs, ?_⟩
  rw [Array.toList_setIfInBounds, List.take_set, ht]
def cellSum (w : World) (v : Value) (n : Nat) : Nat :=
 match v with
 | .slice (some p) _ _ => ((List.range n).map fun j => match w.cell? ⟨p.block, p.off + j, none⟩ with | some (.int _ x) => x.toNat | _ => 0).sum
 | _ => 0
theorem cellSum_own {w : World} {base : Nat} {e : TypeId} {v : Value} {l : List Int} (h : w.ownsRow base e 1 v l.length (l.map iv)) : cellSum w v l.length = (l.map Int.toNat).sum := by
 rcases h.2 with ⟨rfl, h0⟩ | ⟨g, cap, cur, rfl, hb, hg, _⟩
 ·have := List.eq_nil_of_length_eq_zero h0
  subst this
  rfl
 ·unfold cellSum
  show (List.map _ (List.range l.length)).sum = _
  refine congrArg List.sum ?_
  apply List.ext_getElem?
  intro k
  rw [List.getElem?_map, List.getElem?_map]
  by_cases hk : k < l.length
  ·rw [List.getElem?_range hk, List.getElem?_eq_getElem hk]
   have := (h.cells (g := g) rfl) k (iv l[k]) (by simp [hk])
   rw [addr_add] at this
   simp only [Option.map_some, Nat.zero_add] at this ⊢
   rw [this]
  ·rw [List.getElem?_eq_none (by simpa using hk), List.getElem?_eq_none (by omega)]
   rfl
end Go.Proofs.YtikojiciilambaaGreat
