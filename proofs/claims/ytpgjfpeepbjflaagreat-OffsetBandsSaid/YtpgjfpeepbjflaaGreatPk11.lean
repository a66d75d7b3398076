/- Texts laid together: JoinR, JoinU, OffO, App, LawMakes, Row, Open, MOffF, FitO. Lemmas for the statements of this seat; no condition. -/
import Derived.Test.YtpgjfpeepbjflaaGreatPk6
import Derived.Test.YtpgjfpeepbjflaaGreatPk10
import Derived.Test.YtpgjfpeepbjflaaGreatPk4
import Derived.Maps.AppendAt
import Derived.Laws.AppendOwnNone
import Derived.Test.YtpgjfpeepbjflaaGreatPk5
import Derived.Test.YtpgjfpeepbjflaaGreatPk1
import Derived.ProofKit
import Derived.Lib.SmallJoins
import Derived.Deep.Slices
import Derived.Deep.Fields
import Derived.ChangeSame

/- region.joined: two regions joined, slab by slab. -/
namespace Go.Proofs.YtpgjfpeepbjflaaGreat
open Go.RowKit
set_option linter.unusedVariables false
set_option linter.unusedSimpArgs false
attribute [local go_sem] Oper.semAt_some

/-- A slab with too many spans is a region with too many rectangles. -/
theorem slab_many {h : Bool → Bool → Bool} (h0 : h false false = false) {a b : List R4} (ha : ∀ r ∈ a, wf4 r) (hb : ∀ r ∈ b, wf4 r) (c : Int) : (sjoin h (crossL a c) (crossL b c)).length ≤ (rjoin h a b).length := by
  obtain ⟨r1, r2⟩ := rjoin_ok h0 ha hb
  obtain ⟨s1, s2⟩ := sjoin_ok h0 (crossL_wf ha c) (crossL_wf hb c)
  have e : crossL (rjoin h a b) c = sjoin h (crossL a c) (crossL b c) := (crossL_can r1 c).ext s1 fun y => by
    rw [smem_crossL, r2, s2, decide_eq_decide.2 (smem_crossL (l := a)), decide_eq_decide.2 (smem_crossL (l := b))]
  rw [← e]
  exact crossL_len _ _
theorem crossL_valid {l : List R4} (h : ∀ r ∈ l, valid4 r) (c : Int) : ∀ p ∈ crossL l c, validS p := by
  intro p hp
  obtain ⟨r, hr, rfl⟩ := List.mem_map.1 hp
  have hvr := h r (List.mem_filter.1 hr).1
  exact ⟨hvr.2.1, hvr.2.2.2.2.1.1, hvr.2.2.2.2.2.2⟩

theorem keepsFrom_set {n : Nat} {A B : World} (h : KeepsFrom n A B) {p : Addr} (hp : p.block < n) (v : Value) : KeepsFrom n A (B.setCell p v) := by
  refine ⟨Nat.le_trans h.1 (by simp), fun k o hk h1 h2 => ?_⟩
  have := h.2 k o hk h1 h2
  exact (Below.heap_setCell _ _ _ _ (by omega)).trans this
set_option maxRecDepth 100000 in
set_option maxHeartbeats 4000000 in
theorem joined_any {h : Bool → Bool → Bool} (h0 : h false false = false) {f : Nat} (hf : SpJoin f h) (ef : ∀ args w, (callFunc f args).run Tryz.prog w = .ok (.enter f args) w) {a b : List R4} {va vb : Value} {w : World} (ra : RdK encR 4 w w.heap.size va a) (rb : RdK encR 4 w w.heap.size vb b) (na : a.length ≤ 100000000) (nb : b.length ≤ 100000000) :
    Calls Tryz.prog 54 #[va, vb, .func (.func f) #[] #[]] w fun e w' => RegRet w.heap.size (joinF h a b) e w' ∧ Below w.heap.size w w' := by
  have hbo := fun (W : World) (hW : Below w.heap.size w W) => both_any (w := W) ((ra.below hW).mono hW.size) ((rb.below hW).mono hW.size) na nb
  have HBO := hide hbo
  have RA := hide ra
  have RB := hide rb
  obtain ⟨A1, c1, hva, _⟩ := id ra
  obtain ⟨A2, c2, hvb, _⟩ := id rb
  subst hva; subst hvb
  clear hbo ra rb
  have HSP := hide hf
  have HEF := hide ef
  have k3 : Below w.heap.size w (((w.alloc (.cells #[.func (.func f) #[] #[]] 66)).alloc (.cells #[.slice none 0 0] 25)).alloc (.cells #[.int .i64 0] 26)) := (((Below.refl _ _).alloc (Nat.le_refl _) _).alloc (by simp) _).alloc (by simp; omega) _
  have K3 := hide k3
  clear k3 hf ef
  by_cases hb0 : bothF a b = 0
  · obtain ⟨ca, cb⟩ := bothF_ok hb0
    have HWA := hide (check_wf ca)
    have HWB := hide (check_wf cb)
    obtain ⟨la, va4, _⟩ := checkF_ok ca
    obtain ⟨lb, vb4, _⟩ := checkF_ok cb
    have HVA := hide va4
    have HVB := hide vb4
    have HCA := hide (check_rcan ca)
    have HCB := hide (check_rcan cb)
    have hcl : (List.flatMap cutsL [a, b]).length ≤ 100000000 := by simp [cutsL_len]; omega
    have hcs := cutsOf_ok (List.flatMap cutsL [a, b])
    have hl2 : (List.flatMap cutsL [a, b]).length = 2 * a.length + 2 * b.length := by simp [cutsL_len]
    have hcn : (cutsOf (List.flatMap cutsL [a, b])).length ≤ 1600 := by
      have h1 := cutsOf_len (List.flatMap cutsL [a, b])
      omega
    clear hl2
    have hfin := swp_join h0 HWA.out HWB.out hcs.1 (fun c hc => (hcs.2 c).2 (by simp [hc])) (fun c hc => (hcs.2 c).2 (by simp [hc]))
    have hgl : ∀ c, (sjoin h (crossL a c) (crossL b c)).length ≤ 1600 := by
      intro c
      have h1 := sjoin_len h (crossL a c) (crossL b c)
      have h2 := crossL_len a c
      have h3 := crossL_len b c
      omega
    have hjl := rjoin_len2 h a b la lb
    have hslab : ∀ (W : World) (L : Nat), L < W.heap.size → (∃ v, W.cell? ⟨L, 0, none⟩ = some v ∧ RdK encR 4 W W.heap.size v a) → (∃ v, W.cell? ⟨L, 1, none⟩ = some v ∧ RdK encR 4 W W.heap.size v b) → _ := fun W L h1 h2 h3 =>
      slabsB_any [a, b] L 2 W h1 (fun k l' hk => by
        match k, hk with
        | 0, hk => simp at hk; subst hk; exact h2
        | 1, hk => simp at hk; subst hk; exact h3
        | k + 2, hk => simp at hk) hcl (by simp)
    simp only [List.length_cons, List.length_nil, Nat.zero_add, Nat.reduceAdd] at hslab
    have hJF : joinF h a b = if 400 < (rjoin h a b).length then ([], 4) else (rjoin h a b, 0) := if_pos hb0
    rw [hb0] at HBO
    have HMANY := hide (fun c => slab_many h0 HWA.out HWB.out c)
    generalize hcsd : cutsOf (List.flatMap cutsL [a, b]) = cs at *
    clear hcsd
    have HS := hide hslab
    have HF := hide hfin
    have HG := hide hgl
    have HC := hide hcs
    have HJF := hide hJF
    clear hslab hfin hgl hcs hJF ca cb hb0 va4 vb4
    refine (callsIn_wide (n := 0)).1 ?_
    refine callsIn_of_wp_marks Tryz.func54 rfl trivial ?_
    simp only [Tryz.ntmps54, List.size_toArray, List.length_cons, List.length_nil, Nat.reduceAdd, Nat.reduceSub, Array.replicate_succ, Array.replicate_zero, List.push_toArray, List.append_toArray, List.nil_append, List.cons_append]
    refine wpIn_wide.2 ?_
    go_wp2_with (fail)
    refine (HBO.out _ K3.out).mono ?_
    rintro e w1 ⟨rfl, hb1⟩
    have hs1 := hb1.size
    simp at hs1
    have c5 : w1.cell? ⟨w.heap.size, 0, none⟩ = some (.func (.func f) #[] #[]) := (hb1.cell (p := ⟨w.heap.size, 0, none⟩) (by simp; omega)).trans (by simp [go_sem])
    have k6 : w1.cell? ⟨w.heap.size + 1, 0, none⟩ = some (.slice none 0 0) := (hb1.cell (p := ⟨w.heap.size + 1, 0, none⟩) (by simp)).trans (by simp [go_sem])
    have k7 : w1.cell? ⟨w.heap.size + 1 + 1, 0, none⟩ = some (.int .i64 0) := (hb1.cell (p := ⟨w.heap.size + 1 + 1, 0, none⟩) (by simp)).trans (by simp [go_sem])
    have f6 : w1.frozen? ⟨w.heap.size + 1, 0, none⟩ = false := (hb1.frozen (p := ⟨w.heap.size + 1, 0, none⟩) (by simp)).trans (by simp [go_sem])
    have f7 : w1.frozen? ⟨w.heap.size + 1 + 1, 0, none⟩ = false := (hb1.frozen (p := ⟨w.heap.size + 1 + 1, 0, none⟩) (by simp)).trans (by simp [go_sem])
    have KB := hide (K3.out.trans (hb1.mono (by simp; omega)))
    have HBX := hide (And.intro c5 (And.intro (And.intro k6 k7) (And.intro f6 f7)))
    clear hb1 c5 k6 k7 f6 f7 HBO
    go_wp2_with (fail)
    have hb2 : Below w1.heap.size w1 ((w1.alloc (.cells #[.slice none 0 0, .slice none 0 0, .int .i64 0, .int .i64 0] 93)).alloc (.cells #[.slice A1 a.length c1, .slice A2 b.length c2] 25)) := ((Below.refl _ _).alloc (Nat.le_refl _) _).alloc (by simp) _
    have hL1 : ((w1.alloc (.cells #[.slice none 0 0, .slice none 0 0, .int .i64 0, .int .i64 0] 93)).alloc (.cells #[.slice A1 a.length c1, .slice A2 b.length c2] 25)).cell? ⟨w1.heap.size + 1, 0, none⟩ = some (.slice A1 a.length c1) := by simp [go_sem]
    have hL2 : ((w1.alloc (.cells #[.slice none 0 0, .slice none 0 0, .int .i64 0, .int .i64 0] 93)).alloc (.cells #[.slice A1 a.length c1, .slice A2 b.length c2] 25)).cell? ⟨w1.heap.size + 1, 1, none⟩ = some (.slice A2 b.length c2) := by simp [go_sem]
    have hs := HS.out ((w1.alloc (.cells #[.slice none 0 0, .slice none 0 0, .int .i64 0, .int .i64 0] 93)).alloc (.cells #[.slice A1 a.length c1, .slice A2 b.length c2] 25)) (w1.heap.size + 1) (by simp)
      ⟨_, hL1, (((RA.out.below KB.out).mono KB.out.size).below hb2).mono hb2.size⟩ ⟨_, hL2, (((RB.out.below KB.out).mono KB.out.size).below hb2).mono hb2.size⟩
    simp only [World.size_alloc, Nat.add_assoc, Nat.reduceAdd] at hs
    have hbc : ∀ j u, (#[Value.slice none 0 0, .slice none 0 0, .int .i64 0, .int .i64 0] : Array Value)[j]? = some u → ((w1.alloc (.cells #[.slice none 0 0, .slice none 0 0, .int .i64 0, .int .i64 0] 93)).alloc (.cells #[.slice A1 a.length c1, .slice A2 b.length c2] 25)).cell? ⟨w1.heap.size, j, none⟩ = some u := by
      intro j u hj
      refine (World.cell?_alloc_lt (w1.alloc _) _ ⟨w1.heap.size, j, none⟩ (by simp)).trans ?_
      have := news_new w1 [Value.slice none 0 0, .slice none 0 0, .int .i64 0, .int .i64 0] 93 w1.heap.size rfl j u (by simpa using hj)
      rwa [addr_add] at this
    refine hs.mono ?_
    clear hs
    rintro e wS ⟨vc, rfl, hbl, hbc2, hown, hbS⟩
    have hsz1 : ((w1.alloc (.cells #[.slice none 0 0, .slice none 0 0, .int .i64 0, .int .i64 0] 93)).alloc (.cells #[.slice A1 a.length c1, .slice A2 b.length c2] 25)).heap.size = w1.heap.size + 2 := by simp
    have hz1 : ∀ j, ((w1.alloc (.cells #[.slice none 0 0, .slice none 0 0, .int .i64 0, .int .i64 0] 93)).alloc (.cells #[.slice A1 a.length c1, .slice A2 b.length c2] 25)).frozen? ⟨w1.heap.size, j, none⟩ = false := fun j => by simp [go_sem]
    go_wp2_with (fail)
    obtain ⟨w2, hw2⟩ : ∃ w2, (w1.alloc (.cells #[.slice none 0 0, .slice none 0 0, .int .i64 0, .int .i64 0] 93)).alloc (.cells #[.slice A1 a.length c1, .slice A2 b.length c2] 25) = w2 := ⟨_, rfl⟩
    rw [hw2] at hb2 hL1 hL2 hbc hbS hsz1 hz1
    clear hw2
    have hcsz := hbS.size
    obtain ⟨Ac, cc, hvc⟩ := own_form hown
    subst hvc
    have hbS2 : Below (w1.heap.size + 2) w2 wS := hbS.mono (by omega)
    have hlow : Below w1.heap.size w1 wS := hb2.trans (hbS.mono (by omega))
    have kS : ∀ j, wS.cell? ⟨w1.heap.size, j, none⟩ = w2.cell? ⟨w1.heap.size, j, none⟩ := fun j => hbS2.cell (p := ⟨w1.heap.size, j, none⟩) (by show w1.heap.size < _; omega)
    have zS : ∀ j, wS.frozen? ⟨w1.heap.size, j, none⟩ = w2.frozen? ⟨w1.heap.size, j, none⟩ := fun j => hbS2.frozen (p := ⟨w1.heap.size, j, none⟩) (by show w1.heap.size < _; omega)
    have hbw0 : BW w1.heap.size wS.heap.size (swp (fun c => sjoin h (crossL a c) (crossL b c)) []) [] 0 0 wS :=
      ⟨by omega, Nat.le_refl _, ⟨_, (kS 0).trans (hbc 0 _ rfl), World.ownsRow_nil _ _ _ _⟩, ⟨_, (kS 1).trans (hbc 1 _ rfl), World.ownsRow_nil _ _ _ _⟩, (kS 2).trans (hbc 2 _ rfl), (kS 3).trans (hbc 3 _ rfl), fun j => (zS j).trans (hz1 j), BInv.start⟩
    have hL1S := (hbS2.cell (p := ⟨w1.heap.size + 1, 0, none⟩) (by show w1.heap.size + 1 < _; omega)).trans hL1
    have hL2S := (hbS2.cell (p := ⟨w1.heap.size + 1, 1, none⟩) (by show w1.heap.size + 1 < _; omega)).trans hL2
    have hit := slabsItB [a, b] cs (w1.heap.size + 3) (w1.heap.size + 2) (w1.heap.size + 1) 2 cc w1.heap.size (w1.heap.size + 4) Ac wS (lt_of_cell hbl) (lt_of_cell hbc2) (by omega) (by omega) (by omega) (by omega) (by omega) (by omega)
      hbl hbc2 hown (fun k l' hk => by
        match k, hk with
        | 0, hk => simp at hk; subst hk; exact ⟨by omega, _, hL1S, ((RA.out.below KB.out).mono KB.out.size).below hlow⟩
        | 1, hk => simp at hk; subst hk; exact ⟨by omega, _, hL2S, ((RB.out.below KB.out).mono KB.out.size).below hlow⟩
        | k + 2, hk => simp at hk) (by simp) (by omega)
    have hws : w1.heap.size + 4 ≤ wS.heap.size := lt_of_cell hbc2
    have hI0 : MI w1.heap.size wS.heap.size (fun c => sjoin h (crossL a c) (crossL b c)) 1600 w1 [] wS := ⟨⟨[], 0, 0, hbw0, by simp, .inl rfl⟩, hlow⟩
    clear hb2 hL1 hL2 hbc hbS hsz1 hz1 hcsz hbS2 hlow kS zS hbw0 hL1S hL2S hbl hbc2 hown
    refine (wpIn_wide (n := 0)).1 ?_
    refine wp_range rfl (enters_of Tryz.func92 (by kernel_rfl) rfl) hit (Below.refl _ _) (fun x args A hx => by obtain ⟨Rw, rfl, _⟩ := hx; rfl) KpX.trans ?_
      (MI w1.heap.size wS.heap.size (fun c => sjoin h (crossL a c) (crossL b c)) 1600 w1) (fun _ W => 400 < (rjoin h a b).length ∧ W.cell? ⟨w.heap.size + 1, 0, none⟩ = some (.slice none 0 0) ∧ W.cell? ⟨w.heap.size + 1 + 1, 0, none⟩ = some (.int .i64 4) ∧ Below w.heap.size w W)
      (fun pre A B h hb => h.below hb) (fun pre A l o o' h hw hl ho ho' => h.putObj (by omega) hl ho ho') (fun pre A l o o' h hw hl ho ho' => ⟨h.1, (cell_putObj hl ho ho' _).1.trans h.2.1, (cell_putObj hl ho ho' _).1.trans h.2.2.1, below_putObj h.2.2.2 (by have := KB.out.size; omega) _⟩) hI0 ?_ ?_ ?_
    · intro A l o o' _ h1 h2 h3
      exact ⟨by simp, fun b off _ _ => (cell_putObj h1 h2 h3 _).1⟩
    · rintro l2 pre ⟨c, d⟩ args A hMI ⟨post, hpost⟩ ⟨Rw, rfl, hRw, hrows⟩ hl1 ⟨ol, hl2, hl3⟩
      have hll : l2 < A.heap.size := (Array.getElem?_eq_some_iff.1 hl2).1
      obtain ⟨vx, hx1, hx2⟩ := hrows 0 a rfl
      obtain ⟨vy, hy1, hy2⟩ := hrows 1 b rfl
      have hlo := hMI.low.size
      have hBoA : wS.heap.size ≤ A.heap.size := by obtain ⟨_, _, _, h1, _⟩ := hMI.bw; exact h1.size
      have hM := hide hMI
      have HX1 := hide hx1
      have HX2 := hide hx2
      have HY1 := hide hy1
      have HY2 := hide hy2
      have HL2 := hide hl2
      have HP := hide hpost
      clear hMI hrows hx1 hx2 hy1 hy2 hit hI0 hl2 hpost
      gi_wp2
      refine ⟨KeepsFrom.of_below' ((Below.refl _ _).alloc (Nat.le_refl _) _), KpX.below hBoA ((Below.refl _ _).alloc (Nat.le_refl _) _), ?_⟩
      intro A2 g2 s2 e2 f2
      have c20 : A2.cell? ⟨A.heap.size, 0, none⟩ = some (.int .i64 c) := (e2 _).trans (by simp [go_sem])
      have c21 : A2.cell? ⟨A.heap.size, 1, none⟩ = some (.int .i64 d) := (e2 _).trans (by simp [go_sem])
      have c22 : A2.cell? ⟨A.heap.size, 2, none⟩ = some (.slice (some ⟨Rw, 0, none⟩) 2 2) := (e2 _).trans (by simp [go_sem])
      have s3 : A2.heap.size = A.heap.size + 1 := by rw [s2]; simp
      have cR0 : A2.cell? ⟨Rw, 0, none⟩ = some vx := (e2 _).trans ((World.cell?_alloc_lt A _ ⟨Rw, 0, none⟩ hRw).trans HX1.out)
      have cR1 : A2.cell? ⟨Rw, 1, none⟩ = some vy := (e2 _).trans ((World.cell?_alloc_lt A _ ⟨Rw, 1, none⟩ hRw).trans HY1.out)
      have rd0 : RdK encS 2 A2 A2.heap.size vx (crossL a c) := (HX2.out.keep fun b o hb => (e2 _).trans (World.cell?_alloc_lt A _ ⟨b, o, none⟩ hb)).mono (by omega)
      have rd1 : RdK encS 2 A2 A2.heap.size vy (crossL b c) := (HY2.out.keep fun b o hb => (e2 _).trans (World.cell?_alloc_lt A _ ⟨b, o, none⟩ hb)).mono (by omega)
      have M2 := (hM.out.below ((Below.refl _ _).alloc (Nat.le_refl _) (.cells #[.int .i64 c, .int .i64 d, .slice (some ⟨Rw, 0, none⟩) 2 2] 98))).grown (by omega) g2 ((Below.heap_alloc _ _ _ hll).trans HL2.out) hl3
      have c5 : A2.cell? ⟨w.heap.size, 0, none⟩ = some (.func (.func f) #[] #[]) := (M2.low.cell (p := ⟨w.heap.size, 0, none⟩) (by show w.heap.size < _; omega)).trans HBX.out.1
      have k6 : A2.cell? ⟨w.heap.size + 1, 0, none⟩ = some (.slice none 0 0) := (M2.low.cell (p := ⟨w.heap.size + 1, 0, none⟩) (by show w.heap.size + 1 < _; omega)).trans HBX.out.2.1.1
      have k7 : A2.cell? ⟨w.heap.size + 1 + 1, 0, none⟩ = some (.int .i64 0) := (M2.low.cell (p := ⟨w.heap.size + 1 + 1, 0, none⟩) (by show w.heap.size + 1 + 1 < _; omega)).trans HBX.out.2.1.2
      have f6 : A2.frozen? ⟨w.heap.size + 1, 0, none⟩ = false := (M2.low.frozen (p := ⟨w.heap.size + 1, 0, none⟩) (by show w.heap.size + 1 < _; omega)).trans HBX.out.2.2.1
      have f7 : A2.frozen? ⟨w.heap.size + 1 + 1, 0, none⟩ = false := (M2.low.frozen (p := ⟨w.heap.size + 1 + 1, 0, none⟩) (by show w.heap.size + 1 + 1 < _; omega)).trans HBX.out.2.2.2
      obtain ⟨av, cv, hvx, _⟩ := id rd0
      obtain ⟨aw, cw, hvy, _⟩ := id rd1
      subst hvx; subst hvy
      have hcall := fun (W : World) (hW : Below A2.heap.size A2 W) => HSP.out (crossL a c) (crossL b c) _ _ W ((rd0.below hW).mono hW.size) ((rd1.below hW).mono hW.size) (Nat.le_trans (crossL_len a c) la) (Nat.le_trans (crossL_len b c) lb) (crossL_can HCA.out c) (crossL_can HCB.out c) (crossL_valid HVA.out c) (crossL_valid HVB.out c)
      have HCALL := hide hcall
      obtain ⟨last, first, e, B2, q1, q2⟩ := M2.bw
      have hprs := HP.out
      have hlt := prs_lt cs HC.out.1 (c, d) (by rw [hprs]; simp)
      have hnx := prs_next cs pre (c, d) post hprs
      have hplen : pre.length ≤ 1600 := by
        have h1 := prs_len cs
        rw [hprs] at h1
        simp at h1
        omega
      have hfl := swp_len (fun c => sjoin h (crossL a c) (crossL b c)) 1600 HG.out pre
      have hfl2 : (flat (swp (fun c => sjoin h (crossL a c) (crossL b c)) pre)).length ≤ 100000000 := by have := Nat.mul_le_mul_right 1600 hplen; omega
      have hsl := HG.out c
      have hef : swp (fun c => sjoin h (crossL a c) (crossL b c)) pre = [] ∨ e ≤ c := by
        rcases q2 with rfl | ⟨p, hp, rfl⟩
        · exact .inl rfl
        · exact .inr (by rw [hnx p hp]; exact Int.le_refl _)
      have hadd : ∀ (A3 : World) (Am : Option Addr) (cm : Nat), Below A2.heap.size A2 A3 → A3.ownsRow wS.heap.size 75 2 (.slice Am (sjoin h (crossL a c) (crossL b c)).length cm) (sjoin h (crossL a c) (crossL b c)).length ((sjoin h (crossL a c) (crossL b c)).flatMap encS) → _ := fun A3 Am cm hb ho =>
        add_any (s := sjoin h (crossL a c) (crossL b c)) (f := c) (t := d) (B2.below hb) ho hfl2 (Nat.le_trans hsl (by omega)) (by omega) hef hlt.1
      have HA := hide hadd
      have HM2 := hide M2.low
      have HMC := hide (HMANY.out c)
      have hsj : sjF h (crossL a c) (crossL b c) = if 400 < (sjoin h (crossL a c) (crossL b c)).length then ([], 4) else (sjoin h (crossL a c) (crossL b c), 0) := rfl
      have HSJ := hide hsj
      have HBLT := hide (show w.heap.size + 3 ≤ A2.heap.size by omega)
      have hRw2 : Rw < A2.heap.size := by omega
      have hws2 : wS.heap.size ≤ A2.heap.size := by omega
      clear g2 s2 e2 f2 M2 B2 hadd hlt hnx hef hprs q2 hcall rd0 rd1 hsj hfl hfl2
      gi_wp2_with (refine ⟨trivial, rfl, ?_⟩)
      refine wpIn_region_two [0, 1, 2, 3, 4, 5, 6, 7, 8] [9, 10] [11, 12, 13] [14] (fun w' => (w'.cell? ⟨w.heap.size, 0, none⟩ = some (.func (.func f) #[] #[]) ∧ w'.cell? ⟨A.heap.size, 2, none⟩ = some (.slice (some ⟨Rw, 0, none⟩) 2 2)) ∧ w'.cell? ⟨Rw, 0, none⟩ = some (.slice av (crossL a c).length cv) ∧ w'.cell? ⟨Rw, 1, none⟩ = some (.slice aw (crossL b c).length cw)) (by kernel_rfl) (by kernel_rfl) rfl (fun a w h => h) ⟨⟨c5, c22⟩, cR0, cR1⟩ ?_
      simp only [List.map_cons, List.map_nil, opAt, List.getElem?_cons_succ, List.getElem?_cons_zero, Option.getD_some]
      iterate 9
        refine ⟨?_, Or.inl ⟨by rfl, ?_⟩, ?_⟩
        rotate_left 1
        · intro w' hSw
          obtain ⟨⟨z0, z1⟩, z2, z3⟩ := hSw
          go_simp
          first | done | with_reducible rfl
        simp only [Act.put, List.setIfInBounds_toArray, List.set_cons_zero, List.set_cons_succ]
      simp only [wpReads, wpChain]
      intro K hK
      simp only [Act.put, List.setIfInBounds_toArray, List.set_cons_zero, List.set_cons_succ] at hK ⊢
      go_simp
      rw [HEF.out]
      have hcd := HCALL.out A2.drew (Below.refl _ _).drew
      rw [HSJ.out] at hcd
      refine hcd.mono ?_
      clear hcd
      rintro e' A4 ⟨⟨Am, cm, rfl, ho4⟩, hb4'⟩
      have hb4 : Below A2.heap.size A2 A4 := (Below.refl _ _).drew.trans hb4'
      have hkc : ∀ p : Addr, p.block < A2.heap.size → A4.cell? p = A2.cell? p := fun p hp => hb4.cell hp
      have hkf : ∀ p : Addr, p.block < A2.heap.size → A4.frozen? p = A2.frozen? p := fun p hp => hb4.frozen hp
      have n5 := (hkc ⟨w.heap.size, 0, none⟩ (by show w.heap.size < _; omega)).trans c5
      have n6 := (hkc ⟨w.heap.size + 1, 0, none⟩ (by show w.heap.size + 1 < _; omega)).trans k6
      have n7 := (hkc ⟨w.heap.size + 1 + 1, 0, none⟩ (by show w.heap.size + 1 + 1 < _; omega)).trans k7
      have m6 := (hkf ⟨w.heap.size + 1, 0, none⟩ (by show w.heap.size + 1 < _; omega)).trans f6
      have m7 := (hkf ⟨w.heap.size + 1 + 1, 0, none⟩ (by show w.heap.size + 1 + 1 < _; omega)).trans f7
      have n20 := (hkc ⟨A.heap.size, 0, none⟩ (by show A.heap.size < _; omega)).trans c20
      have n21 := (hkc ⟨A.heap.size, 1, none⟩ (by show A.heap.size < _; omega)).trans c21
      have n22 := (hkc ⟨A.heap.size, 2, none⟩ (by show A.heap.size < _; omega)).trans c22
      have nR0 := (hkc ⟨Rw, 0, none⟩ (by show Rw < _; omega)).trans cR0
      have nR1 := (hkc ⟨Rw, 1, none⟩ (by show Rw < _; omega)).trans cR1
      have HB4 := hide hb4
      have HO4 := hide ho4
      clear hkc hkf c5 k6 k7 f6 f7 c20 c21 c22 cR0 cR1 hb4 hb4' ho4
      refine hK _ _ ⟨⟨n5, n22⟩, nR0, nR1⟩ ?_
      clear hK K
      intro K hK
      simp only [Act.put, List.setIfInBounds_toArray, List.set_cons_zero, List.set_cons_succ] at hK ⊢
      go_simp
      refine hK _ _ ⟨⟨n5, n22⟩, nR0, nR1⟩ ?_
      clear hK K n5 n22 nR0 nR1
      iterate 3
        refine ⟨?_, Or.inl ⟨by rfl, ?_⟩, ?_⟩
        rotate_left 1
        · intro w' hSw
          clear hSw
          go_simp
          first | done | with_reducible rfl
        try simp only [Act.put, List.setIfInBounds_toArray, List.set_cons_zero, List.set_cons_succ]
      intro K hK
      simp only [Act.put, List.setIfInBounds_toArray, List.set_cons_zero, List.set_cons_succ] at hK ⊢
      go_simp
      refine hK _ _ (fun h => absurd rfl h) ?_
      clear hK K
      refine NoPanic.normal ?_
      by_cases h4 : 400 < (sjoin h (crossL a c) (crossL b c)).length
      · have HO5 := HO4.out
        simp only [if_pos h4] at HO5 ⊢
        have hmany := Nat.lt_of_lt_of_le h4 HMC.out
        gi_wp2_with (fail)
        have hb4 := HB4.out
        refine ⟨keepsFrom_set (keepsFrom_set (KeepsFrom.of_below' hb4) (by show w.heap.size + 1 < _; omega) _) (by show w.heap.size + 1 + 1 < _; omega) _, hmany, by simp [go_sem, n6, n7, m6, m7], by simp [go_sem, n6, n7, m6, m7], ?_⟩
        exact (((KB.out.trans (HM2.out.mono (by omega))).trans (hb4.mono (by omega))).setCell (p := ⟨w.heap.size + 1, 0, none⟩) (Nat.le_succ _) _).setCell (p := ⟨w.heap.size + 1 + 1, 0, none⟩) (by show w.heap.size ≤ w.heap.size + 1 + 1; omega) _
      · have HO5 := HO4.out
        simp only [if_neg h4] at HO5 ⊢
        have hadd := HA.out A4 Am cm HB4.out (own_base HO5 (by show wS.heap.size ≤ A2.heap.size; omega))
        gi_wp2_with (first
          | (refine ⟨trivial, rfl, ?_⟩)
          | (gi_at_call 78; refine (CallsIn.inRound l2 (callsIn_wide.2 hadd)).mono ?_; rintro e' A5 ⟨rfl, first', hbw5, hb5, hblk5, hk5⟩))
        have hb4 := HB4.out
        refine ⟨(KeepsFrom.of_below' hb4).trans (hk5.from _), (KpX.below (by omega) hb4).trans ⟨hk5.size, fun b o h1 h2 => World.cell?_of_block (w := A4) (hblk5 b h1 h2)⟩, ⟨_, first', d, by rw [swp_snoc]; exact hbw5, hsl, .inr ⟨(c, d), by simp, rfl⟩⟩, ?_⟩
        exact (HM2.out.trans (hb4.mono (by omega))).trans hb5
    · rintro D W hD hMI hK
      obtain ⟨last, first, e, hB, _, _⟩ := hMI.bw
      have hplen : (prs cs).length ≤ 1600 := by
        have h1 := prs_len cs
        omega
      have hfl := swp_len (fun c => sjoin h (crossL a c) (crossL b c)) 1600 HG.out (prs cs)
      have hfl2 := Nat.mul_le_mul_right 1600 hplen
      have hres := result_any hB (by omega)
      rw [HF.out] at hres
      have hws2 := hB.size
      have HM := hide hMI.low
      have HK := hide hK
      have hD2 : D < W.heap.size := (Array.getElem?_eq_some_iff.1 hK).1
      have hlw : w1.heap.size ≤ W.heap.size := hMI.low.size
      have k6 : W.cell? ⟨w.heap.size + 1, 0, none⟩ = some (.slice none 0 0) := (HM.out.cell (p := ⟨w.heap.size + 1, 0, none⟩) (by show w.heap.size + 1 < _; omega)).trans HBX.out.2.1.1
      have k7 : W.cell? ⟨w.heap.size + 1 + 1, 0, none⟩ = some (.int .i64 0) := (HM.out.cell (p := ⟨w.heap.size + 1 + 1, 0, none⟩) (by show w.heap.size + 1 + 1 < _; omega)).trans HBX.out.2.1.2
      have f6 : W.frozen? ⟨w.heap.size + 1, 0, none⟩ = false := (HM.out.frozen (p := ⟨w.heap.size + 1, 0, none⟩) (by show w.heap.size + 1 < _; omega)).trans HBX.out.2.2.1
      have f7 : W.frozen? ⟨w.heap.size + 1 + 1, 0, none⟩ = false := (HM.out.frozen (p := ⟨w.heap.size + 1 + 1, 0, none⟩) (by show w.heap.size + 1 + 1 < _; omega)).trans HBX.out.2.2.2
      clear hB hMI hfl hfl2 hit hI0 hK
      simp only [Exit.inBlock, Exit.then]
      by_cases h4 : 400 < (rjoin h a b).length
      · have HMF : Hid (joinF h a b = ([], 4)) := hide (HJF.out.trans (if_pos h4))
        go_wp2_with (go_at_call 79; refine hres.mono ?_; rintro e' w' ⟨rfl, hq⟩; obtain rfl : e' = .returned (.tuple #[.slice none 0 0, .int .i64 4]) := hq.elim (fun q => q.2) (fun q => absurd q.1 (by omega)); clear hq)
        have c6 : ((W.setCell ⟨w.heap.size + 1, 0, none⟩ (.slice none 0 0)).setCell ⟨w.heap.size + 1 + 1, 0, none⟩ (.int .i64 4)).cell? ⟨w.heap.size + 1, 0, none⟩ = some (.slice none 0 0) := by simp [go_sem, k6, k7, f6, f7]
        have c7 : ((W.setCell ⟨w.heap.size + 1, 0, none⟩ (.slice none 0 0)).setCell ⟨w.heap.size + 1 + 1, 0, none⟩ (.int .i64 4)).cell? ⟨w.heap.size + 1 + 1, 0, none⟩ = some (.int .i64 4) := by simp [go_sem, k6, k7, f6, f7]
        have cD : ((W.setCell ⟨w.heap.size + 1, 0, none⟩ (.slice none 0 0)).setCell ⟨w.heap.size + 1 + 1, 0, none⟩ (.int .i64 4)).heap[D]? = some (.deferred (some [])) := (Below.heap_setCell _ _ _ _ (by show D ≠ w.heap.size + 1 + 1; omega)).trans ((Below.heap_setCell _ _ _ _ (by show D ≠ w.heap.size + 1; omega)).trans HK.out)
        have hbL : Below w.heap.size w ((W.setCell ⟨w.heap.size + 1, 0, none⟩ (.slice none 0 0)).setCell ⟨w.heap.size + 1 + 1, 0, none⟩ (.int .i64 4)) := ((KB.out.trans (HM.out.mono (by omega))).setCell (p := ⟨w.heap.size + 1, 0, none⟩) (Nat.le_succ _) _).setCell (p := ⟨w.heap.size + 1 + 1, 0, none⟩) (by show w.heap.size ≤ w.heap.size + 1 + 1; omega) _
        obtain ⟨W3, hW3⟩ : ∃ W3, (W.setCell ⟨w.heap.size + 1, 0, none⟩ (.slice none 0 0)).setCell ⟨w.heap.size + 1 + 1, 0, none⟩ (.int .i64 4) = W3 := ⟨_, rfl⟩
        rw [hW3] at c6 c7 cD hbL
        rw [hW3]
        clear hW3 k6 k7 f6 f7
        refine ⟨by simp, .inl ⟨_, _, rfl, run_takeDeferred cD, ?_⟩⟩
        have e6 := (cell_putObj (o' := .deferred none) cD rfl rfl ⟨w.heap.size + 1, 0, none⟩).1.trans c6
        have e7 := (cell_putObj (o' := .deferred none) cD rfl rfl ⟨w.heap.size + 1 + 1, 0, none⟩).1.trans c7
        refine ⟨.tuple #[(.slice none 0 0), .int .i64 4], by simp [results, Tryz.results54, go_sem, e6, e7], ⟨none, 0, by rw [HMF.out]; rfl, by rw [HMF.out]; exact World.ownsRow_nil _ _ _ _⟩, below_putObj hbL (by omega) _⟩
      · have HMF : Hid (joinF h a b = (rjoin h a b, 0)) := hide (HJF.out.trans (if_neg h4))
        generalize rjoin h a b = R at *
        go_wp2_with (go_at_call 79; refine hres.mono ?_; rintro e' w' ⟨rfl, hq⟩; obtain ⟨Ar, cr, rfl, hor⟩ := hq.elim (fun q => absurd q.1 h4) (fun q => q.2); have HOR := hide hor; clear hq hor)
        have c6 : ((W.setCell ⟨w.heap.size + 1, 0, none⟩ (.slice Ar R.length cr)).setCell ⟨w.heap.size + 1 + 1, 0, none⟩ (.int .i64 0)).cell? ⟨w.heap.size + 1, 0, none⟩ = some (.slice Ar R.length cr) := by simp [go_sem, k6, k7, f6, f7]
        have c7 : ((W.setCell ⟨w.heap.size + 1, 0, none⟩ (.slice Ar R.length cr)).setCell ⟨w.heap.size + 1 + 1, 0, none⟩ (.int .i64 0)).cell? ⟨w.heap.size + 1 + 1, 0, none⟩ = some (.int .i64 0) := by simp [go_sem, k6, k7, f6, f7]
        have cD : ((W.setCell ⟨w.heap.size + 1, 0, none⟩ (.slice Ar R.length cr)).setCell ⟨w.heap.size + 1 + 1, 0, none⟩ (.int .i64 0)).heap[D]? = some (.deferred (some [])) := (Below.heap_setCell _ _ _ _ (by show D ≠ w.heap.size + 1 + 1; omega)).trans ((Below.heap_setCell _ _ _ _ (by show D ≠ w.heap.size + 1; omega)).trans HK.out)
        have hbL : Below w.heap.size w ((W.setCell ⟨w.heap.size + 1, 0, none⟩ (.slice Ar R.length cr)).setCell ⟨w.heap.size + 1 + 1, 0, none⟩ (.int .i64 0)) := ((KB.out.trans (HM.out.mono (by omega))).setCell (p := ⟨w.heap.size + 1, 0, none⟩) (Nat.le_succ _) _).setCell (p := ⟨w.heap.size + 1 + 1, 0, none⟩) (by show w.heap.size ≤ w.heap.size + 1 + 1; omega) _
        have hoL : ((W.setCell ⟨w.heap.size + 1, 0, none⟩ (.slice Ar R.length cr)).setCell ⟨w.heap.size + 1 + 1, 0, none⟩ (.int .i64 0)).ownsRow wS.heap.size 48 4 (.slice Ar R.length cr) R.length (R.flatMap encR) := ownsRow_setCell_below (ownsRow_setCell_below HOR.out (by show w.heap.size + 1 < _; omega) _) (by show w.heap.size + 1 + 1 < _; omega) _
        obtain ⟨W3, hW3⟩ : ∃ W3, (W.setCell ⟨w.heap.size + 1, 0, none⟩ (.slice Ar R.length cr)).setCell ⟨w.heap.size + 1 + 1, 0, none⟩ (.int .i64 0) = W3 := ⟨_, rfl⟩
        rw [hW3] at c6 c7 cD hbL hoL
        rw [hW3]
        clear hW3 k6 k7 f6 f7
        refine ⟨by simp, .inl ⟨_, _, rfl, run_takeDeferred cD, ?_⟩⟩
        have e6 := (cell_putObj (o' := .deferred none) cD rfl rfl ⟨w.heap.size + 1, 0, none⟩).1.trans c6
        have e7 := (cell_putObj (o' := .deferred none) cD rfl rfl ⟨w.heap.size + 1 + 1, 0, none⟩).1.trans c7
        refine ⟨.tuple #[(.slice Ar R.length cr), .int .i64 0], by simp [results, Tryz.results54, go_sem, e6, e7], ⟨Ar, cr, by rw [HMF.out], by rw [HMF.out]; exact own_base (own_putObj hoL cD rfl) (by omega)⟩, below_putObj hbL (by omega) _⟩
    · rintro D pre W hD ⟨hmany, hc6, hc7, hlowW⟩ hK
      have HMF : Hid (joinF h a b = ([], 4)) := hide (HJF.out.trans (if_pos hmany))
      have HK := hide hK
      have hD2 : D < W.heap.size := (Array.getElem?_eq_some_iff.1 hK).1
      clear hit hI0 hK
      simp only [Exit.inBlock, Exit.then]
      refine ⟨by simp, .inl ⟨_, _, rfl, run_takeDeferred HK.out, ?_⟩⟩
      have e6 := (cell_putObj (o' := .deferred none) HK.out rfl rfl ⟨w.heap.size + 1, 0, none⟩).1.trans hc6
      have e7 := (cell_putObj (o' := .deferred none) HK.out rfl rfl ⟨w.heap.size + 1 + 1, 0, none⟩).1.trans hc7
      refine ⟨.tuple #[.slice none 0 0, .int .i64 4], by simp [results, Tryz.results54, go_sem, e6, e7], ⟨none, 0, by rw [HMF.out]; rfl, by rw [HMF.out]; exact World.ownsRow_nil _ _ _ _⟩, below_putObj hlowW (by omega) _⟩
  · have HF : Hid (joinF h a b = ([], bothF a b)) := hide (if_neg hb0)
    generalize bothF a b = ck at *
    have hne : (ck != 0) = true := by simpa using hb0
    clear hb0
    refine (callsIn_wide (n := 0)).1 ?_
    refine callsIn_of_wp_marks Tryz.func54 rfl trivial ?_
    simp only [Tryz.ntmps54, List.size_toArray, List.length_cons, List.length_nil, Nat.reduceAdd, Nat.reduceSub, Array.replicate_succ, Array.replicate_zero, List.push_toArray, List.append_toArray, List.nil_append, List.cons_append]
    refine wpIn_wide.2 ?_
    go_wp2_with (fail)
    refine (HBO.out _ K3.out).mono ?_
    rintro e w1 ⟨rfl, hb1⟩
    have hs1 := hb1.size
    simp at hs1
    have k6 : w1.cell? ⟨w.heap.size + 1, 0, none⟩ = some (.slice none 0 0) := (hb1.cell (p := ⟨w.heap.size + 1, 0, none⟩) (by simp)).trans (by simp [go_sem])
    have k7 : w1.cell? ⟨w.heap.size + 1 + 1, 0, none⟩ = some (.int .i64 0) := (hb1.cell (p := ⟨w.heap.size + 1 + 1, 0, none⟩) (by simp)).trans (by simp [go_sem])
    have f6 : w1.frozen? ⟨w.heap.size + 1, 0, none⟩ = false := (hb1.frozen (p := ⟨w.heap.size + 1, 0, none⟩) (by simp)).trans (by simp [go_sem])
    have f7 : w1.frozen? ⟨w.heap.size + 1 + 1, 0, none⟩ = false := (hb1.frozen (p := ⟨w.heap.size + 1 + 1, 0, none⟩) (by simp)).trans (by simp [go_sem])
    have KB := hide (K3.out.trans (hb1.mono (by simp; omega)))
    clear hb1
    go_wp2_with (fail)
    refine ⟨.tuple #[.slice none 0 0, .int .i64 ck], by simp [results, Tryz.results54, go_sem, k6, k7], ⟨none, 0, by rw [HF.out]; rfl, by rw [HF.out]; exact World.ownsRow_nil _ _ _ _⟩, ?_⟩
    exact (KB.out.setCell (p := ⟨w.heap.size + 1, 0, none⟩) (Nat.le_succ _) _).setCell (p := ⟨w.heap.size + 1 + 1, 0, none⟩) (by show w.heap.size ≤ w.heap.size + 1 + 1; omega) _
end Go.Proofs.YtpgjfpeepbjflaaGreat

/- region.Union, Meet and Minus. -/
namespace Go.Proofs.YtpgjfpeepbjflaaGreat
open Go.RowKit
set_option linter.unusedVariables false
set_option linter.unusedSimpArgs false

theorem hk_or : hk 2 = hOr := by funext p q; cases p <;> cases q <;> rfl
theorem hk_and : hk 1 = hAnd := by funext p q; cases p <;> cases q <;> rfl
theorem hk_sub : hk 3 = hSub := by funext p q; cases p <;> cases q <;> rfl
theorem joinF_len (h : Bool → Bool → Bool) (a b : List R4) : (joinF h a b).1.length ≤ 400 := by
  unfold joinF
  split
  · split
    · simp
    · simp only; omega
  · simp
set_option maxHeartbeats 1000000 in
theorem union_any {a b : List R4} {va vb : Value} {w : World} (ra : RdK encR 4 w w.heap.size va a) (rb : RdK encR 4 w w.heap.size vb b) (na : a.length ≤ 100000000) (nb : b.length ≤ 100000000) :
    Calls Tryz.prog 34 #[va, vb] w fun e w' => RegRet w.heap.size (joinF hOr a b) e w' ∧ Below w.heap.size w w' := by
  have hc := joined_any (h := hOr) rfl spOr_any enter_spOr ra rb na nb
  obtain ⟨A1, c1, hva, _⟩ := ra
  obtain ⟨A2, c2, hvb, _⟩ := rb
  subst hva; subst hvb
  have HC := hide hc
  clear hc
  generalize joinF hOr a b = R at *
  obtain ⟨R1, R2⟩ := R
  go_enter Tryz.func34, Tryz.ntmps34
  go_wp2_with (fail)
  refine HC.out.mono ?_
  rintro e w1 ⟨⟨A3, c3, rfl, ho⟩, hb⟩
  have HO := hide ho
  clear ho
  go_wp2_with (fail)
  go_ret2
  exact ⟨⟨A3, c3, rfl, HO.out⟩, hb⟩
set_option maxHeartbeats 1000000 in
theorem meet_any {a b : List R4} {va vb : Value} {w : World} (ra : RdK encR 4 w w.heap.size va a) (rb : RdK encR 4 w w.heap.size vb b) (na : a.length ≤ 100000000) (nb : b.length ≤ 100000000) :
    Calls Tryz.prog 35 #[va, vb] w fun e w' => RegRet w.heap.size (joinF hAnd a b) e w' ∧ Below w.heap.size w w' := by
  have hc := joined_any (h := hAnd) rfl spAnd_any enter_spAnd ra rb na nb
  obtain ⟨A1, c1, hva, _⟩ := ra
  obtain ⟨A2, c2, hvb, _⟩ := rb
  subst hva; subst hvb
  have HC := hide hc
  clear hc
  generalize joinF hAnd a b = R at *
  obtain ⟨R1, R2⟩ := R
  go_enter Tryz.func35, Tryz.ntmps35
  go_wp2_with (fail)
  refine HC.out.mono ?_
  rintro e w1 ⟨⟨A3, c3, rfl, ho⟩, hb⟩
  have HO := hide ho
  clear ho
  go_wp2_with (fail)
  go_ret2
  exact ⟨⟨A3, c3, rfl, HO.out⟩, hb⟩
set_option maxHeartbeats 1000000 in
theorem minus_any {a b : List R4} {va vb : Value} {w : World} (ra : RdK encR 4 w w.heap.size va a) (rb : RdK encR 4 w w.heap.size vb b) (na : a.length ≤ 100000000) (nb : b.length ≤ 100000000) :
    Calls Tryz.prog 50 #[va, vb] w fun e w' => RegRet w.heap.size (joinF hSub a b) e w' ∧ Below w.heap.size w w' := by
  have hc := joined_any (h := hSub) rfl spSub_any enter_spSub ra rb na nb
  obtain ⟨A1, c1, hva, _⟩ := ra
  obtain ⟨A2, c2, hvb, _⟩ := rb
  subst hva; subst hvb
  have HC := hide hc
  clear hc
  generalize joinF hSub a b = R at *
  obtain ⟨R1, R2⟩ := R
  go_enter Tryz.func50, Tryz.ntmps50
  go_wp2_with (fail)
  refine HC.out.mono ?_
  rintro e w1 ⟨⟨A3, c3, rfl, ho⟩, hb⟩
  have HO := hide ho
  clear ho
  go_wp2_with (fail)
  go_ret2
  exact ⟨⟨A3, c3, rfl, HO.out⟩, hb⟩
end Go.Proofs.YtpgjfpeepbjflaaGreat

/- Open, Close, Border, Margin of offset and of its reference. -/
namespace Go.Proofs.YtpgjfpeepbjflaaGreat
open Go.RowKit
set_option linter.unusedVariables false
set_option linter.unusedSimpArgs false

theorem hk_rest : hk 3 = hSub := by funext a b; simp [hk, hSub]
def openF (l : List R4) (d : Int) : List R4 × Int := if (shrF l d).2 = 0 then growF (shrF l d).1 d else ([], (shrF l d).2)
def closeF (l : List R4) (d : Int) : List R4 × Int := if (growF l d).2 = 0 then shrF (growF l d).1 d else ([], (growF l d).2)
def borderF (l : List R4) (d : Int) : List R4 × Int := if (shrF l d).2 = 0 then joinF hSub l (shrF l d).1 else ([], (shrF l d).2)
def marginF (l : List R4) (d : Int) : List R4 × Int := if (growF l d).2 = 0 then joinF hSub (growF l d).1 l else ([], (growF l d).2)
theorem carveF_len (a b : List R4) : (carveF a b).1.length ≤ 400 := by
  unfold carveF
  split
  · simp
  · simp only; omega
theorem growF_len (l : List R4) (d : Int) : (growF l d).1.length ≤ 400 := by
  unfold growF
  split
  · split
    · simp
    · exact carveF_len _ _
  · simp
theorem shrF_len (l : List R4) (d : Int) : (shrF l d).1.length ≤ 400 := by
  unfold shrF
  split
  · split
    · simp
    · simp only; omega
  · simp
set_option maxHeartbeats 2000000 in
theorem oOpen_any {w : World} {v : Value} {l : List R4} (hr : RdK encR 4 w w.heap.size v l) (hl : l.length ≤ 100000000) (d : Int) :
    Calls Tryz.prog 23 #[v, .int .i64 d] w fun e w' => RegRet w.heap.size (openF l d) e w' ∧ Below w.heap.size w w' := by
  have h1 := oShrink_any hr hl d
  have hln := shrF_len l d
  obtain ⟨A, c, hv, _⟩ := id hr
  subst hv
  have h2 : ∀ (W : World) (v : Value), RdK encR 4 W W.heap.size v (shrF l d).1 → Calls Tryz.prog 13 #[v, .int .i64 d] W fun e w' => RegRet W.heap.size (growF (shrF l d).1 d) e w' ∧ Below W.heap.size W w' := fun W v h => oGrow_any h (by omega) d
  have HF : Hid (openF l d = if (shrF l d).2 = 0 then growF (shrF l d).1 d else ([], (shrF l d).2)) := hide rfl
  have H1 := hide h1
  have H2 := hide h2
  clear h1 h2 hr
  generalize shrF l d = S at *
  obtain ⟨S, e0⟩ := S
  simp only at HF H2 hln
  by_cases h0 : e0 = 0
  · subst h0
    have HF2 : Hid (openF l d = growF S d) := hide (by rw [HF.out, if_pos rfl])
    clear HF
    generalize growF S d = R at *
    obtain ⟨R, e1⟩ := R
    go_enter Tryz.func23, Tryz.ntmps23
    go_wp2_with (fail)
    refine H1.out.mono ?_
    rintro e w1 ⟨⟨A1, c1, rfl, ho1⟩, hb1⟩
    have HRD := hide (own_rd ho1 (fun _ => rfl))
    have HB1 := hide hb1
    have hs1 := hb1.size
    clear ho1 hb1 H1
    go_wp2_with (fail)
    refine (H2.out _ _ HRD.out).mono ?_
    rintro e w2 ⟨⟨A2, c2, rfl, ho2⟩, hb2⟩
    have HO2 := hide (own_base ho2 hs1)
    have HB2 := hide (HB1.out.trans (hb2.mono hs1))
    clear ho2 hb2 H2
    go_wp2_with (fail)
    go_ret2
    exact ⟨⟨A2, c2, by rw [HF2.out]; rfl, by rw [HF2.out]; exact HO2.out⟩, HB2.out⟩
  · have hz : (e0 != 0) = true := by simpa using h0
    have HF2 : Hid (openF l d = ([], e0)) := hide (by rw [HF.out, if_neg h0])
    clear HF h0 H2
    go_enter Tryz.func23, Tryz.ntmps23
    go_wp2_with (fail)
    refine H1.out.mono ?_
    rintro e w1 ⟨⟨A1, c1, rfl, ho1⟩, hb1⟩
    have HB1 := hide hb1
    clear ho1 hb1 H1
    go_wp2_with (fail)
    go_ret2
    exact ⟨⟨none, 0, by rw [HF2.out]; rfl, by rw [HF2.out]; exact World.ownsRow_nil _ _ _ _⟩, HB1.out⟩
set_option maxHeartbeats 2000000 in
theorem oClose_any {w : World} {v : Value} {l : List R4} (hr : RdK encR 4 w w.heap.size v l) (hl : l.length ≤ 100000000) (d : Int) :
    Calls Tryz.prog 25 #[v, .int .i64 d] w fun e w' => RegRet w.heap.size (closeF l d) e w' ∧ Below w.heap.size w w' := by
  have h1 := oGrow_any hr hl d
  have hln := growF_len l d
  obtain ⟨A, c, hv, _⟩ := id hr
  subst hv
  have h2 : ∀ (W : World) (v : Value), RdK encR 4 W W.heap.size v (growF l d).1 → Calls Tryz.prog 15 #[v, .int .i64 d] W fun e w' => RegRet W.heap.size (shrF (growF l d).1 d) e w' ∧ Below W.heap.size W w' := fun W v h => oShrink_any h (by omega) d
  have HF : Hid (closeF l d = if (growF l d).2 = 0 then shrF (growF l d).1 d else ([], (growF l d).2)) := hide rfl
  have H1 := hide h1
  have H2 := hide h2
  clear h1 h2 hr
  generalize growF l d = S at *
  obtain ⟨S, e0⟩ := S
  simp only at HF H2 hln
  by_cases h0 : e0 = 0
  · subst h0
    have HF2 : Hid (closeF l d = shrF S d) := hide (by rw [HF.out, if_pos rfl])
    clear HF
    generalize shrF S d = R at *
    obtain ⟨R, e1⟩ := R
    go_enter Tryz.func25, Tryz.ntmps25
    go_wp2_with (fail)
    refine H1.out.mono ?_
    rintro e w1 ⟨⟨A1, c1, rfl, ho1⟩, hb1⟩
    have HRD := hide (own_rd ho1 (fun _ => rfl))
    have HB1 := hide hb1
    have hs1 := hb1.size
    clear ho1 hb1 H1
    go_wp2_with (fail)
    refine (H2.out _ _ HRD.out).mono ?_
    rintro e w2 ⟨⟨A2, c2, rfl, ho2⟩, hb2⟩
    have HO2 := hide (own_base ho2 hs1)
    have HB2 := hide (HB1.out.trans (hb2.mono hs1))
    clear ho2 hb2 H2
    go_wp2_with (fail)
    go_ret2
    exact ⟨⟨A2, c2, by rw [HF2.out]; rfl, by rw [HF2.out]; exact HO2.out⟩, HB2.out⟩
  · have hz : (e0 != 0) = true := by simpa using h0
    have HF2 : Hid (closeF l d = ([], e0)) := hide (by rw [HF.out, if_neg h0])
    clear HF h0 H2
    go_enter Tryz.func25, Tryz.ntmps25
    go_wp2_with (fail)
    refine H1.out.mono ?_
    rintro e w1 ⟨⟨A1, c1, rfl, ho1⟩, hb1⟩
    have HB1 := hide hb1
    clear ho1 hb1 H1
    go_wp2_with (fail)
    go_ret2
    exact ⟨⟨none, 0, by rw [HF2.out]; rfl, by rw [HF2.out]; exact World.ownsRow_nil _ _ _ _⟩, HB1.out⟩
set_option maxHeartbeats 2000000 in
theorem oBorder_any {w : World} {v : Value} {l : List R4} (hr : RdK encR 4 w w.heap.size v l) (hl : l.length ≤ 100000000) (d : Int) :
    Calls Tryz.prog 27 #[v, .int .i64 d] w fun e w' => RegRet w.heap.size (borderF l d) e w' ∧ Below w.heap.size w w' := by
  have h1 := oShrink_any hr hl d
  have hln := shrF_len l d
  obtain ⟨A, c, hv, _⟩ := id hr
  subst hv
  have hr2 := fun (W : World) (hW : Below w.heap.size w W) => (hr.below hW).mono hW.size
  have h2 : ∀ (W : World) (v : Value), Below w.heap.size w W → RdK encR 4 W W.heap.size v (shrF l d).1 → Calls Tryz.prog 50 #[.slice A l.length c, v] W fun e w' => RegRet W.heap.size (joinF hSub l (shrF l d).1) e w' ∧ Below W.heap.size W w' := fun W v hW h => minus_any (hr2 W hW) h (by omega) (by omega)
  have HF : Hid (borderF l d = if (shrF l d).2 = 0 then joinF hSub l (shrF l d).1 else ([], (shrF l d).2)) := hide rfl
  have H1 := hide h1
  have H2 := hide h2
  clear h1 h2 hr hr2
  generalize shrF l d = S at *
  obtain ⟨S, e0⟩ := S
  simp only at HF H2 hln
  by_cases h0 : e0 = 0
  · subst h0
    have HF2 : Hid (borderF l d = joinF hSub l S) := hide (by rw [HF.out, if_pos rfl])
    clear HF
    generalize joinF hSub l S = R at *
    obtain ⟨R, e1⟩ := R
    go_enter Tryz.func27, Tryz.ntmps27
    go_wp2_with (fail)
    refine H1.out.mono ?_
    rintro e w1 ⟨⟨A1, c1, rfl, ho1⟩, hb1⟩
    have HRD := hide (own_rd ho1 (fun _ => rfl))
    have HB1 := hide hb1
    have hs1 := hb1.size
    clear ho1 hb1 H1
    go_wp2_with (fail)
    refine (H2.out _ _ HB1.out HRD.out).mono ?_
    rintro e w2 ⟨⟨A2, c2, rfl, ho2⟩, hb2⟩
    have HO2 := hide (own_base ho2 hs1)
    have HB2 := hide (HB1.out.trans (hb2.mono hs1))
    clear ho2 hb2 H2
    go_wp2_with (fail)
    go_ret2
    exact ⟨⟨A2, c2, by rw [HF2.out]; rfl, by rw [HF2.out]; exact HO2.out⟩, HB2.out⟩
  · have hz : (e0 != 0) = true := by simpa using h0
    have HF2 : Hid (borderF l d = ([], e0)) := hide (by rw [HF.out, if_neg h0])
    clear HF h0 H2
    go_enter Tryz.func27, Tryz.ntmps27
    go_wp2_with (fail)
    refine H1.out.mono ?_
    rintro e w1 ⟨⟨A1, c1, rfl, ho1⟩, hb1⟩
    have HB1 := hide hb1
    clear ho1 hb1 H1
    go_wp2_with (fail)
    go_ret2
    exact ⟨⟨none, 0, by rw [HF2.out]; rfl, by rw [HF2.out]; exact World.ownsRow_nil _ _ _ _⟩, HB1.out⟩
set_option maxHeartbeats 2000000 in
theorem oMargin_any {w : World} {v : Value} {l : List R4} (hr : RdK encR 4 w w.heap.size v l) (hl : l.length ≤ 100000000) (d : Int) :
    Calls Tryz.prog 29 #[v, .int .i64 d] w fun e w' => RegRet w.heap.size (marginF l d) e w' ∧ Below w.heap.size w w' := by
  have h1 := oGrow_any hr hl d
  have hln := growF_len l d
  obtain ⟨A, c, hv, _⟩ := id hr
  subst hv
  have hr2 := fun (W : World) (hW : Below w.heap.size w W) => (hr.below hW).mono hW.size
  have h2 : ∀ (W : World) (v : Value), Below w.heap.size w W → RdK encR 4 W W.heap.size v (growF l d).1 → Calls Tryz.prog 50 #[v, .slice A l.length c] W fun e w' => RegRet W.heap.size (joinF hSub (growF l d).1 l) e w' ∧ Below W.heap.size W w' := fun W v hW h => minus_any h (hr2 W hW) (by omega) (by omega)
  have HF : Hid (marginF l d = if (growF l d).2 = 0 then joinF hSub (growF l d).1 l else ([], (growF l d).2)) := hide rfl
  have H1 := hide h1
  have H2 := hide h2
  clear h1 h2 hr hr2
  generalize growF l d = S at *
  obtain ⟨S, e0⟩ := S
  simp only at HF H2 hln
  by_cases h0 : e0 = 0
  · subst h0
    have HF2 : Hid (marginF l d = joinF hSub S l) := hide (by rw [HF.out, if_pos rfl])
    clear HF
    generalize joinF hSub S l = R at *
    obtain ⟨R, e1⟩ := R
    go_enter Tryz.func29, Tryz.ntmps29
    go_wp2_with (fail)
    refine H1.out.mono ?_
    rintro e w1 ⟨⟨A1, c1, rfl, ho1⟩, hb1⟩
    have HRD := hide (own_rd ho1 (fun _ => rfl))
    have HB1 := hide hb1
    have hs1 := hb1.size
    clear ho1 hb1 H1
    go_wp2_with (fail)
    refine (H2.out _ _ HB1.out HRD.out).mono ?_
    rintro e w2 ⟨⟨A2, c2, rfl, ho2⟩, hb2⟩
    have HO2 := hide (own_base ho2 hs1)
    have HB2 := hide (HB1.out.trans (hb2.mono hs1))
    clear ho2 hb2 H2
    go_wp2_with (fail)
    go_ret2
    exact ⟨⟨A2, c2, by rw [HF2.out]; rfl, by rw [HF2.out]; exact HO2.out⟩, HB2.out⟩
  · have hz : (e0 != 0) = true := by simpa using h0
    have HF2 : Hid (marginF l d = ([], e0)) := hide (by rw [HF.out, if_neg h0])
    clear HF h0 H2
    go_enter Tryz.func29, Tryz.ntmps29
    go_wp2_with (fail)
    refine H1.out.mono ?_
    rintro e w1 ⟨⟨A1, c1, rfl, ho1⟩, hb1⟩
    have HB1 := hide hb1
    clear ho1 hb1 H1
    go_wp2_with (fail)
    go_ret2
    exact ⟨⟨none, 0, by rw [HF2.out]; rfl, by rw [HF2.out]; exact World.ownsRow_nil _ _ _ _⟩, HB1.out⟩
set_option maxHeartbeats 2000000 in
theorem rOpen_any {w : World} {v : Value} {l : List R4} (hr : RdK encR 4 w w.heap.size v l) (hl : l.length ≤ 100000000) (d : Int) :
    Calls Tryz.prog 24 #[v, .int .i64 d] w fun e w' => RegRet w.heap.size (openF l d) e w' ∧ Below w.heap.size w w' := by
  have h1 := rShrink_any hr hl d
  have hln := shrF_len l d
  obtain ⟨A, c, hv, _⟩ := id hr
  subst hv
  have h2 : ∀ (W : World) (v : Value), RdK encR 4 W W.heap.size v (shrF l d).1 → Calls Tryz.prog 14 #[v, .int .i64 d] W fun e w' => RegRet W.heap.size (growF (shrF l d).1 d) e w' ∧ Below W.heap.size W w' := fun W v h => rGrow_any h (by omega) d
  have HF : Hid (openF l d = if (shrF l d).2 = 0 then growF (shrF l d).1 d else ([], (shrF l d).2)) := hide rfl
  have H1 := hide h1
  have H2 := hide h2
  clear h1 h2 hr
  generalize shrF l d = S at *
  obtain ⟨S, e0⟩ := S
  simp only at HF H2 hln
  by_cases h0 : e0 = 0
  · subst h0
    have HF2 : Hid (openF l d = growF S d) := hide (by rw [HF.out, if_pos rfl])
    clear HF
    generalize growF S d = R at *
    obtain ⟨R, e1⟩ := R
    go_enter Tryz.func24, Tryz.ntmps24
    go_wp2_with (fail)
    refine H1.out.mono ?_
    rintro e w1 ⟨⟨A1, c1, rfl, ho1⟩, hb1⟩
    have HRD := hide (own_rd ho1 (fun _ => rfl))
    have HB1 := hide hb1
    have hs1 := hb1.size
    clear ho1 hb1 H1
    go_wp2_with (fail)
    refine (H2.out _ _ HRD.out).mono ?_
    rintro e w2 ⟨⟨A2, c2, rfl, ho2⟩, hb2⟩
    have HO2 := hide (own_base ho2 hs1)
    have HB2 := hide (HB1.out.trans (hb2.mono hs1))
    clear ho2 hb2 H2
    go_wp2_with (fail)
    go_ret2
    exact ⟨⟨A2, c2, by rw [HF2.out]; rfl, by rw [HF2.out]; exact HO2.out⟩, HB2.out⟩
  · have hz : (e0 != 0) = true := by simpa using h0
    have HF2 : Hid (openF l d = ([], e0)) := hide (by rw [HF.out, if_neg h0])
    clear HF h0 H2
    go_enter Tryz.func24, Tryz.ntmps24
    go_wp2_with (fail)
    refine H1.out.mono ?_
    rintro e w1 ⟨⟨A1, c1, rfl, ho1⟩, hb1⟩
    have HB1 := hide hb1
    clear ho1 hb1 H1
    go_wp2_with (fail)
    go_ret2
    exact ⟨⟨none, 0, by rw [HF2.out]; rfl, by rw [HF2.out]; exact World.ownsRow_nil _ _ _ _⟩, HB1.out⟩
set_option maxHeartbeats 2000000 in
theorem rClose_any {w : World} {v : Value} {l : List R4} (hr : RdK encR 4 w w.heap.size v l) (hl : l.length ≤ 100000000) (d : Int) :
    Calls Tryz.prog 26 #[v, .int .i64 d] w fun e w' => RegRet w.heap.size (closeF l d) e w' ∧ Below w.heap.size w w' := by
  have h1 := rGrow_any hr hl d
  have hln := growF_len l d
  obtain ⟨A, c, hv, _⟩ := id hr
  subst hv
  have h2 : ∀ (W : World) (v : Value), RdK encR 4 W W.heap.size v (growF l d).1 → Calls Tryz.prog 16 #[v, .int .i64 d] W fun e w' => RegRet W.heap.size (shrF (growF l d).1 d) e w' ∧ Below W.heap.size W w' := fun W v h => rShrink_any h (by omega) d
  have HF : Hid (closeF l d = if (growF l d).2 = 0 then shrF (growF l d).1 d else ([], (growF l d).2)) := hide rfl
  have H1 := hide h1
  have H2 := hide h2
  clear h1 h2 hr
  generalize growF l d = S at *
  obtain ⟨S, e0⟩ := S
  simp only at HF H2 hln
  by_cases h0 : e0 = 0
  · subst h0
    have HF2 : Hid (closeF l d = shrF S d) := hide (by rw [HF.out, if_pos rfl])
    clear HF
    generalize shrF S d = R at *
    obtain ⟨R, e1⟩ := R
    go_enter Tryz.func26, Tryz.ntmps26
    go_wp2_with (fail)
    refine H1.out.mono ?_
    rintro e w1 ⟨⟨A1, c1, rfl, ho1⟩, hb1⟩
    have HRD := hide (own_rd ho1 (fun _ => rfl))
    have HB1 := hide hb1
    have hs1 := hb1.size
    clear ho1 hb1 H1
    go_wp2_with (fail)
    refine (H2.out _ _ HRD.out).mono ?_
    rintro e w2 ⟨⟨A2, c2, rfl, ho2⟩, hb2⟩
    have HO2 := hide (own_base ho2 hs1)
    have HB2 := hide (HB1.out.trans (hb2.mono hs1))
    clear ho2 hb2 H2
    go_wp2_with (fail)
    go_ret2
    exact ⟨⟨A2, c2, by rw [HF2.out]; rfl, by rw [HF2.out]; exact HO2.out⟩, HB2.out⟩
  · have hz : (e0 != 0) = true := by simpa using h0
    have HF2 : Hid (closeF l d = ([], e0)) := hide (by rw [HF.out, if_neg h0])
    clear HF h0 H2
    go_enter Tryz.func26, Tryz.ntmps26
    go_wp2_with (fail)
    refine H1.out.mono ?_
    rintro e w1 ⟨⟨A1, c1, rfl, ho1⟩, hb1⟩
    have HB1 := hide hb1
    clear ho1 hb1 H1
    go_wp2_with (fail)
    go_ret2
    exact ⟨⟨none, 0, by rw [HF2.out]; rfl, by rw [HF2.out]; exact World.ownsRow_nil _ _ _ _⟩, HB1.out⟩
set_option maxHeartbeats 2000000 in
theorem rBorder_any {w : World} {v : Value} {l : List R4} (hr : RdK encR 4 w w.heap.size v l) (hl : l.length ≤ 100000000) (d : Int) :
    Calls Tryz.prog 28 #[v, .int .i64 d] w fun e w' => RegRet w.heap.size (borderF l d) e w' ∧ Below w.heap.size w w' := by
  have h1 := rShrink_any hr hl d
  have hln := shrF_len l d
  obtain ⟨A, c, hv, _⟩ := id hr
  subst hv
  have hr2 := fun (W : World) (hW : Below w.heap.size w W) => (hr.below hW).mono hW.size
  have h2 : ∀ (W : World) (v : Value), Below w.heap.size w W → RdK encR 4 W W.heap.size v (shrF l d).1 → Calls Tryz.prog 51 #[.int .i64 3, .slice A l.length c, v] W fun e w' => RegRet W.heap.size (joinF hSub l (shrF l d).1) e w' ∧ Below W.heap.size W w' := fun W v hW h => by
    have := rJoin_any 3 (.inr (.inr rfl)) (hr2 W hW) h (by omega) (by omega)
    rw [hk_rest] at this
    exact this
  have HF : Hid (borderF l d = if (shrF l d).2 = 0 then joinF hSub l (shrF l d).1 else ([], (shrF l d).2)) := hide rfl
  have H1 := hide h1
  have H2 := hide h2
  clear h1 h2 hr hr2
  generalize shrF l d = S at *
  obtain ⟨S, e0⟩ := S
  simp only at HF H2 hln
  by_cases h0 : e0 = 0
  · subst h0
    have HF2 : Hid (borderF l d = joinF hSub l S) := hide (by rw [HF.out, if_pos rfl])
    clear HF
    generalize joinF hSub l S = R at *
    obtain ⟨R, e1⟩ := R
    go_enter Tryz.func28, Tryz.ntmps28
    go_wp2_with (fail)
    refine H1.out.mono ?_
    rintro e w1 ⟨⟨A1, c1, rfl, ho1⟩, hb1⟩
    have HRD := hide (own_rd ho1 (fun _ => rfl))
    have HB1 := hide hb1
    have hs1 := hb1.size
    clear ho1 hb1 H1
    go_wp2_with (fail)
    refine (H2.out _ _ HB1.out HRD.out).mono ?_
    rintro e w2 ⟨⟨A2, c2, rfl, ho2⟩, hb2⟩
    have HO2 := hide (own_base ho2 hs1)
    have HB2 := hide (HB1.out.trans (hb2.mono hs1))
    clear ho2 hb2 H2
    go_wp2_with (fail)
    go_ret2
    exact ⟨⟨A2, c2, by rw [HF2.out]; rfl, by rw [HF2.out]; exact HO2.out⟩, HB2.out⟩
  · have hz : (e0 != 0) = true := by simpa using h0
    have HF2 : Hid (borderF l d = ([], e0)) := hide (by rw [HF.out, if_neg h0])
    clear HF h0 H2
    go_enter Tryz.func28, Tryz.ntmps28
    go_wp2_with (fail)
    refine H1.out.mono ?_
    rintro e w1 ⟨⟨A1, c1, rfl, ho1⟩, hb1⟩
    have HB1 := hide hb1
    clear ho1 hb1 H1
    go_wp2_with (fail)
    go_ret2
    exact ⟨⟨none, 0, by rw [HF2.out]; rfl, by rw [HF2.out]; exact World.ownsRow_nil _ _ _ _⟩, HB1.out⟩
set_option maxHeartbeats 2000000 in
theorem rMargin_any {w : World} {v : Value} {l : List R4} (hr : RdK encR 4 w w.heap.size v l) (hl : l.length ≤ 100000000) (d : Int) :
    Calls Tryz.prog 30 #[v, .int .i64 d] w fun e w' => RegRet w.heap.size (marginF l d) e w' ∧ Below w.heap.size w w' := by
  have h1 := rGrow_any hr hl d
  have hln := growF_len l d
  obtain ⟨A, c, hv, _⟩ := id hr
  subst hv
  have hr2 := fun (W : World) (hW : Below w.heap.size w W) => (hr.below hW).mono hW.size
  have h2 : ∀ (W : World) (v : Value), Below w.heap.size w W → RdK encR 4 W W.heap.size v (growF l d).1 → Calls Tryz.prog 51 #[.int .i64 3, v, .slice A l.length c] W fun e w' => RegRet W.heap.size (joinF hSub (growF l d).1 l) e w' ∧ Below W.heap.size W w' := fun W v hW h => by
    have := rJoin_any 3 (.inr (.inr rfl)) h (hr2 W hW) (by omega) (by omega)
    rw [hk_rest] at this
    exact this
  have HF : Hid (marginF l d = if (growF l d).2 = 0 then joinF hSub (growF l d).1 l else ([], (growF l d).2)) := hide rfl
  have H1 := hide h1
  have H2 := hide h2
  clear h1 h2 hr hr2
  generalize growF l d = S at *
  obtain ⟨S, e0⟩ := S
  simp only at HF H2 hln
  by_cases h0 : e0 = 0
  · subst h0
    have HF2 : Hid (marginF l d = joinF hSub S l) := hide (by rw [HF.out, if_pos rfl])
    clear HF
    generalize joinF hSub S l = R at *
    obtain ⟨R, e1⟩ := R
    go_enter Tryz.func30, Tryz.ntmps30
    go_wp2_with (fail)
    refine H1.out.mono ?_
    rintro e w1 ⟨⟨A1, c1, rfl, ho1⟩, hb1⟩
    have HRD := hide (own_rd ho1 (fun _ => rfl))
    have HB1 := hide hb1
    have hs1 := hb1.size
    clear ho1 hb1 H1
    go_wp2_with (fail)
    refine (H2.out _ _ HB1.out HRD.out).mono ?_
    rintro e w2 ⟨⟨A2, c2, rfl, ho2⟩, hb2⟩
    have HO2 := hide (own_base ho2 hs1)
    have HB2 := hide (HB1.out.trans (hb2.mono hs1))
    clear ho2 hb2 H2
    go_wp2_with (fail)
    go_ret2
    exact ⟨⟨A2, c2, by rw [HF2.out]; rfl, by rw [HF2.out]; exact HO2.out⟩, HB2.out⟩
  · have hz : (e0 != 0) = true := by simpa using h0
    have HF2 : Hid (marginF l d = ([], e0)) := hide (by rw [HF.out, if_neg h0])
    clear HF h0 H2
    go_enter Tryz.func30, Tryz.ntmps30
    go_wp2_with (fail)
    refine H1.out.mono ?_
    rintro e w1 ⟨⟨A1, c1, rfl, ho1⟩, hb1⟩
    have HB1 := hide hb1
    clear ho1 hb1 H1
    go_wp2_with (fail)
    go_ret2
    exact ⟨⟨none, 0, by rw [HF2.out]; rfl, by rw [HF2.out]; exact World.ownsRow_nil _ _ _ _⟩, HB1.out⟩
end Go.Proofs.YtpgjfpeepbjflaaGreat

/- append(x, y...) where y reads as a list, empty or nil let in; and the reference's Twin. -/
namespace Go.Proofs.YtpgjfpeepbjflaaGreat
open Go.RowKit
set_option linter.unusedVariables false
set_option linter.unusedSimpArgs false

section
variable {P : Program} {α : Type} {enc : α → List Value} {k : Nat}
theorem run_app_rd (w : World) (henc : ∀ x, (enc x).length = k) (hint : ∀ (l : List α), ∀ u ∈ l.flatMap enc, u.oneCell' = true) (base : Nat) (t ty e : TypeId) (i : TypeInfo) (z : Value) (bytes : Nat)
    (ht : P.underlying t = some (.slice e)) (hi : P.info? e = some i) (hz : i.zero = some z) (hsize : i.size = k) (hby : i.bytes = bytes) (hzs : z.cells.size = k) (hsz : 0 < k)
    (v : Value) (n : Nat) (xs : List Value) (hown : w.ownsRow base e k v n xs) (B : Nat) (x : Value) (l : List α) (hr : RdK enc k w B x l) (h63 : n + l.length ≤ maxLen) (hbytes : (n + l.length) * bytes ≤ 140737488355328) (hbase : base ≤ w.heap.size) :
    ∃ v' w', (Builtin.append_ #[t, t] ty #[v, x]).run P w = .ok v' w' ∧ w'.ownsRow base e k v' (n + l.length) (xs ++ l.flatMap enc) ∧ w.grownBy w' v.ownBlock := by
  obtain ⟨A, c, rfl, hc⟩ := hr
  have key : ∀ ad : Addr, (∀ j u, (l.flatMap enc)[j]? = some u → w.cell? (ad.add j) = some u) → ∃ v' w', (Builtin.append_ #[t, t] ty #[v, .slice (some ad) l.length c]).run P w = .ok v' w' ∧ w'.ownsRow base e k v' (n + l.length) (xs ++ l.flatMap enc) ∧ w.grownBy w' v.ownBlock := by
    intro ad had
    obtain ⟨v', w', h1, h2, h3, _, _⟩ := run_append_own_at (P := P) w base t ty e i z k bytes ht hi hz hsize hby hzs hsz v n xs hown ad l.length c (l.flatMap enc) (by rw [flat_len henc]) had (hint l) h63 hbytes hbase
    exact ⟨v', w', h1, h2, h3⟩
  by_cases hl : l = []
  · subst hl
    cases A with
    | some ad => exact key ad (by simp)
    | none =>
      refine ⟨v, w, ?_, by simpa using hown, grown_refl _ _⟩
      rcases hown.2 with ⟨rfl, rfl⟩ | ⟨g, cap, cur, rfl, _, _, hnc, _⟩
      · simp [Builtin.append_, run_underlying ht, sizeOf, typeInfo, hi, Builtin.lenOf, Builtin.firstCells]
      · simp [Builtin.append_, run_underlying ht, sizeOf, typeInfo, hi, Builtin.lenOf, Builtin.firstCells, hnc, storeCells]
  · obtain ⟨b, off, rfl, hb, hcell⟩ := hc hl
    refine key _ fun j u hu => ?_
    have hj : j < (l.flatMap enc).length := (List.getElem?_eq_some_iff.1 hu).1
    rw [flat_len henc] at hj
    have hq : j / k < l.length := (Nat.div_lt_iff_lt_mul hsz).2 hj
    have e1 : j / k * k + j % k = j := by rw [Nat.mul_comm]; exact Nat.div_add_mod j k
    have hu2 : (enc l[j / k])[j % k]? = some u := by
      have h1 := List.getElem?_eq_getElem (l := enc l[j / k]) (i := j % k) (by rw [henc]; exact Nat.mod_lt _ hsz)
      have h2 := flat_get henc l (j / k) _ (j % k) _ (List.getElem?_eq_getElem hq) h1
      rw [e1, hu] at h2
      rw [h1]; exact h2.symm
    have := hcell (j / k) _ (List.getElem?_eq_getElem hq) (j % k) u hu2
    rw [Nat.add_assoc, e1] at this
    have e2 : (⟨b, off, none⟩ : Addr).add j = ⟨b, off + j, none⟩ := by unfold Addr.add; split <;> simp_all
    rw [e2]; exact this

theorem wp_app_rd (w : World) {o : Oper} {a : Act} {K : Act → World → Prop} {Q : Exit → Act → World → Prop} (henc : ∀ x, (enc x).length = k) (hint : ∀ (l : List α), ∀ u ∈ l.flatMap enc, u.oneCell' = true) (s x : Operand) (t : TypeId)
    (ho : o.op = .call { callee := .builtin .append, args := #[s, x], argTypes := #[t, t] }) (base : Nat) (e : TypeId) (i : TypeInfo) (z : Value) (bytes : Nat)
    (ht : P.underlying t = some (.slice e)) (hi : P.info? e = some i) (hz : i.zero = some z) (hsize : i.size = k) (hby : i.bytes = bytes) (hzs : z.cells.size = k) (hsz : 0 < k)
    (v : Value) (n : Nat) (xs : List Value) (hs : a.eval s = v) (hown : w.ownsRow base e k v n xs) (B : Nat) (l : List α) (hr : RdK enc k w B (a.eval x) l) (h63 : n + l.length ≤ maxLen) (hbytes : (n + l.length) * bytes ≤ 140737488355328) (hbase : base ≤ w.heap.size)
    (h : ∀ v' w', w'.ownsRow base e k v' (n + l.length) (xs ++ l.flatMap enc) → w.grownBy w' v.ownBlock → K (a.put o.dst v') w') : o.wp P a w K Q := by
  obtain ⟨v', w', hrun, h2, h3⟩ := run_app_rd (P := P) w henc hint base t o.type e i z bytes ht hi hz hsize hby hzs hsz v n xs hown B _ l hr h63 hbytes hbase
  unfold Oper.wp execOp
  simp only [ho, resolve, invoke, builtin, Sem.run_bind, Sem.run_pure, Result.andThen_ok, List.map_toArray, List.map_cons, List.map_nil, hs, hrun]
  exact h v' w' h2 h3
theorem wpList_app_rd {w : World} {ops : Array Oper} {rest : List Oper} {o : Oper} {a : Act} {Q : Exit → Act → World → Prop} (hgd : o.guard = none) (henc : ∀ x, (enc x).length = k) (hint : ∀ (l : List α), ∀ u ∈ l.flatMap enc, u.oneCell' = true) (s x : Operand) (t : TypeId)
    (ho : o.op = .call { callee := .builtin .append, args := #[s, x], argTypes := #[t, t] }) (base : Nat) (e : TypeId) (i : TypeInfo) (z : Value) (bytes : Nat)
    (ht : P.underlying t = some (.slice e)) (hi : P.info? e = some i) (hz : i.zero = some z) (hsize : i.size = k) (hby : i.bytes = bytes) (hzs : z.cells.size = k) (hsz : 0 < k)
    (v : Value) (n : Nat) (xs : List Value) (hs : a.eval s = v) (hown : w.ownsRow base e k v n xs) (B : Nat) (l : List α) (hr : RdK enc k w B (a.eval x) l) (h63 : n + l.length ≤ maxLen) (hbytes : (n + l.length) * bytes ≤ 140737488355328) (hbase : base ≤ w.heap.size)
    (h : ∀ v' w', w'.ownsRow base e k v' (n + l.length) (xs ++ l.flatMap enc) → w.grownBy w' v.ownBlock → wpList P ops Q rest (a.put o.dst v') w') : wpList P ops Q (o :: rest) a w :=
  wpList_plain hgd fun _ hK => wp_app_rd w henc hint s x t ho base e i z bytes ht hi hz hsize hby hzs hsz v n xs hs hown B l hr h63 hbytes hbase fun v' w' h2 h3 => hK _ _ (h v' w' h2 h3)
end
theorem one_encR (l : List R4) : ∀ u ∈ l.flatMap encR, u.oneCell' = true := by
  intro u hu
  obtain ⟨r, _, hr⟩ := List.mem_flatMap.1 hu
  simp only [encR, List.mem_cons, List.not_mem_nil, or_false] at hr
  rcases hr with rfl | rfl | rfl | rfl <;> rfl

set_option maxHeartbeats 1000000 in
theorem rTwin_any {w : World} {v : Value} {l : List R4} (hr : RdK encR 4 w w.heap.size v l) (hl : l.length ≤ 100000000) :
    Calls Tryz.prog 12 #[v] w fun e w' => ∃ vo, e = .returned vo ∧ w'.ownsRow w.heap.size 48 4 vo l.length (l.flatMap encR) ∧ Below w.heap.size w w' := by
  obtain ⟨i1, gi, gz0, gz1, gz2⟩ := info_parts infoRc
  obtain ⟨A, c, hv, _⟩ := id hr
  subst hv
  have HR := hide hr
  clear hr
  go_enter Tryz.func12, Tryz.ntmps12
  go_wp2_with (at_builtin; go_loud (refine wpList_app_rd (enc := encR) (k := 4) (l := l) rfl (fun _ => rfl) one_encR (.tmp 3) (.tmp 4) 22 rfl w.heap.size 48 i1 (.agg #[.int .i64 0, .int .i64 0, .int .i64 0, .int .i64 0]) 32 Tryz.underlying22 gi gz0 gz1 gz2 rfl (by decide) (.slice (some ⟨w.heap.size, 0, none⟩) 0 0) 0 [] rfl ⟨by simp, .inr ⟨w.heap.size, 0, #[], rfl, Nat.le_refl _, World.alloc_heap_new _ _, Nat.le_refl _, by simp [maxLen], by simp, by simp⟩⟩ w.heap.size (HR.out.below ((Below.refl _ _).alloc (Nat.le_refl _) _)) (by unfold maxLen; omega) (by omega) (by simp) ?_))
  intro v2 w2 hown2 hg2
  have hb2 : Below w.heap.size w w2 := ((Below.refl _ _).alloc (Nat.le_refl _) _).grown hg2 (by simp) (fun q hq => by simp [Value.ownBlock] at hq; omega)
  have HO := hide hown2
  clear hown2 hg2
  go_wp2
  go_ret
  exact ⟨_, rfl, own_n (by simpa using HO.out) (by simp), hb2⟩
end Go.Proofs.YtpgjfpeepbjflaaGreat

/- RegionMakes' walk: Check, Make, Has, Area and Same against the reference. -/
namespace Go.Proofs.YtpgjfpeepbjflaaGreat
open Go.RowKit
set_option linter.unusedVariables false
set_option linter.unusedSimpArgs false

theorem not_great {n : Nat} (h : ¬ greatP n) : n ≤ 420 := by unfold greatP at h; omega
theorem rSameSelf {w : World} {v v' : Value} {l : List R4} (h : RdK encR 4 w w.heap.size v l) (h' : RdK encR 4 w w.heap.size v' l) (hl : l.length ≤ 100000000) :
    Calls Tryz.prog 19 #[v, v'] w fun e w' => e = .returned (.bool true) ∧ Below w.heap.size w w' := by
  have := rSameRects_any h h' hl (Nat.le_refl _) (Nat.le_refl _)
  rwa [decide_eq_true rfl] at this

end Go.Proofs.YtpgjfpeepbjflaaGreat

/- The last step from a walk to a given statement, for every law of the seat: the call returns true, and what lay in memory lies as it lay. -/
namespace Go.Proofs.YtpgjfpeepbjflaaGreat
open Go.ChangeShapes Go.WideShapes Go.ChangeAt Go.RowKit Go.Joins Go.Deep
set_option linter.unusedVariables false
set_option linter.unusedSimpArgs false

theorem own : ownKnob Tryz.prog.godebug = none := by kernel_rfl
theorem laidOut : laidOutB Tryz.prog = true := by kernel_rfl

section
variable {H : Type} {enc : TypeId × Value → H}
theorem trodAll_carry {P : Program} (hl : laidOutB P = true) {W W' : World} (hb : Below W.heap.size W W') :
    ∀ (ts : List TypeId) (vs : List Value) (ds : List (DataW H)) (ps : List MemPlace), (ts.all fun t => P.readableRec t && decide (t < P.types.size)) = true →
      DataW.TrodAll enc P W 0 (fun _ => true) true ts vs ds ps → (∀ x ∈ ps, x.block < W.heap.size) → DataW.TrodAll enc P W' 0 (fun b => decide (b < W.heap.size)) true ts vs ds ps
  | [], [], [], ps, _, h, _ => h
  | [], [], _ :: _, _, _, h, _ => h.elim
  | [], _ :: _, _, _, _, h, _ => h.elim
  | _ :: _, [], _, _, _, h, _ => h.elim
  | _ :: _, _ :: _, [], _, _, h, _ => h.elim
  | t :: ts, v :: vs, d :: ds, ps, hr, h, hlt => by
    obtain ⟨p, q, h1, h2, rfl⟩ := h
    simp only [List.all_cons, Bool.and_eq_true, decide_eq_true_eq] at hr
    refine ⟨p, q, Below.trod hl hr.1.1 hr.1.2 h1 hb (fun x hx => hlt x (by simp [hx])), trodAll_carry hl hb ts vs ds q ?_ h2 (fun x hx => hlt x (by simp [hx])), rfl⟩
    simpa using hr.2

theorem law_post {P : Program} {f : Func} {s : ChangeSpec} {W W' : World} {args : Array Value} {ds gs : List (DataW H)} {before : List MemPlace} {tb : TypeId}
    (hl : laidOutB P = true) (hr : (f.params.toList.all fun t => P.readableRec t && decide (t < P.types.size)) = true) (hres : f.resultTypes = #[tb]) (hbool : P.underlying tb = some .bool)
    (hvars : s.vars = []) (hW : DataW.Whole enc P f.params.toList s.vars false W args.toList ds gs before)
    (hsr : (s.fn H (ds ++ gs)).results = [.lit (.bool true)]) (hsa : (s.fn H (ds ++ gs)).args = ds) (hsv : (s.fn H (ds ++ gs)).vars = [])
    (hb : Below W.heap.size W W') : s.post enc P f false true false false W args (.bool true) W' := by
  have hlt : ∀ p ∈ before, p.block < W.heap.size := fun p hp => hW.lt p hp
  have hW0 := hW
  obtain ⟨p, q, hA, hV, rfl, hz, hn⟩ := hW
  refine ⟨ds, gs, p ++ q, [], p, [], hW0, ?_, ?_, ?_, hb.frame _, fun h => by cases h⟩
  · rw [hsr, hres]
    exact trodAll_mk1 (shut_bool hbool true)
  · rw [hsa]
    exact trodAll_carry hl hb _ _ _ _ hr hA (fun x hx => hlt x (by simp [hx]))
  · rw [hsv, hvars]
    rfl
end
end Go.Proofs.YtpgjfpeepbjflaaGreat

/- An argument that is a list of structs of ints, read as a list. -/
namespace Go.Proofs.YtpgjfpeepbjflaaGreat
open Go.ChangeShapes Go.WideShapes Go.ChangeAt Go.RowKit Go.Joins Go.Deep
set_option linter.unusedVariables false
set_option linter.unusedSimpArgs false

section
variable {H : Type} {enc : TypeId × Value → H} {P : Program} {w : World} {base : Nat} {spare : Nat → Bool} {held : Bool}
/-- The fields of a struct of ints: each one cell, an int. -/
theorem trod_int_fields {t : TypeId} {fs : Array Field} {n : Nat} {cs : List Value} {y : DataW H × List MemPlace} (he : P.underlying t = some (.struct fs)) (hone : oneCellFields P fs = true) (hint : ∀ (j : Nat) (f : Field), fs[j]? = some f → P.underlying f.type = some (.int .i64))
    (hl : cs.length = fs.size) (h : DataW.trod enc P w base spare held n t cs = some y) : ∀ j, j < fs.size → ∃ z : Int, cs[j]? = some (.int .i64 z) := by
  obtain ⟨ys, n', _, _, _, hyl, hf⟩ := DataW.trod_struct he h
  intro j hj
  have hjf : fs[j]? = some fs[j] := Array.getElem?_eq_getElem hj
  obtain ⟨ho, hk⟩ := hone_of hone j _ hjf
  have h1 := hf j _ hjf
  rw [ho, hk] at h1
  have hd : (cs.drop j).take 1 = [cs[j]'(by omega)] := by rw [List.drop_eq_getElem_cons (by omega)]; rfl
  rw [hd] at h1
  have hy : ys[j]? = some (ys[j]'(by omega)) := List.getElem?_eq_getElem (by omega)
  rw [hy] at h1
  obtain ⟨z, hz, _⟩ := DataW.trod_int (hint j _ hjf) h1
  have hz' : cs[j]'(by omega) = .int .i64 z := by simpa using hz
  exact ⟨z, by rw [List.getElem?_eq_getElem (by omega), hz']⟩
/-- A slice of structs of k ints: its cells. -/
theorem trod_rows {t e : TypeId} {fs : Array Field} {v : Value} {d : DataW H} {p : List MemPlace} {r : Reach} {b0 : Nat} (ht : P.underlying t = some (.slice e)) (he : P.underlying e = some (.struct fs)) (hone : oneCellFields P fs = true)
    (hint : ∀ (j : Nat) (f : Field), fs[j]? = some f → P.underlying f.type = some (.int .i64)) (hC : P.cellsOf e = fs.size) (hk : 0 < fs.size) (hv : Value.okWide P w r b0 t v) (h : DataW.Trod enc P w base spare held t v d p) :
    ∃ (A : Option Addr) (n c : Nat) (F : Nat → Nat → Int), v = .slice A n c ∧ n ≤ maxLen ∧ (0 < n → ∃ b off, A = some ⟨b, off, none⟩ ∧ b < w.heap.size ∧ ∀ i j, i < n → j < fs.size → w.cell? ⟨b, off + i * fs.size + j, none⟩ = some (.int .i64 (F i j))) := by
  obtain ⟨A, n, c, rfl⟩ := okWide_slice ht hv
  obtain ⟨fuel, hf⟩ := h
  rcases open_slice ht hf with ⟨hcs, _⟩ | ⟨a, len, cap, m, nn, D, Pl, hcs, hb, hl, hm, hmm, hx, hi⟩
  · simp [Value.cells] at hcs
    obtain ⟨rfl, rfl, rfl⟩ := hcs
    exact ⟨none, 0, 0, fun _ _ => 0, rfl, Nat.zero_le _, fun h => absurd h (Nat.lt_irrefl 0)⟩
  · simp [Value.cells] at hcs
    obtain ⟨rfl, rfl, rfl⟩ := hcs
    have hlm : n ≤ m := by rw [hmm]; split <;> omega
    have key : ∀ i, i < n → ∀ j, j < fs.size → ∃ z : Int, w.cell? (a.add (i * fs.size + j)) = some (.int .i64 z) := by
      intro i hin j hj
      obtain ⟨cs', hc, ht'⟩ := hi i (by omega)
      rw [hC] at hc
      obtain ⟨_, hcl, hat⟩ := World.cells?_some hc
      obtain ⟨z, hz⟩ := trod_int_fields he hone hint hcl ht' j hj
      have := hat j hj
      rw [← Go.Deep.add_add, this, hz]
      exact ⟨z, rfl⟩
    refine ⟨some a, n, c, fun i j => if h : i < n ∧ j < fs.size then Classical.choose (key i h.1 j h.2) else 0, rfl, by omega, fun hn => ?_⟩
    obtain ⟨z0, h0⟩ := key 0 hn 0 hk
    have hadd0 : a.add (0 * fs.size + 0) = a := by simp [Addr.add]
    rw [hadd0] at h0
    obtain ⟨b, off, sp⟩ := a
    have hsp : sp = none := by
      unfold World.cell? at h0
      cases sp with
      | none => rfl
      | some x => split at h0 <;> simp at h0
    subst hsp
    refine ⟨b, off, rfl, ?_, fun i j hin hj => ?_⟩
    · unfold World.cell? at h0
      split at h0
      · rename_i hh
        exact (Array.getElem?_eq_some_iff.1 hh).1
      · cases h0
    · have hz := Classical.choose_spec (key i hin j hj)
      have e1 : (⟨b, off, none⟩ : Addr).add (i * fs.size + j) = ⟨b, off + i * fs.size + j, none⟩ := by unfold Addr.add; split <;> simp_all [Nat.add_assoc]
      rw [← e1]
      simp only [dif_pos (And.intro hin hj)]
      exact hz
/-- .. rectangles. -/
theorem trod_rects {t e : TypeId} {fs : Array Field} {v : Value} {d : DataW H} {p : List MemPlace} {r : Reach} {b0 : Nat} (ht : P.underlying t = some (.slice e)) (he : P.underlying e = some (.struct fs)) (hone : oneCellFields P fs = true)
    (hint : ∀ (j : Nat) (f : Field), fs[j]? = some f → P.underlying f.type = some (.int .i64)) (hC : P.cellsOf e = 4) (hk : fs.size = 4) (hv : Value.okWide P w r b0 t v) (h : DataW.Trod enc P w base spare held t v d p) :
    ∃ l : List R4, RdK encR 4 w w.heap.size v l ∧ l.length ≤ maxLen := by
  obtain ⟨A, n, c, F, rfl, hn, hF⟩ := trod_rows ht he hone hint (hC.trans hk.symm) (by omega) hv h
  rw [hk] at hF
  refine ⟨(List.range n).map fun i => ⟨F i 0, F i 1, F i 2, F i 3⟩, ⟨A, c, by simp, fun hl => ?_⟩, by simpa using hn⟩
  have hn0 : 0 < n := by
    rcases Nat.eq_zero_or_pos n with h | h
    · subst h; exact absurd rfl hl
    · exact h
  obtain ⟨b, off, hA, hb, hc⟩ := hF hn0
  refine ⟨b, off, hA, hb, fun j x hj i u hu => ?_⟩
  have hjn : j < n := by have := (List.getElem?_eq_some_iff.1 hj).1; simpa using this
  rw [List.getElem?_map, List.getElem?_range hjn] at hj
  simp only [Option.map_some, Option.some.injEq] at hj
  subst hj
  have hi : i < 4 := (List.getElem?_eq_some_iff.1 hu).1
  rw [hc j i hjn hi]
  match i, hi with
  | 0, _ => exact hu
  | 1, _ => exact hu
  | 2, _ => exact hu
  | 3, _ => exact hu
end
theorem int_bd {n : Int} (h : (Lit.int .i64 n).wf = true) : -9223372036854775808 ≤ n ∧ n ≤ 9223372036854775807 := by
  simp [Lit.wf, IntKind.min, IntKind.max, IntKind.signed, IntKind.bits] at h
  omega
theorem rect_fields : ∀ (j : Nat) (f : Field), (match Tryz.prog.underlying 48 with | some (.struct fs) => fs | _ => #[])[j]? = some f → Tryz.prog.underlying f.type = some (.int .i64) := by
  rw [Tryz.underlying48]
  intro j f hf
  match j, hf with
  | 0, hf => simp at hf; subst hf; exact Tryz.underlying3
  | 1, hf => simp at hf; subst hf; exact Tryz.underlying3
  | 2, hf => simp at hf; subst hf; exact Tryz.underlying3
  | 3, hf => simp at hf; subst hf; exact Tryz.underlying3
  | j + 4, hf => simp at hf
end Go.Proofs.YtpgjfpeepbjflaaGreat

/- Plain: what growing, shrinking, opening, closing and depths give: points, codes, the algebra of near and full. -/
namespace Go.Proofs.YtpgjfpeepbjflaaGreat
open Go.RowKit
set_option linter.unusedVariables false
set_option linter.unusedSimpArgs false

theorem full_mem {l : List R4} {d : Int} (hd : 0 ≤ d) {x y : Int} (h : full l d x y) : pmem l x y := h x y (by omega) (by omega) (by omega) (by omega)
theorem mem_near {l : List R4} {d : Int} (hd : 0 ≤ d) {x y : Int} (h : pmem l x y) : near l d x y := ⟨x, y, by omega, by omega, by omega, by omega, h⟩
theorem growF_ok {l R : List R4} {d : Int} (h : growF l d = (R, 0)) : checkF l = 0 ∧ 0 ≤ d ∧ d ≤ 1000000 ∧ checkF R = 0 ∧ R.length ≤ 400 ∧ ∀ x y, pmem R x y ↔ near l d x y := by
  unfold growF at h
  by_cases h0 : chkD l d = 0
  · obtain ⟨hc, d0, d1⟩ := chkD_ok h0
    rw [if_pos h0] at h
    cases ha : l.any (farR d) with
    | true => rw [ha] at h; simp at h
    | false =>
      rw [ha, if_neg (by simp)] at h
      have hcv : carveF (l.map (growR d)) [] = if 400 < (growL l d).length then ([], 4) else (growL l d, 0) := rfl
      rw [hcv] at h
      by_cases hl : 400 < (growL l d).length
      · rw [if_pos hl] at h; simp at h
      · rw [if_neg hl] at h
        injection h with h _
        subst h
        have hw := check_wf hc
        obtain ⟨g1, g2⟩ := grow_ok hw d0
        refine ⟨hc, d0, d1, can_check g1 (sub_valid (m := l.map (growR d)) (can_wf g1) (fun r hr => ?_) fun x y hx => (near_grow hw d0 x y).1 ((g2 x y).1 hx)) (by omega), by omega, g2⟩
        obtain ⟨q, hq, rfl⟩ := List.mem_map.1 hr
        have hf := (List.any_eq_false.1 ha) q hq
        have hv := (checkF_ok hc).2.1 q hq
        simp only [farR, Bool.or_eq_true, decide_eq_true_eq] at hf
        simp only [valid4, fineP, growR] at hv ⊢
        omega
  · rw [if_neg h0] at h
    injection h with _ h
    exact absurd h h0
theorem shrF_ok {l R : List R4} {d : Int} (h : shrF l d = (R, 0)) : checkF l = 0 ∧ 0 ≤ d ∧ d ≤ 1000000 ∧ checkF R = 0 ∧ R.length ≤ 400 ∧ ∀ x y, pmem R x y ↔ full l d x y := by
  unfold shrF at h
  by_cases h0 : chkD l d = 0
  · obtain ⟨hc, d0, d1⟩ := chkD_ok h0
    rw [if_pos h0] at h
    by_cases hl : 400 < (shrR l d).length
    · rw [if_pos hl] at h; simp at h
    · rw [if_neg hl] at h
      injection h with h _
      subst h
      obtain ⟨g1, g2⟩ := shr_ok (check_rcan hc) d0
      exact ⟨hc, d0, d1, can_check g1 (sub_valid (m := l) (can_wf g1) (checkF_ok hc).2.1 fun x y hx => full_mem d0 ((g2 x y).1 hx)) (by omega), by omega, g2⟩
  · rw [if_neg h0] at h
    injection h with _ h
    exact absurd h h0
/-- No rectangle lies beyond m. -/
def Bnd (l : List R4) (m : Int) : Prop := ∀ r ∈ l, -m ≤ r.x0 ∧ -m ≤ r.y0 ∧ r.x1 ≤ m ∧ r.y1 ≤ m
theorem chkD_zero {l : List R4} (hc : checkF l = 0) {d : Int} (d0 : 0 ≤ d) (d1 : d ≤ 1000000) : chkD l d = 0 := by
  unfold chkD
  rw [if_pos hc, if_neg (by omega)]
theorem growF_code {l : List R4} (hc : checkF l = 0) {d m : Int} (d0 : 0 ≤ d) (d1 : d ≤ 1000000) (hb : Bnd l m) (hm : m + d ≤ 1000000) : growF l d = ([], 4) ∨ ∃ R, growF l d = (R, 0) := by
  unfold growF
  have ha : l.any (farR d) = false := by
    rw [List.any_eq_false]
    intro r hr
    have := hb r hr
    simp only [farR, Bool.or_eq_true, decide_eq_true_eq]
    omega
  rw [if_pos (chkD_zero hc d0 d1), ha, if_neg (by simp)]
  unfold carveF
  split
  · exact .inl rfl
  · exact .inr ⟨_, rfl⟩
theorem shrF_code {l : List R4} (hc : checkF l = 0) {d : Int} (d0 : 0 ≤ d) (d1 : d ≤ 1000000) : shrF l d = ([], 4) ∨ ∃ R, shrF l d = (R, 0) := by
  unfold shrF
  rw [if_pos (chkD_zero hc d0 d1)]
  split
  · exact .inl rfl
  · exact .inr ⟨_, rfl⟩
theorem bnd_sub {R l : List R4} {m : Int} (hR : checkF R = 0) (hl : Bnd l m) (h : ∀ x y, pmem R x y → pmem l x y) : Bnd R m := fun r hr => by
  have hv := (checkF_ok hR).2.1 r hr
  simp only [valid4] at hv
  obtain ⟨s, hs, h1⟩ := h r.x0 r.y0 ⟨r, hr, by simp only [rin]; omega⟩
  obtain ⟨t, ht, h2⟩ := h (r.x1 - 1) (r.y1 - 1) ⟨r, hr, by simp only [rin]; omega⟩
  have b1 := hl s hs
  have b2 := hl t ht
  simp only [rin] at h1 h2
  omega
/-- What law.go's fit asks. -/
def FitO (l : List R4) (d : Int) : Prop := l.length ≤ 30 ∧ checkF l = 0 ∧ 0 ≤ d ∧ d ≤ 100 ∧ Bnd l 1000
theorem FitO.grow {l : List R4} {d : Int} (h : FitO l d) : growF l d = ([], 4) ∨ ∃ R, growF l d = (R, 0) ∧ checkF R = 0 ∧ R.length ≤ 400 ∧ ∀ x y, pmem R x y ↔ near l d x y := by
  rcases growF_code h.2.1 h.2.2.1 (by have := h.2.2.2.1; omega) h.2.2.2.2 (by have := h.2.2.2.1; omega) with e | ⟨R, e⟩
  · exact .inl e
  · exact .inr ⟨R, e, (growF_ok e).2.2.2⟩
theorem FitO.shrink {l : List R4} {d : Int} (h : FitO l d) : shrF l d = ([], 4) ∨ ∃ R, shrF l d = (R, 0) ∧ checkF R = 0 ∧ R.length ≤ 400 ∧ ∀ x y, pmem R x y ↔ full l d x y := by
  rcases shrF_code h.2.1 h.2.2.1 (by have := h.2.2.2.1; omega) with e | ⟨R, e⟩
  · exact .inl e
  · exact .inr ⟨R, e, (shrF_ok e).2.2.2⟩
/-- Grown regions and shrunk ones belong together. -/
theorem near_full {p q : List R4} {d : Int} : (∀ x y, near p d x y → pmem q x y) ↔ ∀ x y, pmem p x y → full q d x y := by
  constructor
  · intro h x y hp u v h1 h2 h3 h4
    exact h u v ⟨x, y, by omega, by omega, by omega, by omega, hp⟩
  · rintro h x y ⟨u, v, h1, h2, h3, h4, hp⟩
    exact h u v hp x y (by omega) (by omega) (by omega) (by omega)
theorem near_sum {l a : List R4} {d e : Int} (d0 : 0 ≤ d) (e0 : 0 ≤ e) (ha : ∀ x y, pmem a x y ↔ near l d x y) (x y : Int) : near a e x y ↔ near l (d + e) x y := by
  constructor
  · rintro ⟨u, v, h1, h2, h3, h4, hp⟩
    obtain ⟨s, t, k1, k2, k3, k4, hq⟩ := (ha u v).1 hp
    exact ⟨s, t, by omega, by omega, by omega, by omega, hq⟩
  · rintro ⟨s, t, k1, k2, k3, k4, hq⟩
    exact ⟨max (x - e) (min s (x + e)), max (y - e) (min t (y + e)), by omega, by omega, by omega, by omega, (ha _ _).2 ⟨s, t, by omega, by omega, by omega, by omega, hq⟩⟩
theorem full_sum {l a : List R4} {d e : Int} (d0 : 0 ≤ d) (e0 : 0 ≤ e) (ha : ∀ x y, pmem a x y ↔ full l d x y) (x y : Int) : full a e x y ↔ full l (d + e) x y := by
  constructor
  · intro h s t k1 k2 k3 k4
    exact (ha _ _).1 (h (max (x - e) (min s (x + e))) (max (y - e) (min t (y + e))) (by omega) (by omega) (by omega) (by omega)) s t (by omega) (by omega) (by omega) (by omega)
  · intro h u v h1 h2 h3 h4
    exact (ha u v).2 fun s t k1 k2 k3 k4 => h s t (by omega) (by omega) (by omega) (by omega)
theorem near_sub {a b : List R4} {d : Int} (h : ∀ x y, pmem a x y → pmem b x y) {x y : Int} (hn : near a d x y) : near b d x y := by
  obtain ⟨u, v, h1, h2, h3, h4, hp⟩ := hn
  exact ⟨u, v, h1, h2, h3, h4, h u v hp⟩
theorem full_sub {a b : List R4} {d : Int} (h : ∀ x y, pmem a x y → pmem b x y) {x y : Int} (hn : full a d x y) : full b d x y := fun u v h1 h2 h3 h4 => h u v (hn u v h1 h2 h3 h4)
/-- The same region out of the same points. -/
theorem grow_twice {l a b c : List R4} {d e : Int} (h1 : growF l d = (a, 0)) (h2 : growF a e = (b, 0)) (h3 : growF l (d + e) = (c, 0)) : b = c := by
  obtain ⟨_, d0, _, _, _, p1⟩ := growF_ok h1
  obtain ⟨_, e0, _, k2, _, p2⟩ := growF_ok h2
  obtain ⟨_, _, _, k3, _, p3⟩ := growF_ok h3
  exact can_eq k2 k3 fun x y => by rw [p2, p3, near_sum d0 e0 p1]
theorem shrink_twice {l a b c : List R4} {d e : Int} (h1 : shrF l d = (a, 0)) (h2 : shrF a e = (b, 0)) (h3 : shrF l (d + e) = (c, 0)) : b = c := by
  obtain ⟨_, d0, _, _, _, p1⟩ := shrF_ok h1
  obtain ⟨_, e0, _, k2, _, p2⟩ := shrF_ok h2
  obtain ⟨_, _, _, k3, _, p3⟩ := shrF_ok h3
  exact can_eq k2 k3 fun x y => by rw [p2, p3, full_sum d0 e0 p1]
theorem openF_ok {l O : List R4} {d : Int} (h : openF l d = (O, 0)) : ∃ S, shrF l d = (S, 0) ∧ growF S d = (O, 0) := by
  unfold openF at h
  generalize hs : shrF l d = P at h
  obtain ⟨S, e⟩ := P
  by_cases h0 : e = 0
  · subst h0
    exact ⟨S, rfl, by simpa using h⟩
  · rw [if_neg h0] at h
    injection h with _ h
    exact absurd h h0
theorem closeF_ok {l O : List R4} {d : Int} (h : closeF l d = (O, 0)) : ∃ S, growF l d = (S, 0) ∧ shrF S d = (O, 0) := by
  unfold closeF at h
  generalize hs : growF l d = P at h
  obtain ⟨S, e⟩ := P
  by_cases h0 : e = 0
  · subst h0
    exact ⟨S, rfl, by simpa using h⟩
  · rw [if_neg h0] at h
    injection h with _ h
    exact absurd h h0
theorem open_in {l O : List R4} {d : Int} (h : openF l d = (O, 0)) {x y : Int} (hp : pmem O x y) : pmem l x y := by
  obtain ⟨S, h1, h2⟩ := openF_ok h
  obtain ⟨_, d0, _, _, _, p1⟩ := shrF_ok h1
  obtain ⟨_, _, _, _, _, p2⟩ := growF_ok h2
  obtain ⟨u, v, a1, a2, a3, a4, hq⟩ := (p2 x y).1 hp
  exact (p1 u v).1 hq x y (by omega) (by omega) (by omega) (by omega)
theorem open_twice {l O A : List R4} {d : Int} (h : openF l d = (O, 0)) (hA : openF O d = (A, 0)) : A = O := by
  obtain ⟨S, h1, h2⟩ := openF_ok h
  obtain ⟨T, h3, h4⟩ := openF_ok hA
  obtain ⟨_, d0, _, _, _, p1⟩ := shrF_ok h1
  obtain ⟨_, _, _, k2, _, p2⟩ := growF_ok h2
  obtain ⟨_, _, _, _, _, p3⟩ := shrF_ok h3
  obtain ⟨_, _, _, k4, _, p4⟩ := growF_ok h4
  refine can_eq k4 k2 fun x y => ⟨open_in hA, fun hp => (p4 x y).2 (near_sub (fun u v hq => (p3 u v).2 fun s t a1 a2 a3 a4 => (p2 s t).2 ⟨u, v, by omega, by omega, by omega, by omega, hq⟩) ((p2 x y).1 hp))⟩
theorem in_close {l O : List R4} {d : Int} (h : closeF l d = (O, 0)) {x y : Int} (hp : pmem l x y) : pmem O x y := by
  obtain ⟨S, h1, h2⟩ := closeF_ok h
  obtain ⟨_, d0, _, _, _, p1⟩ := growF_ok h1
  obtain ⟨_, _, _, _, _, p2⟩ := shrF_ok h2
  exact (p2 x y).2 fun u v a1 a2 a3 a4 => (p1 u v).2 ⟨x, y, by omega, by omega, by omega, by omega, hp⟩
theorem close_twice {l O A : List R4} {d : Int} (h : closeF l d = (O, 0)) (hA : closeF O d = (A, 0)) : A = O := by
  obtain ⟨S, h1, h2⟩ := closeF_ok h
  obtain ⟨T, h3, h4⟩ := closeF_ok hA
  obtain ⟨_, d0, _, _, _, p1⟩ := growF_ok h1
  obtain ⟨_, _, _, k2, _, p2⟩ := shrF_ok h2
  obtain ⟨_, _, _, _, _, p3⟩ := growF_ok h3
  obtain ⟨_, _, _, k4, _, p4⟩ := shrF_ok h4
  refine can_eq k4 k2 fun x y => ⟨fun hp => (p2 x y).2 (full_sub (fun u v hq => ?_) ((p4 x y).1 hp)), in_close hA⟩
  obtain ⟨s, t, a1, a2, a3, a4, ho⟩ := (p3 u v).1 hq
  exact (p2 s t).1 ho u v (by omega) (by omega) (by omega) (by omega)
theorem FitO.openC {l : List R4} {d : Int} (h : FitO l d) : openF l d = ([], 4) ∨ ∃ R, openF l d = (R, 0) ∧ checkF R = 0 ∧ R.length ≤ 400 := by
  unfold openF
  rcases h.shrink with e | ⟨S, e, k, n, p⟩
  · exact .inl (by rw [e]; rfl)
  · rw [e]
    simp only [if_pos]
    rcases growF_code k h.2.2.1 (by have := h.2.2.2.1; omega) (bnd_sub k h.2.2.2.2 fun x y hx => full_mem h.2.2.1 ((p x y).1 hx)) (by have := h.2.2.2.1; omega) with e | ⟨R, e⟩
    · exact .inl e
    · exact .inr ⟨R, e, (growF_ok e).2.2.2.1, (growF_ok e).2.2.2.2.1⟩
theorem FitO.closeC {l : List R4} {d : Int} (h : FitO l d) : closeF l d = ([], 4) ∨ ∃ R, closeF l d = (R, 0) ∧ checkF R = 0 ∧ R.length ≤ 400 := by
  unfold closeF
  rcases h.grow with e | ⟨S, e, k, n, p⟩
  · exact .inl (by rw [e]; rfl)
  · rw [e]
    simp only [if_pos]
    rcases shrF_code k h.2.2.1 (by have := h.2.2.2.1; omega) with e | ⟨R, e⟩
    · exact .inl e
    · exact .inr ⟨R, e, (shrF_ok e).2.2.2.1, (shrF_ok e).2.2.2.2.1⟩
/-- A list of rectangles that has no point is empty. -/
theorem no_pts {R : List R4} (hc : checkF R = 0) (h : ∀ x y, ¬ pmem R x y) : R = [] := by
  cases R with
  | nil => rfl
  | cons r R =>
    have hv := (checkF_ok hc).2.1 r (by simp)
    simp only [valid4] at hv
    exact absurd ⟨r, by simp, by simp only [rin]; omega⟩ (h r.x0 r.y0)
theorem rest_nil {a b R : List R4} (ha : checkF a = 0) (hb : checkF b = 0) (h : joinF hSub a b = (R, 0)) : R = [] ↔ ∀ x y, pmem a x y → pmem b x y := by
  rw [joinF_ok ha hb] at h
  by_cases hl : 400 < (rjoin hSub a b).length
  · rw [if_pos hl] at h; simp at h
  · rw [if_neg hl] at h
    injection h with h _
    subst h
    refine ⟨fun h x y hx => ?_, fun h => no_pts (join_check (h := hSub) rfl ha hb (by omega)) fun x y hx => ?_⟩
    · cases hh : decide (pmem b x y) with
      | true => exact of_decide_eq_true hh
      | false =>
        have := (join_pts (h := hSub) rfl ha hb x y).2 (by rw [hh, decide_eq_true hx]; rfl)
        rw [h] at this
        exact absurd this pmem_nil
    · have := (join_pts (h := hSub) rfl ha hb x y).1 hx
      simp only [hSub, Bool.and_eq_true, Bool.not_eq_true', decide_eq_true_eq, decide_eq_false_iff_not] at this
      exact this.2 (h x y this.1)
/-- Depths: a point has the depth d exactly if the region shrunk by d has it. -/
theorem dep_full {l : List R4} (hc : checkF l = 0) {d : Int} (d0 : 0 ≤ d) (x y : Int) : d ≤ (depF l x y).1 ↔ full l d x y := by
  unfold depF
  rw [if_pos hc]
  by_cases hp : pmem l x y
  · rw [if_pos hp]
    exact dep_iff (check_rcan hc) (by rintro rfl; exact pmem_nil hp) d0 x y
  · rw [if_neg hp]
    constructor
    · intro h; simp only at h; omega
    · intro h; exact absurd (full_mem d0 h) hp
theorem dep_low {l : List R4} (hc : checkF l = 0) (x y : Int) : -1 ≤ (depF l x y).1 ∧ (depF l x y).2 = 0 := by
  have hf := dep_full hc (d := 0) (by omega) x y
  unfold depF at hf ⊢
  rw [if_pos hc] at hf ⊢
  by_cases hp : pmem l x y
  · rw [if_pos hp] at hf ⊢
    have := hf.2 ((full_zero x y).2 hp)
    exact ⟨by omega, rfl⟩
  · rw [if_neg hp]
    exact ⟨by simp, rfl⟩
theorem dep_next {l : List R4} (hc : checkF l = 0) {x y u v : Int} (hu : -1 ≤ u ∧ u ≤ 1) (hv : -1 ≤ v ∧ v ≤ 1) : (depF l x y).1 - (depF l (x + u) (y + v)).1 ≤ 1 := by
  have h1 := (dep_low hc x y).1
  have h2 := (dep_low hc (x + u) (y + v)).1
  by_cases h : (depF l x y).1 ≤ 0
  · omega
  · have hf := (dep_full hc (d := (depF l x y).1) (by omega) x y).1 (Int.le_refl _)
    have := (dep_full hc (d := (depF l x y).1 - 1) (by omega) (x + u) (y + v)).2 fun s t a1 a2 a3 a4 => hf s t (by omega) (by omega) (by omega) (by omega)
    omega
end Go.Proofs.YtpgjfpeepbjflaaGreat

/- law.go's fit and part of chapter 14. -/
namespace Go.Proofs.YtpgjfpeepbjflaaGreat
open Go.RowKit
set_option linter.unusedVariables false
set_option linter.unusedSimpArgs false

theorem run_max2 {P : Program} (w : World) (ts : Array TypeId) (t : TypeId) (a b : Int) : (Builtin.max_ ts t #[.int .i64 a, .int .i64 b]).run P w = .ok (.int .i64 (max a b)) w := by
  have k2 : ∀ (x y : Int) (v : World), Sem.run P (Builtin.max2 (.int .i64 x) (.int .i64 y)) v = .ok (.int .i64 (max x y)) v := fun x y v => by
    have k : (if y > x then y else x) = max x y := by
      by_cases h : y > x
      · rw [if_pos h]; omega
      · rw [if_neg h]; omega
    simp [Builtin.max2, k]
  simp only [Builtin.max_]
  simp [k2]
theorem run_min2 {P : Program} (w : World) (ts : Array TypeId) (t : TypeId) (a b : Int) : (Builtin.min_ ts t #[.int .i64 a, .int .i64 b]).run P w = .ok (.int .i64 (min a b)) w := by
  have k2 : ∀ (x y : Int) (v : World), Sem.run P (Builtin.min2 (.int .i64 x) (.int .i64 y)) v = .ok (.int .i64 (min x y)) v := fun x y v => by
    have k : (if y < x then y else x) = min x y := by
      by_cases h : y < x
      · rw [if_pos h]; omega
      · rw [if_neg h]; omega
    simp [Builtin.min2, k]
  simp only [Builtin.min_]
  simp [k2]
set_option maxHeartbeats 1000000 in
theorem part14_any {w : World} {va vb : Value} {a b : List R4} (ra : RdK encR 4 w w.heap.size va a) (rb : RdK encR 4 w w.heap.size vb b) (na : a.length ≤ 100000000) (nb : b.length ≤ 100000000) :
    Calls Tryz.prog 31 #[va, vb] w fun e w' => e = .returned (.tuple #[.bool (decide ((joinF hSub a b).1.length = 0)), .bool (decide ((joinF hSub a b).2 = 0))]) ∧ Below w.heap.size w w' := by
  have HM := hide (minus_any ra rb na nb)
  have hn := joinF_len hSub a b
  obtain ⟨A1, c1, hva, _⟩ := ra
  obtain ⟨A2, c2, hvb, _⟩ := rb
  subst hva; subst hvb
  generalize joinF hSub a b = P at *
  obtain ⟨R, e0⟩ := P
  simp only at hn
  have e1 : decide ((R.length : Int) = 0) = decide (R.length = 0) := decide_eq_decide.2 (by omega)
  go_enter Tryz.func31, Tryz.ntmps31
  go_wp2_with (fail)
  refine HM.out.mono ?_
  rintro e w1 ⟨⟨A3, c3, rfl, ho⟩, hb⟩
  have HB := hide hb
  clear ho hb
  go_wp2_with (fail)
  go_ret2
  refine ⟨?_, HB.out⟩
  first | rfl | (rw [← e1]; rfl)
set_option maxRecDepth 100000 in
set_option maxHeartbeats 4000000 in
theorem fitO_any {w : World} {va : Value} {l : List R4} (ra : RdK encR 4 w w.heap.size va l) (na : l.length ≤ maxLen) (d : Int) :
    Calls Tryz.prog 21 #[va, .int .i64 d] w fun e w' => (e = .returned (.bool false) ∧ Below w.heap.size w w') ∨ (e = .returned (.bool true) ∧ FitO l d ∧ Below w.heap.size w w') := by
  unfold maxLen at na
  have hra := hide ra
  obtain ⟨A1, c1, hva, hcc⟩ := ra
  subst hva
  by_cases h1 : l.length ≤ 30
  · have z1 : (l.length : Int) ≤ 30 := by omega
    have HCK := hide (rCheck_any hra.out (by omega))
    by_cases hc : checkF l = 0
    · rw [hc] at HCK
      by_cases h2 : 0 ≤ d
      · by_cases h3 : d ≤ 100
        · have HR := hide hcc
          have HC := hide hc
          have hv := hide (checkF_ok hc).2.1
          clear hc hcc
          go_enter Tryz.func21, Tryz.ntmps21
          go_wp2_with (fail)
          refine HCK.out.mono ?_
          rintro e w1 ⟨rfl, hb⟩
          have HB1 := hide hb
          clear hb
          have hmx := @run_max2 Tryz.prog
          have hmn := @run_min2 Tryz.prog
          go_wp2_with (fail)
          go_loopw [5] (fun i wr => ∃ m : Nat, m ≤ l.length ∧ i = .int .i64 m ∧ (∀ r ∈ l.take m, -1000 ≤ r.x0 ∧ -1000 ≤ r.y0 ∧ r.x1 ≤ 1000 ∧ r.y1 ≤ 1000) ∧ Hid (Below w.heap.size w wr)) (fun i _ => l.length - (intOf i).toNat)
          case atStart => exact ⟨0, Nat.zero_le _, rfl, by simp, HB1⟩
          case round =>
            clear HB1 HCK
            obtain ⟨m, hm, rfl, hP, HB⟩ := hrel
            by_cases hlt : m < l.length
            · obtain ⟨g, hp⟩ : ∃ p, l[m]? = some p := ⟨_, List.getElem?_eq_getElem hlt⟩
              obtain ⟨b, o, rfl, hbl, k⟩ := HR.out (by intro e; rw [e] at hlt; simp at hlt)
              have d0 : wr.cell? ⟨b, o + m * 4, none⟩ = some (.int .i64 g.x0) := (HB.out.cell (p := ⟨b, _, none⟩) hbl).trans (k m _ hp 0 _ rfl)
              have d1 : wr.cell? ⟨b, o + m * 4 + 1, none⟩ = some (.int .i64 g.y0) := (HB.out.cell (p := ⟨b, _, none⟩) hbl).trans (k m _ hp 1 _ rfl)
              have d2 : wr.cell? ⟨b, o + m * 4 + 2, none⟩ = some (.int .i64 g.x1) := (HB.out.cell (p := ⟨b, _, none⟩) hbl).trans (k m _ hp 2 _ rfl)
              have d3 : wr.cell? ⟨b, o + m * 4 + 3, none⟩ = some (.int .i64 g.y1) := (HB.out.cell (p := ⟨b, _, none⟩) hbl).trans (k m _ hp 3 _ rfl)
              have mz : (m : Int) < (l.length : Int) := by omega
              have HT : Hid (-1000 ≤ g.x0 ∧ -1000 ≤ g.y0 ∧ g.x1 ≤ 1000 ∧ g.y1 ≤ 1000 → ∀ r ∈ l.take (m + 1), -1000 ≤ r.x0 ∧ -1000 ≤ r.y0 ∧ r.x1 ≤ 1000 ∧ r.y1 ≤ 1000) := hide (fun h r hr => by
                rw [List.take_add_one, hp] at hr
                rcases List.mem_append.1 hr with hr | hr
                · exact hP r hr
                · simp at hr; subst hr; exact h)
              have m0 : (0 : Int) ≤ (m : Int) := by omega
              have hbr : b < wr.heap.size := Nat.lt_of_lt_of_le hbl HB.out.size
              clear k hp hP hv
              have walk : True := trivial
              by_cases q1 : min g.x0 g.y0 < -1000
              · go_upto_region 6 with fail
                refine wp_hab fun hab => ?_
                refine wp_region_above (by kernel_rfl) (by kernel_rfl) ?_
                repeat (go_big_quiet_step ((fail)))
                refine wpQuiet_nil ?_
                refine above_ends fun w5 hb => ?_
                have HB5 := hide (HB.out.trans (hb.mono HB.out.size))
                clear hab hb d0 d1 d2 d3
                go_wp2_with (fail)
                go_ret
                exact .inl ⟨rfl, HB5.out⟩
              · by_cases q2 : 1000 < max g.x1 g.y1
                · go_upto_region 6 with fail
                  refine wp_hab fun hab => ?_
                  refine wp_region_above (by kernel_rfl) (by kernel_rfl) ?_
                  repeat (go_big_quiet_step ((fail)))
                  refine wpQuiet_nil ?_
                  refine above_ends fun w5 hb => ?_
                  have HB5 := hide (HB.out.trans (hb.mono HB.out.size))
                  clear hab hb d0 d1 d2 d3
                  go_wp2_with (fail)
                  go_ret
                  exact .inl ⟨rfl, HB5.out⟩
                · have HP2 := hide (HT.out (by omega))
                  clear HT
                  go_upto_region 6 with fail
                  refine wp_hab fun hab => ?_
                  refine wp_region_above (by kernel_rfl) (by kernel_rfl) ?_
                  repeat (go_big_quiet_step ((fail)))
                  refine wpQuiet_nil ?_
                  refine above_ends fun w5 hb => ?_
                  have HB5 := hide (HB.out.trans (hb.mono HB.out.size))
                  clear hab hb d0 d1 d2 d3
                  go_wp2_with (fail)
                  go_roundw
                  case rel => exact ⟨m + 1, by omega, by go_num, HP2.out, HB5⟩
                  case measure => simp [intOf]; omega
            · obtain rfl : m = l.length := by omega
              have mz : ¬ (l.length : Int) < (l.length : Int) := by omega
              rw [List.take_length] at hP
              have HF : Hid (FitO l d) := hide ⟨h1, HC.out, h2, h3, hP⟩
              clear hP
              go_wp2_with (fail)
              go_ret
              exact .inr ⟨rfl, HF.out, HB.out⟩
        · go_enter Tryz.func21, Tryz.ntmps21
          go_wp2_with (fail)
          refine HCK.out.mono ?_
          rintro e w1 ⟨rfl, hb⟩
          have HB1 := hide hb
          clear hb hcc
          go_wp2_with (fail)
          go_ret
          exact .inl ⟨rfl, HB1.out⟩
      · go_enter Tryz.func21, Tryz.ntmps21
        go_wp2_with (fail)
        refine HCK.out.mono ?_
        rintro e w1 ⟨rfl, hb⟩
        have HB1 := hide hb
        clear hb hcc
        go_wp2_with (fail)
        go_ret
        exact .inl ⟨rfl, HB1.out⟩
    · generalize checkF l = ck at *
      have hne : (ck != 0) = true := by simpa using hc
      clear hc
      go_enter Tryz.func21, Tryz.ntmps21
      go_wp2_with (fail)
      refine HCK.out.mono ?_
      rintro e w1 ⟨rfl, hb⟩
      have HB1 := hide hb
      clear hb hcc
      go_wp2_with (fail)
      go_ret
      exact .inl ⟨rfl, HB1.out⟩
  · have z1 : ¬ (l.length : Int) ≤ 30 := by omega
    clear hcc
    go_enter Tryz.func21, Tryz.ntmps21
    go_wp2
    go_ret
    exact .inl ⟨rfl, Below.refl _ _⟩
end Go.Proofs.YtpgjfpeepbjflaaGreat
