/- Texts laid together: JoinR, JoinU, OffO, MOffF, MRoofV, MJoin, RoofN, MCan, MRoofW, MRoofX. Lemmas for the statements of this seat; no condition. -/
import Derived.Test.YtdolpeljengpaaaGreatPk6
import Derived.Test.YtdolpeljengpaaaGreatPk11
import Derived.Test.YtdolpeljengpaaaGreatPk1
import Derived.Test.YtdolpeljengpaaaGreatPk4
import Derived.Deep.Cut

/- region.joined: two regions joined, slab by slab. -/
namespace Go.Proofs.YtdolpeljengpaaaGreat
open Go.RowKit
set_option linter.unusedVariables false
set_option linter.unusedSimpArgs false
attribute [local go_sem] Oper.semAt_some

/-- A slab with too many spans is a region with too many rectangles. -/
theorem slab_many {h : Bool → Bool → Bool} (h0 : h false false = false) {a b : List R4} (ha : ∀ r ∈ a, wf4 r) (hb : ∀ r ∈ b, wf4 r) (c : Int) : (sjoin h (crossL a c) (crossL b c)).length ≤ (rjoin h a b).length := by
  obtain ⟨r1, r2⟩ := rjoin_ok h0 ha hb
  obtain ⟨s1, s2⟩ := sjoin_ok h0 (crossL_wf ha c) (crossL_wf hb c)
  have e : crossL (rjoin h a b) c = sjoin h (crossL a c) (crossL b c) := (crossL_can r1 c).ext s1 fun y => by
    rw [smem_crossL, r2, s2, decide_eq_decide.2 (smem_crossL (l := a)), decide_eq_decide.2 (smem_crossL (l := b))]
  rw [← e]
  exact crossL_len _ _
theorem crossL_valid {l : List R4} (h : ∀ r ∈ l, valid4 r) (c : Int) : ∀ p ∈ crossL l c, validS p := by
  intro p hp
  obtain ⟨r, hr, rfl⟩ := List.mem_map.1 hp
  have hvr := h r (List.mem_filter.1 hr).1
  exact ⟨hvr.2.1, hvr.2.2.2.2.1.1, hvr.2.2.2.2.2.2⟩

theorem keepsFrom_set {n : Nat} {A B : World} (h : KeepsFrom n A B) {p : Addr} (hp : p.block < n) (v : Value) : KeepsFrom n A (B.setCell p v) := by
  refine ⟨Nat.le_trans h.1 (by simp), fun k o hk h1 h2 => ?_⟩
  have := h.2 k o hk h1 h2
  exact (Below.heap_setCell _ _ _ _ (by omega)).trans this
set_option maxRecDepth 100000 in
set_option maxHeartbeats 4000000 in
theorem joined_any {h : Bool → Bool → Bool} (h0 : h false false = false) {f : Nat} (hf : SpJoin f h) (ef : ∀ args w, (callFunc f args).run Tryz.prog w = .ok (.enter f args) w) {a b : List R4} {va vb : Value} {w : World} (ra : RdK encR 4 w w.heap.size va a) (rb : RdK encR 4 w w.heap.size vb b) (na : a.length ≤ 100000000) (nb : b.length ≤ 100000000) :
    Calls Tryz.prog 96 #[va, vb, .func (.func f) #[] #[]] w fun e w' => RegRet w.heap.size (joinF h a b) e w' ∧ Below w.heap.size w w' := by
  have hbo := fun (W : World) (hW : Below w.heap.size w W) => both_any (w := W) ((ra.below hW).mono hW.size) ((rb.below hW).mono hW.size) na nb
  have HBO := hide hbo
  have RA := hide ra
  have RB := hide rb
  obtain ⟨A1, c1, hva, _⟩ := id ra
  obtain ⟨A2, c2, hvb, _⟩ := id rb
  subst hva; subst hvb
  clear hbo ra rb
  have HSP := hide hf
  have HEF := hide ef
  have k3 : Below w.heap.size w (((w.alloc (.cells #[.func (.func f) #[] #[]] 151)).alloc (.cells #[.slice none 0 0] 27)).alloc (.cells #[.int .i64 0] 30)) := (((Below.refl _ _).alloc (Nat.le_refl _) _).alloc (by simp) _).alloc (by simp; omega) _
  have K3 := hide k3
  clear k3 hf ef
  by_cases hb0 : bothF a b = 0
  · obtain ⟨ca, cb⟩ := bothF_ok hb0
    have HWA := hide (check_wf ca)
    have HWB := hide (check_wf cb)
    obtain ⟨la, va4, _⟩ := checkF_ok ca
    obtain ⟨lb, vb4, _⟩ := checkF_ok cb
    have HVA := hide va4
    have HVB := hide vb4
    have HCA := hide (check_rcan ca)
    have HCB := hide (check_rcan cb)
    have hcl : (List.flatMap cutsL [a, b]).length ≤ 100000000 := by simp [cutsL_len]; omega
    have hcs := cutsOf_ok (List.flatMap cutsL [a, b])
    have hl2 : (List.flatMap cutsL [a, b]).length = 2 * a.length + 2 * b.length := by simp [cutsL_len]
    have hcn : (cutsOf (List.flatMap cutsL [a, b])).length ≤ 1600 := by
      have h1 := cutsOf_len (List.flatMap cutsL [a, b])
      omega
    clear hl2
    have hfin := swp_join h0 HWA.out HWB.out hcs.1 (fun c hc => (hcs.2 c).2 (by simp [hc])) (fun c hc => (hcs.2 c).2 (by simp [hc]))
    have hgl : ∀ c, (sjoin h (crossL a c) (crossL b c)).length ≤ 1600 := by
      intro c
      have h1 := sjoin_len h (crossL a c) (crossL b c)
      have h2 := crossL_len a c
      have h3 := crossL_len b c
      omega
    have hjl := rjoin_len2 h a b la lb
    have hslab : ∀ (W : World) (L : Nat), L < W.heap.size → (∃ v, W.cell? ⟨L, 0, none⟩ = some v ∧ RdK encR 4 W W.heap.size v a) → (∃ v, W.cell? ⟨L, 1, none⟩ = some v ∧ RdK encR 4 W W.heap.size v b) → _ := fun W L h1 h2 h3 =>
      slabsB_any [a, b] L 2 W h1 (fun k l' hk => by
        match k, hk with
        | 0, hk => simp at hk; subst hk; exact h2
        | 1, hk => simp at hk; subst hk; exact h3
        | k + 2, hk => simp at hk) hcl (by simp)
    simp only [List.length_cons, List.length_nil, Nat.zero_add, Nat.reduceAdd] at hslab
    have hJF : joinF h a b = if 400 < (rjoin h a b).length then ([], 4) else (rjoin h a b, 0) := if_pos hb0
    rw [hb0] at HBO
    have HMANY := hide (fun c => slab_many h0 HWA.out HWB.out c)
    generalize hcsd : cutsOf (List.flatMap cutsL [a, b]) = cs at *
    clear hcsd
    have HS := hide hslab
    have HF := hide hfin
    have HG := hide hgl
    have HC := hide hcs
    have HJF := hide hJF
    clear hslab hfin hgl hcs hJF ca cb hb0 va4 vb4
    refine (callsIn_wide (n := 0)).1 ?_
    refine callsIn_of_wp_marks Tryz.func96 rfl trivial ?_
    simp only [Tryz.ntmps96, List.size_toArray, List.length_cons, List.length_nil, Nat.reduceAdd, Nat.reduceSub, Array.replicate_succ, Array.replicate_zero, List.push_toArray, List.append_toArray, List.nil_append, List.cons_append]
    refine wpIn_wide.2 ?_
    go_wp2_with (fail)
    refine (HBO.out _ K3.out).mono ?_
    rintro e w1 ⟨rfl, hb1⟩
    have hs1 := hb1.size
    simp at hs1
    have c5 : w1.cell? ⟨w.heap.size, 0, none⟩ = some (.func (.func f) #[] #[]) := (hb1.cell (p := ⟨w.heap.size, 0, none⟩) (by simp; omega)).trans (by simp [go_sem])
    have k6 : w1.cell? ⟨w.heap.size + 1, 0, none⟩ = some (.slice none 0 0) := (hb1.cell (p := ⟨w.heap.size + 1, 0, none⟩) (by simp)).trans (by simp [go_sem])
    have k7 : w1.cell? ⟨w.heap.size + 1 + 1, 0, none⟩ = some (.int .i64 0) := (hb1.cell (p := ⟨w.heap.size + 1 + 1, 0, none⟩) (by simp)).trans (by simp [go_sem])
    have f6 : w1.frozen? ⟨w.heap.size + 1, 0, none⟩ = false := (hb1.frozen (p := ⟨w.heap.size + 1, 0, none⟩) (by simp)).trans (by simp [go_sem])
    have f7 : w1.frozen? ⟨w.heap.size + 1 + 1, 0, none⟩ = false := (hb1.frozen (p := ⟨w.heap.size + 1 + 1, 0, none⟩) (by simp)).trans (by simp [go_sem])
    have KB := hide (K3.out.trans (hb1.mono (by simp; omega)))
    have HBX := hide (And.intro c5 (And.intro (And.intro k6 k7) (And.intro f6 f7)))
    clear hb1 c5 k6 k7 f6 f7 HBO
    go_wp2_with (fail)
    have hb2 : Below w1.heap.size w1 ((w1.alloc (.cells #[.slice none 0 0, .slice none 0 0, .int .i64 0, .int .i64 0] 205)).alloc (.cells #[.slice A1 a.length c1, .slice A2 b.length c2] 27)) := ((Below.refl _ _).alloc (Nat.le_refl _) _).alloc (by simp) _
    have hL1 : ((w1.alloc (.cells #[.slice none 0 0, .slice none 0 0, .int .i64 0, .int .i64 0] 205)).alloc (.cells #[.slice A1 a.length c1, .slice A2 b.length c2] 27)).cell? ⟨w1.heap.size + 1, 0, none⟩ = some (.slice A1 a.length c1) := by simp [go_sem]
    have hL2 : ((w1.alloc (.cells #[.slice none 0 0, .slice none 0 0, .int .i64 0, .int .i64 0] 205)).alloc (.cells #[.slice A1 a.length c1, .slice A2 b.length c2] 27)).cell? ⟨w1.heap.size + 1, 1, none⟩ = some (.slice A2 b.length c2) := by simp [go_sem]
    have hs := HS.out ((w1.alloc (.cells #[.slice none 0 0, .slice none 0 0, .int .i64 0, .int .i64 0] 205)).alloc (.cells #[.slice A1 a.length c1, .slice A2 b.length c2] 27)) (w1.heap.size + 1) (by simp)
      ⟨_, hL1, (((RA.out.below KB.out).mono KB.out.size).below hb2).mono hb2.size⟩ ⟨_, hL2, (((RB.out.below KB.out).mono KB.out.size).below hb2).mono hb2.size⟩
    simp only [World.size_alloc, Nat.add_assoc, Nat.reduceAdd] at hs
    have hbc : ∀ j u, (#[Value.slice none 0 0, .slice none 0 0, .int .i64 0, .int .i64 0] : Array Value)[j]? = some u → ((w1.alloc (.cells #[.slice none 0 0, .slice none 0 0, .int .i64 0, .int .i64 0] 205)).alloc (.cells #[.slice A1 a.length c1, .slice A2 b.length c2] 27)).cell? ⟨w1.heap.size, j, none⟩ = some u := by
      intro j u hj
      refine (World.cell?_alloc_lt (w1.alloc _) _ ⟨w1.heap.size, j, none⟩ (by simp)).trans ?_
      have := news_new w1 [Value.slice none 0 0, .slice none 0 0, .int .i64 0, .int .i64 0] 205 w1.heap.size rfl j u (by simpa using hj)
      rwa [addr_add] at this
    refine hs.mono ?_
    clear hs
    rintro e wS ⟨vc, rfl, hbl, hbc2, hown, hbS⟩
    have hsz1 : ((w1.alloc (.cells #[.slice none 0 0, .slice none 0 0, .int .i64 0, .int .i64 0] 205)).alloc (.cells #[.slice A1 a.length c1, .slice A2 b.length c2] 27)).heap.size = w1.heap.size + 2 := by simp
    have hz1 : ∀ j, ((w1.alloc (.cells #[.slice none 0 0, .slice none 0 0, .int .i64 0, .int .i64 0] 205)).alloc (.cells #[.slice A1 a.length c1, .slice A2 b.length c2] 27)).frozen? ⟨w1.heap.size, j, none⟩ = false := fun j => by simp [go_sem]
    go_wp2_with (fail)
    obtain ⟨w2, hw2⟩ : ∃ w2, (w1.alloc (.cells #[.slice none 0 0, .slice none 0 0, .int .i64 0, .int .i64 0] 205)).alloc (.cells #[.slice A1 a.length c1, .slice A2 b.length c2] 27) = w2 := ⟨_, rfl⟩
    rw [hw2] at hb2 hL1 hL2 hbc hbS hsz1 hz1
    clear hw2
    have hcsz := hbS.size
    obtain ⟨Ac, cc, hvc⟩ := own_form hown
    subst hvc
    have hbS2 : Below (w1.heap.size + 2) w2 wS := hbS.mono (by omega)
    have hlow : Below w1.heap.size w1 wS := hb2.trans (hbS.mono (by omega))
    have kS : ∀ j, wS.cell? ⟨w1.heap.size, j, none⟩ = w2.cell? ⟨w1.heap.size, j, none⟩ := fun j => hbS2.cell (p := ⟨w1.heap.size, j, none⟩) (by show w1.heap.size < _; omega)
    have zS : ∀ j, wS.frozen? ⟨w1.heap.size, j, none⟩ = w2.frozen? ⟨w1.heap.size, j, none⟩ := fun j => hbS2.frozen (p := ⟨w1.heap.size, j, none⟩) (by show w1.heap.size < _; omega)
    have hbw0 : BW w1.heap.size wS.heap.size (swp (fun c => sjoin h (crossL a c) (crossL b c)) []) [] 0 0 wS :=
      ⟨by omega, Nat.le_refl _, ⟨_, (kS 0).trans (hbc 0 _ rfl), World.ownsRow_nil _ _ _ _⟩, ⟨_, (kS 1).trans (hbc 1 _ rfl), World.ownsRow_nil _ _ _ _⟩, (kS 2).trans (hbc 2 _ rfl), (kS 3).trans (hbc 3 _ rfl), fun j => (zS j).trans (hz1 j), BInv.start⟩
    have hL1S := (hbS2.cell (p := ⟨w1.heap.size + 1, 0, none⟩) (by show w1.heap.size + 1 < _; omega)).trans hL1
    have hL2S := (hbS2.cell (p := ⟨w1.heap.size + 1, 1, none⟩) (by show w1.heap.size + 1 < _; omega)).trans hL2
    have hit := slabsItB [a, b] cs (w1.heap.size + 3) (w1.heap.size + 2) (w1.heap.size + 1) 2 cc w1.heap.size (w1.heap.size + 4) Ac wS (lt_of_cell hbl) (lt_of_cell hbc2) (by omega) (by omega) (by omega) (by omega) (by omega) (by omega)
      hbl hbc2 hown (fun k l' hk => by
        match k, hk with
        | 0, hk => simp at hk; subst hk; exact ⟨by omega, _, hL1S, ((RA.out.below KB.out).mono KB.out.size).below hlow⟩
        | 1, hk => simp at hk; subst hk; exact ⟨by omega, _, hL2S, ((RB.out.below KB.out).mono KB.out.size).below hlow⟩
        | k + 2, hk => simp at hk) (by simp) (by omega)
    have hws : w1.heap.size + 4 ≤ wS.heap.size := lt_of_cell hbc2
    have hI0 : MI w1.heap.size wS.heap.size (fun c => sjoin h (crossL a c) (crossL b c)) 1600 w1 [] wS := ⟨⟨[], 0, 0, hbw0, by simp, .inl rfl⟩, hlow⟩
    clear hb2 hL1 hL2 hbc hbS hsz1 hz1 hcsz hbS2 hlow kS zS hbw0 hL1S hL2S hbl hbc2 hown
    refine (wpIn_wide (n := 0)).1 ?_
    refine wp_range rfl (enters_of Tryz.func187 (by kernel_rfl) rfl) hit (Below.refl _ _) (fun x args A hx => by obtain ⟨Rw, rfl, _⟩ := hx; rfl) KpX.trans ?_
      (MI w1.heap.size wS.heap.size (fun c => sjoin h (crossL a c) (crossL b c)) 1600 w1) (fun _ W => 400 < (rjoin h a b).length ∧ W.cell? ⟨w.heap.size + 1, 0, none⟩ = some (.slice none 0 0) ∧ W.cell? ⟨w.heap.size + 1 + 1, 0, none⟩ = some (.int .i64 4) ∧ Below w.heap.size w W)
      (fun pre A B h hb => h.below hb) (fun pre A l o o' h hw hl ho ho' => h.putObj (by omega) hl ho ho') (fun pre A l o o' h hw hl ho ho' => ⟨h.1, (cell_putObj hl ho ho' _).1.trans h.2.1, (cell_putObj hl ho ho' _).1.trans h.2.2.1, below_putObj h.2.2.2 (by have := KB.out.size; omega) _⟩) hI0 ?_ ?_ ?_
    · intro A l o o' _ h1 h2 h3
      exact ⟨by simp, fun b off _ _ => (cell_putObj h1 h2 h3 _).1⟩
    · rintro l2 pre ⟨c, d⟩ args A hMI ⟨post, hpost⟩ ⟨Rw, rfl, hRw, hrows⟩ hl1 ⟨ol, hl2, hl3⟩
      have hll : l2 < A.heap.size := (Array.getElem?_eq_some_iff.1 hl2).1
      obtain ⟨vx, hx1, hx2⟩ := hrows 0 a rfl
      obtain ⟨vy, hy1, hy2⟩ := hrows 1 b rfl
      have hlo := hMI.low.size
      have hBoA : wS.heap.size ≤ A.heap.size := by obtain ⟨_, _, _, h1, _⟩ := hMI.bw; exact h1.size
      have hM := hide hMI
      have HX1 := hide hx1
      have HX2 := hide hx2
      have HY1 := hide hy1
      have HY2 := hide hy2
      have HL2 := hide hl2
      have HP := hide hpost
      clear hMI hrows hx1 hx2 hy1 hy2 hit hI0 hl2 hpost
      gi_wp2
      refine ⟨KeepsFrom.of_below' ((Below.refl _ _).alloc (Nat.le_refl _) _), KpX.below hBoA ((Below.refl _ _).alloc (Nat.le_refl _) _), ?_⟩
      intro A2 g2 s2 e2 f2
      have c20 : A2.cell? ⟨A.heap.size, 0, none⟩ = some (.int .i64 c) := (e2 _).trans (by simp [go_sem])
      have c21 : A2.cell? ⟨A.heap.size, 1, none⟩ = some (.int .i64 d) := (e2 _).trans (by simp [go_sem])
      have c22 : A2.cell? ⟨A.heap.size, 2, none⟩ = some (.slice (some ⟨Rw, 0, none⟩) 2 2) := (e2 _).trans (by simp [go_sem])
      have s3 : A2.heap.size = A.heap.size + 1 := by rw [s2]; simp
      have cR0 : A2.cell? ⟨Rw, 0, none⟩ = some vx := (e2 _).trans ((World.cell?_alloc_lt A _ ⟨Rw, 0, none⟩ hRw).trans HX1.out)
      have cR1 : A2.cell? ⟨Rw, 1, none⟩ = some vy := (e2 _).trans ((World.cell?_alloc_lt A _ ⟨Rw, 1, none⟩ hRw).trans HY1.out)
      have rd0 : RdK encS 2 A2 A2.heap.size vx (crossL a c) := (HX2.out.keep fun b o hb => (e2 _).trans (World.cell?_alloc_lt A _ ⟨b, o, none⟩ hb)).mono (by omega)
      have rd1 : RdK encS 2 A2 A2.heap.size vy (crossL b c) := (HY2.out.keep fun b o hb => (e2 _).trans (World.cell?_alloc_lt A _ ⟨b, o, none⟩ hb)).mono (by omega)
      have M2 := (hM.out.below ((Below.refl _ _).alloc (Nat.le_refl _) (.cells #[.int .i64 c, .int .i64 d, .slice (some ⟨Rw, 0, none⟩) 2 2] 210))).grown (by omega) g2 ((Below.heap_alloc _ _ _ hll).trans HL2.out) hl3
      have c5 : A2.cell? ⟨w.heap.size, 0, none⟩ = some (.func (.func f) #[] #[]) := (M2.low.cell (p := ⟨w.heap.size, 0, none⟩) (by show w.heap.size < _; omega)).trans HBX.out.1
      have k6 : A2.cell? ⟨w.heap.size + 1, 0, none⟩ = some (.slice none 0 0) := (M2.low.cell (p := ⟨w.heap.size + 1, 0, none⟩) (by show w.heap.size + 1 < _; omega)).trans HBX.out.2.1.1
      have k7 : A2.cell? ⟨w.heap.size + 1 + 1, 0, none⟩ = some (.int .i64 0) := (M2.low.cell (p := ⟨w.heap.size + 1 + 1, 0, none⟩) (by show w.heap.size + 1 + 1 < _; omega)).trans HBX.out.2.1.2
      have f6 : A2.frozen? ⟨w.heap.size + 1, 0, none⟩ = false := (M2.low.frozen (p := ⟨w.heap.size + 1, 0, none⟩) (by show w.heap.size + 1 < _; omega)).trans HBX.out.2.2.1
      have f7 : A2.frozen? ⟨w.heap.size + 1 + 1, 0, none⟩ = false := (M2.low.frozen (p := ⟨w.heap.size + 1 + 1, 0, none⟩) (by show w.heap.size + 1 + 1 < _; omega)).trans HBX.out.2.2.2
      obtain ⟨av, cv, hvx, _⟩ := id rd0
      obtain ⟨aw, cw, hvy, _⟩ := id rd1
      subst hvx; subst hvy
      have hcall := fun (W : World) (hW : Below A2.heap.size A2 W) => HSP.out (crossL a c) (crossL b c) _ _ W ((rd0.below hW).mono hW.size) ((rd1.below hW).mono hW.size) (Nat.le_trans (crossL_len a c) la) (Nat.le_trans (crossL_len b c) lb) (crossL_can HCA.out c) (crossL_can HCB.out c) (crossL_valid HVA.out c) (crossL_valid HVB.out c)
      have HCALL := hide hcall
      obtain ⟨last, first, e, B2, q1, q2⟩ := M2.bw
      have hprs := HP.out
      have hlt := prs_lt cs HC.out.1 (c, d) (by rw [hprs]; simp)
      have hnx := prs_next cs pre (c, d) post hprs
      have hplen : pre.length ≤ 1600 := by
        have h1 := prs_len cs
        rw [hprs] at h1
        simp at h1
        omega
      have hfl := swp_len (fun c => sjoin h (crossL a c) (crossL b c)) 1600 HG.out pre
      have hfl2 : (flat (swp (fun c => sjoin h (crossL a c) (crossL b c)) pre)).length ≤ 100000000 := by have := Nat.mul_le_mul_right 1600 hplen; omega
      have hsl := HG.out c
      have hef : swp (fun c => sjoin h (crossL a c) (crossL b c)) pre = [] ∨ e ≤ c := by
        rcases q2 with rfl | ⟨p, hp, rfl⟩
        · exact .inl rfl
        · exact .inr (by rw [hnx p hp]; exact Int.le_refl _)
      have hadd : ∀ (A3 : World) (Am : Option Addr) (cm : Nat), Below A2.heap.size A2 A3 → A3.ownsRow wS.heap.size 188 2 (.slice Am (sjoin h (crossL a c) (crossL b c)).length cm) (sjoin h (crossL a c) (crossL b c)).length ((sjoin h (crossL a c) (crossL b c)).flatMap encS) → _ := fun A3 Am cm hb ho =>
        add_any (s := sjoin h (crossL a c) (crossL b c)) (f := c) (t := d) (B2.below hb) ho hfl2 (Nat.le_trans hsl (by omega)) (by omega) hef hlt.1
      have HA := hide hadd
      have HM2 := hide M2.low
      have HMC := hide (HMANY.out c)
      have hsj : sjF h (crossL a c) (crossL b c) = if 400 < (sjoin h (crossL a c) (crossL b c)).length then ([], 4) else (sjoin h (crossL a c) (crossL b c), 0) := rfl
      have HSJ := hide hsj
      have HBLT := hide (show w.heap.size + 3 ≤ A2.heap.size by omega)
      have hRw2 : Rw < A2.heap.size := by omega
      have hws2 : wS.heap.size ≤ A2.heap.size := by omega
      clear g2 s2 e2 f2 M2 B2 hadd hlt hnx hef hprs q2 hcall rd0 rd1 hsj hfl hfl2
      gi_wp2_with (refine ⟨trivial, rfl, ?_⟩)
      refine wpIn_region_two [0, 1, 2, 3, 4, 5, 6, 7, 8] [9, 10] [11, 12, 13] [14] (fun w' => (w'.cell? ⟨w.heap.size, 0, none⟩ = some (.func (.func f) #[] #[]) ∧ w'.cell? ⟨A.heap.size, 2, none⟩ = some (.slice (some ⟨Rw, 0, none⟩) 2 2)) ∧ w'.cell? ⟨Rw, 0, none⟩ = some (.slice av (crossL a c).length cv) ∧ w'.cell? ⟨Rw, 1, none⟩ = some (.slice aw (crossL b c).length cw)) (by kernel_rfl) (by kernel_rfl) rfl (fun a w h => h) ⟨⟨c5, c22⟩, cR0, cR1⟩ ?_
      simp only [List.map_cons, List.map_nil, opAt, List.getElem?_cons_succ, List.getElem?_cons_zero, Option.getD_some]
      iterate 9
        refine ⟨?_, Or.inl ⟨by rfl, ?_⟩, ?_⟩
        rotate_left 1
        · intro w' hSw
          obtain ⟨⟨z0, z1⟩, z2, z3⟩ := hSw
          go_simp
          first | done | with_reducible rfl
        simp only [Act.put, List.setIfInBounds_toArray, List.set_cons_zero, List.set_cons_succ]
      simp only [wpReads, wpChain]
      intro K hK
      simp only [Act.put, List.setIfInBounds_toArray, List.set_cons_zero, List.set_cons_succ] at hK ⊢
      go_simp
      rw [HEF.out]
      have hcd := HCALL.out A2.drew (Below.refl _ _).drew
      rw [HSJ.out] at hcd
      refine hcd.mono ?_
      clear hcd
      rintro e' A4 ⟨⟨Am, cm, rfl, ho4⟩, hb4'⟩
      have hb4 : Below A2.heap.size A2 A4 := (Below.refl _ _).drew.trans hb4'
      have hkc : ∀ p : Addr, p.block < A2.heap.size → A4.cell? p = A2.cell? p := fun p hp => hb4.cell hp
      have hkf : ∀ p : Addr, p.block < A2.heap.size → A4.frozen? p = A2.frozen? p := fun p hp => hb4.frozen hp
      have n5 := (hkc ⟨w.heap.size, 0, none⟩ (by show w.heap.size < _; omega)).trans c5
      have n6 := (hkc ⟨w.heap.size + 1, 0, none⟩ (by show w.heap.size + 1 < _; omega)).trans k6
      have n7 := (hkc ⟨w.heap.size + 1 + 1, 0, none⟩ (by show w.heap.size + 1 + 1 < _; omega)).trans k7
      have m6 := (hkf ⟨w.heap.size + 1, 0, none⟩ (by show w.heap.size + 1 < _; omega)).trans f6
      have m7 := (hkf ⟨w.heap.size + 1 + 1, 0, none⟩ (by show w.heap.size + 1 + 1 < _; omega)).trans f7
      have n20 := (hkc ⟨A.heap.size, 0, none⟩ (by show A.heap.size < _; omega)).trans c20
      have n21 := (hkc ⟨A.heap.size, 1, none⟩ (by show A.heap.size < _; omega)).trans c21
      have n22 := (hkc ⟨A.heap.size, 2, none⟩ (by show A.heap.size < _; omega)).trans c22
      have nR0 := (hkc ⟨Rw, 0, none⟩ (by show Rw < _; omega)).trans cR0
      have nR1 := (hkc ⟨Rw, 1, none⟩ (by show Rw < _; omega)).trans cR1
      have HB4 := hide hb4
      have HO4 := hide ho4
      clear hkc hkf c5 k6 k7 f6 f7 c20 c21 c22 cR0 cR1 hb4 hb4' ho4
      refine hK _ _ ⟨⟨n5, n22⟩, nR0, nR1⟩ ?_
      clear hK K
      intro K hK
      simp only [Act.put, List.setIfInBounds_toArray, List.set_cons_zero, List.set_cons_succ] at hK ⊢
      go_simp
      refine hK _ _ ⟨⟨n5, n22⟩, nR0, nR1⟩ ?_
      clear hK K n5 n22 nR0 nR1
      iterate 3
        refine ⟨?_, Or.inl ⟨by rfl, ?_⟩, ?_⟩
        rotate_left 1
        · intro w' hSw
          clear hSw
          go_simp
          first | done | with_reducible rfl
        try simp only [Act.put, List.setIfInBounds_toArray, List.set_cons_zero, List.set_cons_succ]
      intro K hK
      simp only [Act.put, List.setIfInBounds_toArray, List.set_cons_zero, List.set_cons_succ] at hK ⊢
      go_simp
      refine hK _ _ (fun h => absurd rfl h) ?_
      clear hK K
      refine NoPanic.normal ?_
      by_cases h4 : 400 < (sjoin h (crossL a c) (crossL b c)).length
      · have HO5 := HO4.out
        simp only [if_pos h4] at HO5 ⊢
        have hmany := Nat.lt_of_lt_of_le h4 HMC.out
        gi_wp2_with (fail)
        have hb4 := HB4.out
        refine ⟨keepsFrom_set (keepsFrom_set (KeepsFrom.of_below' hb4) (by show w.heap.size + 1 < _; omega) _) (by show w.heap.size + 1 + 1 < _; omega) _, hmany, by simp [go_sem, n6, n7, m6, m7], by simp [go_sem, n6, n7, m6, m7], ?_⟩
        exact (((KB.out.trans (HM2.out.mono (by omega))).trans (hb4.mono (by omega))).setCell (p := ⟨w.heap.size + 1, 0, none⟩) (Nat.le_succ _) _).setCell (p := ⟨w.heap.size + 1 + 1, 0, none⟩) (by show w.heap.size ≤ w.heap.size + 1 + 1; omega) _
      · have HO5 := HO4.out
        simp only [if_neg h4] at HO5 ⊢
        have hadd := HA.out A4 Am cm HB4.out (own_base HO5 (by show wS.heap.size ≤ A2.heap.size; omega))
        gi_wp2_with (first
          | (refine ⟨trivial, rfl, ?_⟩)
          | (gi_at_call 144; refine (CallsIn.inRound l2 (callsIn_wide.2 hadd)).mono ?_; rintro e' A5 ⟨rfl, first', hbw5, hb5, hblk5, hk5⟩))
        have hb4 := HB4.out
        refine ⟨(KeepsFrom.of_below' hb4).trans (hk5.from _), (KpX.below (by omega) hb4).trans ⟨hk5.size, fun b o h1 h2 => World.cell?_of_block (w := A4) (hblk5 b h1 h2)⟩, ⟨_, first', d, by rw [swp_snoc]; exact hbw5, hsl, .inr ⟨(c, d), by simp, rfl⟩⟩, ?_⟩
        exact (HM2.out.trans (hb4.mono (by omega))).trans hb5
    · rintro D W hD hMI hK
      obtain ⟨last, first, e, hB, _, _⟩ := hMI.bw
      have hplen : (prs cs).length ≤ 1600 := by
        have h1 := prs_len cs
        omega
      have hfl := swp_len (fun c => sjoin h (crossL a c) (crossL b c)) 1600 HG.out (prs cs)
      have hfl2 := Nat.mul_le_mul_right 1600 hplen
      have hres := result_any hB (by omega)
      rw [HF.out] at hres
      have hws2 := hB.size
      have HM := hide hMI.low
      have HK := hide hK
      have hD2 : D < W.heap.size := (Array.getElem?_eq_some_iff.1 hK).1
      have hlw : w1.heap.size ≤ W.heap.size := hMI.low.size
      have k6 : W.cell? ⟨w.heap.size + 1, 0, none⟩ = some (.slice none 0 0) := (HM.out.cell (p := ⟨w.heap.size + 1, 0, none⟩) (by show w.heap.size + 1 < _; omega)).trans HBX.out.2.1.1
      have k7 : W.cell? ⟨w.heap.size + 1 + 1, 0, none⟩ = some (.int .i64 0) := (HM.out.cell (p := ⟨w.heap.size + 1 + 1, 0, none⟩) (by show w.heap.size + 1 + 1 < _; omega)).trans HBX.out.2.1.2
      have f6 : W.frozen? ⟨w.heap.size + 1, 0, none⟩ = false := (HM.out.frozen (p := ⟨w.heap.size + 1, 0, none⟩) (by show w.heap.size + 1 < _; omega)).trans HBX.out.2.2.1
      have f7 : W.frozen? ⟨w.heap.size + 1 + 1, 0, none⟩ = false := (HM.out.frozen (p := ⟨w.heap.size + 1 + 1, 0, none⟩) (by show w.heap.size + 1 + 1 < _; omega)).trans HBX.out.2.2.2
      clear hB hMI hfl hfl2 hit hI0 hK
      simp only [Exit.inBlock, Exit.then]
      by_cases h4 : 400 < (rjoin h a b).length
      · have HMF : Hid (joinF h a b = ([], 4)) := hide (HJF.out.trans (if_pos h4))
        go_wp2_with (go_at_call 145; refine hres.mono ?_; rintro e' w' ⟨rfl, hq⟩; obtain rfl : e' = .returned (.tuple #[.slice none 0 0, .int .i64 4]) := hq.elim (fun q => q.2) (fun q => absurd q.1 (by omega)); clear hq)
        have c6 : ((W.setCell ⟨w.heap.size + 1, 0, none⟩ (.slice none 0 0)).setCell ⟨w.heap.size + 1 + 1, 0, none⟩ (.int .i64 4)).cell? ⟨w.heap.size + 1, 0, none⟩ = some (.slice none 0 0) := by simp [go_sem, k6, k7, f6, f7]
        have c7 : ((W.setCell ⟨w.heap.size + 1, 0, none⟩ (.slice none 0 0)).setCell ⟨w.heap.size + 1 + 1, 0, none⟩ (.int .i64 4)).cell? ⟨w.heap.size + 1 + 1, 0, none⟩ = some (.int .i64 4) := by simp [go_sem, k6, k7, f6, f7]
        have cD : ((W.setCell ⟨w.heap.size + 1, 0, none⟩ (.slice none 0 0)).setCell ⟨w.heap.size + 1 + 1, 0, none⟩ (.int .i64 4)).heap[D]? = some (.deferred (some [])) := (Below.heap_setCell _ _ _ _ (by show D ≠ w.heap.size + 1 + 1; omega)).trans ((Below.heap_setCell _ _ _ _ (by show D ≠ w.heap.size + 1; omega)).trans HK.out)
        have hbL : Below w.heap.size w ((W.setCell ⟨w.heap.size + 1, 0, none⟩ (.slice none 0 0)).setCell ⟨w.heap.size + 1 + 1, 0, none⟩ (.int .i64 4)) := ((KB.out.trans (HM.out.mono (by omega))).setCell (p := ⟨w.heap.size + 1, 0, none⟩) (Nat.le_succ _) _).setCell (p := ⟨w.heap.size + 1 + 1, 0, none⟩) (by show w.heap.size ≤ w.heap.size + 1 + 1; omega) _
        obtain ⟨W3, hW3⟩ : ∃ W3, (W.setCell ⟨w.heap.size + 1, 0, none⟩ (.slice none 0 0)).setCell ⟨w.heap.size + 1 + 1, 0, none⟩ (.int .i64 4) = W3 := ⟨_, rfl⟩
        rw [hW3] at c6 c7 cD hbL
        rw [hW3]
        clear hW3 k6 k7 f6 f7
        refine ⟨by simp, .inl ⟨_, _, rfl, run_takeDeferred cD, ?_⟩⟩
        have e6 := (cell_putObj (o' := .deferred none) cD rfl rfl ⟨w.heap.size + 1, 0, none⟩).1.trans c6
        have e7 := (cell_putObj (o' := .deferred none) cD rfl rfl ⟨w.heap.size + 1 + 1, 0, none⟩).1.trans c7
        refine ⟨.tuple #[(.slice none 0 0), .int .i64 4], by simp [results, Tryz.results96, go_sem, e6, e7], ⟨none, 0, by rw [HMF.out]; rfl, by rw [HMF.out]; exact World.ownsRow_nil _ _ _ _⟩, below_putObj hbL (by omega) _⟩
      · have HMF : Hid (joinF h a b = (rjoin h a b, 0)) := hide (HJF.out.trans (if_neg h4))
        generalize rjoin h a b = R at *
        go_wp2_with (go_at_call 145; refine hres.mono ?_; rintro e' w' ⟨rfl, hq⟩; obtain ⟨Ar, cr, rfl, hor⟩ := hq.elim (fun q => absurd q.1 h4) (fun q => q.2); have HOR := hide hor; clear hq hor)
        have c6 : ((W.setCell ⟨w.heap.size + 1, 0, none⟩ (.slice Ar R.length cr)).setCell ⟨w.heap.size + 1 + 1, 0, none⟩ (.int .i64 0)).cell? ⟨w.heap.size + 1, 0, none⟩ = some (.slice Ar R.length cr) := by simp [go_sem, k6, k7, f6, f7]
        have c7 : ((W.setCell ⟨w.heap.size + 1, 0, none⟩ (.slice Ar R.length cr)).setCell ⟨w.heap.size + 1 + 1, 0, none⟩ (.int .i64 0)).cell? ⟨w.heap.size + 1 + 1, 0, none⟩ = some (.int .i64 0) := by simp [go_sem, k6, k7, f6, f7]
        have cD : ((W.setCell ⟨w.heap.size + 1, 0, none⟩ (.slice Ar R.length cr)).setCell ⟨w.heap.size + 1 + 1, 0, none⟩ (.int .i64 0)).heap[D]? = some (.deferred (some [])) := (Below.heap_setCell _ _ _ _ (by show D ≠ w.heap.size + 1 + 1; omega)).trans ((Below.heap_setCell _ _ _ _ (by show D ≠ w.heap.size + 1; omega)).trans HK.out)
        have hbL : Below w.heap.size w ((W.setCell ⟨w.heap.size + 1, 0, none⟩ (.slice Ar R.length cr)).setCell ⟨w.heap.size + 1 + 1, 0, none⟩ (.int .i64 0)) := ((KB.out.trans (HM.out.mono (by omega))).setCell (p := ⟨w.heap.size + 1, 0, none⟩) (Nat.le_succ _) _).setCell (p := ⟨w.heap.size + 1 + 1, 0, none⟩) (by show w.heap.size ≤ w.heap.size + 1 + 1; omega) _
        have hoL : ((W.setCell ⟨w.heap.size + 1, 0, none⟩ (.slice Ar R.length cr)).setCell ⟨w.heap.size + 1 + 1, 0, none⟩ (.int .i64 0)).ownsRow wS.heap.size 69 4 (.slice Ar R.length cr) R.length (R.flatMap encR) := ownsRow_setCell_below (ownsRow_setCell_below HOR.out (by show w.heap.size + 1 < _; omega) _) (by show w.heap.size + 1 + 1 < _; omega) _
        obtain ⟨W3, hW3⟩ : ∃ W3, (W.setCell ⟨w.heap.size + 1, 0, none⟩ (.slice Ar R.length cr)).setCell ⟨w.heap.size + 1 + 1, 0, none⟩ (.int .i64 0) = W3 := ⟨_, rfl⟩
        rw [hW3] at c6 c7 cD hbL hoL
        rw [hW3]
        clear hW3 k6 k7 f6 f7
        refine ⟨by simp, .inl ⟨_, _, rfl, run_takeDeferred cD, ?_⟩⟩
        have e6 := (cell_putObj (o' := .deferred none) cD rfl rfl ⟨w.heap.size + 1, 0, none⟩).1.trans c6
        have e7 := (cell_putObj (o' := .deferred none) cD rfl rfl ⟨w.heap.size + 1 + 1, 0, none⟩).1.trans c7
        refine ⟨.tuple #[(.slice Ar R.length cr), .int .i64 0], by simp [results, Tryz.results96, go_sem, e6, e7], ⟨Ar, cr, by rw [HMF.out], by rw [HMF.out]; exact own_base (own_putObj hoL cD rfl) (by omega)⟩, below_putObj hbL (by omega) _⟩
    · rintro D pre W hD ⟨hmany, hc6, hc7, hlowW⟩ hK
      have HMF : Hid (joinF h a b = ([], 4)) := hide (HJF.out.trans (if_pos hmany))
      have HK := hide hK
      have hD2 : D < W.heap.size := (Array.getElem?_eq_some_iff.1 hK).1
      clear hit hI0 hK
      simp only [Exit.inBlock, Exit.then]
      refine ⟨by simp, .inl ⟨_, _, rfl, run_takeDeferred HK.out, ?_⟩⟩
      have e6 := (cell_putObj (o' := .deferred none) HK.out rfl rfl ⟨w.heap.size + 1, 0, none⟩).1.trans hc6
      have e7 := (cell_putObj (o' := .deferred none) HK.out rfl rfl ⟨w.heap.size + 1 + 1, 0, none⟩).1.trans hc7
      refine ⟨.tuple #[.slice none 0 0, .int .i64 4], by simp [results, Tryz.results96, go_sem, e6, e7], ⟨none, 0, by rw [HMF.out]; rfl, by rw [HMF.out]; exact World.ownsRow_nil _ _ _ _⟩, below_putObj hlowW (by omega) _⟩
  · have HF : Hid (joinF h a b = ([], bothF a b)) := hide (if_neg hb0)
    generalize bothF a b = ck at *
    have hne : (ck != 0) = true := by simpa using hb0
    clear hb0
    refine (callsIn_wide (n := 0)).1 ?_
    refine callsIn_of_wp_marks Tryz.func96 rfl trivial ?_
    simp only [Tryz.ntmps96, List.size_toArray, List.length_cons, List.length_nil, Nat.reduceAdd, Nat.reduceSub, Array.replicate_succ, Array.replicate_zero, List.push_toArray, List.append_toArray, List.nil_append, List.cons_append]
    refine wpIn_wide.2 ?_
    go_wp2_with (fail)
    refine (HBO.out _ K3.out).mono ?_
    rintro e w1 ⟨rfl, hb1⟩
    have hs1 := hb1.size
    simp at hs1
    have k6 : w1.cell? ⟨w.heap.size + 1, 0, none⟩ = some (.slice none 0 0) := (hb1.cell (p := ⟨w.heap.size + 1, 0, none⟩) (by simp)).trans (by simp [go_sem])
    have k7 : w1.cell? ⟨w.heap.size + 1 + 1, 0, none⟩ = some (.int .i64 0) := (hb1.cell (p := ⟨w.heap.size + 1 + 1, 0, none⟩) (by simp)).trans (by simp [go_sem])
    have f6 : w1.frozen? ⟨w.heap.size + 1, 0, none⟩ = false := (hb1.frozen (p := ⟨w.heap.size + 1, 0, none⟩) (by simp)).trans (by simp [go_sem])
    have f7 : w1.frozen? ⟨w.heap.size + 1 + 1, 0, none⟩ = false := (hb1.frozen (p := ⟨w.heap.size + 1 + 1, 0, none⟩) (by simp)).trans (by simp [go_sem])
    have KB := hide (K3.out.trans (hb1.mono (by simp; omega)))
    clear hb1
    go_wp2_with (fail)
    refine ⟨.tuple #[.slice none 0 0, .int .i64 ck], by simp [results, Tryz.results96, go_sem, k6, k7], ⟨none, 0, by rw [HF.out]; rfl, by rw [HF.out]; exact World.ownsRow_nil _ _ _ _⟩, ?_⟩
    exact (KB.out.setCell (p := ⟨w.heap.size + 1, 0, none⟩) (Nat.le_succ _) _).setCell (p := ⟨w.heap.size + 1 + 1, 0, none⟩) (by show w.heap.size ≤ w.heap.size + 1 + 1; omega) _
end Go.Proofs.YtdolpeljengpaaaGreat

/- region.Union, Meet and Minus. -/
namespace Go.Proofs.YtdolpeljengpaaaGreat
open Go.RowKit
set_option linter.unusedVariables false
set_option linter.unusedSimpArgs false

theorem hk_or : hk 2 = hOr := by funext p q; cases p <;> cases q <;> rfl
theorem hk_and : hk 1 = hAnd := by funext p q; cases p <;> cases q <;> rfl
theorem hk_sub : hk 3 = hSub := by funext p q; cases p <;> cases q <;> rfl
theorem joinF_len (h : Bool → Bool → Bool) (a b : List R4) : (joinF h a b).1.length ≤ 400 := by
  unfold joinF
  split
  · split
    · simp
    · simp only; omega
  · simp
set_option maxHeartbeats 1000000 in
theorem minus_any {a b : List R4} {va vb : Value} {w : World} (ra : RdK encR 4 w w.heap.size va a) (rb : RdK encR 4 w w.heap.size vb b) (na : a.length ≤ 100000000) (nb : b.length ≤ 100000000) :
    Calls Tryz.prog 51 #[va, vb] w fun e w' => RegRet w.heap.size (joinF hSub a b) e w' ∧ Below w.heap.size w w' := by
  have hc := joined_any (h := hSub) rfl spSub_any enter_spSub ra rb na nb
  obtain ⟨A1, c1, hva, _⟩ := ra
  obtain ⟨A2, c2, hvb, _⟩ := rb
  subst hva; subst hvb
  have HC := hide hc
  clear hc
  generalize joinF hSub a b = R at *
  obtain ⟨R1, R2⟩ := R
  go_enter Tryz.func51, Tryz.ntmps51
  go_wp2_with (fail)
  refine HC.out.mono ?_
  rintro e w1 ⟨⟨A3, c3, rfl, ho⟩, hb⟩
  have HO := hide ho
  clear ho
  go_wp2_with (fail)
  go_ret2
  exact ⟨⟨A3, c3, rfl, HO.out⟩, hb⟩
end Go.Proofs.YtdolpeljengpaaaGreat

/- Open, Close, Border, Margin of offset and of its reference. -/
namespace Go.Proofs.YtdolpeljengpaaaGreat
open Go.RowKit
set_option linter.unusedVariables false
set_option linter.unusedSimpArgs false

theorem hk_rest : hk 3 = hSub := by funext a b; simp [hk, hSub]
def openF (l : List R4) (d : Int) : List R4 × Int := if (shrF l d).2 = 0 then growF (shrF l d).1 d else ([], (shrF l d).2)
def closeF (l : List R4) (d : Int) : List R4 × Int := if (growF l d).2 = 0 then shrF (growF l d).1 d else ([], (growF l d).2)
def borderF (l : List R4) (d : Int) : List R4 × Int := if (shrF l d).2 = 0 then joinF hSub l (shrF l d).1 else ([], (shrF l d).2)
def marginF (l : List R4) (d : Int) : List R4 × Int := if (growF l d).2 = 0 then joinF hSub (growF l d).1 l else ([], (growF l d).2)
theorem carveF_len (a b : List R4) : (carveF a b).1.length ≤ 400 := by
  unfold carveF
  split
  · simp
  · simp only; omega
theorem growF_len (l : List R4) (d : Int) : (growF l d).1.length ≤ 400 := by
  unfold growF
  split
  · split
    · simp
    · exact carveF_len _ _
  · simp
theorem shrF_len (l : List R4) (d : Int) : (shrF l d).1.length ≤ 400 := by
  unfold shrF
  split
  · split
    · simp
    · simp only; omega
  · simp
end Go.Proofs.YtdolpeljengpaaaGreat

/- Plain: what growing, shrinking, opening, closing and depths give: points, codes, the algebra of near and full. -/
namespace Go.Proofs.YtdolpeljengpaaaGreat
open Go.RowKit
set_option linter.unusedVariables false
set_option linter.unusedSimpArgs false

theorem full_mem {l : List R4} {d : Int} (hd : 0 ≤ d) {x y : Int} (h : full l d x y) : pmem l x y := h x y (by omega) (by omega) (by omega) (by omega)
theorem mem_near {l : List R4} {d : Int} (hd : 0 ≤ d) {x y : Int} (h : pmem l x y) : near l d x y := ⟨x, y, by omega, by omega, by omega, by omega, h⟩
theorem growF_ok {l R : List R4} {d : Int} (h : growF l d = (R, 0)) : checkF l = 0 ∧ 0 ≤ d ∧ d ≤ 1000000 ∧ checkF R = 0 ∧ R.length ≤ 400 ∧ ∀ x y, pmem R x y ↔ near l d x y := by
  unfold growF at h
  by_cases h0 : chkD l d = 0
  · obtain ⟨hc, d0, d1⟩ := chkD_ok h0
    rw [if_pos h0] at h
    cases ha : l.any (farR d) with
    | true => rw [ha] at h; simp at h
    | false =>
      rw [ha, if_neg (by simp)] at h
      have hcv : carveF (l.map (growR d)) [] = if 400 < (growL l d).length then ([], 4) else (growL l d, 0) := rfl
      rw [hcv] at h
      by_cases hl : 400 < (growL l d).length
      · rw [if_pos hl] at h; simp at h
      · rw [if_neg hl] at h
        injection h with h _
        subst h
        have hw := check_wf hc
        obtain ⟨g1, g2⟩ := grow_ok hw d0
        refine ⟨hc, d0, d1, can_check g1 (sub_valid (m := l.map (growR d)) (can_wf g1) (fun r hr => ?_) fun x y hx => (near_grow hw d0 x y).1 ((g2 x y).1 hx)) (by omega), by omega, g2⟩
        obtain ⟨q, hq, rfl⟩ := List.mem_map.1 hr
        have hf := (List.any_eq_false.1 ha) q hq
        have hv := (checkF_ok hc).2.1 q hq
        simp only [farR, Bool.or_eq_true, decide_eq_true_eq] at hf
        simp only [valid4, fineP, growR] at hv ⊢
        omega
  · rw [if_neg h0] at h
    injection h with _ h
    exact absurd h h0
theorem shrF_ok {l R : List R4} {d : Int} (h : shrF l d = (R, 0)) : checkF l = 0 ∧ 0 ≤ d ∧ d ≤ 1000000 ∧ checkF R = 0 ∧ R.length ≤ 400 ∧ ∀ x y, pmem R x y ↔ full l d x y := by
  unfold shrF at h
  by_cases h0 : chkD l d = 0
  · obtain ⟨hc, d0, d1⟩ := chkD_ok h0
    rw [if_pos h0] at h
    by_cases hl : 400 < (shrR l d).length
    · rw [if_pos hl] at h; simp at h
    · rw [if_neg hl] at h
      injection h with h _
      subst h
      obtain ⟨g1, g2⟩ := shr_ok (check_rcan hc) d0
      exact ⟨hc, d0, d1, can_check g1 (sub_valid (m := l) (can_wf g1) (checkF_ok hc).2.1 fun x y hx => full_mem d0 ((g2 x y).1 hx)) (by omega), by omega, g2⟩
  · rw [if_neg h0] at h
    injection h with _ h
    exact absurd h h0
/-- No rectangle lies beyond m. -/
def Bnd (l : List R4) (m : Int) : Prop := ∀ r ∈ l, -m ≤ r.x0 ∧ -m ≤ r.y0 ∧ r.x1 ≤ m ∧ r.y1 ≤ m
theorem chkD_zero {l : List R4} (hc : checkF l = 0) {d : Int} (d0 : 0 ≤ d) (d1 : d ≤ 1000000) : chkD l d = 0 := by
  unfold chkD
  rw [if_pos hc, if_neg (by omega)]
theorem growF_code {l : List R4} (hc : checkF l = 0) {d m : Int} (d0 : 0 ≤ d) (d1 : d ≤ 1000000) (hb : Bnd l m) (hm : m + d ≤ 1000000) : growF l d = ([], 4) ∨ ∃ R, growF l d = (R, 0) := by
  unfold growF
  have ha : l.any (farR d) = false := by
    rw [List.any_eq_false]
    intro r hr
    have := hb r hr
    simp only [farR, Bool.or_eq_true, decide_eq_true_eq]
    omega
  rw [if_pos (chkD_zero hc d0 d1), ha, if_neg (by simp)]
  unfold carveF
  split
  · exact .inl rfl
  · exact .inr ⟨_, rfl⟩
theorem shrF_code {l : List R4} (hc : checkF l = 0) {d : Int} (d0 : 0 ≤ d) (d1 : d ≤ 1000000) : shrF l d = ([], 4) ∨ ∃ R, shrF l d = (R, 0) := by
  unfold shrF
  rw [if_pos (chkD_zero hc d0 d1)]
  split
  · exact .inl rfl
  · exact .inr ⟨_, rfl⟩
theorem bnd_sub {R l : List R4} {m : Int} (hR : checkF R = 0) (hl : Bnd l m) (h : ∀ x y, pmem R x y → pmem l x y) : Bnd R m := fun r hr => by
  have hv := (checkF_ok hR).2.1 r hr
  simp only [valid4] at hv
  obtain ⟨s, hs, h1⟩ := h r.x0 r.y0 ⟨r, hr, by simp only [rin]; omega⟩
  obtain ⟨t, ht, h2⟩ := h (r.x1 - 1) (r.y1 - 1) ⟨r, hr, by simp only [rin]; omega⟩
  have b1 := hl s hs
  have b2 := hl t ht
  simp only [rin] at h1 h2
  omega
/-- What law.go's fit asks. -/
def FitO (l : List R4) (d : Int) : Prop := l.length ≤ 30 ∧ checkF l = 0 ∧ 0 ≤ d ∧ d ≤ 100 ∧ Bnd l 1000
theorem FitO.grow {l : List R4} {d : Int} (h : FitO l d) : growF l d = ([], 4) ∨ ∃ R, growF l d = (R, 0) ∧ checkF R = 0 ∧ R.length ≤ 400 ∧ ∀ x y, pmem R x y ↔ near l d x y := by
  rcases growF_code h.2.1 h.2.2.1 (by have := h.2.2.2.1; omega) h.2.2.2.2 (by have := h.2.2.2.1; omega) with e | ⟨R, e⟩
  · exact .inl e
  · exact .inr ⟨R, e, (growF_ok e).2.2.2⟩
theorem FitO.shrink {l : List R4} {d : Int} (h : FitO l d) : shrF l d = ([], 4) ∨ ∃ R, shrF l d = (R, 0) ∧ checkF R = 0 ∧ R.length ≤ 400 ∧ ∀ x y, pmem R x y ↔ full l d x y := by
  rcases shrF_code h.2.1 h.2.2.1 (by have := h.2.2.2.1; omega) with e | ⟨R, e⟩
  · exact .inl e
  · exact .inr ⟨R, e, (shrF_ok e).2.2.2⟩
/-- Grown regions and shrunk ones belong together. -/
theorem near_full {p q : List R4} {d : Int} : (∀ x y, near p d x y → pmem q x y) ↔ ∀ x y, pmem p x y → full q d x y := by
  constructor
  · intro h x y hp u v h1 h2 h3 h4
    exact h u v ⟨x, y, by omega, by omega, by omega, by omega, hp⟩
  · rintro h x y ⟨u, v, h1, h2, h3, h4, hp⟩
    exact h u v hp x y (by omega) (by omega) (by omega) (by omega)
theorem near_sum {l a : List R4} {d e : Int} (d0 : 0 ≤ d) (e0 : 0 ≤ e) (ha : ∀ x y, pmem a x y ↔ near l d x y) (x y : Int) : near a e x y ↔ near l (d + e) x y := by
  constructor
  · rintro ⟨u, v, h1, h2, h3, h4, hp⟩
    obtain ⟨s, t, k1, k2, k3, k4, hq⟩ := (ha u v).1 hp
    exact ⟨s, t, by omega, by omega, by omega, by omega, hq⟩
  · rintro ⟨s, t, k1, k2, k3, k4, hq⟩
    exact ⟨max (x - e) (min s (x + e)), max (y - e) (min t (y + e)), by omega, by omega, by omega, by omega, (ha _ _).2 ⟨s, t, by omega, by omega, by omega, by omega, hq⟩⟩
theorem full_sum {l a : List R4} {d e : Int} (d0 : 0 ≤ d) (e0 : 0 ≤ e) (ha : ∀ x y, pmem a x y ↔ full l d x y) (x y : Int) : full a e x y ↔ full l (d + e) x y := by
  constructor
  · intro h s t k1 k2 k3 k4
    exact (ha _ _).1 (h (max (x - e) (min s (x + e))) (max (y - e) (min t (y + e))) (by omega) (by omega) (by omega) (by omega)) s t (by omega) (by omega) (by omega) (by omega)
  · intro h u v h1 h2 h3 h4
    exact (ha u v).2 fun s t k1 k2 k3 k4 => h s t (by omega) (by omega) (by omega) (by omega)
theorem near_sub {a b : List R4} {d : Int} (h : ∀ x y, pmem a x y → pmem b x y) {x y : Int} (hn : near a d x y) : near b d x y := by
  obtain ⟨u, v, h1, h2, h3, h4, hp⟩ := hn
  exact ⟨u, v, h1, h2, h3, h4, h u v hp⟩
theorem full_sub {a b : List R4} {d : Int} (h : ∀ x y, pmem a x y → pmem b x y) {x y : Int} (hn : full a d x y) : full b d x y := fun u v h1 h2 h3 h4 => h u v (hn u v h1 h2 h3 h4)
/-- The same region out of the same points. -/
theorem grow_twice {l a b c : List R4} {d e : Int} (h1 : growF l d = (a, 0)) (h2 : growF a e = (b, 0)) (h3 : growF l (d + e) = (c, 0)) : b = c := by
  obtain ⟨_, d0, _, _, _, p1⟩ := growF_ok h1
  obtain ⟨_, e0, _, k2, _, p2⟩ := growF_ok h2
  obtain ⟨_, _, _, k3, _, p3⟩ := growF_ok h3
  exact can_eq k2 k3 fun x y => by rw [p2, p3, near_sum d0 e0 p1]
theorem shrink_twice {l a b c : List R4} {d e : Int} (h1 : shrF l d = (a, 0)) (h2 : shrF a e = (b, 0)) (h3 : shrF l (d + e) = (c, 0)) : b = c := by
  obtain ⟨_, d0, _, _, _, p1⟩ := shrF_ok h1
  obtain ⟨_, e0, _, k2, _, p2⟩ := shrF_ok h2
  obtain ⟨_, _, _, k3, _, p3⟩ := shrF_ok h3
  exact can_eq k2 k3 fun x y => by rw [p2, p3, full_sum d0 e0 p1]
theorem openF_ok {l O : List R4} {d : Int} (h : openF l d = (O, 0)) : ∃ S, shrF l d = (S, 0) ∧ growF S d = (O, 0) := by
  unfold openF at h
  generalize hs : shrF l d = P at h
  obtain ⟨S, e⟩ := P
  by_cases h0 : e = 0
  · subst h0
    exact ⟨S, rfl, by simpa using h⟩
  · rw [if_neg h0] at h
    injection h with _ h
    exact absurd h h0
theorem closeF_ok {l O : List R4} {d : Int} (h : closeF l d = (O, 0)) : ∃ S, growF l d = (S, 0) ∧ shrF S d = (O, 0) := by
  unfold closeF at h
  generalize hs : growF l d = P at h
  obtain ⟨S, e⟩ := P
  by_cases h0 : e = 0
  · subst h0
    exact ⟨S, rfl, by simpa using h⟩
  · rw [if_neg h0] at h
    injection h with _ h
    exact absurd h h0
theorem open_in {l O : List R4} {d : Int} (h : openF l d = (O, 0)) {x y : Int} (hp : pmem O x y) : pmem l x y := by
  obtain ⟨S, h1, h2⟩ := openF_ok h
  obtain ⟨_, d0, _, _, _, p1⟩ := shrF_ok h1
  obtain ⟨_, _, _, _, _, p2⟩ := growF_ok h2
  obtain ⟨u, v, a1, a2, a3, a4, hq⟩ := (p2 x y).1 hp
  exact (p1 u v).1 hq x y (by omega) (by omega) (by omega) (by omega)
theorem open_twice {l O A : List R4} {d : Int} (h : openF l d = (O, 0)) (hA : openF O d = (A, 0)) : A = O := by
  obtain ⟨S, h1, h2⟩ := openF_ok h
  obtain ⟨T, h3, h4⟩ := openF_ok hA
  obtain ⟨_, d0, _, _, _, p1⟩ := shrF_ok h1
  obtain ⟨_, _, _, k2, _, p2⟩ := growF_ok h2
  obtain ⟨_, _, _, _, _, p3⟩ := shrF_ok h3
  obtain ⟨_, _, _, k4, _, p4⟩ := growF_ok h4
  refine can_eq k4 k2 fun x y => ⟨open_in hA, fun hp => (p4 x y).2 (near_sub (fun u v hq => (p3 u v).2 fun s t a1 a2 a3 a4 => (p2 s t).2 ⟨u, v, by omega, by omega, by omega, by omega, hq⟩) ((p2 x y).1 hp))⟩
theorem in_close {l O : List R4} {d : Int} (h : closeF l d = (O, 0)) {x y : Int} (hp : pmem l x y) : pmem O x y := by
  obtain ⟨S, h1, h2⟩ := closeF_ok h
  obtain ⟨_, d0, _, _, _, p1⟩ := growF_ok h1
  obtain ⟨_, _, _, _, _, p2⟩ := shrF_ok h2
  exact (p2 x y).2 fun u v a1 a2 a3 a4 => (p1 u v).2 ⟨x, y, by omega, by omega, by omega, by omega, hp⟩
theorem close_twice {l O A : List R4} {d : Int} (h : closeF l d = (O, 0)) (hA : closeF O d = (A, 0)) : A = O := by
  obtain ⟨S, h1, h2⟩ := closeF_ok h
  obtain ⟨T, h3, h4⟩ := closeF_ok hA
  obtain ⟨_, d0, _, _, _, p1⟩ := growF_ok h1
  obtain ⟨_, _, _, k2, _, p2⟩ := shrF_ok h2
  obtain ⟨_, _, _, _, _, p3⟩ := growF_ok h3
  obtain ⟨_, _, _, k4, _, p4⟩ := shrF_ok h4
  refine can_eq k4 k2 fun x y => ⟨fun hp => (p2 x y).2 (full_sub (fun u v hq => ?_) ((p4 x y).1 hp)), in_close hA⟩
  obtain ⟨s, t, a1, a2, a3, a4, ho⟩ := (p3 u v).1 hq
  exact (p2 s t).1 ho u v (by omega) (by omega) (by omega) (by omega)
theorem FitO.openC {l : List R4} {d : Int} (h : FitO l d) : openF l d = ([], 4) ∨ ∃ R, openF l d = (R, 0) ∧ checkF R = 0 ∧ R.length ≤ 400 := by
  unfold openF
  rcases h.shrink with e | ⟨S, e, k, n, p⟩
  · exact .inl (by rw [e]; rfl)
  · rw [e]
    simp only [if_pos]
    rcases growF_code k h.2.2.1 (by have := h.2.2.2.1; omega) (bnd_sub k h.2.2.2.2 fun x y hx => full_mem h.2.2.1 ((p x y).1 hx)) (by have := h.2.2.2.1; omega) with e | ⟨R, e⟩
    · exact .inl e
    · exact .inr ⟨R, e, (growF_ok e).2.2.2.1, (growF_ok e).2.2.2.2.1⟩
theorem FitO.closeC {l : List R4} {d : Int} (h : FitO l d) : closeF l d = ([], 4) ∨ ∃ R, closeF l d = (R, 0) ∧ checkF R = 0 ∧ R.length ≤ 400 := by
  unfold closeF
  rcases h.grow with e | ⟨S, e, k, n, p⟩
  · exact .inl (by rw [e]; rfl)
  · rw [e]
    simp only [if_pos]
    rcases shrF_code k h.2.2.1 (by have := h.2.2.2.1; omega) with e | ⟨R, e⟩
    · exact .inl e
    · exact .inr ⟨R, e, (shrF_ok e).2.2.2.1, (shrF_ok e).2.2.2.2.1⟩
/-- A list of rectangles that has no point is empty. -/
theorem no_pts {R : List R4} (hc : checkF R = 0) (h : ∀ x y, ¬ pmem R x y) : R = [] := by
  cases R with
  | nil => rfl
  | cons r R =>
    have hv := (checkF_ok hc).2.1 r (by simp)
    simp only [valid4] at hv
    exact absurd ⟨r, by simp, by simp only [rin]; omega⟩ (h r.x0 r.y0)
theorem rest_nil {a b R : List R4} (ha : checkF a = 0) (hb : checkF b = 0) (h : joinF hSub a b = (R, 0)) : R = [] ↔ ∀ x y, pmem a x y → pmem b x y := by
  rw [joinF_ok ha hb] at h
  by_cases hl : 400 < (rjoin hSub a b).length
  · rw [if_pos hl] at h; simp at h
  · rw [if_neg hl] at h
    injection h with h _
    subst h
    refine ⟨fun h x y hx => ?_, fun h => no_pts (join_check (h := hSub) rfl ha hb (by omega)) fun x y hx => ?_⟩
    · cases hh : decide (pmem b x y) with
      | true => exact of_decide_eq_true hh
      | false =>
        have := (join_pts (h := hSub) rfl ha hb x y).2 (by rw [hh, decide_eq_true hx]; rfl)
        rw [h] at this
        exact absurd this pmem_nil
    · have := (join_pts (h := hSub) rfl ha hb x y).1 hx
      simp only [hSub, Bool.and_eq_true, Bool.not_eq_true', decide_eq_true_eq, decide_eq_false_iff_not] at this
      exact this.2 (h x y this.1)
/-- Depths: a point has the depth d exactly if the region shrunk by d has it. -/
theorem dep_full {l : List R4} (hc : checkF l = 0) {d : Int} (d0 : 0 ≤ d) (x y : Int) : d ≤ (depF l x y).1 ↔ full l d x y := by
  unfold depF
  rw [if_pos hc]
  by_cases hp : pmem l x y
  · rw [if_pos hp]
    exact dep_iff (check_rcan hc) (by rintro rfl; exact pmem_nil hp) d0 x y
  · rw [if_neg hp]
    constructor
    · intro h; simp only at h; omega
    · intro h; exact absurd (full_mem d0 h) hp
theorem dep_low {l : List R4} (hc : checkF l = 0) (x y : Int) : -1 ≤ (depF l x y).1 ∧ (depF l x y).2 = 0 := by
  have hf := dep_full hc (d := 0) (by omega) x y
  unfold depF at hf ⊢
  rw [if_pos hc] at hf ⊢
  by_cases hp : pmem l x y
  · rw [if_pos hp] at hf ⊢
    have := hf.2 ((full_zero x y).2 hp)
    exact ⟨by omega, rfl⟩
  · rw [if_neg hp]
    exact ⟨by simp, rfl⟩
theorem dep_next {l : List R4} (hc : checkF l = 0) {x y u v : Int} (hu : -1 ≤ u ∧ u ≤ 1) (hv : -1 ≤ v ∧ v ≤ 1) : (depF l x y).1 - (depF l (x + u) (y + v)).1 ≤ 1 := by
  have h1 := (dep_low hc x y).1
  have h2 := (dep_low hc (x + u) (y + v)).1
  by_cases h : (depF l x y).1 ≤ 0
  · omega
  · have hf := (dep_full hc (d := (depF l x y).1) (by omega) x y).1 (Int.le_refl _)
    have := (dep_full hc (d := (depF l x y).1 - 1) (by omega) (x + u) (y + v)).2 fun s t a1 a2 a3 a4 => hf s t (by omega) (by omega) (by omega) (by omega)
    omega
end Go.Proofs.YtdolpeljengpaaaGreat

/- Plain: the volume under a roof: the sum by halves over the levels of a region of four times the size is that of the triangles. -/
namespace Go.Proofs.YtdolpeljengpaaaGreat
open Go.RowKit
set_option linter.unusedVariables false
set_option linter.unusedSimpArgs false

def sumH (f : Nat → Int) : Nat → Int
  | 0 => 0
  | n + 1 => sumH f n + f n
theorem sumH_congr {f g : Nat → Int} : ∀ {n : Nat}, (∀ i, i < n → f i = g i) → sumH f n = sumH g n
  | 0, _ => rfl
  | n + 1, h => by
    have h1 := sumH_congr (f := f) (g := g) (n := n) (fun i a => h i (by omega))
    have h2 := h n (by omega)
    simp only [sumH, h1, h2]
theorem sumH_add (f g : Nat → Int) : ∀ n : Nat, sumH (fun i => f i + g i) n = sumH f n + sumH g n
  | 0 => rfl
  | n + 1 => by simp only [sumH, sumH_add f g n]; omega
theorem sumH_mul (c : Int) (f : Nat → Int) : ∀ n : Nat, sumH (fun i => c * f i) n = c * sumH f n
  | 0 => by simp [sumH]
  | n + 1 => by simp only [sumH, sumH_mul c f n, Int.mul_add]
theorem sumH_pair (f : Nat → Int) : ∀ n : Nat, sumH f (2 * n) = sumH (fun k => f (2 * k) + f (2 * k + 1)) n
  | 0 => rfl
  | n + 1 => by
    rw [show 2 * (n + 1) = 2 * n + 1 + 1 by omega]
    simp only [sumH, sumH_pair f n]
    omega
theorem sumH_lt (h : Nat) : ∀ n : Nat, sumH (fun k => ind (k + 1 ≤ h)) n = ((min h n : Nat) : Int)
  | 0 => by simp [sumH]
  | n + 1 => by
    simp only [sumH, sumH_lt h n]
    by_cases e : n + 1 ≤ h
    · rw [ind_t e]; omega
    · rw [ind_f e]; omega
theorem sumH_vol (m : Nat) (f : Nat → Int → Int → Int) : ∀ n : Nat, sumH (fun d => vol m (f d)) n = vol m (fun x y => sumH (fun d => f d x y) n)
  | 0 => by simp only [sumH]; exact (vol_zero m).symm
  | n + 1 => by
    simp only [sumH]
    rw [sumH_vol m f n, ← vol_add]
theorem sumZ_pair (f : Int → Int) (lo : Int) : ∀ n : Nat, sumZ f (2 * lo) (2 * n) = sumZ (fun x => f (2 * x) + f (2 * x + 1)) lo n
  | 0 => rfl
  | n + 1 => by
    rw [show 2 * (n + 1) = 2 * n + 1 + 1 by omega]
    simp only [sumZ, sumZ_pair f lo n]
    rw [show (2 * lo + ((2 * n : Nat) : Int)) = 2 * (lo + n) by omega, show (2 * lo + ((2 * n + 1 : Nat) : Int)) = 2 * (lo + n) + 1 by omega]
    omega
theorem vol_pair (m : Nat) (f : Int → Int → Int) : vol (2 * m) f = vol m (fun x y => f (2 * x) (2 * y) + f (2 * x) (2 * y + 1) + f (2 * x + 1) (2 * y) + f (2 * x + 1) (2 * y + 1)) := by
  unfold vol
  rw [show (-((2 * m : Nat) : Int)) = 2 * (-(m : Int)) by omega, sumZ_pair]
  refine sumZ_congr fun x _ _ => ?_
  rw [sumZ_pair, sumZ_pair, ← sumZ_add]
  exact sumZ_congr fun y _ _ => by dsimp only; omega
def quad4 (r : R4) : R4 := ⟨4 * r.x0, 4 * r.y0, 4 * r.x1, 4 * r.y1⟩
def quadL (l : List R4) : List R4 := l.map quad4
theorem rin_quad (r : R4) (X Y : Int) : rin (quad4 r) X Y ↔ rin r (X / 4) (Y / 4) := by
  unfold rin quad4
  simp only
  omega
theorem pmem_wide (l : List R4) (X Y : Int) : pmem (quadL l) X Y ↔ pmem l (X / 4) (Y / 4) := by
  unfold pmem quadL
  constructor
  · rintro ⟨z, hz, h⟩
    obtain ⟨r, hr, rfl⟩ := List.mem_map.1 hz
    exact ⟨r, hr, (rin_quad r X Y).1 h⟩
  · rintro ⟨r, hr, h⟩
    exact ⟨quad4 r, List.mem_map_of_mem hr, (rin_quad r X Y).2 h⟩
/-- All lattice points of a block belong to the region. -/
def blkIn (l : List R4) (a b c d : Int) : Prop := ∀ U V, a ≤ U → U ≤ b → c ≤ V → V ≤ d → pmem l U V
theorem full_blk (l : List R4) {d : Int} (i j : Int) (hd : 0 ≤ d) : full (quadL l) d i j ↔ blkIn l ((i - d) / 4) ((i + d) / 4) ((j - d) / 4) ((j + d) / 4) := by
  constructor
  · intro h U V a b c e
    have := h (max (4 * U) (i - d)) (max (4 * V) (j - d)) (by omega) (by omega) (by omega) (by omega)
    rw [pmem_wide] at this
    rwa [show max (4 * U) (i - d) / 4 = U by omega, show max (4 * V) (j - d) / 4 = V by omega] at this
  · intro h u v a b c e
    rw [pmem_wide]
    exact h _ _ (by omega) (by omega) (by omega) (by omega)
theorem height_blk {l : List R4} (hc : checkF l = 0) {x y : Int} (hx : -2000001 ≤ x ∧ x ≤ 2000001) (hy : -2000001 ≤ y ∧ y ≤ 2000001) {k : Nat} (hk : k ≤ 2000000) : k + 1 ≤ heightF l x y ↔ blkIn l ((x - k - 1) / 2) ((x + k) / 2) ((y - k - 1) / 2) ((y + k) / 2) := by
  rw [height_sq hc hx hy (by omega) (by omega)]
  constructor
  · intro h U V a b c e
    have := h (max (2 * U) (x - ((k + 1 : Nat) : Int))) (max (2 * V) (y - ((k + 1 : Nat) : Int))) (by omega) (by omega) (by omega) (by omega)
    rwa [show max (2 * U) (x - ((k + 1 : Nat) : Int)) / 2 = U by omega, show max (2 * V) (y - ((k + 1 : Nat) : Int)) / 2 = V by omega] at this
  · intro h X Y a b c e
    exact h _ _ (by omega) (by omega) (by omega) (by omega)
def hHz (l : List R4) (x y : Int) : Int := (heightF l x y : Nat)
/-- Eight times the volume of the triangles over a square of the side 1/2, three times. -/
def triH (h : Int → Int → Nat) (x y : Int) : Int := if (x + y) % 2 = 0 then 2 * (h x y : Int) + 2 * (h (x + 1) (y + 1) : Int) + (h (x + 1) y : Int) + (h x (y + 1) : Int) else (h x y : Int) + (h (x + 1) (y + 1) : Int) + 2 * (h (x + 1) y : Int) + 2 * (h x (y + 1) : Int)
def triT (l : List R4) (x y : Int) : Int := triH (heightF l) x y
def wtV (d : Nat) : Int := if d % 2 = 1 then 4 else if 0 < d then 2 else 1
theorem wt_tel (p : Nat → Int) : ∀ n : Nat, sumH (fun k => p k + p (k + 1)) (n + 1) = sumH (fun k => wtV (2 * k) * p k) (n + 1) + p (n + 1)
  | 0 => by simp [sumH, wtV]
  | n + 1 => by
    have ih := wt_tel p n
    rw [sumH, ih, sumH.eq_2 (fun k => wtV (2 * k) * p k) (n + 1)]
    have e : wtV (2 * (n + 1)) = 2 := by
      unfold wtV
      rw [if_neg (by omega), if_pos (by omega)]
    rw [e]
    omega
theorem blk_same {l : List R4} {a b c d a' b' c' d' : Int} (h1 : a = a') (h2 : b = b') (h3 : c = c') (h4 : d = d') : blkIn l a b c d ↔ blkIn l a' b' c' d' := by
  subst h1; subst h2; subst h3; subst h4; exact Iff.rfl
/-- The law over one square of the side 1/2. -/
theorem half_sum {l : List R4} (ht : Int → Int → Nat) (hbk : ∀ (u v : Int), -2000001 ≤ u ∧ u ≤ 2000001 → -2000001 ≤ v ∧ v ≤ 2000001 → ∀ k : Nat, k ≤ 2000000 → (k + 1 ≤ ht u v ↔ blkIn l ((u - k - 1) / 2) ((u + k) / 2) ((v - k - 1) / 2) ((v + k) / 2))) {x y : Int} (hx : -2000000 ≤ x ∧ x ≤ 2000000) (hy : -2000000 ≤ y ∧ y ≤ 2000000) (Rs : Nat → List R4) (hR : ∀ d i j, pmem (Rs d) i j ↔ full (quadL l) d i j) {n : Nat} (hn : n < 2000000)
    (h0 : ∀ u v, -2000001 ≤ u → u ≤ 2000001 → -2000001 ≤ v → v ≤ 2000001 → ht u v ≤ n) :
    sumH (fun d => wtV d * (ind (pmem (Rs d) (2 * x) (2 * y)) + ind (pmem (Rs d) (2 * x) (2 * y + 1)) + ind (pmem (Rs d) (2 * x + 1) (2 * y)) + ind (pmem (Rs d) (2 * x + 1) (2 * y + 1)))) (2 * (n + 1)) = 4 * triH ht x y := by
  have hev : ∀ (k : Nat) (e f : Int), 0 ≤ e → e ≤ 1 → 0 ≤ f → f ≤ 1 → (pmem (Rs (2 * k)) (2 * x + e) (2 * y + f) ↔ blkIn l ((x - k) / 2) ((x + k) / 2) ((y - k) / 2) ((y + k) / 2)) := fun k e f e0 e1 f0 f1 => by
    rw [hR, full_blk l _ _ (by omega)]
    exact blk_same (by omega) (by omega) (by omega) (by omega)
  have hod : ∀ (k : Nat) (e f : Int), k ≤ 2000000 → 0 ≤ e → e ≤ 1 → 0 ≤ f → f ≤ 1 → (pmem (Rs (2 * k + 1)) (2 * x + e) (2 * y + f) ↔ k + 1 ≤ ht (x + e) (y + f)) := fun k e f hk e0 e1 f0 f1 => by
    rw [hR, full_blk l _ _ (by omega), hbk _ _ (by omega) (by omega) _ hk]
    exact blk_same (by omega) (by omega) (by omega) (by omega)
  have p1 : ∀ k, ind (pmem (Rs (2 * k)) (2 * x) (2 * y + 1)) = ind (pmem (Rs (2 * k)) (2 * x) (2 * y)) := fun k => ind_iff (by
    have a := hev k 0 1 (by omega) (by omega) (by omega) (by omega)
    have b := hev k 0 0 (by omega) (by omega) (by omega) (by omega)
    rw [Int.add_zero] at a b
    rw [Int.add_zero] at b
    rw [a, b])
  have p2 : ∀ k, ind (pmem (Rs (2 * k)) (2 * x + 1) (2 * y)) = ind (pmem (Rs (2 * k)) (2 * x) (2 * y)) := fun k => ind_iff (by
    have a := hev k 1 0 (by omega) (by omega) (by omega) (by omega)
    have b := hev k 0 0 (by omega) (by omega) (by omega) (by omega)
    rw [Int.add_zero] at a b
    rw [Int.add_zero] at b
    rw [a, b])
  have p3 : ∀ k, ind (pmem (Rs (2 * k)) (2 * x + 1) (2 * y + 1)) = ind (pmem (Rs (2 * k)) (2 * x) (2 * y)) := fun k => ind_iff (by
    have a := hev k 1 1 (by omega) (by omega) (by omega) (by omega)
    have b := hev k 0 0 (by omega) (by omega) (by omega) (by omega)
    rw [Int.add_zero] at b
    rw [Int.add_zero] at b
    rw [a, b])
  have hev0 : ∀ k : Nat, pmem (Rs (2 * k)) (2 * x) (2 * y) ↔ blkIn l ((x - k) / 2) ((x + k) / 2) ((y - k) / 2) ((y + k) / 2) := fun k => by
    have b := hev k 0 0 (by omega) (by omega) (by omega) (by omega)
    rw [Int.add_zero] at b
    rw [Int.add_zero] at b
    exact b
  have q0 : ∀ k, k < n + 1 → ind (pmem (Rs (2 * k + 1)) (2 * x) (2 * y)) = ind (k + 1 ≤ ht x y) := fun k hk => ind_iff (by
    have b := hod k 0 0 (by omega) (by omega) (by omega) (by omega) (by omega)
    simp only [Int.add_zero] at b
    exact b)
  have q1 : ∀ k, k < n + 1 → ind (pmem (Rs (2 * k + 1)) (2 * x) (2 * y + 1)) = ind (k + 1 ≤ ht x (y + 1)) := fun k hk => ind_iff (by
    have b := hod k 0 1 (by omega) (by omega) (by omega) (by omega) (by omega)
    simp only [Int.add_zero] at b
    exact b)
  have q2 : ∀ k, k < n + 1 → ind (pmem (Rs (2 * k + 1)) (2 * x + 1) (2 * y)) = ind (k + 1 ≤ ht (x + 1) y) := fun k hk => ind_iff (by
    have b := hod k 1 0 (by omega) (by omega) (by omega) (by omega) (by omega)
    simp only [Int.add_zero] at b
    exact b)
  have q3 : ∀ k, k < n + 1 → ind (pmem (Rs (2 * k + 1)) (2 * x + 1) (2 * y + 1)) = ind (k + 1 ≤ ht (x + 1) (y + 1)) := fun k hk => ind_iff (hod k 1 1 (by omega) (by omega) (by omega) (by omega) (by omega))
  have e0 := h0 x y (by omega) (by omega) (by omega) (by omega)
  have e1 := h0 x (y + 1) (by omega) (by omega) (by omega) (by omega)
  have e2 := h0 (x + 1) y (by omega) (by omega) (by omega) (by omega)
  have e3 := h0 (x + 1) (y + 1) (by omega) (by omega) (by omega) (by omega)
  have hw1 : ∀ k, wtV (2 * k + 1) = 4 := fun k => by unfold wtV; rw [if_pos (by omega)]
  -- the top is empty
  have hcx : ∀ k : Nat, k ≤ 2000000 → (k + 1 ≤ ht x y ↔ blkIn l ((x - k - 1) / 2) ((x + k) / 2) ((y - k - 1) / 2) ((y + k) / 2)) := fun k hk => hbk _ _ (by omega) (by omega) _ hk
  have hcy : ∀ k : Nat, k ≤ 2000000 → (k + 1 ≤ ht x (y + 1) ↔ blkIn l ((x - k - 1) / 2) ((x + k) / 2) ((y - k) / 2) ((y + k + 1) / 2)) := fun k hk => (hbk _ _ (by omega) (by omega) _ hk).trans (blk_same (by omega) (by omega) (by omega) (by omega))
  have hcz : ∀ k : Nat, k ≤ 2000000 → (k + 1 ≤ ht (x + 1) y ↔ blkIn l ((x - k) / 2) ((x + k + 1) / 2) ((y - k - 1) / 2) ((y + k) / 2)) := fun k hk => (hbk _ _ (by omega) (by omega) _ hk).trans (blk_same (by omega) (by omega) (by omega) (by omega))
  have hcw : ∀ k : Nat, k ≤ 2000000 → (k + 1 ≤ ht (x + 1) (y + 1) ↔ blkIn l ((x - k) / 2) ((x + k + 1) / 2) ((y - k) / 2) ((y + k + 1) / 2)) := fun k hk => (hbk _ _ (by omega) (by omega) _ hk).trans (blk_same (by omega) (by omega) (by omega) (by omega))
  have key : sumH (fun k => wtV (2 * k) * ind (pmem (Rs (2 * k)) (2 * x) (2 * y))) (n + 1) = if (x + y) % 2 = 0 then (ht x y : Int) + (ht (x + 1) (y + 1) : Int) else (ht (x + 1) y : Int) + (ht x (y + 1) : Int) := by
    have HTEL := wt_tel (fun k => ind (pmem (Rs (2 * k)) (2 * x) (2 * y))) n
    by_cases hxy : (x + y) % 2 = 0
    · rw [if_pos hxy]
      have hz : ind (pmem (Rs (2 * (n + 1))) (2 * x) (2 * y)) = 0 := ind_f fun h => by
        rw [hev0] at h
        by_cases hp : (x - ((n + 1 : Nat) : Int)) % 2 = 0
        · have := (hcw (n + 1) (by omega)).2 ((blk_same (by omega) (by omega) (by omega) (by omega)).1 h)
          omega
        · have := (hcx (n + 1) (by omega)).2 ((blk_same (by omega) (by omega) (by omega) (by omega)).1 h)
          omega
      rw [hz, Int.add_zero] at HTEL
      rw [← HTEL, sumH_congr (g := fun k => ind (k + 1 ≤ ht x y) + ind (k + 1 ≤ ht (x + 1) (y + 1))) fun k hk => ?_, sumH_add, sumH_lt, sumH_lt]
      · omega
      · by_cases hp : (x - (k : Int)) % 2 = 0
        · rw [Int.add_comm]
          congr 1
          · exact ind_iff (by rw [hev0, hcx k (by omega)]; exact blk_same (by omega) (by omega) (by omega) (by omega))
          · exact ind_iff (by rw [hev0, hcw k (by omega)]; exact blk_same (by omega) (by omega) (by omega) (by omega))
        · congr 1
          · exact ind_iff (by rw [hev0, hcx k (by omega)]; exact blk_same (by omega) (by omega) (by omega) (by omega))
          · exact ind_iff (by rw [hev0, hcw k (by omega)]; exact blk_same (by omega) (by omega) (by omega) (by omega))
    · rw [if_neg hxy]
      have hz : ind (pmem (Rs (2 * (n + 1))) (2 * x) (2 * y)) = 0 := ind_f fun h => by
        rw [hev0] at h
        by_cases hp : (x - ((n + 1 : Nat) : Int)) % 2 = 0
        · have := (hcz (n + 1) (by omega)).2 ((blk_same (by omega) (by omega) (by omega) (by omega)).1 h)
          omega
        · have := (hcy (n + 1) (by omega)).2 ((blk_same (by omega) (by omega) (by omega) (by omega)).1 h)
          omega
      rw [hz, Int.add_zero] at HTEL
      rw [← HTEL, sumH_congr (g := fun k => ind (k + 1 ≤ ht (x + 1) y) + ind (k + 1 ≤ ht x (y + 1))) fun k hk => ?_, sumH_add, sumH_lt, sumH_lt]
      · omega
      · by_cases hp : (x - (k : Int)) % 2 = 0
        · congr 1
          · exact ind_iff (by rw [hev0, hcz k (by omega)]; exact blk_same (by omega) (by omega) (by omega) (by omega))
          · exact ind_iff (by rw [hev0, hcy k (by omega)]; exact blk_same (by omega) (by omega) (by omega) (by omega))
        · rw [Int.add_comm]
          congr 1
          · exact ind_iff (by rw [hev0, hcz k (by omega)]; exact blk_same (by omega) (by omega) (by omega) (by omega))
          · exact ind_iff (by rw [hev0, hcy k (by omega)]; exact blk_same (by omega) (by omega) (by omega) (by omega))
  rw [sumH_pair, sumH_congr (g := fun k => 4 * (wtV (2 * k) * ind (pmem (Rs (2 * k)) (2 * x) (2 * y))) + (4 * (ind (k + 1 ≤ ht x y) + ind (k + 1 ≤ ht x (y + 1))) + 4 * (ind (k + 1 ≤ ht (x + 1) y) + ind (k + 1 ≤ ht (x + 1) (y + 1))))) fun k hk => ?_]
  · rw [sumH_add, sumH_mul, key, sumH_add, sumH_mul, sumH_mul, sumH_add, sumH_add, sumH_lt, sumH_lt, sumH_lt, sumH_lt]
    unfold triH
    split <;> omega
  · simp only [p1, p2, p3, q0 k hk, q1 k hk, q2 k hk, q3 k hk, hw1]
    generalize ind (pmem (Rs (2 * k)) (2 * x) (2 * y)) = A
    generalize wtV (2 * k) = B
    rw [show A + A + A + A = 4 * A by omega, show B * (4 * A) = 4 * (B * A) from Int.mul_left_comm _ _ _]
    omega
/-- **The law.** -/
theorem vol_levels {l : List R4} (hc : checkF l = 0) (Rs : Nat → List R4) (hR : ∀ d i j, pmem (Rs d) i j ↔ full (quadL l) d i j) {n m : Nat} (hn : n < 2000000) (hm : m ≤ 2000000)
    (h0 : ∀ u v, -2000001 ≤ u → u ≤ 2000001 → -2000001 ≤ v → v ≤ 2000001 → heightF l u v ≤ n) :
    sumH (fun d => wtV d * vol (2 * m) (fun i j => ind (pmem (Rs d) i j))) (2 * (n + 1)) = 4 * vol m (triT l) := by
  have e : ∀ d, wtV d * vol (2 * m) (fun i j => ind (pmem (Rs d) i j)) = vol m (fun x y => wtV d * (ind (pmem (Rs d) (2 * x) (2 * y)) + ind (pmem (Rs d) (2 * x) (2 * y + 1)) + ind (pmem (Rs d) (2 * x + 1) (2 * y)) + ind (pmem (Rs d) (2 * x + 1) (2 * y + 1)))) := fun d => by
    rw [vol_pair]
    unfold vol
    rw [← sumZ_mul]
    exact sumZ_congr fun x _ _ => by rw [← sumZ_mul]
  rw [sumH_congr fun d _ => e d, sumH_vol m (fun d x y => wtV d * (ind (pmem (Rs d) (2 * x) (2 * y)) + ind (pmem (Rs d) (2 * x) (2 * y + 1)) + ind (pmem (Rs d) (2 * x + 1) (2 * y)) + ind (pmem (Rs d) (2 * x + 1) (2 * y + 1)))),
    vol_congr (g := fun x y => 4 * triT l x y) fun x y a b c d => half_sum (heightF l) (fun u v hu hv k hk => height_blk hc hu hv hk) (by omega) (by omega) Rs hR hn h0]
  unfold vol
  rw [← sumZ_mul]
  exact sumZ_congr fun x _ _ => sumZ_mul _ _ _ _
end Go.Proofs.YtdolpeljengpaaaGreat

/- Plain: what a join is; areas of regions. -/
namespace Go.Proofs.YtdolpeljengpaaaGreat
open Go.RowKit
set_option linter.unusedVariables false
set_option linter.unusedSimpArgs false

theorem join_is {h : Bool → Bool → Bool} (h0 : h false false = false) {a b c : List R4} (ha : checkF a = 0) (hb : checkF b = 0) (hc : checkF c = 0) (hp : ∀ x y, pmem c x y ↔ h (decide (pmem a x y)) (decide (pmem b x y)) = true) : joinF h a b = (c, 0) := by
  have e : rjoin h a b = c := (rjoin_eq h0 (check_wf ha) (check_wf hb) (check_rcan hc) hp).symm
  rw [joinF_ok ha hb, e, if_neg (by have := (checkF_ok hc).1; omega)]
theorem check_nil : checkF [] = 0 := by kernel_rfl
theorem area_le {l : List R4} (h : checkF l = 0) : 0 ≤ areaS l ∧ areaS l ≤ 1600000000000000 := by
  have h1 := areaS_bd (l := l) fun r hr => (checkF_ok h).2.1 r hr
  have h2 := (checkF_ok h).1
  omega
end Go.Proofs.YtdolpeljengpaaaGreat

/- gambrelref12.Near at 25: at most twelve rectangles near the origin, or a list that is too long. -/
namespace Go.Proofs.YtdolpeljengpaaaGreat
open Go.RowKit
set_option linter.unusedVariables false
set_option linter.unusedSimpArgs false

theorem run_max2 {P : Program} (w : World) (ts : Array TypeId) (t : TypeId) (a b : Int) : (Builtin.max_ ts t #[.int .i64 a, .int .i64 b]).run P w = .ok (.int .i64 (max a b)) w := by
  have k2 : ∀ (x y : Int) (v : World), Sem.run P (Builtin.max2 (.int .i64 x) (.int .i64 y)) v = .ok (.int .i64 (max x y)) v := fun x y v => by
    have k : (if y > x then y else x) = max x y := by
      by_cases h : y > x
      · rw [if_pos h]; omega
      · rw [if_neg h]; omega
    simp [Builtin.max2, k]
  simp only [Builtin.max_]
  simp [k2]
theorem run_min2 {P : Program} (w : World) (ts : Array TypeId) (t : TypeId) (a b : Int) : (Builtin.min_ ts t #[.int .i64 a, .int .i64 b]).run P w = .ok (.int .i64 (min a b)) w := by
  have k2 : ∀ (x y : Int) (v : World), Sem.run P (Builtin.min2 (.int .i64 x) (.int .i64 y)) v = .ok (.int .i64 (min x y)) v := fun x y v => by
    have k : (if y < x then y else x) = min x y := by
      by_cases h : y < x
      · rw [if_pos h]; omega
      · rw [if_neg h]; omega
    simp [Builtin.min2, k]
  simp only [Builtin.min_]
  simp [k2]
theorem run_max4N {P : Program} (w : World) (ts : Array TypeId) (t : TypeId) (a b c d : Int) : (Builtin.max_ ts t #[.int .i64 a, .int .i64 b, .int .i64 c, .int .i64 d]).run P w = .ok (.int .i64 (max (max (max a b) c) d)) w := by
  have k : ∀ x y : Int, (if y > x then y else x) = max x y := fun x y => by
    by_cases h : y > x
    · rw [if_pos h]; omega
    · rw [if_neg h]; omega
  have k2 : ∀ (x y : Int) (v : World), Sem.run P (Builtin.max2 (.int .i64 x) (.int .i64 y)) v = .ok (.int .i64 (max x y)) v := fun x y v => by simp [Builtin.max2, k]
  simp only [Builtin.max_]
  simp [k2, Int.max_assoc]
theorem run_min4N {P : Program} (w : World) (ts : Array TypeId) (t : TypeId) (a b c d : Int) : (Builtin.min_ ts t #[.int .i64 a, .int .i64 b, .int .i64 c, .int .i64 d]).run P w = .ok (.int .i64 (min (min (min a b) c) d)) w := by
  have k : ∀ x y : Int, (if y < x then y else x) = min x y := fun x y => by
    by_cases h : y < x
    · rw [if_pos h]; omega
    · rw [if_neg h]; omega
  have k2 : ∀ (x y : Int) (v : World), Sem.run P (Builtin.min2 (.int .i64 x) (.int .i64 y)) v = .ok (.int .i64 (min x y)) v := fun x y v => by simp [Builtin.min2, k]
  simp only [Builtin.min_]
  simp [k2, Int.min_assoc]
def near4 (n : Int) (r : R4) : Prop := (-n ≤ r.x0 ∧ r.x0 ≤ n) ∧ (-n ≤ r.y0 ∧ r.y0 ≤ n) ∧ (-n ≤ r.x1 ∧ r.x1 ≤ n) ∧ (-n ≤ r.y1 ∧ r.y1 ≤ n)
def NearOK (n : Int) (l : List R4) : Prop := (400 < l.length ∧ l.length ≤ 420) ∨ (l.length ≤ 12 ∧ ∀ r ∈ l, near4 n r)
set_option maxRecDepth 100000 in
set_option maxHeartbeats 4000000 in
theorem near12_any {w : World} {va : Value} {l : List R4} (ra : RdK encR 4 w w.heap.size va l) (na : l.length ≤ maxLen) :
    Calls Tryz.prog 33 #[va, .int .i64 25] w fun e w' => (e = .returned (.bool false) ∧ Below w.heap.size w w') ∨ (e = .returned (.bool true) ∧ NearOK 25 l ∧ Below w.heap.size w w') := by
  unfold maxLen at na
  obtain ⟨A1, c1, hva, hcc⟩ := ra
  subst hva
  by_cases h1 : 400 < l.length
  · have z1 : (400 : Int) < (l.length : Int) := by omega
    have e1 : decide ((l.length : Int) ≤ 420) = decide (l.length ≤ 420) := decide_eq_decide.2 (by omega)
    clear hcc
    by_cases h2 : l.length ≤ 420
    · have z2 : (l.length : Int) ≤ 420 := by omega
      clear e1
      go_enter Tryz.func33, Tryz.ntmps33
      go_wp2
      go_ret
      exact .inr ⟨by first | rfl | exact ret_eq (bool_eq (decide_eq_true z2)), .inl ⟨h1, h2⟩, Below.refl _ _⟩
    · have z2 : (420 : Int) < (l.length : Int) := by omega
      clear e1
      go_enter Tryz.func33, Tryz.ntmps33
      go_wp2
      go_ret
      exact .inl ⟨ret_eq (bool_eq (decide_eq_false (by omega))), Below.refl _ _⟩
  · have z1 : (l.length : Int) ≤ 400 := by omega
    have HR := hide hcc
    clear hcc
    have hmx := @run_max4N Tryz.prog
    have hmn := @run_min4N Tryz.prog
    go_enter Tryz.func33, Tryz.ntmps33
    go_wp2
    go_loopw [5] (fun i wr => ∃ m : Nat, m ≤ l.length ∧ i = .int .i64 m ∧ (∀ r ∈ l.take m, near4 25 r) ∧ Hid (Below w.heap.size w wr)) (fun i _ => l.length - (intOf i).toNat)
    case atStart => exact ⟨0, Nat.zero_le _, rfl, by simp, hide (Below.refl _ _)⟩
    case round =>
      obtain ⟨m, hm, rfl, hP, HB⟩ := hrel
      by_cases hlt : m < l.length
      · obtain ⟨g, hp⟩ : ∃ p, l[m]? = some p := ⟨_, List.getElem?_eq_getElem hlt⟩
        obtain ⟨b, o, rfl, hbl, k⟩ := HR.out (by intro e; rw [e] at hlt; simp at hlt)
        have d0 : wr.cell? ⟨b, o + m * 4, none⟩ = some (.int .i64 g.x0) := (HB.out.cell (p := ⟨b, _, none⟩) hbl).trans (k m _ hp 0 _ rfl)
        have d1 : wr.cell? ⟨b, o + m * 4 + 1, none⟩ = some (.int .i64 g.y0) := (HB.out.cell (p := ⟨b, _, none⟩) hbl).trans (k m _ hp 1 _ rfl)
        have d2 : wr.cell? ⟨b, o + m * 4 + 2, none⟩ = some (.int .i64 g.x1) := (HB.out.cell (p := ⟨b, _, none⟩) hbl).trans (k m _ hp 2 _ rfl)
        have d3 : wr.cell? ⟨b, o + m * 4 + 3, none⟩ = some (.int .i64 g.y1) := (HB.out.cell (p := ⟨b, _, none⟩) hbl).trans (k m _ hp 3 _ rfl)
        have mz : (m : Int) < (l.length : Int) := by omega
        have HT : Hid (near4 25 g → ∀ r ∈ l.take (m + 1), near4 25 r) := hide (fun h r hr => by
          rw [List.take_add_one, hp] at hr
          rcases List.mem_append.1 hr with hr | hr
          · exact hP r hr
          · simp at hr; subst hr; exact h)
        have m0 : (0 : Int) ≤ (m : Int) := by omega
        have hbr : b < wr.heap.size := Nat.lt_of_lt_of_le hbl HB.out.size
        clear k hp hP
        obtain ⟨g0, g1, g2, g3⟩ := g
        simp only at d0 d1 d2 d3
        by_cases q1 : min (min (min g0 g1) g2) g3 < -25
        · have q1' : decide (min g0 (min g1 (min g2 g3)) < -25) = true := decide_eq_true (by omega)
          go_upto_region 6 with fail
          refine wp_hab fun hab => ?_
          refine wp_region_above (by kernel_rfl) (by kernel_rfl) ?_
          repeat (go_big_quiet_step ((fail)))
          refine wpQuiet_nil ?_
          refine above_ends fun w5 hb => ?_
          have HB5 := hide (HB.out.trans (hb.mono HB.out.size))
          clear hab hb d0 d1 d2 d3
          go_wp2_with (fail)
          go_ret
          exact .inl ⟨rfl, HB5.out⟩
        · have q1' : decide (min g0 (min g1 (min g2 g3)) < -25) = false := decide_eq_false (by omega)
          by_cases q2 : 25 < max (max (max g0 g1) g2) g3
          · have q2' : decide (25 < max g0 (max g1 (max g2 g3))) = true := decide_eq_true (by omega)
            clear q1
            go_upto_region 6 with fail
            refine wp_hab fun hab => ?_
            refine wp_region_above (by kernel_rfl) (by kernel_rfl) ?_
            repeat (go_big_quiet_step ((fail)))
            refine wpQuiet_nil ?_
            refine above_ends fun w5 hb => ?_
            have HB5 := hide (HB.out.trans (hb.mono HB.out.size))
            clear hab hb d0 d1 d2 d3
            go_wp2_with (fail)
            go_ret
            exact .inl ⟨rfl, HB5.out⟩
          · have q2' : decide (25 < max g0 (max g1 (max g2 g3))) = false := decide_eq_false (by omega)
            have HP2 := hide (HT.out (by unfold near4; simp only; omega))
            clear HT q1 q2
            go_upto_region 6 with fail
            refine wp_hab fun hab => ?_
            refine wp_region_above (by kernel_rfl) (by kernel_rfl) ?_
            repeat (go_big_quiet_step ((fail)))
            refine wpQuiet_nil ?_
            refine above_ends fun w5 hb => ?_
            have HB5 := hide (HB.out.trans (hb.mono HB.out.size))
            clear hab hb d0 d1 d2 d3
            go_wp2_with (fail)
            go_roundw
            case rel => exact ⟨m + 1, by omega, by go_num, HP2.out, HB5⟩
            case measure => simp [intOf]; omega
      · obtain rfl : m = l.length := by omega
        have mz : ¬ (l.length : Int) < (l.length : Int) := by omega
        rw [List.take_length] at hP
        have HF := hide hP
        clear hP
        by_cases h2 : l.length ≤ 12
        · have z2 : (l.length : Int) ≤ 12 := by omega
          go_wp2_with (fail)
          go_ret
          exact .inr ⟨by first | rfl | exact ret_eq (bool_eq (decide_eq_true z2)), .inr ⟨h2, HF.out⟩, HB.out⟩
        · have z2 : (12 : Int) < (l.length : Int) := by omega
          go_wp2_with (fail)
          go_ret
          exact .inl ⟨ret_eq (bool_eq (decide_eq_false (by omega))), HB.out⟩
end Go.Proofs.YtdolpeljengpaaaGreat

/- Plain: how many rectangles a canonical list may have. -/
namespace Go.Proofs.YtdolpeljengpaaaGreat
set_option linter.unusedVariables false
set_option linter.unusedSimpArgs false

/-- No more entries than there are values. -/
theorem nodup_len {α : Type} [DecidableEq α] : ∀ {l m : List α}, l.Nodup → (∀ x ∈ l, x ∈ m) → l.length ≤ m.length
  | [], m, _, _ => Nat.zero_le _
  | a :: l, m, hn, h => by
    obtain ⟨h1, h2⟩ := List.nodup_cons.1 hn
    have ha := h a (by simp)
    have ih := nodup_len (m := m.erase a) h2 fun x hx => (List.mem_erase_of_ne (fun e => h1 (by rw [← e]; exact hx))).2 (h x (List.mem_cons_of_mem _ hx))
    rw [List.length_erase_of_mem ha] at ih
    have : 0 < m.length := List.length_pos_of_mem ha
    simp only [List.length_cons]
    omega
theorem cr_at : ∀ {S : List Slab}, SOK S → ∀ a ∈ S, cr S a.f = a.s
  | b :: S, h, a, ha => by
    rcases List.mem_cons.1 ha with rfl | ha
    · exact cr_head h (Int.le_refl _) h.head.1
    · have := h.after a ha
      have e : cr (b :: S) a.f = cr S a.f := by
        show (if b.f ≤ a.f ∧ a.f < b.t then b.s else cr S a.f) = _
        rw [if_neg (by omega)]
      rw [e]
      exact cr_at h.tail a ha
theorem cr_prev : ∀ {S : List Slab}, SOK S → ∀ a ∈ S, cr S (a.f - 1) ≠ a.s
  | b :: S, h, a, ha => by
    have hne := (h.all a ha).2.1
    rcases List.mem_cons.1 ha with rfl | ha
    · rw [cr_before h (by omega)]
      exact fun e => hne e.symm
    · have h1 := h.after a ha
      by_cases hb : a.f = b.t
      · have hcr : cr (b :: S) (a.f - 1) = b.s := cr_head h (by have := h.head.1; omega) (by omega)
        rw [hcr]
        cases S with
        | nil => cases ha
        | cons c T =>
          have h2 : Rl b c := h.2.1
          rcases List.mem_cons.1 ha with rfl | ha
          · exact h2.2 hb.symm
          · have h3 := h.tail.after a ha
            have h4 := h.tail.head.1
            have h5 := h2.1
            omega
      · have e : cr (b :: S) (a.f - 1) = cr S (a.f - 1) := by
          show (if b.f ≤ a.f - 1 ∧ a.f - 1 < b.t then b.s else cr S (a.f - 1)) = _
          rw [if_neg (by omega)]
        rw [e]
        exact cr_prev h.tail a ha
theorem SOK.nodup : ∀ {S : List Slab}, SOK S → (S.map Slab.f).Nodup
  | [], _ => by simp
  | a :: S, h => by
    rw [List.map_cons, List.nodup_cons]
    refine ⟨fun hm => ?_, SOK.nodup h.tail⟩
    obtain ⟨b, hb, e⟩ := List.mem_map.1 hm
    have := h.after b hb
    have := h.head.1
    omega
theorem scan_starts {s : List Sp} (h : SCan s) : (s.map Prod.fst).Nodup := by
  rw [List.Nodup, List.pairwise_map]
  have h1 : s.Pairwise (fun p q => p.2 < q.1 ∧ p ∈ s) := by
    rw [List.pairwise_and_iff]
    refine ⟨h.2, ?_⟩
    rw [List.pairwise_iff_getElem]
    exact fun i j hi hj _ => List.getElem_mem _
  exact h1.imp fun {p q} hpq => by
    have := h.1 p hpq.2
    omega
theorem flat_le {n : Nat} : ∀ {S : List Slab}, (∀ a ∈ S, a.s.length ≤ n) → (flat S).length ≤ S.length * n
  | [], _ => by simp [flat]
  | a :: S, h => by
    have ih := flat_le (n := n) (S := S) fun b hb => h b (List.mem_cons_of_mem _ hb)
    have h1 := h a (by simp)
    have e : (flat (a :: S)).length = a.s.length + (flat S).length := by simp [flat, flat1]
    rw [e, List.length_cons, Nat.succ_mul]
    omega
/-- A canonical list has at most so many rectangles as its left sides and lower sides tell. -/
theorem can_count {R : List R4} (hR : RCan R) {xs ys : List Int} (hx : ∀ c, (∃ y, ¬ (pmem R (c - 1) y ↔ pmem R c y)) → c ∈ xs) (hy : ∀ x c, ¬ pmem R x (c - 1) → pmem R x c → c ∈ ys) : R.length ≤ xs.length * ys.length := by
  obtain ⟨S, hS, rfl⟩ := hR
  have hm : ∀ x y, pmem (flat S) x y ↔ smem (cr S x) y := fun x y => by rw [pmem_flat, inS_cr hS]
  have h1 : S.length ≤ xs.length := by
    have := nodup_len hS.nodup (m := xs) fun c hc => by
      obtain ⟨a, ha, rfl⟩ := List.mem_map.1 hc
      refine hx _ (Classical.byContradiction fun hno => cr_prev hS a ha ?_)
      have hall : ∀ y, (pmem (flat S) (a.f - 1) y ↔ pmem (flat S) a.f y) := fun y => Classical.byContradiction fun h => hno ⟨y, h⟩
      rw [← cr_at hS a ha]
      exact SCan.ext (cr_can _ hS) (cr_can _ hS) fun y => by rw [← hm, ← hm]; exact hall y
    simpa using this
  have h2 : ∀ a ∈ S, a.s.length ≤ ys.length := fun a ha => by
    have hc := (hS.all a ha).2.2
    have := nodup_len (scan_starts hc) (m := ys) fun c hc' => by
      obtain ⟨p, hp, rfl⟩ := List.mem_map.1 hc'
      refine hy a.f p.1 ?_ ?_
      · rw [hm, cr_at hS a ha]
        rintro ⟨q, hq, q1, q2⟩
        obtain ⟨i, hi, rfl⟩ := List.getElem_of_mem hp
        obtain ⟨j, hj, rfl⟩ := List.getElem_of_mem hq
        have hpw := List.pairwise_iff_getElem.1 hc.2
        rcases Nat.lt_trichotomy i j with e | e | e
        · have := hpw i j hi hj e
          have := hc.1 _ (List.getElem_mem hi)
          omega
        · subst e; omega
        · have := hpw j i hj hi e
          omega
      · rw [hm, cr_at hS a ha]
        exact ⟨p, hp, Int.le_refl _, hc.1 p hp⟩
    simpa using this
  have h3 := flat_le h2
  have h4 := Nat.mul_le_mul_right ys.length h1
  omega
/-- The same, out of any list with the same points. -/
theorem can_count_of {R A : List R4} (hR : RCan R) (h : ∀ x y, pmem R x y ↔ pmem A x y) : R.length ≤ 2 * A.length * A.length := by
  have := can_count hR (xs := A.map R4.x0 ++ A.map R4.x1) (ys := A.map R4.y0)
    (fun c ⟨y, hy⟩ => by
      rw [h, h] at hy
      rw [List.mem_append]
      by_cases hf : pmem A c y
      · left
        obtain ⟨r, hr, hin⟩ := hf
        refine List.mem_map.2 ⟨r, hr, Classical.byContradiction fun e => hy ⟨fun _ => ⟨r, hr, hin⟩, fun _ => ⟨r, hr, ?_⟩⟩⟩
        unfold rin at hin ⊢
        omega
      · right
        have hf1 : pmem A (c - 1) y := Classical.byContradiction fun h1 => hy ⟨fun h2 => absurd h2 h1, fun h2 => absurd h2 hf⟩
        obtain ⟨r, hr, hin⟩ := hf1
        refine List.mem_map.2 ⟨r, hr, Classical.byContradiction fun e => hf ⟨r, hr, ?_⟩⟩
        unfold rin at hin ⊢
        omega)
    (fun x c hno hp => by
      rw [h] at hno hp
      obtain ⟨r, hr, hin⟩ := hp
      refine List.mem_map.2 ⟨r, hr, Classical.byContradiction fun e => hno ⟨r, hr, ?_⟩⟩
      unfold rin at hin ⊢
      omega)
  simp only [List.length_append, List.length_map] at this
  rwa [show 2 * A.length * A.length = (A.length + A.length) * A.length by rw [Nat.two_mul]]
end Go.Proofs.YtdolpeljengpaaaGreat

/- Plain: a region of four times the size is canonical; how many rectangles its levels have; the volume. -/
namespace Go.Proofs.YtdolpeljengpaaaGreat
open Go.RowKit
set_option linter.unusedVariables false
set_option linter.unusedSimpArgs false

def quadP (p : Sp) : Sp := (4 * p.1, 4 * p.2)
def quadS (s : Slab) : Slab := ⟨4 * s.f, 4 * s.t, s.s.map quadP⟩
theorem quadS_ok {s : Slab} (h : okS s) : okS (quadS s) := by
  obtain ⟨h1, h2, h3, h4⟩ := h
  refine ⟨by show 4 * s.f < 4 * s.t; omega, by show s.s.map _ ≠ []; simpa using h2, fun p hp => ?_, ?_⟩
  · obtain ⟨q, hq, rfl⟩ := List.mem_map.1 hp
    have := h3 q hq
    show 4 * q.1 < 4 * q.2
    omega
  · show (s.s.map _).Pairwise _
    rw [List.pairwise_map]
    exact h4.imp fun h => by show 4 * _ < 4 * _; omega
theorem quadP_inj {s t : List Sp} (h : s.map quadP = t.map quadP) : s = t := by
  induction s generalizing t with
  | nil => cases t with
    | nil => rfl
    | cons q t => cases h
  | cons p s ih => cases t with
    | nil => cases h
    | cons q t =>
      simp only [List.map_cons, List.cons.injEq, quadP, Prod.mk.injEq] at h
      rw [ih h.2]
      congr 1
      exact Prod.ext (by omega) (by omega)
theorem quad_SOK : ∀ {S : List Slab}, SOK S → SOK (S.map quadS)
  | [], _ => trivial
  | [s], h => quadS_ok h.head
  | s :: t :: S, h => by
    have hh : okS s ∧ Rl s t ∧ SOK (t :: S) := h
    refine ⟨quadS_ok hh.1, ⟨?_, fun e he => ?_⟩, quad_SOK hh.2.2⟩
    · show 4 * s.t ≤ 4 * t.f
      have := hh.2.1.1; omega
    · have e1 : s.t = t.f := by have : 4 * s.t = 4 * t.f := e; omega
      exact hh.2.1.2 e1 (quadP_inj he)
theorem quad_flat : ∀ S : List Slab, quadL (flat S) = flat (S.map quadS)
  | [] => rfl
  | s :: S => by
    have ih := quad_flat S
    unfold quadL at *
    simp only [flat, List.flatMap_cons, List.map_append, List.map_cons] at ih ⊢
    rw [ih]
    congr 1
    simp [flat1, quadS, quad4, quadP, List.map_map, Function.comp_def]
theorem wide_can {l : List R4} (h : RCan l) : RCan (quadL l) := by
  obtain ⟨S, hS, rfl⟩ := h
  exact ⟨_, quad_SOK hS, quad_flat S⟩
theorem wide_check {l : List R4} (h : checkF l = 0) (hb : ∀ r ∈ l, near4 200 r) : checkF (quadL l) = 0 := by
  obtain ⟨hl, hv, _⟩ := checkF_ok h
  refine can_check (wide_can (check_rcan h)) (fun r hr => ?_) (by unfold quadL; simpa using hl)
  obtain ⟨s, hs, rfl⟩ := List.mem_map.1 hr
  obtain ⟨h1, h2, _⟩ := hv s hs
  obtain ⟨⟨_, _⟩, ⟨_, _⟩, ⟨_, _⟩, _, _⟩ := hb s hs
  unfold valid4 quad4 fineP
  simp only
  omega
theorem full_left {l : List R4} {d c y : Int} (hd : 0 ≤ d) (h1 : full l d c y) (h2 : ¬ full l d (c - 1) y) : ∃ r ∈ l, c = r.x0 + d := by
  unfold full at h2
  simp only [Classical.not_forall, not_imp] at h2
  obtain ⟨u, v, a1, a2, a3, a4, hno⟩ := h2
  have hu : u = c - 1 - d := by
    by_cases e : c - d ≤ u
    · exact absurd (h1 u v e (by omega) a3 a4) hno
    · omega
  subst hu
  obtain ⟨r, hr, hin⟩ := h1 (c - d) v (by omega) (by omega) a3 a4
  refine ⟨r, hr, Classical.byContradiction fun e => hno ⟨r, hr, ?_⟩⟩
  unfold rin at hin ⊢
  omega
theorem full_right {l : List R4} {d c y : Int} (hd : 0 ≤ d) (h1 : full l d (c - 1) y) (h2 : ¬ full l d c y) : ∃ r ∈ l, c = r.x1 - d := by
  unfold full at h2
  simp only [Classical.not_forall, not_imp] at h2
  obtain ⟨u, v, a1, a2, a3, a4, hno⟩ := h2
  have hu : u = c + d := by
    by_cases e : u ≤ c - 1 + d
    · exact absurd (h1 u v (by omega) e a3 a4) hno
    · omega
  subst hu
  obtain ⟨r, hr, hin⟩ := h1 (c + d - 1) v (by omega) (by omega) a3 a4
  refine ⟨r, hr, Classical.byContradiction fun e => hno ⟨r, hr, ?_⟩⟩
  unfold rin at hin ⊢
  omega
theorem full_low {l : List R4} {d x c : Int} (hd : 0 ≤ d) (h1 : full l d x c) (h2 : ¬ full l d x (c - 1)) : ∃ r ∈ l, c = r.y0 + d := by
  unfold full at h2
  simp only [Classical.not_forall, not_imp] at h2
  obtain ⟨u, v, a1, a2, a3, a4, hno⟩ := h2
  have hu : v = c - 1 - d := by
    by_cases e : c - d ≤ v
    · exact absurd (h1 u v a1 a2 e (by omega)) hno
    · omega
  subst hu
  obtain ⟨r, hr, hin⟩ := h1 u (c - d) a1 a2 (by omega) (by omega)
  refine ⟨r, hr, Classical.byContradiction fun e => hno ⟨r, hr, ?_⟩⟩
  unfold rin at hin ⊢
  omega
theorem shr_count {l : List R4} (hc : RCan l) {d : Int} (hd : 0 ≤ d) : (shrR l d).length ≤ 2 * l.length * l.length := by
  obtain ⟨h1, h2⟩ := shr_ok hc hd
  have := can_count h1 (xs := l.map (fun r => r.x0 + d) ++ l.map (fun r => r.x1 - d)) (ys := l.map fun r => r.y0 + d)
    (fun c ⟨y, hy⟩ => by
      rw [h2, h2] at hy
      rw [List.mem_append]
      by_cases hf : full l d c y
      · left
        obtain ⟨r, hr, e⟩ := full_left hd hf fun h => hy ⟨fun _ => hf, fun _ => h⟩
        exact List.mem_map.2 ⟨r, hr, e.symm⟩
      · right
        have hf1 : full l d (c - 1) y := Classical.byContradiction fun h => hy ⟨fun h' => absurd h' h, fun h' => absurd h' hf⟩
        obtain ⟨r, hr, e⟩ := full_right hd hf1 hf
        exact List.mem_map.2 ⟨r, hr, e.symm⟩)
    (fun x c hno hp => by
      rw [h2] at hno hp
      obtain ⟨r, hr, e⟩ := full_low hd hp hno
      exact List.mem_map.2 ⟨r, hr, e.symm⟩)
  simp only [List.length_append, List.length_map] at this
  rwa [show 2 * l.length * l.length = (l.length + l.length) * l.length by rw [Nat.two_mul]]
theorem wide_near {n : Int} {l : List R4} (h : ∀ r ∈ l, near4 n r) {X Y : Int} (hp : pmem (quadL l) X Y) : -(4 * n) ≤ X ∧ X < 4 * n := by
  rw [pmem_wide] at hp
  obtain ⟨r, hr, hin⟩ := hp
  obtain ⟨⟨_, _⟩, ⟨_, _⟩, ⟨_, _⟩, _, _⟩ := h r hr
  unfold rin at hin
  omega
/-- Every level of a region that is not too large, at four times the size. -/
theorem wide_shr {l : List R4} (hc : checkF l = 0) (hl : l.length ≤ 12) (hb : ∀ r ∈ l, near4 25 r) (d : Nat) (hd : d ≤ 1000000) : shrF (quadL l) d = (shrR (quadL l) d, 0) ∧ (101 ≤ d → shrR (quadL l) d = []) ∧ ∀ i j, pmem (shrR (quadL l) d) i j ↔ full (quadL l) d i j := by
  have hb2 : ∀ r ∈ l, near4 200 r := fun r hr => by
    obtain ⟨⟨_, _⟩, ⟨_, _⟩, ⟨_, _⟩, _, _⟩ := hb r hr
    unfold near4; omega
  have hw := wide_check hc hb2
  have hcan := check_rcan hw
  obtain ⟨s1, s2⟩ := shr_ok hcan (d := (d : Int)) (by omega)
  have hcnt := shr_count hcan (d := (d : Int)) (by omega)
  have hlen : (quadL l).length = l.length := by simp [quadL]
  rw [hlen] at hcnt
  have hcnt2 : (shrR (quadL l) d).length ≤ 400 := by
    have h1 : 2 * l.length * l.length ≤ 2 * 12 * 12 := Nat.mul_le_mul (by omega) hl
    omega
  refine ⟨?_, fun h => ?_, s2⟩
  · have hk : chkD (quadL l) d = 0 := by
      unfold chkD
      rw [hw]
      simp
      omega
    unfold shrF
    rw [if_pos hk, if_neg (by omega)]
  · refine RCan.ext s1 RCan.nil fun x y => ⟨fun hp => ?_, fun hp => absurd hp pmem_nil⟩
    rw [s2] at hp
    have h1 := wide_near hb (hp (x - d) y (by omega) (by omega) (by omega) (by omega))
    have h2 := wide_near hb (hp (x + d) y (by omega) (by omega) (by omega) (by omega))
    omega
end Go.Proofs.YtdolpeljengpaaaGreat

/- Plain: what roof's Levels and Volume compute: how many levels there are, and the two sums. -/
namespace Go.Proofs.YtdolpeljengpaaaGreat
open Go.RowKit
set_option linter.unusedVariables false
set_option linter.unusedSimpArgs false

def far200 (r : R4) : Bool := decide (min r.x0 r.y0 < -200 ∨ 200 < max r.x1 r.y1)
def measF (l : List R4) : Int := if checkF l = 0 then (if l.any far200 then 16 else 0) else checkF l
theorem hull_far {l : List R4} (hne : l ≠ []) : (min (hullL l).x0 (hullL l).y0 < -200 ∨ 200 < max (hullL l).x1 (hullL l).y1) ↔ l.any far200 = true := by
  obtain ⟨⟨a, ha, ea⟩, ⟨b, hb, eb⟩, ⟨c, hc, ec⟩, ⟨d, hd, ed⟩, hall⟩ := hullL_ok hne
  rw [List.any_eq_true]
  constructor
  · intro h
    by_cases h1 : (hullL l).x0 < -200
    · exact ⟨a, ha, by unfold far200; rw [decide_eq_true_eq]; omega⟩
    by_cases h2 : (hullL l).y0 < -200
    · exact ⟨b, hb, by unfold far200; rw [decide_eq_true_eq]; omega⟩
    by_cases h3 : 200 < (hullL l).x1
    · exact ⟨c, hc, by unfold far200; rw [decide_eq_true_eq]; omega⟩
    · exact ⟨d, hd, by unfold far200; rw [decide_eq_true_eq]; omega⟩
  · rintro ⟨r, hr, h⟩
    unfold far200 at h
    rw [decide_eq_true_eq] at h
    have := hall r hr
    omega
theorem near_far {l : List R4} (hb : ∀ r ∈ l, near4 25 r) : l.any far200 = false := by
  rw [List.any_eq_false]
  intro r hr
  have := hb r hr
  unfold near4 at this
  unfold far200
  rw [decide_eq_true_eq]
  omega
theorem meas_near {l : List R4} (hb : ∀ r ∈ l, near4 25 r) : measF l = checkF l := by
  unfold measF
  rw [near_far hb]
  by_cases h : checkF l = 0
  · rw [if_pos h, h]; rfl
  · rw [if_neg h]
/-- The first N levels are not empty, and the next one is. -/
def levN (S : Nat → List R4) (N : Nat) : Prop := S N = [] ∧ ∀ d, d < N → S d ≠ []
theorem levN_ex {S : Nat → List R4} (M : Nat) (h : S M = []) : ∃ N, N ≤ M ∧ levN S N := by
  induction M using Nat.strongRecOn with
  | ind M ih =>
    by_cases e : ∃ d, d < M ∧ S d = []
    · obtain ⟨d, hd, h2⟩ := e
      obtain ⟨N, h3, h4⟩ := ih d hd h2
      exact ⟨N, by omega, h4⟩
    · exact ⟨M, Nat.le_refl _, h, fun d hd h2 => e ⟨d, hd, h2⟩⟩
/-- Level number d. -/
def levS (q : List R4) (d : Nat) : List R4 := shrR q (d : Int)
theorem full_near {q : List R4} {m : Int} (h : ∀ r ∈ q, near4 m r) {X Y : Int} (hp : pmem q X Y) : -m ≤ X ∧ X < m := by
  obtain ⟨r, hr, hin⟩ := hp
  obtain ⟨⟨_, _⟩, ⟨_, _⟩, ⟨_, _⟩, _, _⟩ := h r hr
  unfold rin at hin
  omega
theorem lev_ok {q : List R4} (hk : checkF q = 0) (d : Nat) : RCan (levS q d) ∧ ∀ x y, pmem (levS q d) x y ↔ full q d x y := shr_ok (check_rcan hk) (by omega)
theorem near_shr {q : List R4} (hk : checkF q = 0) (hl : q.length ≤ 12) {m : Nat} (hb : ∀ r ∈ q, near4 m r) (d : Nat) (hd : d ≤ 1000000) : shrF q d = (levS q d, 0) ∧ (m + 1 ≤ d → levS q d = []) ∧ (levS q d).length ≤ 400 := by
  obtain ⟨s1, s2⟩ := lev_ok hk d
  have hcnt : (levS q d).length ≤ 2 * q.length * q.length := shr_count (check_rcan hk) (d := (d : Int)) (by omega)
  have h1 : 2 * q.length * q.length ≤ 2 * 12 * 12 := Nat.mul_le_mul (by omega) hl
  refine ⟨?_, fun h => ?_, by omega⟩
  · have hc : chkD q d = 0 := by
      unfold chkD
      rw [hk]
      simp
      omega
    unfold shrF
    rw [if_pos hc, if_neg (by unfold levS at hcnt; omega)]
    rfl
  · refine RCan.ext s1 RCan.nil fun x y => ⟨fun hp => ?_, fun hp => absurd hp pmem_nil⟩
    rw [s2] at hp
    have h1 := full_near hb (hp (x - d) y (by omega) (by omega) (by omega) (by omega))
    have h2 := full_near hb (hp (x + d) y (by omega) (by omega) (by omega) (by omega))
    omega
theorem lev_of {q : List R4} (hk : checkF q = 0) (hl : q.length ≤ 12) {m : Nat} (hm : m ≤ 1000) (hb : ∀ r ∈ q, near4 m r) : ∃ N, N ≤ m + 1 ∧ levN (levS q) N :=
  levN_ex (m + 1) ((near_shr hk hl hb (m + 1) (by omega)).2.1 (Nat.le_refl _))
theorem lev_after {q : List R4} (hk : checkF q = 0) {N : Nat} (hN : levN (levS q) N) {d : Nat} (hd : N ≤ d) : levS q d = [] := by
  obtain ⟨s1, s2⟩ := lev_ok hk d
  obtain ⟨t1, t2⟩ := lev_ok hk N
  refine RCan.ext s1 RCan.nil fun x y => ⟨fun hp => ?_, fun hp => absurd hp pmem_nil⟩
  rw [s2] at hp
  have := (t2 x y).2 fun u v h1 h2 h3 h4 => hp u v (by omega) (by omega) (by omega) (by omega)
  rw [hN.1] at this
  exact absurd this pmem_nil
theorem lev_check {q : List R4} (hk : checkF q = 0) (hl : q.length ≤ 12) {m : Nat} (hb : ∀ r ∈ q, near4 m r) (d : Nat) (hd : d ≤ 1000000) : checkF (levS q d) = 0 :=
  (shrF_ok (near_shr hk hl hb d hd).1).2.2.2.1

/-! ### Heights near the origin -/
theorem height_near {l : List R4} (hc : checkF l = 0) {m : Nat} (hm : m ≤ 1000) (hb : ∀ r ∈ l, near4 m r) {x y : Int} (hx : -2000001 ≤ x ∧ x ≤ 2000001) (hy : -2000001 ≤ y ∧ y ≤ 2000001) : heightF l x y ≤ 2 * m := by
  by_cases h0 : heightF l x y ≤ 2 * m
  · exact h0
  have h := (height_sq hc hx hy (h := 2 * m + 1) (by omega) (by omega)).1 (by omega)
  have h1 := full_near hb (h (x - ((2 * m + 1 : Nat) : Int)) y (by omega) (by omega) (by omega) (by omega))
  have h2 := full_near hb (h (x + ((2 * m + 1 : Nat) : Int) - 1) y (by omega) (by omega) (by omega) (by omega))
  omega
theorem pm_hull {l : List R4} (hne : l ≠ []) {X Y : Int} (hp : pmem l X Y) : (hullL l).x0 ≤ X ∧ X < (hullL l).x1 ∧ (hullL l).y0 ≤ Y ∧ Y < (hullL l).y1 := by
  obtain ⟨_, _, _, _, hall⟩ := hullL_ok hne
  obtain ⟨r, hr, hin⟩ := hp
  have := hall r hr
  unfold rin at hin
  omega
theorem height_out {l : List R4} (hc : checkF l = 0) (hne : l ≠ []) {x y : Int} (hx : -2000001 ≤ x ∧ x ≤ 2000001) (hy : -2000001 ≤ y ∧ y ≤ 2000001)
    (h : ¬ (2 * (hullL l).x0 < x ∧ x < 2 * (hullL l).x1 ∧ 2 * (hullL l).y0 < y ∧ y < 2 * (hullL l).y1)) : heightF l x y = 0 := by
  by_cases h0 : heightF l x y = 0
  · exact h0
  exfalso
  have hs := (height_sq hc hx hy (h := 1) (Nat.le_refl _) (by omega)).1 (by omega)
  have h1 := pm_hull hne (hs (x - 1) (y - 1) (by omega) (by omega) (by omega) (by omega))
  have h2 := pm_hull hne (hs x y (by omega) (by omega) (by omega) (by omega))
  omega
theorem tri_out {l : List R4} (hc : checkF l = 0) (hne : l ≠ []) {x y : Int} (hx : -2000000 ≤ x ∧ x ≤ 2000000) (hy : -2000000 ≤ y ∧ y ≤ 2000000)
    (h : ¬ (2 * (hullL l).x0 ≤ x ∧ x < 2 * (hullL l).x1 ∧ 2 * (hullL l).y0 ≤ y ∧ y < 2 * (hullL l).y1)) : triT l x y = 0 := by
  have e1 := height_out hc hne (x := x) (y := y) (by omega) (by omega) (by omega)
  have e2 := height_out hc hne (x := x + 1) (y := y) (by omega) (by omega) (by omega)
  have e3 := height_out hc hne (x := x) (y := y + 1) (by omega) (by omega) (by omega)
  have e4 := height_out hc hne (x := x + 1) (y := y + 1) (by omega) (by omega) (by omega)
  unfold triT triH
  rw [e1, e2, e3, e4]
  simp
/-- The reference's sum over a column of squares, up to row number n. -/
def colT (l : List R4) (x : Int) (n : Nat) : Int := sumZ (fun y => triT l x y) (2 * (hullL l).y0) n
/-- The reference's sum, up to column number n. -/
def rowT (l : List R4) (n : Nat) : Int := sumZ (fun x => colT l x (2 * (hullL l).y1 - 2 * (hullL l).y0).toNat) (2 * (hullL l).x0) n
def volT (l : List R4) : Int := rowT l (2 * (hullL l).x1 - 2 * (hullL l).x0).toNat
theorem vol_T {l : List R4} (hc : checkF l = 0) (hne : l ≠ []) (hh : (-1000000 ≤ (hullL l).x0 ∧ (hullL l).x0 ≤ (hullL l).x1 ∧ (hullL l).x1 ≤ 1000000) ∧ (-1000000 ≤ (hullL l).y0 ∧ (hullL l).y0 ≤ (hullL l).y1 ∧ (hullL l).y1 ≤ 1000000)) : vol 2000000 (triT l) = volT l := by
  obtain ⟨⟨a1, a2, a3⟩, b1, b2, b3⟩ := hh
  unfold vol volT rowT
  rw [sumZ_in _ (a := 2 * (hullL l).x0) (b := 2 * (hullL l).x1) (by omega) (by omega) (by omega) fun x q1 q2 q3 => ?_]
  · refine sumZ_congr fun x q1 q2 => ?_
    unfold colT
    rw [sumZ_in _ (a := 2 * (hullL l).y0) (b := 2 * (hullL l).y1) (by omega) (by omega) (by omega) fun y q3 q4 q5 => ?_]
    exact tri_out hc hne (by omega) (by omega) (by omega)
  · rw [← sumZ_zero (-((2000000 : Nat) : Int)) (2 * 2000000)]
    exact sumZ_congr fun y q4 q5 => tri_out hc hne (by omega) (by omega) (by omega)

/-! ### The sum over the levels -/
def volS (l : List R4) (N : Nat) : Int := sumH (fun d => wtV d * areaS (levS (quadL l) d)) N
theorem sumH_ext {f : Nat → Int} {N : Nat} (h : ∀ d, N ≤ d → f d = 0) : ∀ k : Nat, sumH f (N + k) = sumH f N
  | 0 => rfl
  | k + 1 => by
    rw [show N + (k + 1) = N + k + 1 by omega, sumH, sumH_ext h k, h (N + k) (by omega), Int.add_zero]
theorem wide_near4 {l : List R4} (hb : ∀ r ∈ l, near4 25 r) : ∀ r ∈ quadL l, near4 ((100 : Nat) : Int) r := by
  intro r hr
  obtain ⟨s, hs, rfl⟩ := List.mem_map.1 hr
  have := hb s hs
  unfold near4 at this ⊢
  unfold quad4
  simp only
  omega
theorem near_25 {l : List R4} (hb : ∀ r ∈ l, near4 25 r) : ∀ r ∈ l, near4 ((25 : Nat) : Int) r := hb
theorem wide_chk {l : List R4} (hc : checkF l = 0) (hb : ∀ r ∈ l, near4 25 r) : checkF (quadL l) = 0 := by
  refine wide_check hc fun r hr => ?_
  have := hb r hr
  unfold near4 at this ⊢
  omega
theorem wide_len (l : List R4) : (quadL l).length = l.length := by simp [quadL]
theorem vol_eq {l : List R4} (hc : checkF l = 0) (hne : l ≠ []) (hl : l.length ≤ 12) (hb : ∀ r ∈ l, near4 25 r) {N : Nat} (hN : levN (levS (quadL l)) N) : N ≤ 101 ∧ volS l N = 4 * volT l := by
  have hw := wide_chk hc hb
  have hwn := wide_near4 hb
  have hwl : (quadL l).length ≤ 12 := by rw [wide_len]; exact hl
  have hle : N ≤ 101 := by
    by_cases h : N ≤ 101
    · exact h
    · exact absurd ((near_shr hw hwl hwn 101 (by omega)).2.1 (Nat.le_refl _)) (hN.2 101 (by omega))
  refine ⟨hle, ?_⟩
  have hlv := vol_levels hc (fun d => levS (quadL l) d) (fun d i j => (lev_ok hw d).2 i j) (n := 50) (m := 2000000) (by omega) (by omega)
    (fun u v h1 h2 h3 h4 => height_near hc (m := 25) (by omega) (near_25 hb) ⟨h1, h2⟩ ⟨h3, h4⟩)
  have hv := (checkF_ok hc).2.1
  have hh : (-1000000 ≤ (hullL l).x0 ∧ (hullL l).x0 ≤ (hullL l).x1 ∧ (hullL l).x1 ≤ 1000000) ∧ (-1000000 ≤ (hullL l).y0 ∧ (hullL l).y0 ≤ (hullL l).y1 ∧ (hullL l).y1 ≤ 1000000) := by
    obtain ⟨⟨a, ha, ea⟩, ⟨b, hb2, eb⟩, ⟨c, hc2, ec⟩, ⟨d, hd, ed⟩, hall⟩ := hullL_ok hne
    obtain ⟨v1, v2, ⟨v3, v4⟩, ⟨v5, v6⟩, ⟨v7, v8⟩, v9, v10⟩ := hv a ha
    obtain ⟨u1, u2, ⟨u3, u4⟩, ⟨u5, u6⟩, ⟨u7, u8⟩, u9, u10⟩ := hv b hb2
    obtain ⟨w1, w2, ⟨w3, w4⟩, ⟨w5, w6⟩, ⟨w7, w8⟩, w9, w10⟩ := hv c hc2
    obtain ⟨x1, x2, ⟨x3, x4⟩, ⟨x5, x6⟩, ⟨x7, x8⟩, x9, x10⟩ := hv d hd
    have k1 := hall a ha
    have k2 := hall b hb2
    omega
  rw [vol_T hc hne hh] at hlv
  rw [← hlv]
  have hz : ∀ d, N ≤ d → wtV d * areaS (levS (quadL l) d) = 0 := fun d hd => by rw [lev_after hw hN hd]; simp [areaS]
  have e1 : volS l N = sumH (fun d => wtV d * areaS (levS (quadL l) d)) (2 * (50 + 1)) := by
    have := sumH_ext hz (2 * (50 + 1) - N)
    rw [show N + (2 * (50 + 1) - N) = 2 * (50 + 1) by omega] at this
    exact this.symm
  rw [e1]
  refine sumH_congr fun d hd => ?_
  rw [area_vol (lev_check hw hwl hwn d (by omega)) (m := 2 * 2000000) (by omega)]
  rfl

/-! ### Bounds -/
theorem sumZ_bd {f : Int → Int} {lo c : Int} {n : Nat} (h : ∀ i, lo ≤ i → i < lo + n → 0 ≤ f i ∧ f i ≤ c) : 0 ≤ sumZ f lo n ∧ sumZ f lo n ≤ n * c := by
  refine ⟨sumZ_nonneg fun i h1 h2 => (h i h1 h2).1, ?_⟩
  rw [← sumZ_const c lo n]
  exact sumZ_le fun i h1 h2 => (h i h1 h2).2
theorem tri_bd {l : List R4} (hc : checkF l = 0) (hb : ∀ r ∈ l, near4 25 r) {x y : Int} (hx : -2000000 ≤ x ∧ x ≤ 2000000) (hy : -2000000 ≤ y ∧ y ≤ 2000000) : 0 ≤ triT l x y ∧ triT l x y ≤ 300 := by
  have e1 := height_near hc (m := 25) (by omega) (near_25 hb) (x := x) (y := y) (by omega) (by omega)
  have e2 := height_near hc (m := 25) (by omega) (near_25 hb) (x := x + 1) (y := y) (by omega) (by omega)
  have e3 := height_near hc (m := 25) (by omega) (near_25 hb) (x := x) (y := y + 1) (by omega) (by omega)
  have e4 := height_near hc (m := 25) (by omega) (near_25 hb) (x := x + 1) (y := y + 1) (by omega) (by omega)
  unfold triT triH
  generalize heightF l = h at *
  split <;> omega
theorem hull_near25 {l : List R4} (hne : l ≠ []) (hc : checkF l = 0) (hb : ∀ r ∈ l, near4 25 r) : (-25 ≤ (hullL l).x0 ∧ (hullL l).x0 ≤ (hullL l).x1 ∧ (hullL l).x1 ≤ 25) ∧ (-25 ≤ (hullL l).y0 ∧ (hullL l).y0 ≤ (hullL l).y1 ∧ (hullL l).y1 ≤ 25) := by
  have hv := (checkF_ok hc).2.1
  obtain ⟨⟨a, ha, ea⟩, ⟨b, hb2, eb⟩, ⟨c, hc2, ec⟩, ⟨d, hd, ed⟩, hall⟩ := hullL_ok hne
  obtain ⟨v1, v2, _⟩ := hv a ha
  have n1 := hb a ha
  have n2 := hb b hb2
  have n3 := hb c hc2
  have n4 := hb d hd
  unfold near4 at n1 n2 n3 n4
  have k1 := hall a ha
  have k2 := hall b hb2
  omega
theorem col_bd {l : List R4} (hne : l ≠ []) (hc : checkF l = 0) (hb : ∀ r ∈ l, near4 25 r) {x : Int} (hx : -2000000 ≤ x ∧ x ≤ 2000000) {n : Nat} (hn : n ≤ 100) : 0 ≤ colT l x n ∧ colT l x n ≤ 30000 := by
  obtain ⟨_, h1, h2, h3⟩ := hull_near25 hne hc hb
  have := sumZ_bd (f := fun y => triT l x y) (lo := 2 * (hullL l).y0) (c := 300) (n := n) fun i a b => tri_bd hc hb hx (by omega)
  unfold colT
  omega
theorem row_bd {l : List R4} (hne : l ≠ []) (hc : checkF l = 0) (hb : ∀ r ∈ l, near4 25 r) {n : Nat} (hn : n ≤ 100) : 0 ≤ rowT l n ∧ rowT l n ≤ 3000000 := by
  obtain ⟨⟨h1, h2, h3⟩, h4, h5, h6⟩ := hull_near25 hne hc hb
  have := sumZ_bd (f := fun x => colT l x (2 * (hullL l).y1 - 2 * (hullL l).y0).toNat) (lo := 2 * (hullL l).x0) (c := 30000) (n := n) fun i a b => col_bd hne hc hb (by omega) (by omega)
  unfold rowT
  omega
theorem areaS_le {l : List R4} (hv : ∀ r ∈ l, valid4 r) (hl : l.length ≤ 400) : 0 ≤ areaS l ∧ areaS l ≤ 1600000000000000 := by
  have := areaS_bd hv
  omega
theorem volS_bd {l : List R4} (hc : checkF l = 0) (hl : l.length ≤ 12) (hb : ∀ r ∈ l, near4 25 r) : ∀ k : Nat, k ≤ 101 → (0 ≤ volS l k ∧ volS l k ≤ 6400000000000000 * k) ∧ 0 ≤ areaS (levS (quadL l) k) ∧ areaS (levS (quadL l) k) ≤ 1600000000000000 := by
  have hw := wide_chk hc hb
  have hwl : (quadL l).length ≤ 12 := by rw [wide_len]; exact hl
  have ha : ∀ k : Nat, k ≤ 101 → 0 ≤ areaS (levS (quadL l) k) ∧ areaS (levS (quadL l) k) ≤ 1600000000000000 := fun k hk =>
    areaS_le (checkF_ok (lev_check hw hwl (wide_near4 hb) k (by omega))).2.1 (near_shr hw hwl (wide_near4 hb) k (by omega)).2.2
  intro k
  induction k with
  | zero => intro _; exact ⟨⟨Int.le_refl _, Int.le_refl _⟩, ha 0 (by omega)⟩
  | succ k ih =>
    intro hk
    obtain ⟨⟨i1, i2⟩, i3, i4⟩ := ih (by omega)
    refine ⟨?_, ha _ hk⟩
    have e : volS l (k + 1) = volS l k + wtV k * areaS (levS (quadL l) k) := rfl
    rw [e]
    generalize areaS (levS (quadL l) k) = a at *
    unfold wtV
    split
    · omega
    · split <;> omega
theorem volS_step (l : List R4) (k : Nat) : volS l (k + 1) = volS l k + wtV k * areaS (levS (quadL l) k) := rfl

theorem vol_lev_all {l : List R4} (hc : checkF l = 0) (hl : l.length ≤ 12) (hb : ∀ r ∈ l, near4 25 r) {N : Nat} (hN : levN (levS (quadL l)) N) : N ≤ 101 ∧ volS l N = 4 * volT l ∧ 0 ≤ volT l ∧ volT l ≤ 3000000 := by
  by_cases hne : l = []
  · subst hne
    have h0 : levS (quadL []) 0 = [] := by
      unfold levS shrR
      exact if_pos rfl
    have hN0 : N = 0 := by
      by_cases h : N = 0
      · exact h
      · exact absurd h0 (hN.2 0 (by omega))
    subst hN0
    have e : volT [] = 0 := rfl
    rw [e]
    exact ⟨by omega, rfl, by omega, by omega⟩
  · obtain ⟨h1, h2⟩ := vol_eq hc hne hl hb hN
    obtain ⟨⟨a1, a2, a3⟩, _⟩ := hull_near25 hne hc hb
    have := row_bd hne hc hb (n := (2 * (hullL l).x1 - 2 * (hullL l).x0).toNat) (by omega)
    exact ⟨h1, h2, this.1, this.2⟩

/-! ### The ratios -/
theorem gcd_four (a : Nat) : Nat.gcd (4 * a) 192 = 4 * Nat.gcd a 48 := by
  rw [show 192 = 4 * 48 from rfl, Nat.gcd_mul_left]
theorem div_four (a g : Nat) : (((4 * a : Nat) : Int) / ((4 * g : Nat) : Int)) = (a : Int) / (g : Int) := by
  rw [← Int.natCast_ediv, ← Int.natCast_ediv, Nat.mul_div_mul_left a g (by omega)]
def volG (l : List R4) : Nat := Nat.gcd (volT l).toNat 48
def volR (l : List R4) : (Int × Int) × Int := if measF l = 0 then (((volT l).toNat / (volG l : Nat), (48 : Nat) / (volG l : Nat)), 0) else ((0, 0), measF l)
end Go.Proofs.YtdolpeljengpaaaGreat
