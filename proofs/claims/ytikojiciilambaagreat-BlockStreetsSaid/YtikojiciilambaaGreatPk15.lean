/- Texts laid together: MixTwo, JoinR, JoinU, PartsM, PartsA, BlkP, MFor. Lemmas for the statements of this seat; no condition. -/
import Derived.Test.YtikojiciilambaaGreatPk3
import Derived.Test.YtikojiciilambaaGreatPk2
import Derived.Test.YtikojiciilambaaGreatPk6
import Derived.Test.YtikojiciilambaaGreatPk14
import Derived.Test.YtikojiciilambaaGreatPk7
import Derived.Maps.RangeWalk
import Derived.Maps.Ext
import Derived.Test.YtikojiciilambaaGreatPk1

/- A region that draws its order: reads, a chain (a call) that keeps their condition, reads of slots in any order, and a last operation. The law, in a round and outside of one. -/
namespace Go.Proofs.YtikojiciilambaaGreat
open Go.RowKit
set_option linter.unusedVariables false
set_option linter.unusedSimpArgs false
section
variable {P : Program} {Q : Exit → Act → World → Prop} {md : Region.Mode} {S : World → Prop}
def mixCB (md : Region.Mode) (ops : Array Oper) (R2 T2 : List Nat) : List Nat → Array Bool → Bool
 | [], l => mixRB md ops T2 R2 l
 | t :: r, l => (Region.ready md ops l == [t]) && mixCB md ops R2 T2 r (l.setIfInBounds t true)
def mixHB (md : Region.Mode) (ops : Array Oper) (T R2 T2 : List Nat) : List Nat → Array Bool → Bool
 | [], l => mixCB md ops R2 T2 T l
 | i :: r, l => Region.free md ops l i && (Region.ready md ops l).contains i && waitsFor md ops (ops.size - 1) i && mixHB md ops T R2 T2 r (l.setIfInBounds i true)
def mixTwoB (md : Region.Mode) (ops : Array Oper) (R T R2 T2 : List Nat) : Bool := Region.noSelect ops && decide (R.length + (T.length + (R2.length + T2.length)) = ops.size) && (T2.getLast? == some (ops.size - 1)) && mixHB md ops T R2 T2 R (Array.replicate ops.size false)
def wpChain (P : Program) (ops : Array Oper) (S : World → Prop) (Q : Exit → Act → World → Prop) (K : Act → World → Prop) : List Oper → Act → World → Prop
 | [], a, w => K a w
 | o :: r, a, w => ∀ K' : Act → World → Prop, (∀ a' w', S w' → wpChain P ops S Q K r a' w' → K' a' w') → if Region.wanted o (yielded ops a.tmps) = true then o.wp P a w K' Q else K' (a.put o.dst undef) w
theorem wpChain_mix {l : List Oper} {R2 T2 : List Nat} (hsel : ∀ (j : Nat) (o : Oper) cs b, l.toArray[j]? = some o → o.op ≠ .select cs b) (hQ : ∀ c a a' w, Q (.panic c) a w → Q (.panic c) a' w) (hL : ∀ t, T2.getLast? = some t → t = l.length - 1) :
  ∀ (T : List Nat) (listed : Array Bool) (a : Act) (w : World), S w → mixCB md l.toArray R2 T2 T listed = true →
   wpChain P l.toArray S Q (fun a w => wpReads P l.toArray S (fun a' => wpTail P l.toArray S Q (T2.map (opAt l)) a' w) (R2.map (opAt l)) a) (T.map (opAt l)) a w →
   wpAnyE P md l.toArray Q S (l.length - 1) (T.length + (R2.length + T2.length)) listed a w
 | [], listed, a, w, hS, hT, h => by
  rw [List.length_nil, Nat.zero_add]
  exact wpReads_mix hsel hQ hL hS R2 listed a hT h
 | t :: r, listed, a, w, hS, hT, h => by
  simp only [mixCB, Bool.and_eq_true, beq_iff_eq] at hT
  rw [List.length_cons, Nat.add_right_comm]
  refine ⟨fun h0 => (by rw [hT.1] at h0; cases h0), fun i hi => ?_⟩
  obtain ⟨_, o, ho, _⟩ := mem_ready.1 hi
  rw [hT.1] at hi
  obtain rfl : i = t := by simpa using hi
  have ho' : l[i]? = some o := by simpa using ho
  simp only [List.map_cons, opAt_some ho'] at h
  refine wpOp_step ho fun K' hK => h K' fun a' w' hS' hT' => hK a' w' ⟨fun _ => hS', ?_⟩
  exact wpChain_mix hsel hQ hL r _ a' w' hS' hT.2 hT'
theorem wpHead_mix {l : List Oper} {T R2 T2 : List Nat} (hsel : ∀ (j : Nat) (o : Oper) cs b, l.toArray[j]? = some o → o.op ≠ .select cs b) (hQ : ∀ c a a' w, Q (.panic c) a w → Q (.panic c) a' w) (hL : ∀ t, T2.getLast? = some t → t = l.length - 1)
  {w : World} (hS : S w) : ∀ (R : List Nat) (listed : Array Bool) (a : Act), mixHB md l.toArray T R2 T2 R listed = true →
   wpReads P l.toArray S (fun a' => wpChain P l.toArray S Q (fun a w => wpReads P l.toArray S (fun a' => wpTail P l.toArray S Q (T2.map (opAt l)) a' w) (R2.map (opAt l)) a) (T.map (opAt l)) a' w) (R.map (opAt l)) a →
   wpAnyE P md l.toArray Q S (l.length - 1) (R.length + (T.length + (R2.length + T2.length))) listed a w
 | [], listed, a, hR, h => by
  rw [List.length_nil, Nat.zero_add]
  exact wpChain_mix hsel hQ hL T listed a w hS hR h
 | i :: r, listed, a, hR, h => by
  simp only [mixHB, Bool.and_eq_true, List.contains_iff_mem] at hR
  obtain ⟨⟨⟨f1, f2⟩, f3⟩, f4⟩ := hR
  obtain ⟨_, o, ho, _⟩ := mem_ready.1 f2
  have ho' : l[i]? = some o := by simpa using ho
  simp only [List.map_cons, opAt_some ho'] at h
  obtain ⟨v, hy, h⟩ := h
  have ih := wpHead_mix hsel hQ hL hS r _ _ f4 h
  rw [List.length_cons, Nat.add_right_comm]
  refine wpAnyE_first ho hsel (fun c a w h => hQ c _ _ w h) ?_ _ _ _ _ (Region.free_spec ho f1) f2 hy hS ih
  intro oL hoL
  unfold waitsFor at f3
  simp only [List.size_toArray] at f3
  rw [hoL] at f3
  obtain ⟨e, he, h2⟩ := Array.any_eq_true'.1 f3
  simp only [Bool.and_eq_true, beq_iff_eq] at h2
  exact ⟨e, he, h2.1, h2.2⟩
theorem wpAny_two {a : Act} {w : World} {l : List Oper} (R T R2 T2 : List Nat) (hB : mixTwoB .any l.toArray R T R2 T2 = true) (hS : S w)
  (h : wpReads P l.toArray S (fun a' => wpChain P l.toArray S (NoPanic Q) (fun a w => wpReads P l.toArray S (fun a' => wpTail P l.toArray S (NoPanic Q) (T2.map (opAt l)) a' w) (R2.map (opAt l)) a) (T.map (opAt l)) a' w) (R.map (opAt l)) a) :
  wpAny P .any l.toArray (NoPanic Q) l.toArray.size (Array.replicate l.toArray.size false) a w := by
 refine wpAny_of_E (S := S) (L := l.length - 1) _ _ _ _ ?_
 simp only [mixTwoB, Bool.and_eq_true, decide_eq_true_eq, beq_iff_eq, List.size_toArray] at hB
 obtain ⟨⟨⟨b1, b2⟩, b3⟩, b4⟩ := hB
 have := wpHead_mix (Q := NoPanic Q) (S := S) (l := l) (T := T) (R2 := R2) (T2 := T2) (w := w) (Region.noSelect_spec b1) (fun _ _ _ _ h => h) (fun t ht => by rw [b3] at ht; injection ht with ht; exact ht.symm) hS R _ a b4 h
 rw [b2] at this
 exact this
theorem wpIn_region_two {id r m : Nat} {a : Act} {w : World} {l : List Oper} (R T R2 T2 : List Nat) (S : World → Prop) (hm : P.follows .mixedOrders = true) (hB : mixTwoB .any l.toArray R T R2 T2 = true) (hnd : noDefer l = true) (hout : ∀ a w, ¬ Q .outgrown a w) (hS : S w.drew)
  (h : wpReads P l.toArray S (fun a' => wpChain P l.toArray S (NoPanic Q) (fun a w => wpReads P l.toArray S (fun a' => wpTail P l.toArray S (NoPanic Q) (T2.map (opAt l)) a' w) (R2.map (opAt l)) a) (T.map (opAt l)) a' w.drew) (R.map (opAt l)) a) :
  (Code.region id l.toArray true).wpIn (Fence.wide.inRound r) m P Q a w :=
 Code.wpIn_mono NoPanic.imp (wpIn_region_any hm (wpAny_round (noDefer_spec hnd) (fun a w h => hout a w (NoPanic.imp _ _ _ h)) _ _ _ _ (wpAny_two R T R2 T2 hB hS h)))
end
end Go.Proofs.YtikojiciilambaaGreat

/- region.joined: two regions joined, slab by slab. -/
namespace Go.Proofs.YtikojiciilambaaGreat
open Go.RowKit
set_option linter.unusedVariables false
set_option linter.unusedSimpArgs false
attribute [local go_sem] Oper.semAt_some
theorem slab_many {h : Bool → Bool → Bool} (h0 : h false false = false) {a b : List R4} (ha : ∀ r ∈ a, wf4 r) (hb : ∀ r ∈ b, wf4 r) (c : Int) : (sjoin h (crossL a c) (crossL b c)).length ≤ (rjoin h a b).length := by
 obtain ⟨r1, r2⟩ := rjoin_ok h0 ha hb
 obtain ⟨s1, s2⟩ := sjoin_ok h0 (crossL_wf ha c) (crossL_wf hb c)
 have e : crossL (rjoin h a b) c = sjoin h (crossL a c) (crossL b c) := (crossL_can r1 c).ext s1 fun y => by
  rw [smem_crossL, r2, s2, decide_eq_decide.2 (smem_crossL (l := a)), decide_eq_decide.2 (smem_crossL (l := b))]
 rw [← e]
 exact crossL_len _ _
theorem crossL_valid {l : List R4} (h : ∀ r ∈ l, valid4 r) (c : Int) : ∀ p ∈ crossL l c, validS p := by
 intro p hp
 obtain ⟨r, hr, rfl⟩ := List.mem_map.1 hp
 have hvr := h r (List.mem_filter.1 hr).1
 exact ⟨hvr.2.1, hvr.2.2.2.2.1.1, hvr.2.2.2.2.2.2⟩
theorem keepsFrom_set {n : Nat} {A B : World} (h : KeepsFrom n A B) {p : Addr} (hp : p.block < n) (v : Value) : KeepsFrom n A (B.setCell p v) := by
 refine ⟨Nat.le_trans h.1 (by simp), fun k o hk h1 h2 => ?_⟩
 have := h.2 k o hk h1 h2
 exact (Below.heap_setCell _ _ _ _ (by omega)).trans this
set_option maxRecDepth 100000 in
set_option maxHeartbeats 4000000 in
theorem joined_any {h : Bool → Bool → Bool} (h0 : h false false = false) {f : Nat} (hf : SpJoin f h) (ef : ∀ args w, (callFunc f args).run Tryz.prog w = .ok (.enter f args) w) {a b : List R4} {va vb : Value} {w : World} (ra : RdK encR 4 w w.heap.size va a) (rb : RdK encR 4 w w.heap.size vb b) (na : a.length ≤ 100000000) (nb : b.length ≤ 100000000) :
  Calls Tryz.prog 114 #[va, vb, .func (.func f) #[] #[]] w fun e w' => RegRet w.heap.size (joinF h a b) e w' ∧ Below w.heap.size w w' := by
 have hbo := fun (W : World) (hW : Below w.heap.size w W) => both_any (w := W) ((ra.below hW).mono hW.size) ((rb.below hW).mono hW.size) na nb
 have HBO := hide hbo
 have RA := hide ra
 have RB := hide rb
 obtain ⟨A1, c1, hva, _⟩ := id ra
 obtain ⟨A2, c2, hvb, _⟩ := id rb
 subst hva; subst hvb
 clear hbo ra rb
 have HSP := hide hf
 have HEF := hide ef
 have k3 : Below w.heap.size w (((w.alloc (.cells #[.func (.func f) #[] #[]] 139)).alloc (.cells #[.slice none 0 0] 34)).alloc (.cells #[.int .i64 0] 26)) := (((Below.refl _ _).alloc (Nat.le_refl _) _).alloc (by simp) _).alloc (by simp; omega) _
 have K3 := hide k3
 clear k3 hf ef
 by_cases hb0 : bothF a b = 0
 ·obtain ⟨ca, cb⟩ := bothF_ok hb0
  have HWA := hide (check_wf ca)
  have HWB := hide (check_wf cb)
  obtain ⟨la, va4, _⟩ := checkF_ok ca
  obtain ⟨lb, vb4, _⟩ := checkF_ok cb
  have HVA := hide va4
  have HVB := hide vb4
  have HCA := hide (check_rcan ca)
  have HCB := hide (check_rcan cb)
  have hcl : (List.flatMap cutsL [a, b]).length ≤ 100000000 := by simp [cutsL_len]; omega
  have hcs := cutsOf_ok (List.flatMap cutsL [a, b])
  have hl2 : (List.flatMap cutsL [a, b]).length = 2 * a.length + 2 * b.length := by simp [cutsL_len]
  have hcn : (cutsOf (List.flatMap cutsL [a, b])).length ≤ 1600 := by
   have h1 := cutsOf_len (List.flatMap cutsL [a, b])
   omega
  clear hl2
  have hfin := swp_join h0 HWA.out HWB.out hcs.1 (fun c hc => (hcs.2 c).2 (by simp [hc])) (fun c hc => (hcs.2 c).2 (by simp [hc]))
  have hgl : ∀ c, (sjoin h (crossL a c) (crossL b c)).length ≤ 1600 := by
   intro c
   have h1 := sjoin_len h (crossL a c) (crossL b c)
   have h2 := crossL_len a c
   have h3 := crossL_len b c
   omega
  have hjl := rjoin_len2 h a b la lb
  have hslab : ∀ (W : World) (L : Nat), L < W.heap.size → (∃ v, W.cell? ⟨L, 0, none⟩ = some v ∧ RdK encR 4 W W.heap.size v a) → (∃ v, W.cell? ⟨L, 1, none⟩ = some v ∧ RdK encR 4 W W.heap.size v b) → _ := fun W L h1 h2 h3 =>
   slabsB_any [a, b] L 2 W h1 (fun k l' hk => by
    match k, hk with
    | 0, hk => simp at hk; subst hk; exact h2
    | 1, hk => simp at hk; subst hk; exact h3
    | k + 2, hk => simp at hk) hcl (by simp)
  simp only [List.length_cons, List.length_nil, Nat.zero_add, Nat.reduceAdd] at hslab
  have hJF : joinF h a b = if 400 < (rjoin h a b).length then ([], 4) else (rjoin h a b, 0) := if_pos hb0
  rw [hb0] at HBO
  have HMANY := hide (fun c => slab_many h0 HWA.out HWB.out c)
  generalize hcsd : cutsOf (List.flatMap cutsL [a, b]) = cs at *
  clear hcsd
  have HS := hide hslab
  have HF := hide hfin
  have HG := hide hgl
  have HC := hide hcs
  have HJF := hide hJF
  clear hslab hfin hgl hcs hJF ca cb hb0 va4 vb4
  refine (callsIn_wide (n := 0)).1 ?_
  refine callsIn_of_wp_marks Tryz.func114 rfl trivial ?_
  simp only [Tryz.ntmps114, List.size_toArray, List.length_cons, List.length_nil, Nat.reduceAdd, Nat.reduceSub, Array.replicate_succ, Array.replicate_zero, List.push_toArray, List.append_toArray, List.nil_append, List.cons_append]
  refine wpIn_wide.2 ?_
  go_wp2_with (fail)
  refine (HBO.out _ K3.out).mono ?_
  rintro e w1 ⟨rfl, hb1⟩
  have hs1 := hb1.size
  simp at hs1
  have c5 : w1.cell? ⟨w.heap.size, 0, none⟩ = some (.func (.func f) #[] #[]) := (hb1.cell (p := ⟨w.heap.size, 0, none⟩) (by simp; omega)).trans (by simp [go_sem])
  have k6 : w1.cell? ⟨w.heap.size + 1, 0, none⟩ = some (.slice none 0 0) := (hb1.cell (p := ⟨w.heap.size + 1, 0, none⟩) (by simp)).trans (by simp [go_sem])
  have k7 : w1.cell? ⟨w.heap.size + 1 + 1, 0, none⟩ = some (.int .i64 0) := (hb1.cell (p := ⟨w.heap.size + 1 + 1, 0, none⟩) (by simp)).trans (by simp [go_sem])
  have f6 : w1.frozen? ⟨w.heap.size + 1, 0, none⟩ = false := (hb1.frozen (p := ⟨w.heap.size + 1, 0, none⟩) (by simp)).trans (by simp [go_sem])
  have f7 : w1.frozen? ⟨w.heap.size + 1 + 1, 0, none⟩ = false := (hb1.frozen (p := ⟨w.heap.size + 1 + 1, 0, none⟩) (by simp)).trans (by simp [go_sem])
  have KB := hide (K3.out.trans (hb1.mono (by simp; omega)))
  have HBX := hide (And.intro c5 (And.intro (And.intro k6 k7) (And.intro f6 f7)))
  clear hb1 c5 k6 k7 f6 f7 HBO
  go_wp2_with (fail)
  have hb2 : Below w1.heap.size w1 ((w1.alloc (.cells #[.slice none 0 0, .slice none 0 0, .int .i64 0, .int .i64 0] 151)).alloc (.cells #[.slice A1 a.length c1, .slice A2 b.length c2] 34)) := ((Below.refl _ _).alloc (Nat.le_refl _) _).alloc (by simp) _
  have hL1 : ((w1.alloc (.cells #[.slice none 0 0, .slice none 0 0, .int .i64 0, .int .i64 0] 151)).alloc (.cells #[.slice A1 a.length c1, .slice A2 b.length c2] 34)).cell? ⟨w1.heap.size + 1, 0, none⟩ = some (.slice A1 a.length c1) := by simp [go_sem]
  have hL2 : ((w1.alloc (.cells #[.slice none 0 0, .slice none 0 0, .int .i64 0, .int .i64 0] 151)).alloc (.cells #[.slice A1 a.length c1, .slice A2 b.length c2] 34)).cell? ⟨w1.heap.size + 1, 1, none⟩ = some (.slice A2 b.length c2) := by simp [go_sem]
  have hs := HS.out ((w1.alloc (.cells #[.slice none 0 0, .slice none 0 0, .int .i64 0, .int .i64 0] 151)).alloc (.cells #[.slice A1 a.length c1, .slice A2 b.length c2] 34)) (w1.heap.size + 1) (by simp)
   ⟨_, hL1, (((RA.out.below KB.out).mono KB.out.size).below hb2).mono hb2.size⟩ ⟨_, hL2, (((RB.out.below KB.out).mono KB.out.size).below hb2).mono hb2.size⟩
  simp only [World.size_alloc, Nat.add_assoc, Nat.reduceAdd] at hs
  have hbc : ∀ j u, (#[Value.slice none 0 0, .slice none 0 0, .int .i64 0, .int .i64 0] : Array Value)[j]? = some u → ((w1.alloc (.cells #[.slice none 0 0, .slice none 0 0, .int .i64 0, .int .i64 0] 151)).alloc (.cells #[.slice A1 a.length c1, .slice A2 b.length c2] 34)).cell? ⟨w1.heap.size, j, none⟩ = some u := by
   intro j u hj
   refine (World.cell?_alloc_lt (w1.alloc _) _ ⟨w1.heap.size, j, none⟩ (by simp)).trans ?_
   have := news_new w1 [Value.slice none 0 0, .slice none 0 0, .int .i64 0, .int .i64 0] 151 w1.heap.size rfl j u (by simpa using hj)
   rwa [addr_add] at this
  refine hs.mono ?_
  clear hs
  rintro e wS ⟨vc, rfl, hbl, hbc2, hown, hbS⟩
  have hsz1 : ((w1.alloc (.cells #[.slice none 0 0, .slice none 0 0, .int .i64 0, .int .i64 0] 151)).alloc (.cells #[.slice A1 a.length c1, .slice A2 b.length c2] 34)).heap.size = w1.heap.size + 2 := by simp
  have hz1 : ∀ j, ((w1.alloc (.cells #[.slice none 0 0, .slice none 0 0, .int .i64 0, .int .i64 0] 151)).alloc (.cells #[.slice A1 a.length c1, .slice A2 b.length c2] 34)).frozen? ⟨w1.heap.size, j, none⟩ = false := fun j => by simp [go_sem]
  go_wp2_with (fail)
  obtain ⟨w2, hw2⟩ : ∃ w2, (w1.alloc (.cells #[.slice none 0 0, .slice none 0 0, .int .i64 0, .int .i64 0] 151)).alloc (.cells #[.slice A1 a.length c1, .slice A2 b.length c2] 34) = w2 := ⟨_, rfl⟩
  rw [hw2] at hb2 hL1 hL2 hbc hbS hsz1 hz1
  clear hw2
  have hcsz := hbS.size
  obtain ⟨Ac, cc, hvc⟩ := own_form hown
  subst hvc
  have hbS2 : Below (w1.heap.size + 2) w2 wS := hbS.mono (by omega)
  have hlow : Below w1.heap.size w1 wS := hb2.trans (hbS.mono (by omega))
  have kS : ∀ j, wS.cell? ⟨w1.heap.size, j, none⟩ = w2.cell? ⟨w1.heap.size, j, none⟩ := fun j => hbS2.cell (p := ⟨w1.heap.size, j, none⟩) (by show w1.heap.size < _; omega)
  have zS : ∀ j, wS.frozen? ⟨w1.heap.size, j, none⟩ = w2.frozen? ⟨w1.heap.size, j, none⟩ := fun j => hbS2.frozen (p := ⟨w1.heap.size, j, none⟩) (by show w1.heap.size < _; omega)
  have hbw0 : BW w1.heap.size wS.heap.size (swp (fun c => sjoin h (crossL a c) (crossL b c)) []) [] 0 0 wS :=
   ⟨by omega, Nat.le_refl _, ⟨_, (kS 0).trans (hbc 0 _ rfl), World.ownsRow_nil _ _ _ _⟩, ⟨_, (kS 1).trans (hbc 1 _ rfl), World.ownsRow_nil _ _ _ _⟩, (kS 2).trans (hbc 2 _ rfl), (kS 3).trans (hbc 3 _ rfl), fun j => (zS j).trans (hz1 j), BInv.start⟩
  have hL1S := (hbS2.cell (p := ⟨w1.heap.size + 1, 0, none⟩) (by show w1.heap.size + 1 < _; omega)).trans hL1
  have hL2S := (hbS2.cell (p := ⟨w1.heap.size + 1, 1, none⟩) (by show w1.heap.size + 1 < _; omega)).trans hL2
  have hit := slabsItB [a, b] cs (w1.heap.size + 3) (w1.heap.size + 2) (w1.heap.size + 1) 2 cc w1.heap.size (w1.heap.size + 4) Ac wS (lt_of_cell hbl) (lt_of_cell hbc2) (by omega) (by omega) (by omega) (by omega) (by omega) (by omega)
   hbl hbc2 hown (fun k l' hk => by
    match k, hk with
    | 0, hk => simp at hk; subst hk; exact ⟨by omega, _, hL1S, ((RA.out.below KB.out).mono KB.out.size).below hlow⟩
    | 1, hk => simp at hk; subst hk; exact ⟨by omega, _, hL2S, ((RB.out.below KB.out).mono KB.out.size).below hlow⟩
    | k + 2, hk => simp at hk) (by simp) (by omega)
  have hws : w1.heap.size + 4 ≤ wS.heap.size := lt_of_cell hbc2
  have hI0 : MI w1.heap.size wS.heap.size (fun c => sjoin h (crossL a c) (crossL b c)) 1600 w1 [] wS := ⟨⟨[], 0, 0, hbw0, by simp, .inl rfl⟩, hlow⟩
  clear hb2 hL1 hL2 hbc hbS hsz1 hz1 hcsz hbS2 hlow kS zS hbw0 hL1S hL2S hbl hbc2 hown
  refine (wpIn_wide (n := 0)).1 ?_
  refine wp_range rfl (enters_of Tryz.func198 (by kernel_rfl) rfl) hit (Below.refl _ _) (fun x args A hx => by obtain ⟨Rw, rfl, _⟩ := hx; rfl) KpX.trans ?_
   (MI w1.heap.size wS.heap.size (fun c => sjoin h (crossL a c) (crossL b c)) 1600 w1) (fun _ W => 400 < (rjoin h a b).length ∧ W.cell? ⟨w.heap.size + 1, 0, none⟩ = some (.slice none 0 0) ∧ W.cell? ⟨w.heap.size + 1 + 1, 0, none⟩ = some (.int .i64 4) ∧ Below w.heap.size w W)
   (fun pre A B h hb => h.below hb) (fun pre A l o o' h hw hl ho ho' => h.putObj (by omega) hl ho ho') (fun pre A l o o' h hw hl ho ho' => ⟨h.1, (cell_putObj hl ho ho' _).1.trans h.2.1, (cell_putObj hl ho ho' _).1.trans h.2.2.1, below_putObj h.2.2.2 (by have := KB.out.size; omega) _⟩) hI0 ?_ ?_ ?_
  ·intro A l o o' _ h1 h2 h3
   exact ⟨by simp, fun b off _ _ => (cell_putObj h1 h2 h3 _).1⟩
  ·rintro l2 pre ⟨c, d⟩ args A hMI ⟨post, hpost⟩ ⟨Rw, rfl, hRw, hrows⟩ hl1 ⟨ol, hl2, hl3⟩
   have hll : l2 < A.heap.size := (Array.getElem?_eq_some_iff.1 hl2).1
   obtain ⟨vx, hx1, hx2⟩ := hrows 0 a rfl
   obtain ⟨vy, hy1, hy2⟩ := hrows 1 b rfl
   have hlo := hMI.low.size
   have hBoA : wS.heap.size ≤ A.heap.size := by obtain ⟨_, _, _, h1, _⟩ := hMI.bw; exact h1.size
   have hM := hide hMI
   have HX1 := hide hx1
   have HX2 := hide hx2
   have HY1 := hide hy1
   have HY2 := hide hy2
   have HL2 := hide hl2
   have HP := hide hpost
   clear hMI hrows hx1 hx2 hy1 hy2 hit hI0 hl2 hpost
   gi_wp2
   refine ⟨KeepsFrom.of_below' ((Below.refl _ _).alloc (Nat.le_refl _) _), KpX.below hBoA ((Below.refl _ _).alloc (Nat.le_refl _) _), ?_⟩
   intro A2 g2 s2 e2 f2
   have c20 : A2.cell? ⟨A.heap.size, 0, none⟩ = some (.int .i64 c) := (e2 _).trans (by simp [go_sem])
   have c21 : A2.cell? ⟨A.heap.size, 1, none⟩ = some (.int .i64 d) := (e2 _).trans (by simp [go_sem])
   have c22 : A2.cell? ⟨A.heap.size, 2, none⟩ = some (.slice (some ⟨Rw, 0, none⟩) 2 2) := (e2 _).trans (by simp [go_sem])
   have s3 : A2.heap.size = A.heap.size + 1 := by rw [s2]; simp
   have cR0 : A2.cell? ⟨Rw, 0, none⟩ = some vx := (e2 _).trans ((World.cell?_alloc_lt A _ ⟨Rw, 0, none⟩ hRw).trans HX1.out)
   have cR1 : A2.cell? ⟨Rw, 1, none⟩ = some vy := (e2 _).trans ((World.cell?_alloc_lt A _ ⟨Rw, 1, none⟩ hRw).trans HY1.out)
   have rd0 : RdK encS 2 A2 A2.heap.size vx (crossL a c) := (HX2.out.keep fun b o hb => (e2 _).trans (World.cell?_alloc_lt A _ ⟨b, o, none⟩ hb)).mono (by omega)
   have rd1 : RdK encS 2 A2 A2.heap.size vy (crossL b c) := (HY2.out.keep fun b o hb => (e2 _).trans (World.cell?_alloc_lt A _ ⟨b, o, none⟩ hb)).mono (by omega)
   have M2 := (hM.out.below ((Below.refl _ _).alloc (Nat.le_refl _) (.cells #[.int .i64 c, .int .i64 d, .slice (some ⟨Rw, 0, none⟩) 2 2] 156))).grown (by omega) g2 ((Below.heap_alloc _ _ _ hll).trans HL2.out) hl3
   have c5 : A2.cell? ⟨w.heap.size, 0, none⟩ = some (.func (.func f) #[] #[]) := (M2.low.cell (p := ⟨w.heap.size, 0, none⟩) (by show w.heap.size < _; omega)).trans HBX.out.1
   have k6 : A2.cell? ⟨w.heap.size + 1, 0, none⟩ = some (.slice none 0 0) := (M2.low.cell (p := ⟨w.heap.size + 1, 0, none⟩) (by show w.heap.size + 1 < _; omega)).trans HBX.out.2.1.1
   have k7 : A2.cell? ⟨w.heap.size + 1 + 1, 0, none⟩ = some (.int .i64 0) := (M2.low.cell (p := ⟨w.heap.size + 1 + 1, 0, none⟩) (by show w.heap.size + 1 + 1 < _; omega)).trans HBX.out.2.1.2
   have f6 : A2.frozen? ⟨w.heap.size + 1, 0, none⟩ = false := (M2.low.frozen (p := ⟨w.heap.size + 1, 0, none⟩) (by show w.heap.size + 1 < _; omega)).trans HBX.out.2.2.1
   have f7 : A2.frozen? ⟨w.heap.size + 1 + 1, 0, none⟩ = false := (M2.low.frozen (p := ⟨w.heap.size + 1 + 1, 0, none⟩) (by show w.heap.size + 1 + 1 < _; omega)).trans HBX.out.2.2.2
   obtain ⟨av, cv, hvx, _⟩ := id rd0
   obtain ⟨aw, cw, hvy, _⟩ := id rd1
   subst hvx; subst hvy
   have hcall := fun (W : World) (hW : Below A2.heap.size A2 W) => HSP.out (crossL a c) (crossL b c) _ _ W ((rd0.below hW).mono hW.size) ((rd1.below hW).mono hW.size) (Nat.le_trans (crossL_len a c) la) (Nat.le_trans (crossL_len b c) lb) (crossL_can HCA.out c) (crossL_can HCB.out c) (crossL_valid HVA.out c) (crossL_valid HVB.out c)
   have HCALL := hide hcall
   obtain ⟨last, first, e, B2, q1, q2⟩ := M2.bw
   have hprs := HP.out
   have hlt := prs_lt cs HC.out.1 (c, d) (by rw [hprs]; simp)
   have hnx := prs_next cs pre (c, d) post hprs
   have hplen : pre.length ≤ 1600 := by
    have h1 := prs_len cs
    rw [hprs] at h1
    simp at h1
    omega
   have hfl := swp_len (fun c => sjoin h (crossL a c) (crossL b c)) 1600 HG.out pre
   have hfl2 : (flat (swp (fun c => sjoin h (crossL a c) (crossL b c)) pre)).length ≤ 100000000 := by have := Nat.mul_le_mul_right 1600 hplen; omega
   have hsl := HG.out c
   have hef : swp (fun c => sjoin h (crossL a c) (crossL b c)) pre = [] ∨ e ≤ c := by
    rcases q2 with rfl | ⟨p, hp, rfl⟩
    ·exact .inl rfl
    ·exact .inr (by rw [hnx p hp]; exact Int.le_refl _)
   have hadd : ∀ (A3 : World) (Am : Option Addr) (cm : Nat), Below A2.heap.size A2 A3 → A3.ownsRow wS.heap.size 141 2 (.slice Am (sjoin h (crossL a c) (crossL b c)).length cm) (sjoin h (crossL a c) (crossL b c)).length ((sjoin h (crossL a c) (crossL b c)).flatMap encS) → _ := fun A3 Am cm hb ho =>
    add_any (s := sjoin h (crossL a c) (crossL b c)) (f := c) (t := d) (B2.below hb) ho hfl2 (Nat.le_trans hsl (by omega)) (by omega) hef hlt.1
   have HA := hide hadd
   have HM2 := hide M2.low
   have HMC := hide (HMANY.out c)
   have hsj : sjF h (crossL a c) (crossL b c) = if 400 < (sjoin h (crossL a c) (crossL b c)).length then ([], 4) else (sjoin h (crossL a c) (crossL b c), 0) := rfl
   have HSJ := hide hsj
   have HBLT := hide (show w.heap.size + 3 ≤ A2.heap.size by omega)
   have hRw2 : Rw < A2.heap.size := by omega
   have hws2 : wS.heap.size ≤ A2.heap.size := by omega
   clear g2 s2 e2 f2 M2 B2 hadd hlt hnx hef hprs q2 hcall rd0 rd1 hsj hfl hfl2
   gi_wp2_with (refine ⟨trivial, rfl, ?_⟩)
   refine wpIn_region_two [0, 1, 2, 3, 4, 5, 6, 7, 8] [9, 10] [11, 12, 13] [14] (fun w' => (w'.cell? ⟨w.heap.size, 0, none⟩ = some (.func (.func f) #[] #[]) ∧ w'.cell? ⟨A.heap.size, 2, none⟩ = some (.slice (some ⟨Rw, 0, none⟩) 2 2)) ∧ w'.cell? ⟨Rw, 0, none⟩ = some (.slice av (crossL a c).length cv) ∧ w'.cell? ⟨Rw, 1, none⟩ = some (.slice aw (crossL b c).length cw)) (by kernel_rfl) (by kernel_rfl) rfl (fun a w h => h) ⟨⟨c5, c22⟩, cR0, cR1⟩ ?_
   simp only [List.map_cons, List.map_nil, opAt, List.getElem?_cons_succ, List.getElem?_cons_zero, Option.getD_some]
   iterate 9
    refine ⟨?_, Or.inl ⟨by rfl, ?_⟩, ?_⟩
    rotate_left 1
    ·intro w' hSw
     obtain ⟨⟨z0, z1⟩, z2, z3⟩ := hSw
     go_simp
     first | done | with_reducible rfl
    simp only [Act.put, List.setIfInBounds_toArray, List.set_cons_zero, List.set_cons_succ]
   simp only [wpReads, wpChain]
   intro K hK
   simp only [Act.put, List.setIfInBounds_toArray, List.set_cons_zero, List.set_cons_succ] at hK ⊢
   go_simp
   rw [HEF.out]
   have hcd := HCALL.out A2.drew (Below.refl _ _).drew
   rw [HSJ.out] at hcd
   refine hcd.mono ?_
   clear hcd
   rintro e' A4 ⟨⟨Am, cm, rfl, ho4⟩, hb4'⟩
   have hb4 : Below A2.heap.size A2 A4 := (Below.refl _ _).drew.trans hb4'
   have hkc : ∀ p : Addr, p.block < A2.heap.size → A4.cell? p = A2.cell? p := fun p hp => hb4.cell hp
   have hkf : ∀ p : Addr, p.block < A2.heap.size → A4.frozen? p = A2.frozen? p := fun p hp => hb4.frozen hp
   have n5 := (hkc ⟨w.heap.size, 0, none⟩ (by show w.heap.size < _; omega)).trans c5
   have n6 := (hkc ⟨w.heap.size + 1, 0, none⟩ (by show w.heap.size + 1 < _; omega)).trans k6
   have n7 := (hkc ⟨w.heap.size + 1 + 1, 0, none⟩ (by show w.heap.size + 1 + 1 < _; omega)).trans k7
   have m6 := (hkf ⟨w.heap.size + 1, 0, none⟩ (by show w.heap.size + 1 < _; omega)).trans f6
   have m7 := (hkf ⟨w.heap.size + 1 + 1, 0, none⟩ (by show w.heap.size + 1 + 1 < _; omega)).trans f7
   have n20 := (hkc ⟨A.heap.size, 0, none⟩ (by show A.heap.size < _; omega)).trans c20
   have n21 := (hkc ⟨A.heap.size, 1, none⟩ (by show A.heap.size < _; omega)).trans c21
   have n22 := (hkc ⟨A.heap.size, 2, none⟩ (by show A.heap.size < _; omega)).trans c22
   have nR0 := (hkc ⟨Rw, 0, none⟩ (by show Rw < _; omega)).trans cR0
   have nR1 := (hkc ⟨Rw, 1, none⟩ (by show Rw < _; omega)).trans cR1
   have HB4 := hide hb4
   have HO4 := hide ho4
   clear hkc hkf c5 k6 k7 f6 f7 c20 c21 c22 cR0 cR1 hb4 hb4' ho4
   refine hK _ _ ⟨⟨n5, n22⟩, nR0, nR1⟩ ?_
   clear hK K
   intro K hK
   simp only [Act.put, List.setIfInBounds_toArray, List.set_cons_zero, List.set_cons_succ] at hK ⊢
   go_simp
   refine hK _ _ ⟨⟨n5, n22⟩, nR0, nR1⟩ ?_
   clear hK K n5 n22 nR0 nR1
   iterate 3
    refine ⟨?_, Or.inl ⟨by rfl, ?_⟩, ?_⟩
    rotate_left 1
    ·intro w' hSw
     clear hSw
     go_simp
     first | done | with_reducible rfl
    try simp only [Act.put, List.setIfInBounds_toArray, List.set_cons_zero, List.set_cons_succ]
   intro K hK
   simp only [Act.put, List.setIfInBounds_toArray, List.set_cons_zero, List.set_cons_succ] at hK ⊢
   go_simp
   refine hK _ _ (fun h => absurd rfl h) ?_
   clear hK K
   refine NoPanic.normal ?_
   by_cases h4 : 400 < (sjoin h (crossL a c) (crossL b c)).length
   ·have HO5 := HO4.out
    simp only [if_pos h4] at HO5 ⊢
    have hmany := Nat.lt_of_lt_of_le h4 HMC.out
    gi_wp2_with (fail)
    have hb4 := HB4.out
    refine ⟨keepsFrom_set (keepsFrom_set (KeepsFrom.of_below' hb4) (by show w.heap.size + 1 < _; omega) _) (by show w.heap.size + 1 + 1 < _; omega) _, hmany, by simp [go_sem, n6, n7, m6, m7], by simp [go_sem, n6, n7, m6, m7], ?_⟩
    exact (((KB.out.trans (HM2.out.mono (by omega))).trans (hb4.mono (by omega))).setCell (p := ⟨w.heap.size + 1, 0, none⟩) (Nat.le_succ _) _).setCell (p := ⟨w.heap.size + 1 + 1, 0, none⟩) (by show w.heap.size ≤ w.heap.size + 1 + 1; omega) _
   ·have HO5 := HO4.out
    simp only [if_neg h4] at HO5 ⊢
    have hadd := HA.out A4 Am cm HB4.out (own_base HO5 (by show wS.heap.size ≤ A2.heap.size; omega))
    gi_wp2_with (first
     | (refine ⟨trivial, rfl, ?_⟩)
     | (gi_at_call 101; refine (CallsIn.inRound l2 (callsIn_wide.2 hadd)).mono ?_; rintro e' A5 ⟨rfl, first', hbw5, hb5, hblk5, hk5⟩))
    have hb4 := HB4.out
    refine ⟨(KeepsFrom.of_below' hb4).trans (hk5.from _), (KpX.below (by omega) hb4).trans ⟨hk5.size, fun b o h1 h2 => World.cell?_of_block (w := A4) (hblk5 b h1 h2)⟩, ⟨_, first', d, by rw [swp_snoc]; exact hbw5, hsl, .inr ⟨(c, d), by simp, rfl⟩⟩, ?_⟩
    exact (HM2.out.trans (hb4.mono (by omega))).trans hb5
  ·rintro D W hD hMI hK
   obtain ⟨last, first, e, hB, _, _⟩ := hMI.bw
   have hplen : (prs cs).length ≤ 1600 := by
    have h1 := prs_len cs
    omega
   have hfl := swp_len (fun c => sjoin h (crossL a c) (crossL b c)) 1600 HG.out (prs cs)
   have hfl2 := Nat.mul_le_mul_right 1600 hplen
   have hres := result_any hB (by omega)
   rw [HF.out] at hres
   have hws2 := hB.size
   have HM := hide hMI.low
   have HK := hide hK
   have hD2 : D < W.heap.size := (Array.getElem?_eq_some_iff.1 hK).1
   have hlw : w1.heap.size ≤ W.heap.size := hMI.low.size
   have k6 : W.cell? ⟨w.heap.size + 1, 0, none⟩ = some (.slice none 0 0) := (HM.out.cell (p := ⟨w.heap.size + 1, 0, none⟩) (by show w.heap.size + 1 < _; omega)).trans HBX.out.2.1.1
   have k7 : W.cell? ⟨w.heap.size + 1 + 1, 0, none⟩ = some (.int .i64 0) := (HM.out.cell (p := ⟨w.heap.size + 1 + 1, 0, none⟩) (by show w.heap.size + 1 + 1 < _; omega)).trans HBX.out.2.1.2
   have f6 : W.frozen? ⟨w.heap.size + 1, 0, none⟩ = false := (HM.out.frozen (p := ⟨w.heap.size + 1, 0, none⟩) (by show w.heap.size + 1 < _; omega)).trans HBX.out.2.2.1
   have f7 : W.frozen? ⟨w.heap.size + 1 + 1, 0, none⟩ = false := (HM.out.frozen (p := ⟨w.heap.size + 1 + 1, 0, none⟩) (by show w.heap.size + 1 + 1 < _; omega)).trans HBX.out.2.2.2
   clear hB hMI hfl hfl2 hit hI0 hK
   simp only [Exit.inBlock, Exit.then]
   by_cases h4 : 400 < (rjoin h a b).length
   ·have HMF : Hid (joinF h a b = ([], 4)) := hide (HJF.out.trans (if_pos h4))
    go_wp2_with (go_at_call 102; refine hres.mono ?_; rintro e' w' ⟨rfl, hq⟩; obtain rfl : e' = .returned (.tuple #[.slice none 0 0, .int .i64 4]) := hq.elim (fun q => q.2) (fun q => absurd q.1 (by omega)); clear hq)
    have c6 : ((W.setCell ⟨w.heap.size + 1, 0, none⟩ (.slice none 0 0)).setCell ⟨w.heap.size + 1 + 1, 0, none⟩ (.int .i64 4)).cell? ⟨w.heap.size + 1, 0, none⟩ = some (.slice none 0 0) := by simp [go_sem, k6, k7, f6, f7]
    have c7 : ((W.setCell ⟨w.heap.size + 1, 0, none⟩ (.slice none 0 0)).setCell ⟨w.heap.size + 1 + 1, 0, none⟩ (.int .i64 4)).cell? ⟨w.heap.size + 1 + 1, 0, none⟩ = some (.int .i64 4) := by simp [go_sem, k6, k7, f6, f7]
    have cD : ((W.setCell ⟨w.heap.size + 1, 0, none⟩ (.slice none 0 0)).setCell ⟨w.heap.size + 1 + 1, 0, none⟩ (.int .i64 4)).heap[D]? = some (.deferred (some [])) := (Below.heap_setCell _ _ _ _ (by show D ≠ w.heap.size + 1 + 1; omega)).trans ((Below.heap_setCell _ _ _ _ (by show D ≠ w.heap.size + 1; omega)).trans HK.out)
    have hbL : Below w.heap.size w ((W.setCell ⟨w.heap.size + 1, 0, none⟩ (.slice none 0 0)).setCell ⟨w.heap.size + 1 + 1, 0, none⟩ (.int .i64 4)) := ((KB.out.trans (HM.out.mono (by omega))).setCell (p := ⟨w.heap.size + 1, 0, none⟩) (Nat.le_succ _) _).setCell (p := ⟨w.heap.size + 1 + 1, 0, none⟩) (by show w.heap.size ≤ w.heap.size + 1 + 1; omega) _
    obtain ⟨W3, hW3⟩ : ∃ W3, (W.setCell ⟨w.heap.size + 1, 0, none⟩ (.slice none 0 0)).setCell ⟨w.heap.size + 1 + 1, 0, none⟩ (.int .i64 4) = W3 := ⟨_, rfl⟩
    rw [hW3] at c6 c7 cD hbL
    rw [hW3]
    clear hW3 k6 k7 f6 f7
    refine ⟨by simp, .inl ⟨_, _, rfl, run_takeDeferred cD, ?_⟩⟩
    have e6 := (cell_putObj (o' := .deferred none) cD rfl rfl ⟨w.heap.size + 1, 0, none⟩).1.trans c6
    have e7 := (cell_putObj (o' := .deferred none) cD rfl rfl ⟨w.heap.size + 1 + 1, 0, none⟩).1.trans c7
    refine ⟨.tuple #[(.slice none 0 0), .int .i64 4], by simp [results, Tryz.results114, go_sem, e6, e7], ⟨none, 0, by rw [HMF.out]; rfl, by rw [HMF.out]; exact World.ownsRow_nil _ _ _ _⟩, below_putObj hbL (by omega) _⟩
   ·have HMF : Hid (joinF h a b = (rjoin h a b, 0)) := hide (HJF.out.trans (if_neg h4))
    generalize rjoin h a b = R at *
    go_wp2_with (go_at_call 102; refine hres.mono ?_; rintro e' w' ⟨rfl, hq⟩; obtain ⟨Ar, cr, rfl, hor⟩ := hq.elim (fun q => absurd q.1 h4) (fun q => q.2); have HOR := hide hor; clear hq hor)
    have c6 : ((W.setCell ⟨w.heap.size + 1, 0, none⟩ (.slice Ar R.length cr)).setCell ⟨w.heap.size + 1 + 1, 0, none⟩ (.int .i64 0)).cell? ⟨w.heap.size + 1, 0, none⟩ = some (.slice Ar R.length cr) := by simp [go_sem, k6, k7, f6, f7]
    have c7 : ((W.setCell ⟨w.heap.size + 1, 0, none⟩ (.slice Ar R.length cr)).setCell ⟨w.heap.size + 1 + 1, 0, none⟩ (.int .i64 0)).cell? ⟨w.heap.size + 1 + 1, 0, none⟩ = some (.int .i64 0) := by simp [go_sem, k6, k7, f6, f7]
    have cD : ((W.setCell ⟨w.heap.size + 1, 0, none⟩ (.slice Ar R.length cr)).setCell ⟨w.heap.size + 1 + 1, 0, none⟩ (.int .i64 0)).heap[D]? = some (.deferred (some [])) := (Below.heap_setCell _ _ _ _ (by show D ≠ w.heap.size + 1 + 1; omega)).trans ((Below.heap_setCell _ _ _ _ (by show D ≠ w.heap.size + 1; omega)).trans HK.out)
    have hbL : Below w.heap.size w ((W.setCell ⟨w.heap.size + 1, 0, none⟩ (.slice Ar R.length cr)).setCell ⟨w.heap.size + 1 + 1, 0, none⟩ (.int .i64 0)) := ((KB.out.trans (HM.out.mono (by omega))).setCell (p := ⟨w.heap.size + 1, 0, none⟩) (Nat.le_succ _) _).setCell (p := ⟨w.heap.size + 1 + 1, 0, none⟩) (by show w.heap.size ≤ w.heap.size + 1 + 1; omega) _
    have hoL : ((W.setCell ⟨w.heap.size + 1, 0, none⟩ (.slice Ar R.length cr)).setCell ⟨w.heap.size + 1 + 1, 0, none⟩ (.int .i64 0)).ownsRow wS.heap.size 49 4 (.slice Ar R.length cr) R.length (R.flatMap encR) := ownsRow_setCell_below (ownsRow_setCell_below HOR.out (by show w.heap.size + 1 < _; omega) _) (by show w.heap.size + 1 + 1 < _; omega) _
    obtain ⟨W3, hW3⟩ : ∃ W3, (W.setCell ⟨w.heap.size + 1, 0, none⟩ (.slice Ar R.length cr)).setCell ⟨w.heap.size + 1 + 1, 0, none⟩ (.int .i64 0) = W3 := ⟨_, rfl⟩
    rw [hW3] at c6 c7 cD hbL hoL
    rw [hW3]
    clear hW3 k6 k7 f6 f7
    refine ⟨by simp, .inl ⟨_, _, rfl, run_takeDeferred cD, ?_⟩⟩
    have e6 := (cell_putObj (o' := .deferred none) cD rfl rfl ⟨w.heap.size + 1, 0, none⟩).1.trans c6
    have e7 := (cell_putObj (o' := .deferred none) cD rfl rfl ⟨w.heap.size + 1 + 1, 0, none⟩).1.trans c7
    refine ⟨.tuple #[(.slice Ar R.length cr), .int .i64 0], by simp [results, Tryz.results114, go_sem, e6, e7], ⟨Ar, cr, by rw [HMF.out], by rw [HMF.out]; exact own_base (own_putObj hoL cD rfl) (by omega)⟩, below_putObj hbL (by omega) _⟩
  ·rintro D pre W hD ⟨hmany, hc6, hc7, hlowW⟩ hK
   have HMF : Hid (joinF h a b = ([], 4)) := hide (HJF.out.trans (if_pos hmany))
   have HK := hide hK
   have hD2 : D < W.heap.size := (Array.getElem?_eq_some_iff.1 hK).1
   clear hit hI0 hK
   simp only [Exit.inBlock, Exit.then]
   refine ⟨by simp, .inl ⟨_, _, rfl, run_takeDeferred HK.out, ?_⟩⟩
   have e6 := (cell_putObj (o' := .deferred none) HK.out rfl rfl ⟨w.heap.size + 1, 0, none⟩).1.trans hc6
   have e7 := (cell_putObj (o' := .deferred none) HK.out rfl rfl ⟨w.heap.size + 1 + 1, 0, none⟩).1.trans hc7
   refine ⟨.tuple #[.slice none 0 0, .int .i64 4], by simp [results, Tryz.results114, go_sem, e6, e7], ⟨none, 0, by rw [HMF.out]; rfl, by rw [HMF.out]; exact World.ownsRow_nil _ _ _ _⟩, below_putObj hlowW (by omega) _⟩
 ·have HF : Hid (joinF h a b = ([], bothF a b)) := hide (if_neg hb0)
  generalize bothF a b = ck at *
  have hne : (ck != 0) = true := by simpa using hb0
  clear hb0
  refine (callsIn_wide (n := 0)).1 ?_
  refine callsIn_of_wp_marks Tryz.func114 rfl trivial ?_
  simp only [Tryz.ntmps114, List.size_toArray, List.length_cons, List.length_nil, Nat.reduceAdd, Nat.reduceSub, Array.replicate_succ, Array.replicate_zero, List.push_toArray, List.append_toArray, List.nil_append, List.cons_append]
  refine wpIn_wide.2 ?_
  go_wp2_with (fail)
  refine (HBO.out _ K3.out).mono ?_
  rintro e w1 ⟨rfl, hb1⟩
  have hs1 := hb1.size
  simp at hs1
  have k6 : w1.cell? ⟨w.heap.size + 1, 0, none⟩ = some (.slice none 0 0) := (hb1.cell (p := ⟨w.heap.size + 1, 0, none⟩) (by simp)).trans (by simp [go_sem])
  have k7 : w1.cell? ⟨w.heap.size + 1 + 1, 0, none⟩ = some (.int .i64 0) := (hb1.cell (p := ⟨w.heap.size + 1 + 1, 0, none⟩) (by simp)).trans (by simp [go_sem])
  have f6 : w1.frozen? ⟨w.heap.size + 1, 0, none⟩ = false := (hb1.frozen (p := ⟨w.heap.size + 1, 0, none⟩) (by simp)).trans (by simp [go_sem])
  have f7 : w1.frozen? ⟨w.heap.size + 1 + 1, 0, none⟩ = false := (hb1.frozen (p := ⟨w.heap.size + 1 + 1, 0, none⟩) (by simp)).trans (by simp [go_sem])
  have KB := hide (K3.out.trans (hb1.mono (by simp; omega)))
  clear hb1
  go_wp2_with (fail)
  refine ⟨.tuple #[.slice none 0 0, .int .i64 ck], by simp [results, Tryz.results114, go_sem, k6, k7], ⟨none, 0, by rw [HF.out]; rfl, by rw [HF.out]; exact World.ownsRow_nil _ _ _ _⟩, ?_⟩
  exact (KB.out.setCell (p := ⟨w.heap.size + 1, 0, none⟩) (Nat.le_succ _) _).setCell (p := ⟨w.heap.size + 1 + 1, 0, none⟩) (by show w.heap.size ≤ w.heap.size + 1 + 1; omega) _
end Go.Proofs.YtikojiciilambaaGreat

/- region.Union, Meet and Minus. -/
namespace Go.Proofs.YtikojiciilambaaGreat
open Go.RowKit
set_option linter.unusedVariables false
set_option linter.unusedSimpArgs false
theorem joinF_len (h : Bool → Bool → Bool) (a b : List R4) : (joinF h a b).1.length ≤ 400 := by
 unfold joinF
 split
 ·split
  ·simp
  ·simp only; omega
 ·simp
set_option maxHeartbeats 1000000 in
theorem minus_any {a b : List R4} {va vb : Value} {w : World} (ra : RdK encR 4 w w.heap.size va a) (rb : RdK encR 4 w w.heap.size vb b) (na : a.length ≤ 100000000) (nb : b.length ≤ 100000000) :
  Calls Tryz.prog 70 #[va, vb] w fun e w' => RegRet w.heap.size (joinF hSub a b) e w' ∧ Below w.heap.size w w' := by
 have hc := joined_any (h := hSub) rfl spSub_any enter_spSub ra rb na nb
 obtain ⟨A1, c1, hva, _⟩ := ra
 obtain ⟨A2, c2, hvb, _⟩ := rb
 subst hva; subst hvb
 have HC := hide hc
 clear hc
 generalize joinF hSub a b = R at *
 obtain ⟨R1, R2⟩ := R
 go_enter Tryz.func70, Tryz.ntmps70
 go_wp2_with (fail)
 refine HC.out.mono ?_
 rintro e w1 ⟨⟨A3, c3, rfl, ho⟩, hb⟩
 have HO := hide ho
 clear ho
 go_wp2_with (fail)
 go_ret2
 exact ⟨⟨A3, c3, rfl, HO.out⟩, hb⟩
end Go.Proofs.YtikojiciilambaaGreat

/- A map from indexes to rectangles: its words, and the laws at its operations; a component that grows. -/
namespace Go.Proofs.YtikojiciilambaaGreat
open Go.RowKit Go.Maps
set_option linter.unusedVariables false
set_option linter.unusedSimpArgs false
theorem lawI : Keyed Tryz.prog 3 := int_keyed Tryz.underlying3
def rectD (r : R4) : DataW Unit := .agg [.lit (.int .i64 r.x0), .lit (.int .i64 r.y0), .lit (.int .i64 r.x1), .lit (.int .i64 r.y1)]
def rectE (v : Value) : Option (DataW Unit × List MemPlace) :=
 match v with
 | .agg xs => match xs.toList with
  | [.int .i64 a, .int .i64 b, .int .i64 c, .int .i64 d] => some (rectD ⟨a, b, c, d⟩, [])
  | _ => none
 | _ => none
theorem rectE_mk4 (a b c d : Int) : rectE (.agg #[.int .i64 a, .int .i64 b, .int .i64 c, .int .i64 d]) = some (rectD ⟨a, b, c, d⟩, []) := rfl
theorem rectE_inv {v : Value} {y : DataW Unit × List MemPlace} (h : rectE v = some y) : ∃ r : R4, v = .agg #[.int .i64 r.x0, .int .i64 r.y0, .int .i64 r.x1, .int .i64 r.y1] ∧ y = (rectD r, []) := by
 unfold rectE at h
 split at h
 ·rename_i xs
  split at h
  ·rename_i a b c d e
   injection h with h
   refine ⟨⟨a, b, c, d⟩, ?_, h.symm⟩
   congr 1
   apply Array.toList_inj.1
   exact e
  ·cases h
 ·cases h
theorem rectD_inj {r s : R4} (h : rectD r = rectD s) : r = s := by
 unfold rectD at h
 simp only [DataW.agg.injEq, List.cons.injEq, DataW.lit.injEq, Lit.int.injEq, true_and, and_true] at h
 obtain ⟨h1, h2, h3, h4⟩ := h
 cases r; cases s
 simp_all
theorem zeroR (w : World) : (zeroValue 49).run Tryz.prog w = .ok (.agg #[.int .i64 0, .int .i64 0, .int .i64 0, .int .i64 0]) w := by kernel_rfl
abbrev ownsM (b n : Nat) (D : DataW Unit) (w : World) : Prop := w.ownsMap Tryz.prog 3 rectE b n D
def Mp (l : List R4) (S : Nat → Prop) (D : DataW Unit) : Prop :=
 (∀ kl, Maps.has D kl = true ↔ ∃ k, k < l.length ∧ S k ∧ kl = .int .i64 (k : Int)) ∧ ∀ (k : Nat) r, l[k]? = some r → S k → ∀ zd, D.atKey (.int .i64 (k : Int)) zd = rectD r
theorem key_ne {k j : Nat} (h : k ≠ j) : (Lit.int .i64 (k : Int)) ≠ .int .i64 (j : Int) := fun e => h (by injection e with _ e; omega)
theorem Mp.start (l : List R4) : Mp l (fun k => k < 0) (.map []) := by
 refine ⟨fun kl => ?_, fun k r _ h => absurd h (Nat.not_lt_zero _)⟩
 rw [has_eq]
 simp
theorem Mp.put {l : List R4} {D : DataW Unit} {m : Nat} {r : R4} (h : Mp l (fun k => k < m) D) (hD : IsMap D) (hr : l[m]? = some r) : Mp l (fun k => k < m + 1) (D.put (.int .i64 (m : Int)) (rectD r)) := by
 have hm := (List.getElem?_eq_some_iff.1 hr).1
 refine ⟨fun kl => ?_, fun k s hs hk zd => ?_⟩
 ·by_cases e : kl = .int .i64 (m : Int)
  ·subst e
   rw [has_put_same hD (show WideAt.IsKeyLit (.int .i64 (m : Int)) from trivial)]
   exact ⟨fun _ => ⟨m, hm, by omega, rfl⟩, fun _ => rfl⟩
  ·rw [has_put_other e, h.1]
   constructor
   ·rintro ⟨k, h1, h2, h3⟩
    exact ⟨k, h1, by omega, h3⟩
   ·rintro ⟨k, h1, h2, rfl⟩
    exact ⟨k, h1, by have : k ≠ m := fun e2 => e (by rw [e2]); omega, rfl⟩
 ·by_cases e : k = m
  ·subst e
   rw [hr] at hs
   injection hs with hs
   subst hs
   exact atKey_put_same hD (show WideAt.IsKeyLit (.int .i64 (k : Int)) from trivial) _ _
  ·rw [atKey_put_other (key_ne e)]
   exact h.2 k s hs (by omega) zd
theorem Mp.del {l : List R4} {S : Nat → Prop} {D : DataW Unit} {m : Nat} (h : Mp l S D) : Mp l (fun k => S k ∧ k ≠ m) (D.del (.int .i64 (m : Int))) := by
 refine ⟨fun kl => ?_, fun k s hs hk zd => ?_⟩
 ·by_cases e : kl = .int .i64 (m : Int)
  ·subst e
   rw [has_del_same]
   constructor
   ·intro h; cases h
   ·rintro ⟨k, h1, h2, h3⟩
    injection h3 with _ h3
    exact absurd (by omega) h2.2
  ·rw [has_del_other e, h.1]
   constructor
   ·rintro ⟨k, h1, h2, h3⟩
    exact ⟨k, h1, ⟨h2, fun e2 => e (by rw [h3, e2])⟩, h3⟩
   ·rintro ⟨k, h1, h2, h3⟩
    exact ⟨k, h1, h2.1, h3⟩
 ·rw [atKey_del_other (key_ne hk.2)]
  exact h.2 k s hs hk.1 zd
theorem Mp.iff {l : List R4} {S T : Nat → Prop} {D : DataW Unit} (h : Mp l S D) (e : ∀ k, k < l.length → (S k ↔ T k)) : Mp l T D := by
 refine ⟨fun kl => ?_, fun k r hr hk => h.2 k r hr ((e k (List.getElem?_eq_some_iff.1 hr).1).2 hk)⟩
 rw [h.1]
 constructor
 ·rintro ⟨k, h1, h2, h3⟩; exact ⟨k, h1, (e k h1).1 h2, h3⟩
 ·rintro ⟨k, h1, h2, h3⟩; exact ⟨k, h1, (e k h1).2 h2, h3⟩
theorem Mp.is {l : List R4} {S : Nat → Prop} {D : DataW Unit} (h : Mp l S D) {k : Nat} (hk : k < l.length) : Maps.has D (.int .i64 (k : Int)) = true ↔ S k := by
 rw [h.1]
 constructor
 ·rintro ⟨j, _, h2, h3⟩
  injection h3 with _ h3
  obtain rfl : k = j := by omega
  exact h2
 ·exact fun h => ⟨k, hk, h, rfl⟩
theorem own_map_apart {w : World} {B n bM k : Nat} {size : Nat} {e : TypeId} {v : Value} {xs : List Value} {D : DataW Unit} (h : w.ownsRow B e size v n xs) (hm : ownsM bM k D w) : v.ownBlock = none ∨ v.ownBlock ≠ some bM := by
 rcases h.2 with ⟨rfl, _⟩ | ⟨g, cap, cur, rfl, _, hg, _⟩
 ·exact .inl rfl
 ·right
  intro he
  obtain ⟨es, c, hb, _⟩ := hm
  have : g = bM := by simpa [Value.ownBlock] using he
  subst this
  rw [hg] at hb
  cases hb
section
variable {w : World} {ops : Array Oper} {rest : List Oper} {o : Oper} {a : Act} {Q : Exit → Act → World → Prop}
theorem wpList_look_rect (hg : o.guard = none) (m x : Operand) (hop : o.op = Op.lookup 92 m x true) (b n : Nat) (D : DataW Unit) (hm : a.eval m = .map (some b)) (hown : ownsM b n D w) (k : Int) (hx : a.eval x = .int .i64 k) (hk : -9223372036854775808 ≤ k ∧ k ≤ 9223372036854775807)
  (t : Bool) (ht : Maps.has D (.int .i64 k) = t) (hK : ∀ r : R4, wpList Tryz.prog ops Q rest (a.put o.dst (.tuple #[.agg #[.int .i64 r.x0, .int .i64 r.y0, .int .i64 r.x1, .int .i64 r.y1], .bool t])) w) : wpList Tryz.prog ops Q (o :: rest) a w :=
 wpList_lookup_own_ok w hg m x 92 hop 3 49 lawI Tryz.underlying92 rectE (zeroR w) (rectD ⟨0, 0, 0, 0⟩) [] rfl b n D hm hown (.int .i64 k) (.int .i64 k) hx (keyOf_int_mk Tryz.underlying3 (WalkArith.wf_i64 hk)) (fun v ps hv => by
  obtain ⟨r, rfl, _⟩ := rectE_inv hv
  rw [ht]
  exact hK r)
theorem wpList_next_rect (hg : o.guard = none) (it : Operand) (hop : o.op = Op.next it false) (b r n : Nat) (D : DataW Unit) (left : Lit → Bool) (cnt : Nat) (hit : a.eval it = .pointer (some ⟨r, 0, none⟩)) (h : w.ranges Tryz.prog 3 rectE b r n D left cnt) {l : List R4} {S : Nat → Prop} (hM : Mp l S D)
  (hDone : (∀ kl, left kl = false) → wpList Tryz.prog ops Q rest (a.put o.dst (.tuple #[.bool false])) w)
  (hMore : ∀ (k : Nat) (q0 q1 q2 q3 : Int) (w' : World) (cnt' : Nat), l[k]? = some ⟨q0, q1, q2, q3⟩ → S k → left (.int .i64 (k : Int)) = true → w'.ranges Tryz.prog 3 rectE b r n D (fun z => left z && !z.sameKey (.int .i64 (k : Int))) cnt' → cnt' < cnt →
   w.grownBy w' (some r) → w'.heap.size = w.heap.size → (Instr.entry (.pointer (some ⟨r, 0, none⟩))).run Tryz.prog w' = .ok (.tuple #[.int .i64 (k : Int), .agg #[.int .i64 q0, .int .i64 q1, .int .i64 q2, .int .i64 q3]]) w' → wpList Tryz.prog ops Q rest (a.put o.dst (.tuple #[.bool true, .int .i64 (k : Int), .agg #[.int .i64 q0, .int .i64 q1, .int .i64 q2, .int .i64 q3]])) w') :
  wpList Tryz.prog ops Q (o :: rest) a w :=
 wpList_next_ranges w hg it hop 3 lawI rectE (fun x : Int => .int .i64 x) (fun r : R4 => .agg #[.int .i64 r.x0, .int .i64 r.y0, .int .i64 r.x1, .int .i64 r.y1])
  (fun key kl hk => by obtain ⟨x, rfl, _⟩ := Maps.keyOf_int_inv Tryz.underlying3 hk; exact ⟨x, rfl⟩) (fun v y hv => by obtain ⟨r, rfl, _⟩ := rectE_inv hv; exact ⟨r, rfl⟩) b r n D left cnt hit h (fun _ hl => hDone hl)
  (fun x c kl y w' cnt' hkey hlk hv hat hrg hlt hgr hsz hen => by
   obtain ⟨x', e1, rfl, _⟩ := Maps.keyOf_int_inv Tryz.underlying3 hkey
   injection e1 with _ e1
   subst e1
   have hh := has_true_of_atKey (D := D) (k := .int .i64 x) hat
   obtain ⟨k, hk, hS, e2⟩ := (hM.1 _).1 hh
   injection e2 with _ e2
   subst e2
   obtain ⟨s, hs⟩ : ∃ s, l[k]? = some s := ⟨_, List.getElem?_eq_getElem hk⟩
   obtain ⟨r, e3, e4⟩ := rectE_inv hv
   have e5 := (hM.2 k s hs hS (rectD s)).symm.trans (hat (rectD s))
   rw [e4] at e5
   have e6 := rectD_inj e5
   subst e6
   obtain ⟨s0, s1, s2, s3⟩ := s
   obtain ⟨c0, c1, c2, c3⟩ := c
   simp only [Value.agg.injEq, Array.mk.injEq, List.cons.injEq, Value.int.injEq, true_and, and_true] at e3
   obtain ⟨rfl, rfl, rfl, rfl⟩ := e3
   exact hMore k _ _ _ _ w' cnt' hs hS hlk hrg hlt hgr hsz hen)
end
def Grow (l : List R4) (m : Nat) (P : List Nat) (kk : Nat) : Prop := (∀ p ∈ P, Conn l m p) ∧ m ∈ P ∧ ∀ i, i < kk → ∀ p, P[i]? = some p → ∀ n, adj l p n → n ∈ P
theorem Grow.start (l : List R4) (m : Nat) : Grow l m [m] 0 := ⟨fun p hp => by rw [List.mem_singleton] at hp; subst hp; exact .refl, List.mem_singleton.2 rfl, fun i h => absurd h (Nat.not_lt_zero _)⟩
theorem Grow.push {l : List R4} {m : Nat} {P : List Nat} {kk p n : Nat} (h : Grow l m P kk) (hkk : kk ≤ P.length) (hp : p ∈ P) (ha : adj l p n) : Grow l m (P ++ [n]) kk := by
 refine ⟨fun q hq => ?_, List.mem_append_left _ h.2.1, fun i hi q hq k hk => ?_⟩
 ·rcases List.mem_append.1 hq with hq | hq
  ·exact h.1 q hq
  ·rw [List.mem_singleton] at hq
   subst hq
   exact (h.1 p hp).step ha
 ·rw [List.getElem?_append_left (by omega)] at hq
  exact List.mem_append_left _ (h.2.2 i hi q hq k hk)
theorem Grow.next {l : List R4} {m : Nat} {P : List Nat} {kk p : Nat} (h : Grow l m P kk) (hp : P[kk]? = some p) (ha : ∀ n, adj l p n → n ∈ P) : Grow l m P (kk + 1) := by
 refine ⟨h.1, h.2.1, fun i hi q hq => ?_⟩
 by_cases e : i = kk
 ·subst e
  rw [hp] at hq
  injection hq with hq
  subst hq
  exact ha
 ·exact h.2.2 i (by omega) q hq
theorem Grow.all {l : List R4} {m : Nat} {P : List Nat} {kk : Nat} (h : Grow l m P kk) (hkk : P.length ≤ kk) {k : Nat} : k ∈ P ↔ Conn l m k := by
 refine ⟨h.1 k, fun c => ?_⟩
 induction c with
 | refl => exact h.2.1
 | step _ a ih =>
  obtain ⟨i, hi, e⟩ := List.getElem_of_mem ih
  exact h.2.2 i (by omega) _ (by rw [← e]; exact List.getElem?_eq_getElem hi) _ a
def left4 (l : List R4) (P : List Nat) : List R4 := P.filterMap fun k => l[k]?
theorem left4_snoc {l : List R4} {P : List Nat} {n : Nat} {r : R4} (h : l[n]? = some r) : left4 l (P ++ [n]) = left4 l P ++ [r] := by simp [left4, h]
theorem left4_at {l : List R4} {P : List Nat} (hP : ∀ p ∈ P, p < l.length) {i p : Nat} {r : R4} (hi : P[i]? = some p) (hr : l[p]? = some r) : (left4 l P)[i]? = some r := by
 unfold left4
 induction P generalizing i with
 | nil => simp at hi
 | cons q P ih =>
  have h1 := hP q (by simp)
  rw [List.filterMap_cons_some (List.getElem?_eq_getElem h1)]
  cases i with
  | zero =>
   have e : q = p := by simpa using hi
   subst e
   rw [List.getElem?_eq_getElem h1] at hr
   simpa using hr
  | succ i => exact ih (fun q hq => hP q (by simp [hq])) (by simpa using hi)
theorem left4_len {l : List R4} {P : List Nat} (hP : ∀ p ∈ P, p < l.length) : (left4 l P).length = P.length := by
 unfold left4
 induction P with
 | nil => rfl
 | cons p P ih =>
  have h1 := hP p (by simp)
  rw [List.filterMap_cons_some (List.getElem?_eq_getElem h1), List.length_cons, List.length_cons, ih (fun q hq => hP q (by simp [hq]))]
theorem grow_made {l : List R4} {m : Nat} {P : List Nat} {kk : Nat} (hc : RCan l) (hv : ∀ r ∈ l, wf4 r) (hl : l.length ≤ 400) (h : Grow l m P kk) (hkk : P.length ≤ kk) (hm : mn l m = m) : madeF (left4 l P) = (rjoin hFst (compL l m) [], 0) := by
 have hset : ∀ r, r ∈ left4 l P ↔ r ∈ compL l m := fun r => by
  rw [mem_compL]
  unfold left4
  rw [List.mem_filterMap]
  constructor
  ·rintro ⟨k, hk, hr⟩
   exact ⟨k, by rw [← mn_eq ((h.all hkk).1 hk), hm], hr⟩
  ·rintro ⟨k, hk, hr⟩
   exact ⟨k, (h.all hkk).2 (conn_of_mn (by rw [hm, hk])), hr⟩
 have hsub := compL_sub l m
 have e := rjoin_set (a := left4 l P) (b := compL l m) (fun r hr => hv r (hsub.subset ((hset r).1 hr))) (fun r hr => hv r (hsub.subset hr)) hset
 have hcnt := sub_count hc hv hsub
 have := hsub.length_le
 unfold madeF
 rw [e, if_neg (by omega)]
theorem grow_rest {l : List R4} {m : Nat} {P : List Nat} {kk : Nat} (h : Grow l m P kk) (hkk : P.length ≤ kk) (hm : mn l m = m) (k : Nat) : (m ≤ mn l k ∧ k ∉ P) ↔ m + 1 ≤ mn l k := by
 rw [h.all hkk]
 constructor
 ·rintro ⟨h1, h2⟩
  have : mn l k ≠ m := fun e => h2 (conn_of_mn (by rw [hm, e]))
  omega
 ·intro h1
  refine ⟨by omega, fun c => ?_⟩
  have := mn_eq c
  omega
theorem rest_skip {l : List R4} {m : Nat} (hm : mn l m ≠ m) (k : Nat) : m ≤ mn l k ↔ m + 1 ≤ mn l k := by
 constructor
 ·intro h
  have : mn l k ≠ m := fun e => hm (by rw [← e, mn_mn])
  omega
 ·intro h; omega
theorem below_grown {w w' : World} (h : Below w.heap.size w w') : w.grownBy w' none := ⟨h.os, h.tape, h.output, h.size, fun k hk _ => h.block k hk⟩
end Go.Proofs.YtikojiciilambaaGreat

/- region.Parts. -/
namespace Go.Proofs.YtikojiciilambaaGreat
open Go.RowKit Go.Maps
set_option linter.unusedVariables false
set_option linter.unusedSimpArgs false
theorem Regs.but {w a c : World} {vo : Value} {R : List (List R4)} {bM k : Nat} {D : DataW Unit} (h : Regs w vo R a) (hm : ownsM bM k D a) (hg : a.grownBy c (some bM)) (hb : w.heap.size ≤ bM) : Regs w vo R c := by
 obtain ⟨vs, h1, h2⟩ := h.o
 exact ⟨h.low.grown hg h.low.size (fun q hq => by cases hq; exact hb), vs, h1.kept hg (own_map_apart h1 hm), fun i r hr => by
  obtain ⟨v, h3, h4⟩ := h2 i r hr
  exact ⟨v, h3, h4.kept hg (own_map_apart h4 hm)⟩⟩
theorem own_ranges_apart {w : World} {B n bM rI k cnt : Nat} {size : Nat} {e : TypeId} {v : Value} {xs : List Value} {D : DataW Unit} {left : Lit → Bool} (h : w.ownsRow B e size v n xs) (hm : w.ranges Tryz.prog 3 rectE bM rI k D left cnt) : v.ownBlock = none ∨ v.ownBlock ≠ some rI := by
 rcases h.2 with ⟨rfl, _⟩ | ⟨g, cap, cur, rfl, _, hg, _⟩
 ·exact .inl rfl
 ·right
  intro he
  obtain ⟨es, c, s1, s2, s3, _, _, _, _, hb, _⟩ := hm
  have : g = rI := by simpa [Value.ownBlock] using he
  subst this
  rw [hg] at hb
  cases hb
theorem apart_ne {v : Value} {q : Nat} (h : v.ownBlock = none ∨ v.ownBlock ≠ some q) : some q ≠ v.ownBlock := by
 rcases h with h | h
 ·rw [h]; simp
 ·exact fun e => h e.symm
theorem box_cells {w : World} {B : Nat} (hB : w.heap.size = B) (a b c d : Value) (t : TypeId) : (w.alloc (.cells #[a, b, c, d] t)).cell? ⟨B, 0, none⟩ = some a ∧ (w.alloc (.cells #[a, b, c, d] t)).cell? ⟨B, 1, none⟩ = some b ∧ (w.alloc (.cells #[a, b, c, d] t)).cell? ⟨B, 2, none⟩ = some c ∧ (w.alloc (.cells #[a, b, c, d] t)).cell? ⟨B, 3, none⟩ = some d := by
 have h := news_new w [a, b, c, d] t B hB
 have h0 := h 0 a rfl
 have h1 := h 1 b rfl
 have h2 := h 2 c rfl
 have h3 := h 3 d rfl
 simp only [addr_add] at h0 h1 h2 h3
 exact ⟨h0, h1, h2, h3⟩
structure PS (l : List R4) (W : World) (bM m : Nat) (P : List Nat) (kk : Nat) (v : Value) (D : DataW Unit) (wi : World) : Prop where
 grow : Grow l m P kk
 mp : Mp l (fun k => m ≤ mn l k ∧ k ∉ P) D
 size : P.length + Maps.size D ≤ l.length
 row : wi.ownsRow W.heap.size 49 4 v P.length ((left4 l P).flatMap encR)
 same : W.grownBy wi (some bM)
theorem PS.lt {l : List R4} {W wi : World} {bM m kk : Nat} {P : List Nat} {v : Value} {D : DataW Unit} (h : PS l W bM m P kk v D wi) (hm : m < l.length) : ∀ p ∈ P, p < l.length := fun p hp => (h.grow.1 p hp).lt hm
def Off (l : List R4) (p : Nat) (D : DataW Unit) (left : Lit → Bool) : Prop := ∀ n, n < l.length → Maps.has D (.int .i64 (n : Int)) = true → left (.int .i64 (n : Int)) = false → ¬ adj l p n
theorem Off.start (l : List R4) (p : Nat) (D : DataW Unit) : Off l p D (Maps.has D) := fun n _ h1 h2 => by rw [h1] at h2; cases h2
theorem same_false {k n : Nat} (h : k ≠ n) : (Lit.int .i64 (n : Int)).sameKey (.int .i64 (k : Int)) = false := sameKey_ne (key_ne (Ne.symm h))
theorem Off.stay {l : List R4} {p k : Nat} {D : DataW Unit} {left : Lit → Bool} (h : Off l p D left) (hn : ¬ adj l p k) : Off l p D (fun z => left z && !z.sameKey (.int .i64 (k : Int))) := fun n hn1 h1 h2 => by
 by_cases e : k = n
 ·subst e; exact hn
 ·refine h n hn1 h1 ?_
  simpa [same_false e] using h2
theorem Off.strike {l : List R4} {p k : Nat} {D : DataW Unit} {left : Lit → Bool} (h : Off l p D left) : Off l p (D.del (.int .i64 (k : Int))) (fun z => left z && !z.sameKey (.int .i64 (k : Int))) := fun n hn1 h1 h2 => by
 by_cases e : k = n
 ·subst e; rw [has_del_same] at h1; cases h1
 ·rw [has_del_other (key_ne (Ne.symm e))] at h1
  refine h n hn1 h1 ?_
  simpa [same_false e] using h2
theorem Off.done {l : List R4} {W wi : World} {bM m kk : Nat} {P : List Nat} {v : Value} {D : DataW Unit} {p : Nat} {left : Lit → Bool} (h : PS l W bM m P kk v D wi) (hm : mn l m = m) (hp : P[kk]? = some p) (ho : Off l p D left) (hl : ∀ kl, left kl = false) : PS l W bM m P (kk + 1) v D wi := by
 refine ⟨h.grow.next hp fun n ha => ?_, h.mp, h.size, h.row, h.same⟩
 by_cases hn : n ∈ P
 ·exact hn
 ·obtain ⟨_, y, _, hy, _⟩ := id ha
  have hlt := (List.getElem?_eq_some_iff.1 hy).1
  have hc := (h.grow.1 p (List.mem_of_getElem? hp)).step ha
  have hmn := mn_eq hc
  exact absurd ha (ho n hlt ((h.mp.is hlt).2 ⟨by omega, hn⟩) (hl _))
set_option maxRecDepth 100000 in
set_option maxHeartbeats 4000000 in
theorem parts_any {w : World} {v : Value} {l : List R4} (hr : RdK encR 4 w w.heap.size v l) (hl : l.length ≤ 100000000) :
  Calls Tryz.prog 14 #[v] w fun e w' => RegsRet w.heap.size (partsE l) e w' ∧ Below w.heap.size w w' := by
 obtain ⟨i2, fi, fz0, fz1, fz2⟩ := info_parts infoRg
 obtain ⟨i3, ki, kz0, kz1, kz2⟩ := info_parts infoRc
 have hck := check_any hr hl
 have hmm := @run_makeMap Tryz.prog
 have hR := hide hr
 obtain ⟨A0, c0, hv, hc⟩ := id hr
 subst hv
 have HCK := hide hck
 have HRC := hide hc
 clear hck hr hc
 by_cases h0 : checkF l = 0
 ·obtain ⟨k1, k2, _⟩ := checkF_ok h0
  have HF : Hid (partsE l = (partsF l, 0)) := hide (if_pos h0)
  have HCAN := hide (check_rcan h0)
  have HV := hide k2
  rw [h0] at HCK
  clear k2 h0
  go_enter Tryz.func14, Tryz.ntmps14
  go_wp2_with (go_at_call 45; refine HCK.out.mono ?_; rintro e w1 ⟨rfl, hb1⟩)
  obtain ⟨bM, hbM⟩ : ∃ bM, bM = w1.heap.size := ⟨_, rfl⟩
  have hbw : w.heap.size ≤ bM := by rw [hbM]; exact hb1.size
  have hM0 : ownsM bM 0 (.map []) (w1.alloc (.map #[] 0)) := by rw [hbM]; exact World.ownsMap_made _ _ _ _
  have hB0 : Below w.heap.size w (w1.alloc (.map #[] 0)) := hb1.alloc hb1.size _
  rw [← hbM]
  have HM0 := hide hM0
  have HB0 := hide hB0
  have HP0 := hide (Mp.start l)
  clear hbM hb1 hM0 hB0 hmm
  go_loopw [27] (fun i wr => ∃ m : Nat, m ≤ l.length ∧ i = .int .i64 m ∧ ∃ D, Hid (ownsM bM m D wr) ∧ Hid (Mp l (fun k => k < m) D) ∧ Hid (Below w.heap.size w wr)) (fun i _ => l.length - (intOf i).toNat)
  case atStart => exact ⟨0, Nat.zero_le _, rfl, _, HM0, HP0, HB0⟩
  case round =>
   clear HM0 HP0 HB0
   obtain ⟨m, hm, rfl, D, HM, HP, HB⟩ := hrel
   by_cases hlt : m < l.length
   ·have mz : (m : Int) < (l.length : Int) := by omega
    obtain ⟨⟨p0, p1, p2, p3⟩, hp⟩ : ∃ p, l[m]? = some p := ⟨_, List.getElem?_eq_getElem hlt⟩
    obtain ⟨b, o, rfl, hbl, k⟩ := HRC.out (by intro e; rw [e] at hlt; simp at hlt)
    obtain ⟨d0, d1, d2, d3⟩ := rects_at k (fun q => HB.out.cell (p := ⟨b, q, none⟩) hbl) hp
    have hsz := HB.out.size
    have hbw2 : b < wr.heap.size := by omega
    have HPP := hide hp
    clear k hp
    go_wp2_with (at_mapUpdate; go_loud (refine wpList_mapUpdate_own _ rfl _ _ _ 92 rfl 3 49 lawI Tryz.underlying92 rectE bM m D rfl (World.ownsMap.alloc HM.out _) (by unfold maxLen; omega) _ _ _ rfl rfl (keyOf_int_mk Tryz.underlying3 (WalkArith.wf_i64 (by omega))) _ [] (rectE_mk4 p0 p1 p2 p3) ?_))
    intro w2 hown2 hgrow2
    have HM2 := hide hown2
    have HP2 := hide (HP.out.put HM.out.isMap HPP.out)
    have HB2 := hide ((HB.out.alloc hsz _).grown hgrow2 (by simp; omega) (fun q hq => by cases hq; exact hbw))
    clear hown2 hgrow2
    go_wp2
    go_roundw
    case rel => exact ⟨m + 1, by omega, by go_num, _, HM2, HP2, HB2⟩
    case measure => simp [intOf]; omega
   ·have mz : ¬ (m : Int) < (l.length : Int) := by omega
    obtain rfl : m = l.length := by omega
    have HP0 := hide (show Mp l (fun k => 0 ≤ mn l k) D from HP.out.iff fun k hk => ⟨fun _ => Nat.zero_le _, fun _ => hk⟩)
    have HM0 := HM
    have HB0 := HB
    clear HP HM HB mz
    go_wp2
    go_loopw [8, 38] (fun v i wr => ∃ m : Nat, m ≤ l.length ∧ i = .int .i64 m ∧ ∃ Ao no co, v = .slice Ao no co ∧ Hid (no = (partsP l m).length) ∧ Hid (Regs w (.slice Ao no co) (partsP l m) wr) ∧ ∃ D, Hid (ownsM bM l.length D wr) ∧ Hid (Mp l (fun k => m ≤ mn l k) D)) (fun _ i _ => l.length - (intOf i).toNat)
    case atStart => exact ⟨0, Nat.zero_le _, rfl, none, 0, 0, rfl, hide rfl, hide ⟨HB0.out, [], World.ownsRow_nil _ _ _ _, fun i r h => by simp [partsP] at h⟩, D, HM0, HP0⟩
    case round =>
     clear HP0 HM0 HB0
     obtain ⟨m, hm, rfl, Ao, no, co, rfl, HN, HRG, D, HM, HP⟩ := hrel
     by_cases hlt : m < l.length
     ·have mz : (m : Int) < (l.length : Int) := by omega
      obtain ⟨⟨p0, p1, p2, p3⟩, hp⟩ : ∃ p, l[m]? = some p := ⟨_, List.getElem?_eq_getElem hlt⟩
      obtain ⟨b, o, rfl, hbl, k⟩ := HRC.out (by intro e; rw [e] at hlt; simp at hlt)
      obtain ⟨d0, d1, d2, d3⟩ := rects_at k (fun q => HRG.out.low.cell (p := ⟨b, q, none⟩) hbl) hp
      have hsz := HRG.out.low.size
      have hbw2 : b < wr.heap.size := by omega
      have HPP := hide hp
      clear k hp
      by_cases hmn : mn l m = m
      ·have HAS := hide (show Maps.has D (.int .i64 (m : Int)) = true from (HP.out.is hlt).2 (by omega))
       have HMN := hide hmn
       clear hmn
       go_wp2_with (first
        | (at_lookup; go_loud (refine wpList_look_rect rfl _ _ rfl bM l.length D rfl (World.ownsMap.alloc HM.out _) (m : Int) rfl (by omega) true HAS.out ?_); intro rr; obtain ⟨rr0, rr1, rr2, rr3⟩ := rr)
        | (at_delete; go_loud (refine wpList_delete_own _ rfl _ _ 92 3 rfl 49 lawI Tryz.underlying92 rectE bM l.length D rfl (World.ownsMap.alloc (World.ownsMap.alloc HM.out _) _) _ _ rfl (keyOf_int_mk Tryz.underlying3 (WalkArith.wf_i64 (by omega))) ?_)))
       intro w4 hown4 hturn4
       have HM4 := hide hown4
       have hmlt := HM.out.lt
       obtain ⟨xb0, xb1, xb2, xb3⟩ := box_cells (w := wr) rfl (.int .i64 p0) (.int .i64 p1) (.int .i64 p2) (.int .i64 p3) 49
       have hxk : ∀ q, w4.cell? ⟨wr.heap.size, q, none⟩ = (wr.alloc (.cells #[.int .i64 p0, .int .i64 p1, .int .i64 p2, .int .i64 p3] 49)).cell? ⟨wr.heap.size, q, none⟩ := fun q =>
        (World.cell?_of_block (hturn4.grown.block wr.heap.size (by simp; omega) (by simp; omega))).trans (World.cell?_alloc_lt (wr.alloc _) _ ⟨wr.heap.size, q, none⟩ (by simp))
       have x0 := (hxk 0).trans xb0
       have x1 := (hxk 1).trans xb1
       have x2 := (hxk 2).trans xb2
       have x3 := (hxk 3).trans xb3
       have hs4 : wr.heap.size + 2 ≤ w4.heap.size := by have := hturn4.grown.size; simp at this; omega
       have HRG4 := hide (((HRG.out.below (((Below.refl _ _).alloc (Nat.le_refl _) _).alloc (by simp) _)).but (World.ownsMap.alloc (World.ownsMap.alloc HM.out _) _) hturn4.grown hbw))
       have hrow : (w4.alloc (.cells #[.int .i64 p0, .int .i64 p1, .int .i64 p2, .int .i64 p3] 49)).ownsRow w4.heap.size 49 4 (.slice (some ⟨w4.heap.size, 0, none⟩) 1 1) 1 (encR ⟨p0, p1, p2, p3⟩) :=
        ⟨rfl, .inr ⟨w4.heap.size, 1, _, rfl, Nat.le_refl _, World.alloc_heap_new _ _, Nat.le_refl _, by simp [maxLen], rfl, rfl⟩⟩
       have hl4 : left4 l [m] = [⟨p0, p1, p2, p3⟩] := by simp [left4, HPP.out]
       have HPS := hide (show PS l w4 bM m [m] 0 (.slice (some ⟨w4.heap.size, 0, none⟩) 1 1) (D.del (.int .i64 (m : Int))) (w4.alloc (.cells #[.int .i64 p0, .int .i64 p1, .int .i64 p2, .int .i64 p3] 49)) from by
        refine ⟨Grow.start l m, HP.out.del.iff (fun k _ => by simp), ?_, ?_, (World.grownBy_alloc _ _ _)⟩
        ·have h1 := size_del (k := .int .i64 (m : Int)) (HM.out.tidy lawI)
         rw [if_pos HAS.out] at h1
         have h2 := HM.out.size_le
         simp only [List.length_singleton]
         omega
        ·rw [hl4]
         simpa using hrow)
       have HM5 := hide (World.ownsMap.alloc HM4.out (.cells #[.int .i64 p0, .int .i64 p1, .int .i64 p2, .int .i64 p3] 49))
       have hbM4 : bM < w4.heap.size := HM4.out.lt
       clear hown4 hturn4 xb0 xb1 xb2 xb3 hxk hrow hl4 hmlt HM HP HAS HRG d0 d1 d2 d3
       go_wp2
       go_loopw [13, 14] (fun v q wi => ∃ (kk : Nat) (P : List Nat), kk ≤ P.length ∧ q = .int .i64 kk ∧ ∃ Ap cp, v = .slice Ap P.length cp ∧ ∃ D, Hid (ownsM bM l.length D wi) ∧ Hid (PS l w4 bM m P kk (.slice Ap P.length cp) D wi)) (fun _ q _ => l.length - (intOf q).toNat)
       case atStart => exact ⟨0, [m], by simp, rfl, _, _, rfl, _, HM5, HPS⟩
       case round =>
        clear HM5 HPS x0 x1 x2 x3
        obtain ⟨kk, P, hkP, rfl, Ap, cp, rfl, D, HM, HPS⟩ := hrel
        by_cases hkk : kk < P.length
        ·have kz : (kk : Int) < (P.length : Int) := by omega
         obtain ⟨p, hp⟩ : ∃ p, P[kk]? = some p := ⟨_, List.getElem?_eq_getElem hkk⟩
         have hpl := HPS.out.lt hlt p (List.mem_of_getElem? hp)
         have hkl : kk < l.length := by have := HPS.out.size; omega
         obtain ⟨⟨a0, a1, a2, a3⟩, ha⟩ : ∃ r, l[p]? = some r := ⟨_, List.getElem?_eq_getElem hpl⟩
         have HPK := hide hp
         have HPA := hide ha
         obtain ⟨rI, hrI⟩ : ∃ rI, rI = wr.heap.size := ⟨_, rfl⟩
         have hrI4 : w4.heap.size ≤ rI := by rw [hrI]; exact HPS.out.same.size
         clear hp ha
         go_wp2_with (at_range; go_loud (refine wpList_range_own _ rfl _ 92 rfl 3 49 lawI Tryz.underlying92 rectE bM l.length D rfl HM.out ?_); intro w0 hrg0 hg0 hs0)
         rw [← hrI] at hrg0 ⊢
         have HRR := hide hrg0
         have HPS0 := hide (show PS l w4 bM m P kk (.slice Ap P.length cp) D w0 from ⟨HPS.out.grow, HPS.out.mp, HPS.out.size, HPS.out.row.kept hg0 (Classical.em _), HPS.out.same.andThen hg0 (fun q hq => by cases hq)⟩)
         have HOF := hide (Off.start l p D)
         clear hrg0 hg0 hs0 hrI
         go_frame
         go_loopw [13] (fun v wi => ∃ P, Hid (P[kk]? = some p) ∧ kk < P.length ∧ ∃ Ap cp, v = .slice Ap P.length cp ∧ ∃ D left cnt, Hid (wi.ranges Tryz.prog 3 rectE bM rI l.length D left cnt) ∧ Hid (PS l w4 bM m P kk (.slice Ap P.length cp) D wi) ∧ Hid (Off l p D left)) (fun _ wi => wi.rangeLeft bM rI)
         case atStart => exact ⟨P, HPK, hkk, Ap, cp, rfl, D, _, _, HRR, HPS0, HOF⟩
         case round =>
          clear HRR HPS0 HOF HPS HM HPK kz
          obtain ⟨P, HPK, hkk, Ap, cp, rfl, D, left, cnt, HRR, HPS, HOF⟩ := hrel
          have kz : (kk : Int) < (P.length : Int) := by omega
          go_wp2_with (at_next; go_loud (refine wpList_next_rect rfl _ rfl bM rI l.length D left cnt rfl HRR.out HPS.out.mp ?_ ?_))
          ·intro hl0
           have HPS9 := hide (HOF.out.done HPS.out HMN.out HPK.out hl0)
           have HM9 := hide HRR.out.owns
           clear hl0
           go_wp2
           go_roundw
           case rel => exact ⟨kk + 1, P, by omega, by go_num, Ap, cp, rfl, D, HM9, HPS9⟩
           case measure => simp [intOf]; omega
          ·intro k q0 q1 q2 q3 w5 cnt5 hk hS1 hS2 hlk hrg5 hlt5 hg5 hs5 hen
           have HK := hide hk
           have HKS := hide (show m ≤ mn l k ∧ k ∉ P from ⟨hS1, hS2⟩)
           have hkl : k < l.length := (List.getElem?_eq_some_iff.1 hk).1
           have HKH := hide ((HPS.out.mp.is hkl).2 ⟨hS1, hS2⟩)
           have hap := own_ranges_apart HPS.out.row HRR.out
           have HPS5 := hide (show PS l w4 bM m P kk (.slice Ap P.length cp) D w5 from ⟨HPS.out.grow, HPS.out.mp, HPS.out.size, HPS.out.row.kept hg5 hap, HPS.out.same.andThen hg5 (fun q hq => by cases hq; exact .inl hrI4)⟩)
           have hpls := HPS5.out.lt hlt
           obtain ⟨g, cpg, hvg, hBg, hgg⟩ := HPS5.out.row.form (by omega)
           injection hvg with e1 _ e3
           subst e1; subst e3
           have hat := left4_at hpls HPK.out HPA.out
           have hgw : g < w5.heap.size := (HPS5.out.row.lt g rfl).2
           have hc5 : ∀ i u, (encR ⟨a0, a1, a2, a3⟩)[i]? = some u → w5.cell? ⟨g, kk * 4 + i, none⟩ = some u := fun i u hu => by
            have := (HPS5.out.row.cells (g := g) rfl) _ _ (flat_get (k := 4) (fun _ => rfl) _ kk _ i u hat hu)
            rwa [addr_add] at this
           have HC5 := hide hc5
           have HRG5 := hide hrg5
           have HLT5 := hide hlt5
           have HG5 := hide hg5
           have hva := HV.out _ (List.mem_of_getElem? HPA.out)
           have hvk := HV.out _ (List.mem_of_getElem? hk)
           have hbs := fun W => beside_any ⟨a0, a1, a2, a3⟩ ⟨q0, q1, q2, q3⟩ (valid_mid hva) (valid_mid hvk) W
           simp only [encR] at hbs
           have HADJ : Hid (bsd ⟨a0, a1, a2, a3⟩ ⟨q0, q1, q2, q3⟩ = true ↔ adj l p k) := hide (by
            constructor
            ·exact fun h => ⟨_, _, HPA.out, hk, h⟩
            ·rintro ⟨u, v, h1, h2, h3⟩
             rw [HPA.out] at h1; rw [hk] at h2
             injection h1 with h1; injection h2 with h2
             subst h1; subst h2
             exact h3)
           have hkz : (0 : Int) ≤ (kk : Int) := by omega
           have hk400 : k ≤ 400 := by omega
           clear hk hS1 hS2 hlk hrg5 hlt5 hg5 hs5 hap hpls hat hc5 hva hvk
           go_wp2
           refine wp_name fun w6 hw6 => ?_
           have hsz6 : w5.heap.size < w6.heap.size := by rw [hw6]; simp
           obtain ⟨b0, b1, b2, b3⟩ := box_cells (w := w5) rfl (.int .i64 q0) (.int .i64 q1) (.int .i64 q2) (.int .i64 q3) 49
           rw [← hw6] at b0 b1 b2 b3
           have c6 : ∀ i u, (encR ⟨a0, a1, a2, a3⟩)[i]? = some u → w6.cell? ⟨g, kk * 4 + i, none⟩ = some u := fun i u hu => by rw [hw6]; exact (World.cell?_alloc_lt w5 _ ⟨g, kk * 4 + i, none⟩ hgw).trans (HC5.out i u hu)
           have c0 : w6.cell? ⟨g, kk * 4, none⟩ = some (.int .i64 a0) := c6 0 _ rfl
           have c1 : w6.cell? ⟨g, kk * 4 + 1, none⟩ = some (.int .i64 a1) := c6 1 _ rfl
           have c2 : w6.cell? ⟨g, kk * 4 + 2, none⟩ = some (.int .i64 a2) := c6 2 _ rfl
           have c3 : w6.cell? ⟨g, kk * 4 + 3, none⟩ = some (.int .i64 a3) := c6 3 _ rfl
           have HRG6 := hide (show w6.ranges Tryz.prog 3 rectE bM rI l.length D (fun z => left z && !z.sameKey (.int .i64 (k : Int))) cnt5 by rw [hw6]; exact HRG5.out.alloc _)
           have HPS6 := hide (show PS l w4 bM m P kk (.slice (some ⟨g, 0, none⟩) P.length cp) D w6 by rw [hw6]; exact ⟨HPS5.out.grow, HPS5.out.mp, HPS5.out.size, World.ownsRow.alloc HPS5.out.row _, HPS5.out.same.andThen (World.grownBy_alloc _ _ none) (fun q hq => by cases hq)⟩)
           have hg6 : g < w6.heap.size := by omega
           clear hw6 c6
           cases hbd : bsd ⟨a0, a1, a2, a3⟩ ⟨q0, q1, q2, q3⟩ with
           | true =>
            rw [hbd] at hbs
            have HBS := hide hbs
            have HA := hide (HADJ.out.1 hbd)
            clear hbs hbd
            refine wp_hab fun hab => ?_
            refine wp_region_above (by kernel_rfl) (by kernel_rfl) ?_
            repeat (go_big_quiet_step ((go_at_call 54; exact above_of (HBS.out _))))
            refine wpQuiet_nil ?_
            refine above_ends fun w7 hb7 => ?_
            clear hab c0 c1 c2 c3
            have j0 := (hb7.cell (p := ⟨w5.heap.size, 0, none⟩) hsz6).trans b0
            have j1 := (hb7.cell (p := ⟨w5.heap.size, 1, none⟩) hsz6).trans b1
            have j2 := (hb7.cell (p := ⟨w5.heap.size, 2, none⟩) hsz6).trans b2
            have j3 := (hb7.cell (p := ⟨w5.heap.size, 3, none⟩) hsz6).trans b3
            have HRG7 := hide (HRG6.out.kept (below_grown hb7) (by simp) (by simp))
            have HPS7 := hide (show PS l w4 bM m P kk (.slice (some ⟨g, 0, none⟩) P.length cp) D w7 from ⟨HPS6.out.grow, HPS6.out.mp, HPS6.out.size, own_below HPS6.out.row hb7, HPS6.out.same.andThen (below_grown hb7) (fun q hq => by cases hq)⟩)
            have hs7 := hb7.size
            have hP4 : P.length ≤ 400 := by have := HPS7.out.size; omega
            have h47 := HPS7.out.same.size
            have HLL := hide (left4_snoc (P := P) HK.out)
            clear b0 b1 b2 b3 hb7
            go_wp2_with (first
             | (at_builtin; go_loud (refine wpList_append_lies _ rfl (.tmp 74) (.tmp 76) 22 rfl w4.heap.size 49 i3 (.agg #[.int .i64 0, .int .i64 0, .int .i64 0, .int .i64 0]) 4 32 Tryz.underlying22 ki kz0 kz1 kz2 rfl (by decide) _ P.length _ rfl (World.ownsRow.alloc HPS7.out.row _) ⟨w7.heap.size, 0, none⟩ 1 1 [.int .i64 q0, .int .i64 q1, .int .i64 q2, .int .i64 q3] rfl rfl (news_new w7 _ _ _ rfl) (ints_one rfl) (by omega) (by unfold maxLen; omega) (by omega) (by simp; omega) _ rfl ?_))
             | (at_delete; go_loud (refine wpList_delete_ranges _ rfl _ _ 92 3 rfl 49 lawI Tryz.underlying92 rectE bM rI l.length D _ _ rfl HRG9.out _ _ rfl (keyOf_int_mk Tryz.underlying3 (WalkArith.wf_i64 (by omega))) ?_)))
            intro g9 cap9 w9 hown9 hgrow9 _ _
            have hx9 : (left4 l P).flatMap encR ++ [.int .i64 q0, .int .i64 q1, .int .i64 q2, .int .i64 q3] = (left4 l (P ++ [k])).flatMap encR := by rw [HLL.out, List.flatMap_append]; rfl
            rw [hx9] at hown9
            have HO9 := hide hown9
            have HRG9 := hide ((HRG7.out.alloc (.cells #[.int .i64 q0, .int .i64 q1, .int .i64 q2, .int .i64 q3] 49)).kept hgrow9 (apart_ne (own_map_apart HPS7.out.row HRG7.out.owns)) (apart_ne (own_ranges_apart HPS7.out.row HRG7.out)))
            have HSM9 := hide ((HPS7.out.same.andThen (World.grownBy_alloc _ (.cells #[.int .i64 q0, .int .i64 q1, .int .i64 q2, .int .i64 q3] 49) none) (fun q hq => by cases hq)).andThen hgrow9 (fun q hq => .inl (HPS7.out.row.lt q hq).1))
            clear hown9 hgrow9 hx9 j0 j1 j2 j3
            go_wp2_with (at_delete; go_loud (refine wpList_delete_ranges _ rfl _ _ 92 3 rfl 49 lawI Tryz.underlying92 rectE bM rI l.length D _ _ rfl HRG9.out _ _ rfl (keyOf_int_mk Tryz.underlying3 (WalkArith.wf_i64 (by omega))) ?_))
            intro w10 cnt10 hrg10 hle10 hturn10
            have HRG10 := hide hrg10
            have HPS10 := hide (show PS l w4 bM m (P ++ [k]) kk (.slice (some ⟨g9, 0, none⟩) (P.length + 1) cap9) (D.del (.int .i64 (k : Int))) w10 from by
             refine ⟨HPS7.out.grow.push (Nat.le_of_lt hkk) (List.mem_of_getElem? HPK.out) HA.out, HPS7.out.mp.del.iff (fun n _ => by simp only [List.mem_append, List.mem_singleton, not_or, and_assoc]), ?_, ?_, HSM9.out.andThen hturn10.grown (fun q hq => .inr hq)⟩
             ·have h1 := size_del (k := .int .i64 (k : Int)) (HRG7.out.owns.tidy lawI)
              rw [if_pos HKH.out] at h1
              have h2 := HPS7.out.size
              simp only [List.length_append, List.length_singleton]
              omega
             ·rw [List.length_append]
              exact HO9.out.kept hturn10.grown (own_map_apart HO9.out HRG9.out.owns))
            have HOF10 := hide (HOF.out.strike (k := k))
            have HPK10 := hide (show (P ++ [k])[kk]? = some p by rw [List.getElem?_append_left hkk]; exact HPK.out)
            have hle := Nat.lt_of_le_of_lt hle10 HLT5.out
            have HLE := hide hle
            have e10 : P.length + 1 = (P ++ [k]).length := by simp
            have HE10 := hide e10
            clear hrg10 hle10 hturn10 hle e10
            go_wp2
            go_roundw
            case rel => exact ⟨P ++ [k], HPK10, by rw [← HE10.out]; omega, _, cap9, by rw [← HE10.out], _, _, cnt10, HRG10, by rw [← HE10.out]; exact HPS10, HOF10⟩
            case measure => rw [HRG10.out.left_eq, HRR.out.left_eq]; exact HLE.out
           | false =>
            rw [hbd] at hbs
            have HBS := hide hbs
            have HA := hide (fun h => Bool.false_ne_true (hbd.symm.trans (HADJ.out.2 h)))
            clear hbs hbd
            refine wp_hab fun hab => ?_
            refine wp_region_above (by kernel_rfl) (by kernel_rfl) ?_
            repeat (go_big_quiet_step ((go_at_call 54; exact above_of (HBS.out _))))
            refine wpQuiet_nil ?_
            refine above_ends fun w7 hb7 => ?_
            clear hab c0 c1 c2 c3 b0 b1 b2 b3
            have HRG7 := hide (HRG6.out.kept (below_grown hb7) (by simp) (by simp))
            have HPS7 := hide (show PS l w4 bM m P kk (.slice (some ⟨g, 0, none⟩) P.length cp) D w7 from ⟨HPS6.out.grow, HPS6.out.mp, HPS6.out.size, own_below HPS6.out.row hb7, HPS6.out.same.andThen (below_grown hb7) (fun q hq => by cases hq)⟩)
            have HOF7 := hide (HOF.out.stay HA.out)
            clear hb7
            go_wp2
            go_roundw
            case rel => exact ⟨P, HPK, hkk, _, cp, rfl, D, _, cnt5, HRG7, HPS7, HOF7⟩
            case measure => rw [HRG7.out.left_eq, HRR.out.left_eq]; exact HLT5.out
        ·have kz : ¬ (kk : Int) < (P.length : Int) := by omega
         have hpls := HPS.out.lt hlt
         have hlen := left4_len hpls
         have hP4 : P.length ≤ 400 := by have := HPS.out.size; omega
         have hvl : ∀ r ∈ left4 l P, valid4 r := fun r hr => by
          obtain ⟨i, _, hr⟩ := List.mem_filterMap.1 hr
          exact HV.out r (List.mem_of_getElem? hr)
         have hmd := made_any (w := wr) (own_rd (own_n HPS.out.row hlen.symm) (fun _ => rfl)) (by omega) hvl
         rw [grow_made HCAN.out (fun r hr => by have := HV.out r hr; exact ⟨this.1, this.2.1⟩) k1 HPS.out.grow (by omega) HMN.out] at hmd
         have HMD := hide hmd
         have HPI := hide (partsP_in HMN.out)
         have hJL := Nat.le_trans (sub_count HCAN.out (fun r hr => by have := HV.out r hr; exact ⟨this.1, this.2.1⟩) (compL_sub l m)) (compL_sub l m).length_le
         have HREST := hide (HPS.out.mp.iff fun k _ => grow_rest HPS.out.grow (by omega) HMN.out k)
         have HRGi := hide (HRG4.out.but HM4.out HPS.out.same hbw)
         generalize rjoin hFst (compL l m) [] = J at *
         clear hmd hvl hpls hlen
         obtain ⟨low, vs, g1, g2⟩ := HRGi.out
         have HLOW := hide low
         have HG1 := hide g1
         have HG2 := hide g2
         have hno : no ≤ 400 := by have := HN.out; have := partsP_len l m; omega
         have hlow := low.size
         clear low g1 g2
         go_wp2_with (first
          | (go_at_call 55; refine HMD.out.mono ?_; rintro e w5 ⟨⟨Aj, cj, rfl, ho⟩, hb5⟩; have HJ := hide (own_base ho hlow); have HB5 := hide hb5; clear ho hb5; have hs5 := HB5.out.size)
          | (at_builtin; go_loud (refine wpList_append_lies _ rfl (.tmp 85) (.tmp 87) 31 rfl w.heap.size 34 i2 (.slice none 0 0) 1 24 Tryz.underlying31 fi fz0 fz1 fz2 rfl (by decide) _ no _ rfl (World.ownsRow.alloc (own_below (own_n HG1.out HN.out.symm) HB5.out) _) ⟨w5.heap.size, 0, none⟩ 1 1 [.slice Aj J.length cj] rfl rfl (news_new w5 _ _ _ rfl) (by intro u hu; rw [List.mem_singleton] at hu; subst hu; rfl) (by omega) (by unfold maxLen; omega) (by omega) (by simp; omega) _ rfl ?_)))
         intro g9 cap9 w9 hown9 hgrow9 _ _
         have hpush := Regs.push (w := w) ((HLOW.out.trans (HB5.out.mono hlow)).alloc (Nat.le_trans hlow hs5) _) (World.ownsRow.alloc (own_below HG1.out HB5.out) _) (fun i r hi => by
          obtain ⟨v, q1, q2⟩ := HG2.out i r hi
          exact ⟨v, q1, World.ownsRow.alloc (own_below q2 HB5.out) _⟩) (World.ownsRow.alloc HJ.out _) hgrow9 (by rw [← HN.out]; exact hown9)
         rw [← HPI.out] at hpush
         have HRG9 := hide hpush
         have HN9 := hide (show no + 1 = (partsP l (m + 1)).length by rw [HPI.out, List.length_append, ← HN.out]; rfl)
         have hM5 := HM.out.kept (below_grown HB5.out) (by simp)
         have HM9 := hide ((World.ownsMap.alloc hM5 (.cells #[.slice Aj J.length cj] 34)).kept hgrow9 (apart_ne (own_map_apart (own_below HG1.out HB5.out) hM5)))
         clear hown9 hgrow9 hpush hM5
         go_wp2
         go_roundw
         case rel => exact ⟨m + 1, by omega, by go_num, _, _, cap9, rfl, HN9, HRG9, D, HM9, HREST⟩
         case measure => simp [intOf]; omega
      ·have HAS := hide (show Maps.has D (.int .i64 (m : Int)) = false from by
        rw [← Bool.not_eq_true, HP.out.is hlt]
        have := mn_le l m
        omega)
       have HPP2 := hide (partsP_out hmn)
       have HP2 := hide (HP.out.iff fun k _ => rest_skip hmn k)
       clear hmn
       rw [← HPP2.out] at HN HRG
       go_wp2_with (at_lookup; go_loud (refine wpList_look_rect rfl _ _ rfl bM l.length D rfl (World.ownsMap.alloc HM.out _) (m : Int) rfl (by omega) false HAS.out ?_); intro rr; obtain ⟨rr0, rr1, rr2, rr3⟩ := rr)
       have HRG2 := hide (HRG.out.below (((Below.refl _ _).alloc (Nat.le_refl _) (.cells #[.int .i64 p0, .int .i64 p1, .int .i64 p2, .int .i64 p3] 49)).alloc (by simp) (.cells #[.int .i64 rr0, .int .i64 rr1, .int .i64 rr2, .int .i64 rr3] 49)))
       have HM2 := hide (World.ownsMap.alloc (World.ownsMap.alloc HM.out (.cells #[.int .i64 p0, .int .i64 p1, .int .i64 p2, .int .i64 p3] 49)) (.cells #[.int .i64 rr0, .int .i64 rr1, .int .i64 rr2, .int .i64 rr3] 49))
       go_roundw
       case rel => exact ⟨m + 1, by omega, by go_num, Ao, no, co, rfl, HN, HRG2, D, HM2, HP2⟩
       case measure => simp [intOf]; omega
     ·have mz : ¬ (m : Int) < (l.length : Int) := by omega
      obtain rfl : m = l.length := by omega
      rw [partsP_all] at HN HRG
      go_wp2
      go_ret2
      obtain ⟨low, vs, h1, h2⟩ := HRG.out
      have hn := HN.out
      subst hn
      refine ⟨⟨Ao, co, vs, by rw [HF.out]; rfl, by rw [HF.out]; exact h1, ?_⟩, low⟩
      rw [HF.out]
      exact h2
 ·have HF : Hid (partsE l = ([], checkF l)) := hide (if_neg h0)
  generalize checkF l = ck at *
  have hne : (ck != 0) = true := by simpa using h0
  clear h0
  go_enter Tryz.func14, Tryz.ntmps14
  go_wp2_with (go_at_call 45; refine HCK.out.mono ?_; rintro e w1 ⟨rfl, hb1⟩)
  have HB1 := hide hb1
  clear hb1
  go_ret2
  exact ⟨⟨none, 0, [], by rw [HF.out]; rfl, by rw [HF.out]; exact World.ownsRow_nil _ _ _ _, fun i r hi => by rw [HF.out] at hi; simp at hi⟩, HB1.out⟩
end Go.Proofs.YtikojiciilambaaGreat

/- block.Blocks: the walk. -/
namespace Go.Proofs.YtikojiciilambaaGreat
open Go.RowKit Go.Maps
set_option linter.unusedVariables false
set_option linter.unusedSimpArgs false
noncomputable def blkF (N : List Pt) (E : List Ei) (d : Int) (land : List R4) : List (List R4) × Int := if (strF N E d).2 ≠ 0 then ([], (strF N E d).2) else if (joinF hSub land (strF N E d).1).2 ≠ 0 then ([], (joinF hSub land (strF N E d).1).2) else partsE (joinF hSub land (strF N E d).1).1
theorem strF_len (N : List Pt) (E : List Ei) (d : Int) : (strF N E d).1.length ≤ 400 := by
 unfold strF
 split
 ·simp
 ·split
  ·simp
  ·split
   ·simp
   ·split
    ·simp
    ·exact makeF_len _
theorem regs_nil (B : Nat) (k : Int) (w : World) : RegsRet B ([], k) (.returned (.tuple #[.slice none 0 0, .int .i64 k])) w := ⟨none, 0, [], rfl, World.ownsRow_nil _ _ _ _, fun i r h => by simp at h⟩
set_option maxRecDepth 100000 in
set_option maxHeartbeats 8000000 in
theorem blocks_any {w : World} {nv ev va : Value} {N : List Pt} {E : List Ei} {d : Int} {land : List R4} (hn : RdK encS 2 w w.heap.size nv N) (he : RdK encS 2 w w.heap.size ev E) (ha : RdK encR 4 w w.heap.size va land) (na : land.length ≤ 100000000) :
  Calls Tryz.prog 36 #[.agg #[nv, ev], .int .i64 d, va] w fun e w' => RegsRet w.heap.size (blkF N E d land) e w' ∧ Below w.heap.size w w' := by
 have HN := hide hn
 have HE := hide he
 have HA := hide ha
 have HNA := hide na
 obtain ⟨An, cn, rfl, _⟩ := hn
 obtain ⟨Ae, ce, rfl, _⟩ := he
 obtain ⟨Aa, ca, rfl, _⟩ := ha
 have hb0 : Below w.heap.size w (w.alloc (.cells #[.slice An N.length cn, .slice Ae E.length ce] 63)) := (Below.refl _ _).alloc (Nat.le_refl _) _
 have HB0 := hide hb0
 clear hb0 na
 go_enter Tryz.func36, Tryz.ntmps36
 go_wp2_with (fail)
 refine (streets_any ((HN.out.below HB0.out).mono HB0.out.size) ((HE.out.below HB0.out).mono HB0.out.size)).mono ?_
 rintro e w1 ⟨⟨A1, c1, rfl, o1⟩, hb1⟩
 have HB1 := hide (HB0.out.trans (hb1.mono HB0.out.size))
 have HR1 := hide (own_rd o1 (fun _ => rfl))
 have HS := hide (strF_len N E d)
 have HF0 : Hid (blkF N E d land = if (strF N E d).2 ≠ 0 then ([], (strF N E d).2) else if (joinF hSub land (strF N E d).1).2 ≠ 0 then ([], (joinF hSub land (strF N E d).1).2) else partsE (joinF hSub land (strF N E d).1).1) := hide rfl
 clear o1 hb1
 generalize strF N E d = F at *
 by_cases h0 : F.2 = 0
 ·have HF1 : Hid (blkF N E d land = if (joinF hSub land F.1).2 ≠ 0 then ([], (joinF hSub land F.1).2) else partsE (joinF hSub land F.1).1) := hide (by rw [HF0.out, if_neg (fun h => h h0)])
  rw [h0]
  clear HF0 h0
  go_wp2_with (fail)
  refine (minus_any ((HA.out.below HB1.out).mono HB1.out.size) HR1.out HNA.out (Nat.le_trans HS.out (by omega))).mono ?_
  rintro e w2 ⟨⟨A2, c2, rfl, o2⟩, hb2⟩
  have HB2 := hide (HB1.out.trans (hb2.mono HB1.out.size))
  have HR2 := hide (own_rd o2 (fun _ => rfl))
  have HJ := hide (joinF_len hSub land F.1)
  clear o2 hb2
  generalize joinF hSub land F.1 = J at *
  by_cases h1 : J.2 = 0
  ·have HF2 : Hid (blkF N E d land = partsE J.1) := hide (by rw [HF1.out, if_neg (fun h => h h1)])
   rw [h1]
   clear HF1 h1
   go_wp2_with (fail)
   refine (parts_any HR2.out (Nat.le_trans HJ.out (by omega))).mono ?_
   rintro e w3 ⟨⟨A3, c3, vs, rfl, o3, k3⟩, hb3⟩
   have HB3 := hide (HB2.out.trans (hb3.mono HB2.out.size))
   have HO3 : Hid (RegsRet w.heap.size (blkF N E d land) (.returned (.tuple #[.slice A3 (partsE J.1).1.length c3, .int .i64 (partsE J.1).2])) w3) := hide (by
    rw [HF2.out]
    refine ⟨A3, c3, vs, rfl, own_base o3 HB2.out.size, fun i r h => ?_⟩
    obtain ⟨v, h1, h2⟩ := k3 i r h
    exact ⟨v, h1, own_base h2 HB2.out.size⟩)
   clear o3 k3 hb3
   generalize partsE J.1 = P at *
   go_wp2
   go_ret2
   exact ⟨HO3.out, HB3.out⟩
  ·have hz : (J.2 != 0) = true := by simpa using h1
   have HF2 : Hid (blkF N E d land = ([], J.2)) := hide (by rw [HF1.out, if_pos h1])
   clear HF1 h1
   go_wp2
   go_ret2
   exact ⟨by rw [HF2.out]; exact regs_nil _ _ _, HB2.out⟩
 ·have hz : (F.2 != 0) = true := by simpa using h0
  have HF1 : Hid (blkF N E d land = ([], F.2)) := hide (by rw [HF0.out, if_pos h0])
  clear HF0 h0
  go_wp2
  go_ret2
  exact ⟨by rw [HF1.out]; exact regs_nil _ _ _, HB1.out⟩
end Go.Proofs.YtikojiciilambaaGreat

/- Plain: who points where among the nodes of a network, and the first one of each part. -/
namespace Go.Proofs.YtikojiciilambaaGreat
set_option linter.unusedVariables false
set_option linter.unusedSimpArgs false
def fset (f : Nat → Option Nat) (b a : Nat) : Nat → Option Nat := fun i => if i = b then some a else f i
structure FOK (n : Nat) (f : Nat → Option Nat) (L : List Nat) (r : Nat → Nat) : Prop where
 rk : ∀ i j, i < n → f i = some j → j < n ∧ r j < r i ∧ lb L j = lb L i
 root : ∀ i, i < n → f i = none → lb L i = i
theorem FOK.start (n : Nat) : FOK n (fun _ => none) (List.range n) (fun _ => 0) :=
 ⟨fun i j _ h => by simp at h, fun i hi _ => by
  unfold lb
  rw [List.getD_eq_getElem?_getD, List.getElem?_range hi]
  rfl⟩
theorem FOK.step {n m : Nat} {f : Nat → Option Nat} {L : List Nat} {r : Nat → Nat} (h : FOK n f L r) (hc : CompOK n L m) {a b : Nat} (ha : a < n) (hb : b < n) (hne : lb L a ≠ lb L b) :
  FOK n (fset f (lb L b) (lb L a)) (joinLb L (lb L a) (lb L b)) (fun i => if lb L i = lb L b then r i + (r (lb L a) + 1) else r i) := by
 have hj : ∀ i, i < n → lb (joinLb L (lb L a) (lb L b)) i = if lb L i = lb L b then lb L a else lb L i := fun i hi => lb_join (by rw [hc.len]; exact hi)
 have la := hc.lt _ ha
 have lbb := hc.lt _ hb
 have ia := hc.idem _ ha
 have ib := hc.idem _ hb
 refine ⟨fun i j hi hf => ?_, fun i hi hf => ?_⟩
 ·unfold fset at hf
  by_cases e : i = lb L b
  ·rw [if_pos e] at hf
   injection hf with hf
   subst hf
   subst e
   refine ⟨la, ?_, ?_⟩
   ·simp only [ia, ib, if_neg hne, if_true]
    omega
   ·rw [hj _ la, hj _ hi, ia, ib, if_neg hne, if_pos rfl]
  ·rw [if_neg e] at hf
   obtain ⟨h1, h2, h3⟩ := h.rk i j hi hf
   refine ⟨h1, ?_, ?_⟩
   ·simp only [h3]
    split <;> omega
   ·rw [hj _ h1, hj _ hi, h3]
 ·unfold fset at hf
  by_cases e : i = lb L b
  ·rw [if_pos e] at hf
   simp at hf
  ·rw [if_neg e] at hf
   have := h.root i hi hf
   rw [hj _ hi, this, if_neg e]
def compI (n : Nat) (E : List Ed) (m : Nat) : List Nat × Nat := compF n (E.take m)
theorem compI_zero (n : Nat) (E : List Ed) : compI n E 0 = (List.range n, n) := by
 unfold compI compF
 simp
theorem compI_succ {n : Nat} {E : List Ed} {m : Nat} {e : Ed} (h : E[m]? = some e) : compI n E (m + 1) = compS (compI n E m) e := by
 unfold compI compF
 rw [List.take_add_one, h]
 simp
theorem compI_all (n : Nat) (E : List Ed) : compI n E E.length = compF n E := by
 unfold compI
 rw [List.take_length]
theorem compI_ok {n : Nat} {E : List Ed} (hE : ∀ e ∈ E, e.1 < n ∧ e.2 < n) (m : Nat) : CompOK n (compI n E m).1 (compI n E m).2 := comp_ok fun e he => hE e (List.mem_of_mem_take he)
end Go.Proofs.YtikojiciilambaaGreat
