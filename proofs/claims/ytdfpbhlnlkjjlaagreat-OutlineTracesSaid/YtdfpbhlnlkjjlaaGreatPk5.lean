/- Texts laid together: MOutG, MOutH, MArea, MOutI, OutA, OutB, OutC, OutM, OutN. Lemmas for the statements of this seat; no condition. -/
import Derived.Test.YtdfpbhlnlkjjlaaGreatPk4
import Derived.Test.YtdfpbhlnlkjjlaaGreatPk1
import Derived.Test.YtdfpbhlnlkjjlaaGreatPk2
import Derived.Laws.AppendOwnNone

/- Plain: the outline of a bounded set of cells: its loops in order; there is but one such list. -/
namespace Go.Proofs.YtdfpbhlnlkjjlaaGreat
set_option linter.unusedVariables false
set_option linter.unusedSimpArgs false
section
variable {S : Cs} {u v : Un} {n : Nat}
def bdC (S : Cs) (M : Nat) : Prop := ∀ x y, S x y = true → (-(M : Int) ≤ x ∧ x < M) ∧ -(M : Int) ≤ y ∧ y < M
def allW : List Wy := [.e, .n, .w, .s]
def allU (M : Nat) : List Un := (List.range (2 * M + 1)).flatMap fun (a : Nat) => (List.range (2 * M + 1)).flatMap fun (b : Nat) => allW.map fun d => (((a : Int) - M, (b : Int) - M), d)
theorem bgn_in {M : Nat} (hM : bdC S M) {v : Un} (h : bgn S v) : (-(M : Int) ≤ v.1.1 ∧ v.1.1 ≤ M) ∧ -(M : Int) ≤ v.1.2 ∧ v.1.2 ≤ M := by
 obtain ⟨⟨x, y⟩, d⟩ := v
 have := hM _ _ h.1
 cases d <;> simp only [lc] at this <;> simp only <;> omega
theorem in_allU {M : Nat} (hM : bdC S M) {v : Un} (h : bgn S v) : v ∈ allU M := by
 have hb := bgn_in hM h
 unfold allU
 refine List.mem_flatMap.2 ⟨(v.1.1 + M).toNat, List.mem_range.2 (by omega), List.mem_flatMap.2 ⟨(v.1.2 + M).toNat, List.mem_range.2 (by omega), List.mem_map.2 ⟨v.2, by cases v.2 <;> simp [allW], ?_⟩⟩⟩
 refine un_ext ?_ ?_ rfl <;> simp only <;> omega
theorem cyc_ex {M : Nat} (hM : bdC S M) (h : bgn S v) : ∃ n, Cyc S v n := by
 have hno : ¬ ((List.range ((allU M).length + 1)).map (itU S v)).Nodup := fun hn => by
  have := nodup_len hn fun x hx => by
   obtain ⟨k, _, rfl⟩ := List.mem_map.1 hx
   exact in_allU hM (itU_bgn h k)
  simp at this
  omega
 have : ∃ i j, i < j ∧ itU S v i = itU S v j := Classical.byContradiction fun hc => hno (by
  refine List.pairwise_map.2 (List.pairwise_lt_range.imp fun {a b} hab e => hc ⟨a, b, hab, e⟩))
 obtain ⟨i, j, hij, e⟩ := this
 exact Cyc.of_back h (m := j - i) (by omega) (itU_back h (by omega) e)
theorem Cyc.len {m : Nat} (h1 : Cyc S v n) (h2 : Cyc S v m) : n = m := by
 rcases Nat.lt_trichotomy n m with h | h | h
 ·exact absurd (h1.back.symm : itU S v 0 = itU S v n) (h2.apart 0 n h1.pos h)
 ·exact h
 ·exact absurd (h2.back.symm : itU S v 0 = itU S v m) (h1.apart 0 m h2.pos h)
theorem Cyc.refl_in (h : Cyc S v n) : inCy S v n v := ⟨0, h.pos, rfl⟩
theorem Cyc.share {m : Nat} {w x : Un} (h1 : Cyc S v n) (h2 : Cyc S w m) (hx : inCy S v n x) (hy : inCy S w m x) : n = m ∧ ∀ z, inCy S v n z ↔ inCy S w m z := by
 obtain ⟨i, hi, ei⟩ := hx
 obtain ⟨j, hj, ej⟩ := hy
 have r1 := h1.rot i
 have r2 := h2.rot j
 rw [ei] at r1
 rw [ej] at r2
 obtain rfl := r1.len r2
 refine ⟨rfl, fun z => ?_⟩
 rw [← h1.in_rot (j := i) (x := z), ← h2.in_rot (j := j) (x := z), ei, ej]
theorem LpU.dir (h : LpU S u n) : u.2 = .e ∨ u.2 = .n := by
 obtain ⟨t, h1, h2, h3, h4⟩ := h.cyc.to_corner
 have key : ¬ ptLt (itU S u t).1 u.1 := fun hl => by
  rcases Nat.lt_or_ge t n with h5 | h5
  ·exact ptLt_as hl (h.low t h1 h5 h3)
  ·obtain rfl : t = n := by omega
   rw [h.cyc.back] at hl
   exact ptLt_irr _ hl
 rw [h4] at key
 cases hd : u.2
 ·exact .inl rfl
 ·exact .inr rfl
 ·rw [hd] at key
  exact absurd (by unfold ptLt addW; simp only [Wy.v]; omega) key
 ·rw [hd] at key
  exact absurd (by unfold ptLt addW; simp only [Wy.v]; omega) key
theorem LpU.from_eq {m : Nat} (h1 : LpU S u n) (h2 : LpU S v m) (e : u.1 = v.1) : u = v := by
 refine Classical.byContradiction fun hne => ?_
 have h3 := two_from h1.cyc.beg h2.cyc.beg e hne
 have h4 := h2.dir
 rw [h3] at h4
 rcases h1.dir with h5 | h5 <;> rw [h5] at h4 <;> simp [Wy.l] at h4
theorem LpU.same {m : Nat} (h1 : LpU S u n) (h2 : LpU S v m) (hi : inCy S v m u) : u = v ∧ n = m := by
 have hs := h1.cyc.share h2.cyc h1.cyc.refl_in hi
 obtain ⟨rfl, hs⟩ := hs
 refine ⟨?_, rfl⟩
 obtain ⟨k, hk, e⟩ := hi
 rcases Nat.eq_zero_or_pos k with h0 | h0
 ·subst h0; exact e.symm
 ·exfalso
  have l1 := h2.low k h0 hk (by rw [e]; exact h1.cor)
  rw [e] at l1
  obtain ⟨j, hj, e2⟩ := (hs v).2 h2.cyc.refl_in
  rcases Nat.eq_zero_or_pos j with h5 | h5
  ·subst h5
   have : u = v := e2
   rw [this] at l1
   exact ptLt_irr _ l1
  ·have l2 := h1.low j h5 hj (by rw [e2]; exact h2.cor)
   rw [e2] at l2
   exact ptLt_as l1 l2
theorem LpU.head (h : LpU S u n) : ∃ t, lpC S u n = u.1 :: t := by
 rw [lpC_eq]
 have hp := h.cyc.pos
 obtain ⟨c, rfl⟩ : ∃ c, n = 1 + c := ⟨n - 1, by omega⟩
 rw [pcL_add]
 have e : pcL S u 0 1 = [u.1] := by
  show [] ++ (if trp S (itU S u (0 + 0)) = 0 then [] else [(itU S u (0 + 0)).1]) = _
  rw [if_neg (show ¬ trp S (itU S u (0 + 0)) = 0 from h.cor)]; rfl
 rw [e]
 exact ⟨_, rfl⟩
theorem LpU.lp_inj {m : Nat} (h1 : LpU S u n) (h2 : LpU S v m) (e : lpC S u n = lpC S v m) : u = v ∧ n = m := by
 obtain ⟨s, e1⟩ := h1.head
 obtain ⟨t, e2⟩ := h2.head
 rw [e1, e2] at e
 have : u = v := h1.from_eq h2 (List.cons.inj e).1
 subst this
 exact ⟨rfl, h1.cyc.len h2.cyc⟩
structure Trips (S : Cs) (us : List (Un × Nat)) : Prop where
 lp : ∀ q ∈ us, LpU S q.1 q.2
 apart : us.Pairwise fun a b => ∀ z, ¬ (inCy S a.1 a.2 z ∧ inCy S b.1 b.2 z)
 all : ∀ z, bgn S z → ∃ q ∈ us, inCy S q.1 q.2 z
abbrev lpP (S : Cs) (q : Un × Nat) : List Pt := lpC S q.1 q.2
structure Outl (S : Cs) (L : List (List Pt)) : Prop where
 trips : ∃ us, Trips S us ∧ L.Perm (us.map (lpP S))
 srt : L.Pairwise ltL
theorem Trips.nodup {us : List (Un × Nat)} (h : Trips S us) : (us.map (lpP S)).Nodup := by
 refine List.pairwise_map.2 ?_
 have hp := h.apart
 refine List.Pairwise.imp_of_mem (fun {a b} ha hb hab e => ?_) hp
 obtain ⟨e1, e2⟩ := (h.lp a ha).lp_inj (h.lp b hb) e
 have hr := (h.lp a ha).cyc.refl_in
 exact hab a.1 ⟨hr, by rw [← e1, ← e2]; exact hr⟩
theorem Outl.of {L : List (List Pt)} {us : List (Un × Nat)} (h : Trips S us) (hp : L.Perm (us.map (lpP S))) (hs : L.Pairwise fun a b => ¬ ltL b a) : Outl S L := by
 refine ⟨⟨us, h, hp⟩, ?_⟩
 have hn : L.Nodup := hp.nodup_iff.2 h.nodup
 exact (hs.and hn).imp fun {a b} hab => (ltL_or hab.2).resolve_right hab.1
theorem Outl.mem {L : List (List Pt)} (h : Outl S L) (l : List Pt) : l ∈ L ↔ ∃ u n, LpU S u n ∧ l = lpC S u n := by
 obtain ⟨⟨us, ht, hp⟩, _⟩ := h
 rw [hp.mem_iff, List.mem_map]
 constructor
 ·rintro ⟨q, hq, rfl⟩
  exact ⟨q.1, q.2, ht.lp q hq, rfl⟩
 ·rintro ⟨u, n, hu, rfl⟩
  obtain ⟨q, hq, hi⟩ := ht.all u hu.cyc.beg
  obtain ⟨e1, e2⟩ := hu.same (ht.lp q hq) hi
  exact ⟨q, hq, by rw [e1, e2]⟩
theorem Outl.ext {L K : List (List Pt)} (h1 : Outl S L) (h2 : Outl S K) : L = K :=
 sorted_ext ltL_irr (fun _ _ _ => ltL_tr) h1.srt h2.srt fun l => (h1.mem l).trans (h2.mem l).symm
structure Follow (S : Cs) (vs : List (Un × Nat)) : Prop where
 cyc : ∀ q ∈ vs, Cyc S q.1 q.2
 apart : vs.Pairwise fun a b => ∀ z, ¬ (inCy S a.1 a.2 z ∧ inCy S b.1 b.2 z)
 all : ∀ z, bgn S z → ∃ q ∈ vs, inCy S q.1 q.2 z
def isTurned (a b : List Pt) : Prop := ∃ i, FirstMin a i ∧ b = a.drop i ++ a.take i
inductive Wrote (S : Cs) : List (Un × Nat) → List (List Pt) → Prop
 | nil : Wrote S [] []
 | cons {v : Un} {n : Nat} {l : List Pt} {vs : List (Un × Nat)} {L : List (List Pt)} : isTurned (cnr S v n) l → Wrote S vs L → Wrote S ((v, n) :: vs) (l :: L)
theorem Wrote.trips : ∀ {vs : List (Un × Nat)} {L : List (List Pt)}, Wrote S vs L → (∀ q ∈ vs, Cyc S q.1 q.2) → ∃ us : List (Un × Nat), L = us.map (lpP S) ∧ (∀ q ∈ us, LpU S q.1 q.2 ∧ ∃ r ∈ vs, ∀ z, inCy S q.1 q.2 z ↔ inCy S r.1 r.2 z) ∧ (∀ r ∈ vs, ∃ q ∈ us, ∀ z, inCy S q.1 q.2 z ↔ inCy S r.1 r.2 z) ∧
  ((vs.Pairwise fun a b => ∀ z, ¬ (inCy S a.1 a.2 z ∧ inCy S b.1 b.2 z)) → us.Pairwise fun a b => ∀ z, ¬ (inCy S a.1 a.2 z ∧ inCy S b.1 b.2 z))
 | _, _, .nil, _ => ⟨[], rfl, fun q hq => by simp at hq, fun q hq => by simp at hq, fun _ => List.Pairwise.nil⟩
 | _, _, .cons (v := v) (n := n) (l := l) (vs := vs) (L := L) ht hw, hc => by
  obtain ⟨us, h1, h2, h3, h4⟩ := Wrote.trips hw fun q hq => hc q (by simp [hq])
  have hv := hc (v, n) (by simp)
  obtain ⟨j, _, _, hl, _, hturn⟩ := turned_lp hv
  obtain ⟨i, hi, rfl⟩ := ht
  refine ⟨(itU S v j, n) :: us, ?_, fun q hq => ?_, fun r hr => ?_, fun hp => ?_⟩
  ·rw [List.map_cons, ← h1, hturn i hi]
  ·rcases List.mem_cons.1 hq with rfl | hq
   ·exact ⟨hl, (v, n), by simp, fun z => hv.in_rot⟩
   ·obtain ⟨g1, r, hr, g2⟩ := h2 q hq
    exact ⟨g1, r, by simp [hr], g2⟩
  ·rcases List.mem_cons.1 hr with rfl | hr
   ·exact ⟨(itU S v j, n), by simp, fun z => hv.in_rot⟩
   ·obtain ⟨q, hq, g⟩ := h3 r hr
    exact ⟨q, by simp [hq], g⟩
  ·obtain ⟨p1, p2⟩ := List.pairwise_cons.1 hp
   refine List.pairwise_cons.2 ⟨fun q hq z hz => ?_, h4 p2⟩
   obtain ⟨_, r, hr, g⟩ := h2 q hq
   exact p1 r hr z ⟨hv.in_rot.1 hz.1, (g z).1 hz.2⟩
theorem Follow.outl {vs : List (Un × Nat)} {L K : List (List Pt)} (h : Follow S vs) (hw : Wrote S vs L) (hp : K.Perm L) (hs : K.Pairwise fun a b => ¬ ltL b a) : Outl S K := by
 obtain ⟨us, h1, h2, h3, h4⟩ := hw.trips h.cyc
 refine Outl.of (us := us) ⟨fun q hq => (h2 q hq).1, h4 h.apart, fun z hz => ?_⟩ (by rw [← h1]; exact hp) hs
 obtain ⟨r, hr, hi⟩ := h.all z hz
 obtain ⟨q, hq, g⟩ := h3 r hr
 exact ⟨q, hq, (g z).2 hi⟩
end
end Go.Proofs.YtdfpbhlnlkjjlaaGreat

/- Plain: the corners of a loop, one by one: sides, turns, sums. -/
namespace Go.Proofs.YtdfpbhlnlkjjlaaGreat
set_option linter.unusedVariables false
set_option linter.unusedSimpArgs false
section
variable {S : Cs} {u v : Un} {n : Nat}
abbrev cU (S : Cs) (u : Un) (n i : Nat) : Un := itU S u (kC S u n i)
theorem lp_len (S : Cs) (u : Un) (n : Nat) : (lpC S u n).length = mC S u n := by unfold lpC mC; rw [List.length_map]
theorem lp_get {i : Nat} (h : i < mC S u n) : (lpC S u n)[i]? = some (cU S u n i).1 := by
 unfold lpC
 rw [List.getElem?_map, List.getElem?_eq_getElem h]
 show some _ = some _
 congr 2
 unfold kC
 rw [List.getD_eq_getElem?_getD, List.getElem?_eq_getElem h]
 rfl
theorem kC_zero (h0 : trp S u ≠ 0) (hn : 0 < n) : kC S u n 0 = 0 ∧ 0 < mC S u n := by
 have hm : (0 : Nat) ∈ idxC S u n := List.mem_filter.2 ⟨List.mem_range.2 hn, decide_eq_true (show trp S (itU S u 0) ≠ 0 from h0)⟩
 have hpos : 0 < mC S u n := List.length_pos_of_mem hm
 obtain ⟨t, ht, e⟩ := List.getElem_of_mem hm
 have hg := filter_range_gap (l := idxC S u n) rfl
 have e0 : kC S u n 0 = (idxC S u n)[0]'hpos := by unfold kC; rw [List.getD_eq_getElem?_getD, List.getElem?_eq_getElem hpos]; rfl
 refine ⟨?_, hpos⟩
 rw [e0]
 rcases Nat.eq_zero_or_pos t with h1 | h1
 ·subst h1; exact e
 ·have := List.pairwise_iff_getElem.1 hg.1 0 t hpos ht h1
  omega
theorem LpU.end_eq (h : LpU S u n) : cU S u n (mC S u n) = u := by unfold cU; rw [kC_end, h.cyc.back]
theorem LpU.zero_eq (h : LpU S u n) : cU S u n 0 = u := by unfold cU; rw [(kC_zero h.cor h.cyc.pos).1]; rfl
theorem LpU.next_get (h : LpU S u n) {i : Nat} (hi : i < mC S u n) : (lpC S u n)[(i + 1) % mC S u n]? = some (cU S u n (i + 1)).1 := by
 rcases Nat.lt_or_ge (i + 1) (mC S u n) with h1 | h1
 ·rw [Nat.mod_eq_of_lt h1, lp_get h1]
 ·have e : i + 1 = mC S u n := by omega
  rw [e, Nat.mod_self, lp_get (by omega), h.end_eq, h.zero_eq]
theorem LpU.cor_at (h : LpU S u n) {i : Nat} (hi : i ≤ mC S u n) : trp S (cU S u n i) ≠ 0 := by
 rcases Nat.lt_or_ge i (mC S u n) with h1 | h1
 ·exact (kC_lt h1).2
 ·have e : i = mC S u n := by omega
  rw [e, h.end_eq]
  exact h.cor
theorem LpU.side (h : LpU S u n) {i : Nat} (hi : i < mC S u n) : ∃ t : Nat, 0 < t ∧ kC S u n (i + 1) = kC S u n i + t ∧ (cU S u n (i + 1)).1 = addW (cU S u n i).1 t (cU S u n i).2 ∧ ∀ j, j < t → itU S u (kC S u n i + j) = (addW (cU S u n i).1 j (cU S u n i).2, (cU S u n i).2) := by
 obtain ⟨g1, g2⟩ := kC_next (S := S) (u := u) (n := n) hi
 refine ⟨kC S u n (i + 1) - kC S u n i, by omega, by omega, straight_end h.cyc.beg g1 g2, fun j hj => straight h.cyc.beg g2 j (by omega)⟩
theorem LpU.turn (h : LpU S u n) {i : Nat} (hi : i < mC S u n) : crs (cU S u n i).2.v (cU S u n (i + 1)).2.v = smN (fun k => trn S (itU S u (kC S u n i + k))) (kC S u n (i + 1) - kC S u n i) ∧ (crs (cU S u n i).2.v (cU S u n (i + 1)).2.v = 1 ∨ crs (cU S u n i).2.v (cU S u n (i + 1)).2.v = -1) := by
 obtain ⟨g1, g2⟩ := kC_next (S := S) (u := u) (n := n) hi
 obtain ⟨t, h1, h2, h3, h4⟩ := h.side hi
 obtain ⟨c, rfl⟩ : ∃ c, t = c + 1 := ⟨t - 1, by omega⟩
 have hb := itU_bgn h.cyc.beg (kC S u n i + c)
 have e : cU S u n (i + 1) = nx S (itU S u (kC S u n i + c)) := by unfold cU; rw [h2]; rfl
 have ed : (cU S u n i).2 = (itU S u (kC S u n i + c)).2 := by rw [h4 c (by omega)]
 have key : crs (cU S u n i).2.v (cU S u n (i + 1)).2.v = trn S (itU S u (kC S u n i + c)) := by rw [e, ed]; exact trn_crs hb
 have hc := h.cor_at (i := i + 1) (by omega)
 rw [e, trp_nx hb] at hc
 have hle := trn_le S (itU S u (kC S u n i + c))
 refine ⟨?_, by rw [key]; omega⟩
 rw [key, h2, show kC S u n i + (c + 1) - kC S u n i = c + 1 by omega, smN_succ, smN_none, Int.zero_add]
 intro k hk
 have := g2 (kC S u n i + k + 1) (by omega) (by omega)
 rw [show itU S u (kC S u n i + k + 1) = nx S (itU S u (kC S u n i + k)) from rfl, trp_nx (itU_bgn h.cyc.beg _)] at this
 exact this
theorem LpU.turns (h : LpU S u n) : ∀ i, i ≤ mC S u n → smN (fun i => crs (cU S u n i).2.v (cU S u n (i + 1)).2.v) i = smN (fun k => trn S (itU S u k)) (kC S u n i)
 | 0, _ => by rw [(kC_zero h.cor h.cyc.pos).1]; rfl
 | i + 1, hi => by
  obtain ⟨g1, g2⟩ := kC_next (S := S) (u := u) (n := n) (i := i) hi
  have ht := (h.turn (i := i) hi).1
  rw [smN_succ, h.turns i (by omega), ht]
  obtain ⟨c, hc⟩ : ∃ c, kC S u n (i + 1) = kC S u n i + c := ⟨kC S u n (i + 1) - kC S u n i, by omega⟩
  rw [hc, smN_split, show kC S u n i + c - kC S u n i = c by omega]
theorem LpU.rounds (h : LpU S u n) : (smN (fun i => crs (cU S u n i).2.v (cU S u n (i + 1)).2.v) (mC S u n) = 4 ∧ Wn S u n (lc u) = 1) ∨ (smN (fun i => crs (cU S u n i).2.v (cU S u n (i + 1)).2.v) (mC S u n) = -4 ∧ Wn S u n (lc u) = 0) := by
 have := h.turns (mC S u n) (Nat.le_refl _)
 rw [kC_end] at this
 rw [this]
 exact h.cyc.sides
theorem sum_pm {f : Nat → Int} : ∀ m : Nat, (∀ i, i < m → f i = 1 ∨ f i = -1) → (-(m : Int) ≤ smN f m ∧ smN f m ≤ m) ∧ ∃ k : Int, smN f m = m - 2 * k
 | 0, _ => ⟨by simp [smN], 0, by simp [smN]⟩
 | m + 1, h => by
  obtain ⟨h1, k, h2⟩ := sum_pm m fun i hi => h i (by omega)
  have h3 := h m (by omega)
  rw [smN_succ]
  rcases h3 with h3 | h3 <;> rw [h3]
  ·exact ⟨by omega, k, by omega⟩
  ·exact ⟨by omega, k + 1, by omega⟩
theorem LpU.even (h : LpU S u n) : 4 ≤ mC S u n ∧ mC S u n % 2 = 0 := by
 obtain ⟨h1, k, h2⟩ := sum_pm (f := fun i => crs (cU S u n i).2.v (cU S u n (i + 1)).2.v) (mC S u n) fun i hi => (h.turn hi).2
 rcases h.rounds with ⟨e, _⟩ | ⟨e, _⟩ <;> omega
def horW (d : Wy) : Prop := d = .e ∨ d = .w
theorem crs_hor {a b : Wy} (h : crs a.v b.v = 1 ∨ crs a.v b.v = -1) : horW a ↔ ¬ horW b := by
 unfold horW
 cases a <;> cases b <;> first | (simp; done) | (exfalso; revert h; decide)
theorem LpU.alt (h : LpU S u n) : ∀ i, i ≤ mC S u n → (horW (cU S u n i).2 ↔ (horW u.2 ↔ i % 2 = 0))
 | 0, _ => by rw [h.zero_eq]; simp
 | i + 1, hi => by
  have ih := h.alt i (by omega)
  have hc := crs_hor (h.turn (i := i) hi).2
  rw [ih] at hc
  have h2 : (i + 1) % 2 = 0 ↔ ¬ i % 2 = 0 := by omega
  rw [h2]
  by_cases a : horW u.2 <;> by_cases b : i % 2 = 0 <;> by_cases c : horW (cU S u n (i + 1)).2 <;> simp [a, b, c] at hc ⊢
theorem LpU.sum (h : LpU S u n) {f : Pt → Pt → Int} {g : Un → Int} (hf : ∀ p d (t : Nat), f p (addW p t d) = smN (fun j => g (addW p j d, d)) t) :
  smN (fun i => f (cU S u n i).1 (cU S u n (i + 1)).1) (mC S u n) = smN (fun k => g (itU S u k)) n := sides_sum h.cyc.beg h.cor h.cyc.pos hf
def crsP (p q : Pt) : Int := p.1 * q.2 - q.1 * p.2
def lenP (p q : Pt) : Int := max (p.1 - q.1) (q.1 - p.1) + max (p.2 - q.2) (q.2 - p.2)
theorem smN_const (c : Int) : ∀ n : Nat, smN (fun _ => c) n = n * c
 | 0 => by simp [smN]
 | n + 1 => by rw [smN_succ, smN_const c n, show ((n + 1 : Nat) : Int) = n + 1 by omega, Int.add_mul]; omega
theorem crs_add (p : Pt) (d : Wy) (t : Nat) : crsP p (addW p t d) = smN (fun j => crsP (addW p j d) (hdU (addW p j d, d))) t := by
 have e : ∀ j : Nat, crsP (addW p j d) (hdU (addW p j d, d)) = p.1 * d.v.2 - d.v.1 * p.2 := fun j => by
  obtain ⟨x, y⟩ := p
  cases d <;> simp only [crsP, addW, hdU, Wy.v, Int.mul_add, Int.add_mul, Int.mul_zero, Int.zero_mul, Int.mul_one, Int.one_mul, Int.add_zero] <;> omega
 rw [smN_congr fun j _ => e j, smN_const]
 obtain ⟨x, y⟩ := p
 cases d <;> simp only [crsP, addW, Wy.v, Int.mul_add, Int.add_mul, Int.mul_sub, Int.mul_zero, Int.zero_mul, Int.mul_one, Int.one_mul, Int.add_zero, Int.mul_neg, Int.neg_mul]
 ·omega
 ·rw [Int.mul_comm x (t : Int)]; omega
 ·omega
 ·rw [Int.mul_comm x (t : Int)]; omega
def wndP (c p q : Pt) : Int := if p.1 = q.1 ∧ p.1 ≤ c.1 ∧ min p.2 q.2 ≤ c.2 ∧ c.2 < max p.2 q.2 then (if q.2 < p.2 then 1 else -1) else 0
theorem smN_one {t : Nat} {c : Int} {k : Nat → Prop} [DecidablePred k] (hone : ∀ i j, k i → k j → i = j) : smN (fun j => if k j then c else 0) t = if ∃ j, j < t ∧ k j then c else 0 := by
 induction t with
 | zero => rw [if_neg (by rintro ⟨j, h, _⟩; omega)]; rfl
 | succ t ih =>
  rw [smN_succ, ih]
  by_cases h1 : k t
  ·rw [if_neg (fun ⟨j, hj, hk⟩ => by have := hone _ _ hk h1; omega), if_pos h1, if_pos ⟨t, by omega, h1⟩]
   omega
  ·rw [if_neg h1, Int.add_zero]
   by_cases h2 : ∃ j, j < t ∧ k j
   ·obtain ⟨j, hj, hk⟩ := h2
    rw [if_pos ⟨j, hj, hk⟩, if_pos ⟨j, by omega, hk⟩]
   ·rw [if_neg h2, if_neg]
    rintro ⟨j, hj, hk⟩
    rcases Nat.lt_or_ge j t with h3 | h3
    ·exact h2 ⟨j, h3, hk⟩
    ·obtain rfl : j = t := by omega
     exact h1 hk
theorem wnd_add (c p : Pt) (d : Wy) (t : Nat) : wndP c p (addW p t d) = smN (fun j => om c (addW p j d, d)) t := by
 obtain ⟨x, y⟩ := p
 obtain ⟨a, b⟩ := c
 cases d
 ·have e0 : smN (fun j : Nat => om (a, b) (addW (x, y) (j : Int) .e, .e)) t = 0 := smN_none fun j _ => rfl
  rw [e0]
  unfold wndP
  repeat' split
  all_goals rename_i h1; try simp only [addW, Wy.v] at h1
  all_goals try omega
  all_goals rename_i h2; simp only [addW, Wy.v] at h2; omega
 ·have e : ∀ j : Nat, om (a, b) (addW (x, y) j .n, .n) = if (y + j = b ∧ x ≤ a) then -1 else 0 := fun j => by unfold om; simp only [addW, Wy.v, Int.mul_zero, Int.mul_one, Int.add_zero]
  rw [smN_congr fun j _ => e j, smN_one (k := fun j => y + (j : Int) = b ∧ x ≤ a) fun i j h1 h2 => by omega]
  have hx : (∃ j, j < t ∧ y + (j : Int) = b ∧ x ≤ a) ↔ (y ≤ b ∧ b < y + t ∧ x ≤ a) := by
   constructor
   ·rintro ⟨j, h1, h2, h3⟩; omega
   ·intro h; exact ⟨(b - y).toNat, by omega, by omega, by omega⟩
  unfold wndP
  split
  ·rename_i h1
   simp only [addW, Wy.v] at h1
   rw [if_pos (hx.2 (by omega))]
   split
   ·rename_i h2
    simp only [addW, Wy.v] at h2
    omega
   ·rfl
  ·rename_i h1
   simp only [addW, Wy.v] at h1
   rw [if_neg]
   intro h
   have := hx.1 h
   omega
 ·have e0 : smN (fun j : Nat => om (a, b) (addW (x, y) (j : Int) .w, .w)) t = 0 := smN_none fun j _ => rfl
  rw [e0]
  unfold wndP
  repeat' split
  all_goals rename_i h1; try simp only [addW, Wy.v] at h1
  all_goals try omega
  all_goals rename_i h2; simp only [addW, Wy.v] at h2; omega
 ·have e : ∀ j : Nat, om (a, b) (addW (x, y) j .s, .s) = if (y - j - 1 = b ∧ x ≤ a) then 1 else 0 := fun j => by
   unfold om
   simp only [addW, Wy.v, Int.mul_zero, Int.mul_one, Int.add_zero, Int.mul_neg]
   rfl
  rw [smN_congr fun j _ => e j, smN_one (k := fun j => y - (j : Int) - 1 = b ∧ x ≤ a) fun i j h1 h2 => by omega]
  have hx : (∃ j, j < t ∧ y - (j : Int) - 1 = b ∧ x ≤ a) ↔ (y - t ≤ b ∧ b < y ∧ x ≤ a) := by
   constructor
   ·rintro ⟨j, h1, h2, h3⟩; omega
   ·intro h; exact ⟨(y - 1 - b).toNat, by omega, by omega, by omega⟩
  unfold wndP
  split
  ·rename_i h1
   simp only [addW, Wy.v] at h1
   rw [if_pos (hx.2 (by omega))]
   split
   ·rfl
   ·rename_i h2
    simp only [addW, Wy.v] at h2
    omega
  ·rename_i h1
   simp only [addW, Wy.v] at h1
   rw [if_neg]
   intro h
   have := hx.1 h
   omega
def covQ (low : Bool) (x y : Int) (p q : Pt) : Prop := (low = true ∧ p.2 = q.2 ∧ p.2 = y ∧ min p.1 q.1 ≤ x ∧ x < max p.1 q.1) ∨ (low = false ∧ p.1 = q.1 ∧ p.1 = x ∧ min p.2 q.2 ≤ y ∧ y < max p.2 q.2)
instance (low : Bool) (x y : Int) (p q : Pt) : Decidable (covQ low x y p q) := by unfold covQ; infer_instance
end
end Go.Proofs.YtdfpbhlnlkjjlaaGreat

/- Plain law: sums over the lattice; how many points of it a list of rectangles has. -/
namespace Go.Proofs.YtdfpbhlnlkjjlaaGreat
set_option linter.unusedVariables false
set_option linter.unusedSimpArgs false
def sumZ (f : Int → Int) (lo : Int) : Nat → Int
 | 0 => 0
 | n + 1 => sumZ f lo n + f (lo + n)
theorem sumZ_congr {f g : Int → Int} {lo : Int} : ∀ {n : Nat}, (∀ i, lo ≤ i → i < lo + n → f i = g i) → sumZ f lo n = sumZ g lo n
 | 0, _ => rfl
 | n + 1, h => by
  have h1 := sumZ_congr (f := f) (g := g) (lo := lo) (n := n) (fun i a b => h i a (by omega))
  have h2 := h (lo + n) (by omega) (by omega)
  simp only [sumZ, h1, h2]
theorem sumZ_add (f g : Int → Int) (lo : Int) : ∀ n : Nat, sumZ (fun i => f i + g i) lo n = sumZ f lo n + sumZ g lo n
 | 0 => rfl
 | n + 1 => by simp only [sumZ, sumZ_add f g lo n]; omega
theorem sumZ_sub (f g : Int → Int) (lo : Int) : ∀ n : Nat, sumZ (fun i => f i - g i) lo n = sumZ f lo n - sumZ g lo n
 | 0 => rfl
 | n + 1 => by simp only [sumZ, sumZ_sub f g lo n]; omega
theorem sumZ_zero (lo : Int) : ∀ n : Nat, sumZ (fun _ => 0) lo n = 0
 | 0 => rfl
 | n + 1 => by simp only [sumZ, sumZ_zero lo n]; omega
theorem sumZ_mul (c : Int) (f : Int → Int) (lo : Int) : ∀ n : Nat, sumZ (fun i => c * f i) lo n = c * sumZ f lo n
 | 0 => by simp [sumZ]
 | n + 1 => by simp only [sumZ, sumZ_mul c f lo n, Int.mul_add]
theorem sumZ_const (c : Int) (lo : Int) : ∀ n : Nat, sumZ (fun _ => c) lo n = n * c
 | 0 => by simp [sumZ]
 | n + 1 => by simp only [sumZ, sumZ_const c lo n]; rw [Int.natCast_succ, Int.add_mul]; omega
theorem sumZ_split (f : Int → Int) (lo : Int) (n : Nat) : ∀ m : Nat, sumZ f lo (n + m) = sumZ f lo n + sumZ f (lo + n) m
 | 0 => by simp [sumZ]
 | m + 1 => by
  have h := sumZ_split f lo n m
  have e : lo + ((n + m : Nat) : Int) = lo + n + m := by omega
  rw [← Nat.add_assoc]
  simp only [sumZ, h, e]
  omega
theorem sumZ_le {f g : Int → Int} {lo : Int} : ∀ {n : Nat}, (∀ i, lo ≤ i → i < lo + n → f i ≤ g i) → sumZ f lo n ≤ sumZ g lo n
 | 0, _ => Int.le_refl _
 | n + 1, h => by
  have h1 := sumZ_le (f := f) (g := g) (lo := lo) (n := n) (fun i a b => h i a (by omega))
  have h2 := h (lo + n) (by omega) (by omega)
  simp only [sumZ]; omega
theorem sumZ_in (f : Int → Int) {lo a b : Int} {n : Nat} (h1 : lo ≤ a) (h2 : a ≤ b) (h3 : b ≤ lo + n) (h : ∀ i, lo ≤ i → i < lo + n → ¬ (a ≤ i ∧ i < b) → f i = 0) : sumZ f lo n = sumZ f a (b - a).toNat := by
 have e : n = (a - lo).toNat + ((b - a).toNat + (lo + n - b).toNat) := by omega
 rw [e, sumZ_split, sumZ_split]
 have e1 : lo + ((a - lo).toNat : Int) = a := by omega
 have e2 : a + ((b - a).toNat : Int) = b := by omega
 rw [e1, e2]
 have z1 : sumZ f lo (a - lo).toNat = 0 := by
  rw [← sumZ_zero lo (a - lo).toNat]
  exact sumZ_congr fun i q1 q2 => h i q1 (by omega) (by omega)
 have z2 : sumZ f b (lo + n - b).toNat = 0 := by
  rw [← sumZ_zero b (lo + n - b).toNat]
  exact sumZ_congr fun i q1 q2 => h i (by omega) (by omega) (by omega)
 omega
def ind (p : Prop) [Decidable p] : Int := if p then 1 else 0
theorem ind_t {p : Prop} [Decidable p] (h : p) : ind p = 1 := if_pos h
theorem ind_f {p : Prop} [Decidable p] (h : ¬ p) : ind p = 0 := if_neg h
theorem ind_and (p q : Prop) [Decidable p] [Decidable q] : ind (p ∧ q) = ind p * ind q := by
 unfold ind
 by_cases hp : p <;> by_cases hq : q <;> simp [hp, hq]
theorem ind_iff {p q : Prop} [Decidable p] [Decidable q] (h : p ↔ q) : ind p = ind q := by
 unfold ind
 by_cases hp : p
 ·rw [if_pos hp, if_pos (h.1 hp)]
 ·rw [if_neg hp, if_neg (fun x => hp (h.2 x))]
theorem sumZ_ival {lo a b : Int} {n : Nat} (h1 : lo ≤ a) (h3 : b ≤ lo + n) : sumZ (fun i => ind (a ≤ i ∧ i < b)) lo n = max 0 (b - a) := by
 by_cases hab : a ≤ b
 ·rw [sumZ_in _ h1 hab h3 (fun i _ _ h => ind_f h)]
  rw [sumZ_congr (g := fun _ => 1) (fun i q1 q2 => ind_t ⟨q1, by omega⟩), sumZ_const]
  omega
 ·rw [sumZ_congr (g := fun _ => 0) (fun i q1 q2 => ind_f (by omega)), sumZ_zero]
  omega
def vol (m : Nat) (f : Int → Int → Int) : Int := sumZ (fun x => sumZ (fun y => f x y) (-m) (2 * m)) (-m) (2 * m)
theorem vol_congr {m : Nat} {f g : Int → Int → Int} (h : ∀ x y, -(m : Int) ≤ x → x < m → -(m : Int) ≤ y → y < m → f x y = g x y) : vol m f = vol m g :=
 sumZ_congr fun x a b => sumZ_congr fun y c d => h x y a (by omega) c (by omega)
theorem vol_add (m : Nat) (f g : Int → Int → Int) : vol m (fun x y => f x y + g x y) = vol m f + vol m g := by
 unfold vol
 rw [← sumZ_add]
 exact sumZ_congr fun x _ _ => sumZ_add _ _ _ _
theorem vol_sub (m : Nat) (f g : Int → Int → Int) : vol m (fun x y => f x y - g x y) = vol m f - vol m g := by
 unfold vol
 rw [← sumZ_sub]
 exact sumZ_congr fun x _ _ => sumZ_sub _ _ _ _
theorem vol_zero (m : Nat) : vol m (fun _ _ => 0) = 0 := by
 unfold vol
 rw [sumZ_congr (g := fun _ => 0) (fun x _ _ => sumZ_zero _ _), sumZ_zero]
theorem vol_le {m : Nat} {f g : Int → Int → Int} (h : ∀ x y, f x y ≤ g x y) : vol m f ≤ vol m g := sumZ_le fun x _ _ => sumZ_le fun y _ _ => h x y
def box (r : R4) : Int := max 0 (r.x1 - r.x0) * max 0 (r.y1 - r.y0)
theorem rin_ind (r : R4) (x y : Int) : ind (rin r x y) = ind (r.x0 ≤ x ∧ x < r.x1) * ind (r.y0 ≤ y ∧ y < r.y1) := by
 rw [← ind_and]
 exact ind_iff ⟨fun h => ⟨⟨h.1, h.2.1⟩, h.2.2⟩, fun h => ⟨h.1.1, h.1.2, h.2⟩⟩
theorem vol_rect {m : Nat} {r : R4} (h1 : -(m : Int) ≤ r.x0) (h2 : r.x1 ≤ m) (h3 : -(m : Int) ≤ r.y0) (h4 : r.y1 ≤ m) : vol m (fun x y => ind (rin r x y)) = box r := by
 unfold vol
 have e : ∀ x, sumZ (fun y => ind (rin r x y)) (-m) (2 * m) = max 0 (r.y1 - r.y0) * ind (r.x0 ≤ x ∧ x < r.x1) := fun x => by
  rw [sumZ_congr (g := fun y => ind (r.x0 ≤ x ∧ x < r.x1) * ind (r.y0 ≤ y ∧ y < r.y1)) (fun y _ _ => rin_ind r x y), sumZ_mul, sumZ_ival h3 (by omega), Int.mul_comm]
 rw [sumZ_congr (fun x _ _ => e x), sumZ_mul, sumZ_ival h1 (by omega)]
 unfold box
 rw [Int.mul_comm]
def cntP (l : List R4) (x y : Int) : Int := (l.map fun r => ind (rin r x y)).sum
theorem cntP_nil (x y : Int) : cntP [] x y = 0 := rfl
theorem cntP_cons (r : R4) (l : List R4) (x y : Int) : cntP (r :: l) x y = ind (rin r x y) + cntP l x y := by simp [cntP]
def apart4 (a b : R4) : Prop := ∀ x y, ¬ (rin a x y ∧ rin b x y)
theorem cntP_ind {l : List R4} (h : l.Pairwise apart4) (x y : Int) : cntP l x y = ind (pmem l x y) := by
 induction l with
 | nil => rw [cntP_nil, ind_f pmem_nil]
 | cons r l ih =>
  obtain ⟨h1, h2⟩ := List.pairwise_cons.1 h
  rw [cntP_cons, ih h2]
  by_cases hr : rin r x y
  ·have hn : ¬ pmem l x y := fun ⟨s, hs, hx⟩ => h1 s hs x y ⟨hr, hx⟩
   rw [ind_t hr, ind_f hn, ind_t (pmem_cons.2 (.inl hr))]; rfl
  ·rw [ind_f hr, Int.zero_add]
   exact ind_iff ⟨fun h => pmem_cons.2 (.inr h), fun h => (pmem_cons.1 h).resolve_left hr⟩
def one (a : List R4) (x y : Int) : Int := ind (pmem a x y)
def inFr (m : Nat) (r : R4) : Prop := -(m : Int) ≤ r.x0 ∧ r.x1 ≤ m ∧ -(m : Int) ≤ r.y0 ∧ r.y1 ≤ m
theorem vol_cntP {m : Nat} {l : List R4} (h : ∀ r ∈ l, inFr m r) : vol m (cntP l) = (l.map box).sum := by
 induction l with
 | nil => exact vol_zero m
 | cons r l ih =>
  have e : cntP (r :: l) = fun x y => ind (rin r x y) + cntP l x y := by funext x y; exact cntP_cons r l x y
  obtain ⟨a, b, c, d⟩ := h r (by simp)
  rw [e, vol_add, ih (fun s hs => h s (by simp [hs])), vol_rect a b c d]
  simp
theorem SCan.apart {s : List Sp} (h : SCan s) : s.Pairwise fun p q => p.2 ≤ q.1 := h.2.imp fun h => by omega
theorem flat_apart : ∀ {S : List Slab}, SOK S → (flat S).Pairwise apart4
 | [], _ => List.Pairwise.nil
 | a :: S, h => by
  have ih := flat_apart h.tail
  have e : flat (a :: S) = flat1 a ++ flat S := by simp [flat]
  rw [e, List.pairwise_append]
  refine ⟨?_, ih, fun r hr s hs x y ⟨h1, h2⟩ => ?_⟩
  ·unfold flat1
   rw [List.pairwise_map]
   exact h.head.2.2.apart.imp fun {p q} hpq x y ⟨h1, h2⟩ => by
    simp only [rin] at h1 h2; omega
  ·obtain ⟨p, hp, rfl⟩ := List.mem_map.1 hr
   obtain ⟨b, hb, hs⟩ := List.mem_flatMap.1 hs
   obtain ⟨q, hq, rfl⟩ := List.mem_map.1 hs
   have := h.after b hb
   simp only [rin] at h1 h2; omega
theorem RCan.apart {l : List R4} (h : RCan l) : l.Pairwise apart4 := by
 obtain ⟨S, hS, rfl⟩ := h
 exact flat_apart hS
end Go.Proofs.YtdfpbhlnlkjjlaaGreat

/- Plain: windings of all loops together are the set; the area of a loop. -/
namespace Go.Proofs.YtdfpbhlnlkjjlaaGreat
set_option linter.unusedVariables false
set_option linter.unusedSimpArgs false
section
variable {S : Cs} {u v : Un} {n : Nat}
def sumT (f : Un × Nat → Int) (us : List (Un × Nat)) : Int := (us.map f).sum
theorem sumT_cons (f : Un × Nat → Int) (q : Un × Nat) (us : List (Un × Nat)) : sumT f (q :: us) = f q + sumT f us := by simp [sumT]
theorem sumT_sub (f g : Un × Nat → Int) : ∀ us, sumT (fun q => f q - g q) us = sumT f us - sumT g us
 | [] => rfl
 | q :: us => by rw [sumT_cons, sumT_cons, sumT_cons, sumT_sub f g us]; omega
theorem sumT_congr {f g : Un × Nat → Int} : ∀ {us : List (Un × Nat)}, (∀ q ∈ us, f q = g q) → sumT f us = sumT g us
 | [], _ => rfl
 | q :: us, h => by rw [sumT_cons, sumT_cons, h q (by simp), sumT_congr fun r hr => h r (by simp [hr])]
theorem sumT_none {f : Un × Nat → Int} {us : List (Un × Nat)} (h : ∀ q ∈ us, f q = 0) : sumT f us = 0 := by
 induction us with
 | nil => rfl
 | cons q us ih => rw [sumT_cons, h q (by simp), ih fun r hr => h r (by simp [hr])]; rfl
theorem Trips.cn_sum : ∀ {us : List (Un × Nat)} (hc : ∀ q ∈ us, Cyc S q.1 q.2) (ha : us.Pairwise fun a b => ∀ z, ¬ (inCy S a.1 a.2 z ∧ inCy S b.1 b.2 z)) {v : Un}, (∃ q ∈ us, inCy S q.1 q.2 v) → sumT (fun q => cnU S q.1 q.2 v) us = 1
 | [], _, _, _, ⟨_, h, _⟩ => by simp at h
 | q :: us, hc, ha, v, ⟨r, hr, hv⟩ => by
  obtain ⟨p1, p2⟩ := List.pairwise_cons.1 ha
  rw [sumT_cons]
  by_cases hq : inCy S q.1 q.2 v
  ·rw [(hc q (by simp)).cn_one hq, sumT_none]
   ·rfl
   ·intro r hr
    exact cn_none fun h => p1 r hr v ⟨hq, h⟩
  ·rw [cn_none hq, Int.zero_add]
   refine Trips.cn_sum (fun q hq => hc q (by simp [hq])) p2 ⟨r, ?_, hv⟩
   rcases List.mem_cons.1 hr with rfl | h
   ·exact absurd hv hq
   ·exact h
theorem Trips.wind {us : List (Un × Nat)} (h : Trips S us) {M : Nat} (hM : bdC S M) (c : Pt) : sumT (fun q => Wn S q.1 q.2 c) us = if inC S c = true then 1 else 0 := by
 have hc : ∀ q ∈ us, Cyc S q.1 q.2 := fun q hq => (h.lp q hq).cyc
 have cnt : ∀ v, sumT (fun q => cnU S q.1 q.2 v) us = if inC S (lc v) = true ∧ inC S (rc v) = false then 1 else 0 := fun v => by
  by_cases hv : bgn S v
  ·rw [Trips.cn_sum hc h.apart (h.all v hv), if_pos (show inC S (lc v) = true ∧ inC S (rc v) = false from hv)]
  ·rw [if_neg (show ¬ (inC S (lc v) = true ∧ inC S (rc v) = false) from hv), sumT_none]
   intro q hq
   exact cn_none fun hi => hv ((hc q hq).bgn_of hi)
 have step : ∀ v, sumT (fun q => Wn S q.1 q.2 (lc v)) us - sumT (fun q => Wn S q.1 q.2 (rc v)) us = (if inC S (lc v) = true then 1 else 0) - (if inC S (rc v) = true then 1 else 0) := fun v => by
  rw [← sumT_sub, sumT_congr (g := fun q => cnU S q.1 q.2 v - cnU S q.1 q.2 (opU v)) fun q hq => (hc q hq).wn_step v, sumT_sub, cnt, cnt, lc_op, rc_op]
  cases inC S (lc v) <;> cases inC S (rc v) <;> simp
 obtain ⟨x, y⟩ := c
 have far : ∀ x, x < -(M : Int) → sumT (fun q => Wn S q.1 q.2 (x, y)) us = if inC S (x, y) = true then 1 else 0 := fun x hx => by
  rw [sumT_none, if_neg]
  ·intro hS
   have := (hM _ _ hS).1
   simp only at this
   omega
  ·intro q hq
   refine wn_far fun k hk _ => ?_
   have := bgn_in hM (itU_bgn (hc q hq).beg k)
   show x < _
   omega
 have key : ∀ t : Nat, sumT (fun q => Wn S q.1 q.2 (-(M : Int) - 1 + t, y)) us = if inC S (-(M : Int) - 1 + t, y) = true then 1 else 0 := by
  intro t
  induction t with
  | zero => exact far _ (by omega)
  | succ t ih =>
   have := step ((-(M : Int) - 1 + (t + 1 : Nat), y + 1), .s)
   simp only [lc, rc, Int.add_sub_cancel] at this
   have e : -(M : Int) - 1 + ((t + 1 : Nat) : Int) - 1 = -(M : Int) - 1 + t := by omega
   rw [e, ih] at this
   omega
 rcases Int.lt_or_le x (-(M : Int)) with h1 | h1
 ·exact far x h1
 ·have := key (x + M + 1).toNat
  rwa [show -(M : Int) - 1 + ((x + M + 1).toNat : Int) = x by omega] at this
theorem vol_smN (m : Nat) (F : Nat → Int → Int → Int) : ∀ n, vol m (fun x y => smN (fun k => F k x y) n) = smN (fun k => vol m (F k)) n
 | 0 => vol_zero m
 | n + 1 => by
  rw [smN_succ, ← vol_smN m F n, ← vol_add]
  rfl
theorem vol_om {M : Nat} {v : Un} (h : (-(M : Int) ≤ v.1.1 ∧ v.1.1 ≤ M) ∧ -(M : Int) ≤ v.1.2 ∧ v.1.2 ≤ M) (hn : v.2 = .n → v.1.2 < M) (hs : v.2 = .s → -(M : Int) < v.1.2) : vol M (fun x y => om (x, y) v) = -(v.2.v.2) * (M - v.1.1) := by
 obtain ⟨⟨a, b⟩, d⟩ := v
 have row : ∀ (c b0 : Int), -(M : Int) ≤ b0 → b0 < M → vol M (fun x y => c * ind (rin ⟨a, b0, M, b0 + 1⟩ x y)) = c * (M - a) := fun c b0 h1 h2 => by
  have e := vol_rect (m := M) (r := ⟨a, b0, M, b0 + 1⟩) h.1.1 (Int.le_refl _) h1 (by show b0 + 1 ≤ M; omega)
  have e2 : vol M (fun x y => c * ind (rin ⟨a, b0, M, b0 + 1⟩ x y)) = c * vol M (fun x y => ind (rin ⟨a, b0, M, b0 + 1⟩ x y)) := by
   unfold vol
   rw [← sumZ_mul]
   exact sumZ_congr fun x _ _ => sumZ_mul _ _ _ _
  rw [e2, e]
  unfold box
  simp only
  have h3 := h.1.2
  simp only at h3
  rw [show b0 + 1 - b0 = 1 by omega, show max 0 ((M : Int) - a) = M - a by omega, show max (0 : Int) 1 = 1 by decide, Int.mul_one]
 cases d
 ·exact (vol_zero M).trans (by simp [Wy.v])
 ·have := hn rfl
  simp only at this h
  rw [vol_congr (g := fun x y => (-1) * ind (rin ⟨a, b, M, b + 1⟩ x y)), row (-1) b (by omega) (by omega)]
  ·rfl
  ·intro x y h1 h2 h3 h4
   unfold om ind rin
   simp only
   repeat' split
   all_goals omega
 ·exact (vol_zero M).trans (by simp [Wy.v])
 ·have := hs rfl
  simp only at this h
  rw [vol_congr (g := fun x y => 1 * ind (rin ⟨a, b - 1, M, b - 1 + 1⟩ x y)), row 1 (b - 1) (by omega) (by omega)]
  ·rfl
  ·intro x y h1 h2 h3 h4
   unfold om ind rin
   simp only
   repeat' split
   all_goals omega
theorem Cyc.area (h : Cyc S u n) {M : Nat} (hM : bdC S M) : smN (fun k => crsP (itU S u k).1 (hdU (itU S u k))) n = 2 * vol M (fun x y => Wn S u n (x, y)) := by
 have e1 : vol M (fun x y => Wn S u n (x, y)) = smN (fun k => -((itU S u k).2.v.2) * (M - (itU S u k).1.1)) n := by
  unfold Wn
  rw [vol_smN M (fun k x y => om (x, y) (itU S u k))]
  refine smN_congr fun k hk => ?_
  have hb := itU_bgn h.beg k
  have hi := bgn_in hM hb
  refine vol_om hi (fun e => ?_) (fun e => ?_)
  ·have := (hM _ _ hb.1).2
   simp only [lc, e] at this
   omega
  ·have := (hM _ _ hb.1).2
   simp only [lc, e] at this
   omega
 have pt : ∀ v : Un, crsP v.1 (hdU v) = 2 * (-(v.2.v.2) * (M - v.1.1)) + (2 * M * ((hdU v).2 - v.1.2) - ((hdU v).1 * (hdU v).2 - v.1.1 * v.1.2)) := fun v => by
  obtain ⟨⟨x, y⟩, d⟩ := v
  cases d <;> simp only [crsP, hdU, Wy.v, Int.mul_add, Int.add_mul, Int.mul_sub, Int.sub_mul, Int.mul_one, Int.one_mul, Int.mul_zero, Int.zero_mul, Int.add_zero, Int.neg_mul, Int.mul_neg, Int.neg_zero]
  all_goals omega
 have z1 : smN (fun k => 2 * (M : Int) * ((itU S u (k + 1)).1.2 - (itU S u k).1.2) - ((itU S u (k + 1)).1.1 * (itU S u (k + 1)).1.2 - (itU S u k).1.1 * (itU S u k).1.2)) n = 0 := by
  rw [smN_sub, smN_mul, smN_tele (fun k => (itU S u k).1.2), smN_tele (fun k => (itU S u k).1.1 * (itU S u k).1.2), h.back]
  show 2 * (M : Int) * (u.1.2 - u.1.2) - (u.1.1 * u.1.2 - u.1.1 * u.1.2) = 0
  rw [Int.sub_self, Int.sub_self, Int.mul_zero]
  rfl
 have k1 : smN (fun k => crsP (itU S u k).1 (hdU (itU S u k))) n = smN (fun k => 2 * (-((itU S u k).2.v.2) * (M - (itU S u k).1.1)) + (2 * (M : Int) * ((itU S u (k + 1)).1.2 - (itU S u k).1.2) - ((itU S u (k + 1)).1.1 * (itU S u (k + 1)).1.2 - (itU S u k).1.1 * (itU S u k).1.2))) n := smN_congr fun k _ => pt (itU S u k)
 rw [smN_add, z1, Int.add_zero, smN_mul] at k1
 rw [e1]
 exact k1
end
end Go.Proofs.YtdfpbhlnlkjjlaaGreat

/- Outlines: cmp.Compare, compare, way. -/
namespace Go.Proofs.YtdfpbhlnlkjjlaaGreat
open Go.RowKit
set_option linter.unusedVariables false
set_option linter.unusedSimpArgs false
def cmpI (a b : Int) : Int := if a < b then -1 else if b < a then 1 else 0
def cmpP (a b : Pt) : Int := if cmpI a.1 b.1 = 0 then cmpI a.2 b.2 else cmpI a.1 b.1
abbrev Eg := Pt × Pt
def wayF (e : Eg) : Pt := (cmpI e.2.1 e.1.1, cmpI e.2.2 e.1.2)
def encG (e : Eg) : List Value := [.int .i64 e.1.1, .int .i64 e.1.2, .int .i64 e.2.1, .int .i64 e.2.2]
theorem isnan_any (x : Int) (w : World) : Calls Tryz.prog 108 #[.int .i64 x] w fun e w' => e = .returned (.bool false) ∧ w' = w := by
 have h : (x != x) = false := by simp
 go_enter Tryz.func108, Tryz.ntmps108
 go_wp2
 go_ret
 exact ⟨rfl, rfl⟩
theorem cmpI_any (x y : Int) (w : World) : Calls Tryz.prog 74 #[.int .i64 x, .int .i64 y] w fun e w' => e = .returned (.int .i64 (cmpI x y)) ∧ w' = w := by
 have HN := hide (fun z => isnan_any z w)
 by_cases h1 : x < y
 ·have HC : Hid (cmpI x y = -1) := hide (by unfold cmpI; rw [if_pos h1])
  go_enter Tryz.func74, Tryz.ntmps74
  go_wp2_with (fail)
  refine (HN.out x).mono ?_
  rintro e wc ⟨rfl, rfl⟩
  go_wp2_with (fail)
  refine (HN.out y).mono ?_
  rintro e wc ⟨rfl, rfl⟩
  go_wp2
  go_ret
  exact ⟨ret_eq (by rw [HC.out]; rfl), rfl⟩
 ·by_cases h2 : y < x
  ·have HC : Hid (cmpI x y = 1) := hide (by unfold cmpI; rw [if_neg h1, if_pos h2])
   go_enter Tryz.func74, Tryz.ntmps74
   go_wp2_with (fail)
   refine (HN.out x).mono ?_
   rintro e wc ⟨rfl, rfl⟩
   go_wp2_with (fail)
   refine (HN.out y).mono ?_
   rintro e wc ⟨rfl, rfl⟩
   go_wp2
   go_ret
   exact ⟨ret_eq (by rw [HC.out]; rfl), rfl⟩
  ·have HC : Hid (cmpI x y = 0) := hide (by unfold cmpI; rw [if_neg h1, if_neg h2])
   go_enter Tryz.func74, Tryz.ntmps74
   go_wp2_with (fail)
   refine (HN.out x).mono ?_
   rintro e wc ⟨rfl, rfl⟩
   go_wp2_with (fail)
   refine (HN.out y).mono ?_
   rintro e wc ⟨rfl, rfl⟩
   go_wp2
   go_ret
   exact ⟨ret_eq (by rw [HC.out]; rfl), rfl⟩
theorem or2_any {w : World} {b : Nat} {x y : Int} (hb : b < w.heap.size) (h0 : w.cell? ⟨b, 0, none⟩ = some (.int .i64 x)) (h1 : w.cell? ⟨b, 1, none⟩ = some (.int .i64 y)) :
  Calls Tryz.prog 73 #[.slice (some ⟨b, 0, none⟩) 2 2] w fun e w' => e = .returned (.int .i64 (if x = 0 then y else x)) ∧ w' = w := by
 obtain ⟨R, hR⟩ : ∃ R, (if x = 0 then y else x) = R := ⟨_, rfl⟩
 rw [hR]
 by_cases hx : x = 0
 ·have zx : (x != 0) = false := by simp [hx]
  by_cases hy : y = 0
  ·have zy : (y != 0) = false := by simp [hy]
   have HR : Hid (R = 0) := hide (by rw [← hR, if_pos hx, hy])
   clear hx hy hR
   go_enter Tryz.func73, Tryz.ntmps73
   go_wp2
   go_loopw [8] (fun i wr => ∃ k : Nat, k ≤ 2 ∧ i = .int .i64 (k : Int) ∧ w = wr) (fun i _ => 2 - (intOf i).toNat)
   case atStart => exact ⟨0, by omega, rfl, rfl⟩
   case round =>
    obtain ⟨k, hk, rfl, rfl⟩ := hrel
    match k, hk with
    | 0, _ =>
     go_wp2
     go_roundw
     case rel => exact ⟨1, by omega, by go_num, by trivial⟩
     case measure => simp [intOf]
    | 1, _ =>
     go_wp2
     go_roundw
     case rel => exact ⟨2, by omega, by go_num, by trivial⟩
     case measure => simp [intOf]
    | 2, _ =>
     go_wp2
     go_ret
     exact ⟨ret_eq (by rw [HR.out]; rfl), rfl⟩
  ·have zy : (y != 0) = true := by simp [hy]
   have HR : Hid (R = y) := hide (by rw [← hR, if_pos hx])
   clear hx hy hR
   go_enter Tryz.func73, Tryz.ntmps73
   go_wp2
   go_loopw [8] (fun i wr => ∃ k : Nat, k ≤ 1 ∧ i = .int .i64 (k : Int) ∧ w = wr) (fun i _ => 2 - (intOf i).toNat)
   case atStart => exact ⟨0, by omega, rfl, rfl⟩
   case round =>
    obtain ⟨k, hk, rfl, rfl⟩ := hrel
    match k, hk with
    | 0, _ =>
     go_wp2
     go_roundw
     case rel => exact ⟨1, by omega, by go_num, by trivial⟩
     case measure => simp [intOf]
    | 1, _ =>
     go_wp2
     go_ret
     exact ⟨ret_eq (by rw [HR.out]; rfl), rfl⟩
 ·have zx : (x != 0) = true := by simp [hx]
  have HR : Hid (R = x) := hide (by rw [← hR, if_neg hx])
  clear hx hR
  go_enter Tryz.func73, Tryz.ntmps73
  go_wp2
  go_loopw [8] (fun i wr => i = .int .i64 0 ∧ w = wr) (fun i _ => 2 - (intOf i).toNat)
  case atStart => exact ⟨rfl, rfl⟩
  case round =>
   obtain ⟨rfl, rfl⟩ := hrel
   go_wp2
   go_ret
   exact ⟨ret_eq (by rw [HR.out]; rfl), rfl⟩
set_option maxRecDepth 100000 in
set_option maxHeartbeats 8000000 in
theorem way_any (e : Eg) (w : World) :
  Calls Tryz.prog 41 #[.agg (encG e).toArray] w fun r w' => r = .returned (.agg #[.int .i64 (wayF e).1, .int .i64 (wayF e).2]) ∧ Below w.heap.size w w' := by
 obtain ⟨⟨ax, ay⟩, bx, cy⟩ := e
 have HW : Hid (wayF ((ax, ay), (bx, cy)) = (cmpI bx ax, cmpI cy ay)) := hide rfl
 rw [HW.out]
 have HC := hide (fun (x y : Int) (W : World) => cmpI_any x y W)
 show Calls Tryz.prog 41 #[.agg #[.int .i64 ax, .int .i64 ay, .int .i64 bx, .int .i64 cy]] w fun r w' => r = .returned (.agg #[.int .i64 (cmpI bx ax), .int .i64 (cmpI cy ay)]) ∧ Below w.heap.size w w'
 go_enter Tryz.func41, Tryz.ntmps41
 go_upto_region 1 with fail
 refine wp_name fun w0 hw0 => ?_
 have HB0 : Hid (Below w.heap.size w w0) := hide (by rw [hw0]; exact ((Below.refl _ _).alloc (Nat.le_refl _) _).alloc (by simp) _)
 have d0 : w0.cell? ⟨w.heap.size, 0, none⟩ = some (.int .i64 ax) := by rw [hw0]; simp [go_sem]
 have d1 : w0.cell? ⟨w.heap.size, 1, none⟩ = some (.int .i64 ay) := by rw [hw0]; simp [go_sem]
 have d2 : w0.cell? ⟨w.heap.size, 2, none⟩ = some (.int .i64 bx) := by rw [hw0]; simp [go_sem]
 have d3 : w0.cell? ⟨w.heap.size, 3, none⟩ = some (.int .i64 cy) := by rw [hw0]; simp [go_sem]
 have r0 : ∃ u, w0.cell? ⟨w.heap.size + 1, 0, none⟩ = some u := ⟨_, by rw [hw0]; simp [go_sem]; rfl⟩
 have r1 : ∃ u, w0.cell? ⟨w.heap.size + 1, 1, none⟩ = some u := ⟨_, by rw [hw0]; simp [go_sem]; rfl⟩
 have q0 : w0.frozen? ⟨w.heap.size + 1, 0, none⟩ = false := by rw [hw0]; simp [go_sem]
 have q1 : w0.frozen? ⟨w.heap.size + 1, 1, none⟩ = false := by rw [hw0]; simp [go_sem]
 have hs0 : w.heap.size + 1 < w0.heap.size := by rw [hw0]; simp
 have hs1 : w.heap.size < w0.heap.size := by omega
 have HD := hide (And.intro (And.intro d0 (And.intro d1 (And.intro d2 d3))) hs1)
 clear hw0 d0 d1 d2 d3
 have HBK : Hid (Below w0.heap.size w0 w0.drew) := hide (Below.refl _ _).drew
 refine wp_region_mix [0, 1, 2, 3, 4, 5, 7, 8, 9, 10, 11, 12] [6, 13, 14, 15] (fun w' => Below w0.heap.size w0 w') (by kernel_rfl) (by kernel_rfl) HBK.out ?_
 simp only [List.map_cons, List.map_nil, opAt, List.getElem?_cons_succ, List.getElem?_cons_zero, Option.getD_some]
 have hk0 : w0.drew.heap.size = w0.heap.size := rfl
 iterate 12
  refine ⟨?_, Or.inl ⟨by rfl, ?_⟩, ?_⟩
  rotate_left 1
  ·intro w' hSw
   obtain ⟨⟨d0, d1, d2, d3⟩, hs1⟩ := HD.out
   replace d0 := (hSw.cell (p := ⟨w.heap.size, 0, none⟩) hs1).trans d0
   replace d1 := (hSw.cell (p := ⟨w.heap.size, 1, none⟩) hs1).trans d1
   replace d2 := (hSw.cell (p := ⟨w.heap.size, 2, none⟩) hs1).trans d2
   replace d3 := (hSw.cell (p := ⟨w.heap.size, 3, none⟩) hs1).trans d3
   clear hSw
   go_simp
   first | done | with_reducible rfl
  simp only [Act.put, List.setIfInBounds_toArray, List.set_cons_zero, List.set_cons_succ]
 simp only [wpReads]
 intro K hK
 simp only [Act.put, List.setIfInBounds_toArray, List.set_cons_zero, List.set_cons_succ] at hK ⊢
 go_simp
 refine (HC.out _ _ _).mono ?_
 rintro e wc ⟨rfl, rfl⟩
 refine hK _ _ (fun _ => HBK.out) ?_
 clear hK K
 intro K hK
 simp only [Act.put, List.setIfInBounds_toArray, List.set_cons_zero, List.set_cons_succ] at hK ⊢
 go_simp
 refine (HC.out _ _ _).mono ?_
 rintro e wc ⟨rfl, rfl⟩
 refine hK _ _ (fun _ => HBK.out) ?_
 clear hK K
 intro K hK
 simp only [Act.put, List.setIfInBounds_toArray, List.set_cons_zero, List.set_cons_succ] at hK ⊢
 go_simp
 refine hK _ _ (fun _ => HBK.out) ?_
 clear hK K
 obtain ⟨u0, r0⟩ := r0
 obtain ⟨u1, r1⟩ := r1
 have r0' : w0.drew.cell? ⟨w.heap.size + 1, 0, none⟩ = some u0 := r0
 have r1' : w0.drew.cell? ⟨w.heap.size + 1, 1, none⟩ = some u1 := r1
 have q0' : w0.drew.frozen? ⟨w.heap.size + 1, 0, none⟩ = false := q0
 have q1' : w0.drew.frozen? ⟨w.heap.size + 1, 1, none⟩ = false := q1
 have hs0' : w.heap.size + 1 < w0.drew.heap.size := hs0
 intro K hK
 simp only [Act.put, List.setIfInBounds_toArray, List.set_cons_zero, List.set_cons_succ] at hK ⊢
 go_simp
 refine hK _ _ (fun h => absurd rfl h) ?_
 clear hK K
 refine NoPanic.normal ?_
 go_wp2_with (fail)
 refine bodyPost_ret (v := .agg #[.int .i64 (cmpI bx ax), .int .i64 (cmpI cy ay)]) (by simp [results, Tryz.results41, go_sem, r0, r1, q0, q1, hs0, r0', r1', q0', q1', hs0']) rfl ⟨rfl, ?_⟩
 have hlow := HB0.out.trans (HBK.out.mono HB0.out.size)
 repeat (first | with_reducible exact hlow | with_reducible exact HB0.out | with_reducible refine Below.drew ?_ | with_reducible refine Below.setCell ?_ (by simp) _)
set_option maxRecDepth 100000 in
set_option maxHeartbeats 8000000 in
theorem cmpP_any (a b : Pt) (w : World) :
  Calls Tryz.prog 40 #[.agg #[.int .i64 a.1, .int .i64 a.2], .agg #[.int .i64 b.1, .int .i64 b.2]] w fun r w' => r = .returned (.int .i64 (cmpP a b)) ∧ Below w.heap.size w w' := by
 obtain ⟨ax, ay⟩ := a
 obtain ⟨bx, cy⟩ := b
 have HW : Hid (cmpP (ax, ay) (bx, cy) = if cmpI ax bx = 0 then cmpI ay cy else cmpI ax bx) := hide rfl
 obtain ⟨R, hR⟩ : ∃ R, cmpP (ax, ay) (bx, cy) = R := ⟨_, rfl⟩
 rw [hR] at HW ⊢
 simp only
 clear hR
 have HC := hide (fun (x y : Int) (W : World) => cmpI_any x y W)
 go_enter Tryz.func40, Tryz.ntmps40
 go_upto_region 1 with fail
 refine wp_name fun w0 hw0 => ?_
 have HB0 : Hid (Below w.heap.size w w0) := hide (by rw [hw0]; exact ((Below.refl _ _).alloc (Nat.le_refl _) _).alloc (by simp) _)
 have d0 : w0.cell? ⟨w.heap.size, 0, none⟩ = some (.int .i64 ax) := by rw [hw0]; simp [go_sem]
 have d1 : w0.cell? ⟨w.heap.size, 1, none⟩ = some (.int .i64 ay) := by rw [hw0]; simp [go_sem]
 have d2 : w0.cell? ⟨w.heap.size + 1, 0, none⟩ = some (.int .i64 bx) := by rw [hw0]; simp [go_sem]
 have d3 : w0.cell? ⟨w.heap.size + 1, 1, none⟩ = some (.int .i64 cy) := by rw [hw0]; simp [go_sem]
 have hs0 : w.heap.size + 1 < w0.heap.size := by rw [hw0]; simp
 have hs1 : w.heap.size < w0.heap.size := by omega
 have HD := hide (And.intro (And.intro d0 (And.intro d1 (And.intro d2 d3))) (And.intro hs0 hs1))
 clear hw0 d0 d1 d2 d3
 have HBK : Hid (Below w0.heap.size w0 w0.drew) := hide (Below.refl _ _).drew
 refine wp_region_mix [0, 1, 2, 3, 5, 6, 7, 8] [4, 9, 10, 11, 12] (fun w' => Below w0.heap.size w0 w') (by kernel_rfl) (by kernel_rfl) HBK.out ?_
 simp only [List.map_cons, List.map_nil, opAt, List.getElem?_cons_succ, List.getElem?_cons_zero, Option.getD_some]
 generalize w0.drew = wk at *
 iterate 8
  refine ⟨?_, Or.inl ⟨by rfl, ?_⟩, ?_⟩
  rotate_left 1
  ·intro w' hSw
   obtain ⟨⟨d0, d1, d2, d3⟩, hs0, hs1⟩ := HD.out
   replace d0 := (hSw.cell (p := ⟨w.heap.size, 0, none⟩) hs1).trans d0
   replace d1 := (hSw.cell (p := ⟨w.heap.size, 1, none⟩) hs1).trans d1
   replace d2 := (hSw.cell (p := ⟨w.heap.size + 1, 0, none⟩) hs0).trans d2
   replace d3 := (hSw.cell (p := ⟨w.heap.size + 1, 1, none⟩) hs0).trans d3
   clear hSw
   go_simp
   first | done | with_reducible rfl
  simp only [Act.put, List.setIfInBounds_toArray, List.set_cons_zero, List.set_cons_succ]
 simp only [wpReads]
 intro K hK
 simp only [Act.put, List.setIfInBounds_toArray, List.set_cons_zero, List.set_cons_succ] at hK ⊢
 go_simp
 refine (HC.out _ _ _).mono ?_
 rintro e wc ⟨rfl, rfl⟩
 refine hK _ _ (fun _ => HBK.out) ?_
 clear hK K
 intro K hK
 simp only [Act.put, List.setIfInBounds_toArray, List.set_cons_zero, List.set_cons_succ] at hK ⊢
 go_simp
 refine (HC.out _ _ _).mono ?_
 rintro e wc ⟨rfl, rfl⟩
 refine hK _ _ (fun _ => HBK.out) ?_
 clear hK K
 intro K hK
 simp only [Act.put, List.setIfInBounds_toArray, List.set_cons_zero, List.set_cons_succ] at hK ⊢
 go_simp
 have HB1 : Hid (Below w0.heap.size w0 (wc.alloc (.cells #[.int .i64 (cmpI ax bx), .int .i64 (cmpI ay cy)] 3))) := hide (HBK.out.alloc HBK.out.size _)
 refine hK _ _ (fun _ => HB1.out) ?_
 clear hK K
 intro K hK
 simp only [Act.put, List.setIfInBounds_toArray, List.set_cons_zero, List.set_cons_succ] at hK ⊢
 go_simp
 refine (or2_any (b := wc.heap.size) (x := cmpI ax bx) (y := cmpI ay cy) (by simp) (by simp [go_sem]) (by simp [go_sem])).mono ?_
 rintro e wd ⟨rfl, rfl⟩
 refine hK _ _ (fun _ => HB1.out) ?_
 clear hK K
 intro K hK
 simp only [Act.put, List.setIfInBounds_toArray, List.set_cons_zero, List.set_cons_succ] at hK ⊢
 go_simp
 refine hK _ _ (fun h => absurd rfl h) ?_
 clear hK K
 refine NoPanic.normal ?_
 rw [← HW.out]
 go_wp2_with (fail)
 go_ret
 exact ⟨rfl, HB0.out.trans (HB1.out.mono HB0.out.size)⟩
end Go.Proofs.YtdfpbhlnlkjjlaaGreat

/- Outlines: checked. -/
namespace Go.Proofs.YtdfpbhlnlkjjlaaGreat
open Go.RowKit
set_option linter.unusedVariables false
set_option linter.unusedSimpArgs false
def pAt (l : List Pt) (i : Nat) : Pt := l.getD i (0, 0)
def qAt (l : List Pt) (i : Nat) : Pt := pAt l ((i + 1) % l.length)
def badC (l : List Pt) (i : Nat) : Bool := decide (min (pAt l i).1 (pAt l i).2 < -1000000) || (decide (1000000 < max (pAt l i).1 (pAt l i).2) || ((((pAt l i).1 == (qAt l i).1) == ((pAt l i).2 == (qAt l i).2)) || (((pAt l i).1 == (qAt l i).1) != (((pAt l 0).1 == (pAt l 1).1) == (((i : Int) % 2) == 0)))))
def chkO (l : List Pt) : Int := if 2000 < l.length then 4 else if l.length < 4 ∨ l.length % 2 = 1 then 8 else if (List.range l.length).any (badC l) then 8 else 0
theorem pAt_get {l : List Pt} {i : Nat} (h : i < l.length) : l[i]? = some (pAt l i) := by unfold pAt; rw [List.getD_eq_getElem?_getD, List.getElem?_eq_getElem h]; rfl
theorem any_range {p : Nat → Bool} : ∀ {m : Nat}, (List.range (m + 1)).any p = ((List.range m).any p || p m) := by
 intro m
 rw [List.range_succ, List.any_append]
 simp
theorem any_upto {p : Nat → Bool} {m n : Nat} (hm : m < n) (h : p m = true) : (List.range n).any p = true := List.any_eq_true.2 ⟨m, List.mem_range.2 hm, h⟩
theorem tmod_nat (a b : Nat) : Int.tmod (a : Int) (b : Int) = ((a % b : Nat) : Int) := by
 rw [Int.tmod_eq_emod_of_nonneg (by omega)]
 rfl
theorem rd_two {w : World} {A : Option Addr} {n c : Nat} {l : List Pt} (h : RdK encS 2 w w.heap.size (.slice A n c) l) (hl : 0 < l.length) : ∃ b off, A = some ⟨b, off, none⟩ ∧ b < w.heap.size ∧ ∀ (j : Nat), j < l.length → w.cell? ⟨b, off + j * 2, none⟩ = some (.int .i64 (pAt l j).1) ∧ w.cell? ⟨b, off + j * 2 + 1, none⟩ = some (.int .i64 (pAt l j).2) := by
 obtain ⟨A1, c1, hv, h⟩ := h
 injection hv with e1 _ _
 subst e1
 obtain ⟨b, off, rfl, hb, k⟩ := h (List.ne_nil_of_length_pos hl)
 exact ⟨b, off, rfl, hb, fun j hj => ⟨k j _ (pAt_get hj) 0 _ rfl, k j _ (pAt_get hj) 1 _ rfl⟩⟩
set_option maxRecDepth 100000 in
set_option maxHeartbeats 8000000 in
theorem chkO_any {w : World} {v : Value} {l : List Pt} (hr : RdK encS 2 w w.heap.size v l) (hl : l.length ≤ 100000000) :
  Calls Tryz.prog 47 #[v] w fun e w' => e = .returned (.int .i64 (chkO l)) ∧ Below w.heap.size w w' := by
 have HRD := hide hr
 obtain ⟨A, c, rfl, _⟩ := hr
 by_cases h1 : 2000 < l.length
 ·have z1 : (2000 : Int) < (l.length : Int) := by omega
  have HC : Hid (chkO l = 4) := hide (by unfold chkO; rw [if_pos h1])
  clear h1
  go_enter Tryz.func47, Tryz.ntmps47
  go_wp2
  go_ret
  exact ⟨ret_eq (by rw [HC.out]; rfl), Below.refl _ _⟩
 ·have z1 : ¬ (2000 : Int) < (l.length : Int) := by omega
  by_cases h2 : l.length < 4
  ·have z2 : decide ((l.length : Int) < 4) = true := decide_eq_true (by omega)
   have HC : Hid (chkO l = 8) := hide (by unfold chkO; rw [if_neg h1, if_pos (.inl h2)])
   clear h1 h2
   go_enter Tryz.func47, Tryz.ntmps47
   go_wp2
   go_ret
   exact ⟨ret_eq (by rw [HC.out]; rfl), Below.refl _ _⟩
  ·have z2 : decide ((l.length : Int) < 4) = false := decide_eq_false (by omega)
   by_cases h3 : l.length % 2 = 1
   ·have z3 : ((l.length : Int) % 2 == 1) = true := by rw [beq_iff_eq]; omega
    have HC : Hid (chkO l = 8) := hide (by unfold chkO; rw [if_neg h1, if_pos (.inr h3)])
    clear h1 h2 h3
    go_enter Tryz.func47, Tryz.ntmps47
    go_wp2
    go_ret
    exact ⟨ret_eq (by rw [HC.out]; rfl), Below.refl _ _⟩
   ·have z3 : ((l.length : Int) % 2 == 1) = false := by rw [Bool.eq_false_iff]; intro h; rw [beq_iff_eq] at h; omega
    have HC0 : Hid (chkO l = if (List.range l.length).any (badC l) then 8 else 0) := hide (by unfold chkO; rw [if_neg h1, if_neg (by omega)])
    have HL := hide (show 4 ≤ l.length ∧ l.length ≤ 2000 by omega)
    obtain ⟨b, o, rfl, hb, hcell⟩ := rd_two HRD.out (show 0 < l.length by omega)
    have HCL := hide hcell
    clear h1 h2 h3 hcell HRD
    go_enter Tryz.func47, Tryz.ntmps47
    go_wp2
    clear z1 z2 z3
    go_loopw [20] (fun i wr => ∃ m : Nat, m ≤ l.length ∧ i = .int .i64 (m : Int) ∧ Hid ((List.range m).any (badC l) = false) ∧ Hid (Below w.heap.size w wr)) (fun i _ => l.length - (intOf i).toNat)
    case atStart => exact ⟨0, Nat.zero_le _, rfl, hide rfl, hide (Below.refl _ _)⟩
    case round =>
     obtain ⟨m, hm, rfl, HA, HB⟩ := hrel
     have hll := HL.out
     by_cases hlt : m < l.length
     ·have mz : (m : Int) < (l.length : Int) := by omega
      have m0 : (0 : Int) ≤ (m : Int) := by omega
      have d0 := (HB.out.cell (p := ⟨b, _, none⟩) hb).trans (HCL.out m hlt).1
      have d1 := (HB.out.cell (p := ⟨b, _, none⟩) hb).trans (HCL.out m hlt).2
      have hbr : b < wr.heap.size := Nat.lt_of_lt_of_le hb HB.out.size
      go_upto_region 8 with fail
      refine wp_name fun w1 hw1 => ?_
      obtain ⟨g, hg⟩ : ∃ g, wr.heap.size = g := ⟨_, rfl⟩
      have hb1 : Below wr.heap.size wr w1 := by rw [hw1]; exact (Below.refl _ _).alloc (Nat.le_refl _) _
      have p0 : w1.cell? ⟨g, 0, none⟩ = some (.int .i64 (pAt l m).1) := by rw [hw1, ← hg]; simp [go_sem]
      have p1 : w1.cell? ⟨g, 1, none⟩ = some (.int .i64 (pAt l m).2) := by rw [hw1, ← hg]; simp [go_sem]
      have hg1 : g < w1.heap.size := by rw [hw1, ← hg]; simp
      have HB1 := hide (HB.out.trans (hb1.mono HB.out.size))
      rw [hg]
      clear hw1 hb1 d0 d1 hbr HB hg
      obtain ⟨j, hj⟩ : ∃ j, (m + 1) % l.length = j := ⟨_, rfl⟩
      have hjl : j < l.length := by rw [← hj]; exact Nat.mod_lt _ (by omega)
      have hmod : ((m : Int) + 1) % (l.length : Int) = (j : Int) := by rw [← hj]; simp
      have HQ : Hid (qAt l m = pAt l j) := hide (by unfold qAt; rw [hj])
      have e0 := (HB1.out.cell (p := ⟨b, _, none⟩) hb).trans (HCL.out j hjl).1
      have e1 := (HB1.out.cell (p := ⟨b, _, none⟩) hb).trans (HCL.out j hjl).2
      have hbr : b < w1.heap.size := Nat.lt_of_lt_of_le hb HB1.out.size
      have w1' : IntKind.i64.wrap ((m : Int) + 1) = (m : Int) + 1 := IntWalk.i64_in _ (by omega)
      have jz : (j : Int) < (l.length : Int) := by omega
      have j0 : (0 : Int) ≤ (j : Int) := by omega
      clear hj hll hlt
      go_upto_region 9 with fail
      refine wp_name fun w2 hw2 => ?_
      obtain ⟨g2, hg2⟩ : ∃ g, w1.heap.size = g := ⟨_, rfl⟩
      have hb2 : Below w1.heap.size w1 w2 := by rw [hw2]; exact (Below.refl _ _).alloc (Nat.le_refl _) _
      have q0 : w2.cell? ⟨g2, 0, none⟩ = some (.int .i64 (pAt l j).1) := by rw [hw2, ← hg2]; simp [go_sem]
      have q1 : w2.cell? ⟨g2, 1, none⟩ = some (.int .i64 (pAt l j).2) := by rw [hw2, ← hg2]; simp [go_sem]
      have hz2 : g2 < w2.heap.size := by rw [hw2, ← hg2]; simp
      replace p0 := (hb2.cell (p := ⟨g, 0, none⟩) hg1).trans p0
      replace p1 := (hb2.cell (p := ⟨g, 1, none⟩) hg1).trans p1
      have hz1 : g < w2.heap.size := Nat.lt_of_lt_of_le hg1 hb2.size
      have HB2 := hide (HB1.out.trans (hb2.mono HB1.out.size))
      rw [hg2]
      have a0 : w2.cell? ⟨b, o, none⟩ = some (.int .i64 (pAt l 0).1) := by have := (HB2.out.cell (p := ⟨b, _, none⟩) hb).trans (HCL.out 0 (by have := HL.out; omega)).1; simpa using this
      have a1 : w2.cell? ⟨b, o + 2, none⟩ = some (.int .i64 (pAt l 1).1) := by have := (HB2.out.cell (p := ⟨b, _, none⟩) hb).trans (HCL.out 1 (by have := HL.out; omega)).1; simpa using this
      have hbr2 : b < w2.heap.size := Nat.lt_of_lt_of_le hb HB2.out.size
      have HBAD : Hid (badC l m = (decide (min (pAt l m).1 (pAt l m).2 < -1000000) || (decide (1000000 < max (pAt l m).1 (pAt l m).2) || ((((pAt l m).1 == (pAt l j).1) == ((pAt l m).2 == (pAt l j).2)) || (((pAt l m).1 == (pAt l j).1) != (((pAt l 0).1 == (pAt l 1).1) == (((m : Int) % 2) == 0))))))) := hide (by unfold badC; rw [HQ.out])
      have l0 : (0 : Int) < (l.length : Int) := by have := HL.out; omega
      have l1 : (1 : Int) < (l.length : Int) := by have := HL.out; omega
      clear hw2 hb2 hg2 hg1 HB1 e0 e1 hbr hmod jz j0 hjl HQ w1'
      generalize pAt l m = P at *
      generalize pAt l j = Q at *
      generalize (pAt l 0).1 = X0 at *
      generalize (pAt l 1).1 = X1 at *
      obtain ⟨px, py⟩ := P
      obtain ⟨qx, qy⟩ := Q
      simp only at p0 p1 q0 q1 HBAD
      have HC8 : Hid (badC l m = true → chkO l = 8) := hide (fun h => by rw [HC0.out, if_pos (any_upto (by omega) h)])
      by_cases c1 : min px py < -1000000
      ·have y1 : decide (min px py < -1000000) = true := decide_eq_true c1
       have HC : Hid (chkO l = 8) := hide (HC8.out (by rw [HBAD.out, y1]; rfl))
       clear c1 HBAD HC8
       go_quiet (fail)
       refine name_exit fun W hW => ?_
       have HBW : Hid (Below w.heap.size w W) := hide (by rw [hW]; exact below_drewN HB2.out _)
       clear hW
       go_wp2
       go_ret
       exact ⟨ret_eq (by rw [HC.out]; rfl), HBW.out⟩
      have y1 : decide (min px py < -1000000) = false := decide_eq_false c1
      by_cases c2 : 1000000 < max px py
      ·have y2 : decide (1000000 < max px py) = true := decide_eq_true c2
       have HC : Hid (chkO l = 8) := hide (HC8.out (by rw [HBAD.out, y1, y2]; rfl))
       clear c1 c2 HBAD HC8
       go_quiet (fail)
       refine name_exit fun W hW => ?_
       have HBW : Hid (Below w.heap.size w W) := hide (by rw [hW]; exact below_drewN HB2.out _)
       clear hW
       go_wp2
       go_ret
       exact ⟨ret_eq (by rw [HC.out]; rfl), HBW.out⟩
      have y2 : decide (1000000 < max px py) = false := decide_eq_false c2
      cases hx : (px == qx) with
      | true =>
       cases hy : (py == qy) with
       | true =>
        have HC : Hid (chkO l = 8) := hide (HC8.out (by rw [HBAD.out, y1, y2, hx, hy]; rfl))
        clear c1 c2 HBAD HC8
        go_quiet (fail)
        refine name_exit fun W hW => ?_
        have HBW : Hid (Below w.heap.size w W) := hide (by rw [hW]; exact below_drewN HB2.out _)
        clear hW
        go_wp2
        go_ret
        exact ⟨ret_eq (by rw [HC.out]; rfl), HBW.out⟩
       | false =>
        cases h0 : (X0 == X1) with
        | true =>
         cases hi : (((m : Int) % 2) == 0) with
         | true =>
          have HN : Hid ((List.range (m + 1)).any (badC l) = false) := hide (by rw [any_range, HA.out, HBAD.out, y1, y2, hx, hy, h0, hi]; rfl)
          clear c1 c2 HBAD HC8
          go_quiet (fail)
          refine name_exit fun W hW => ?_
          have HBW : Hid (Below w.heap.size w W) := hide (by rw [hW]; exact below_drewN HB2.out _)
          clear hW
          clear p0 p1 q0 q1 hz1 hz2 a0 a1 hbr2 y1 y2 hx hy h0 hi
          go_wp2
          go_roundw
          case rel => exact ⟨m + 1, by omega, by go_num, HN, HBW⟩
          case measure => simp [intOf]; omega
         | false =>
          have HC : Hid (chkO l = 8) := hide (HC8.out (by rw [HBAD.out, y1, y2, hx, hy, h0, hi]; rfl))
          clear c1 c2 HBAD HC8
          go_quiet (fail)
          refine name_exit fun W hW => ?_
          have HBW : Hid (Below w.heap.size w W) := hide (by rw [hW]; exact below_drewN HB2.out _)
          clear hW
          go_wp2
          go_ret
          exact ⟨ret_eq (by rw [HC.out]; rfl), HBW.out⟩
        | false =>
         cases hi : (((m : Int) % 2) == 0) with
         | true =>
          have HC : Hid (chkO l = 8) := hide (HC8.out (by rw [HBAD.out, y1, y2, hx, hy, h0, hi]; rfl))
          clear c1 c2 HBAD HC8
          go_quiet (fail)
          refine name_exit fun W hW => ?_
          have HBW : Hid (Below w.heap.size w W) := hide (by rw [hW]; exact below_drewN HB2.out _)
          clear hW
          go_wp2
          go_ret
          exact ⟨ret_eq (by rw [HC.out]; rfl), HBW.out⟩
         | false =>
          have HN : Hid ((List.range (m + 1)).any (badC l) = false) := hide (by rw [any_range, HA.out, HBAD.out, y1, y2, hx, hy, h0, hi]; rfl)
          clear c1 c2 HBAD HC8
          go_quiet (fail)
          refine name_exit fun W hW => ?_
          have HBW : Hid (Below w.heap.size w W) := hide (by rw [hW]; exact below_drewN HB2.out _)
          clear hW
          clear p0 p1 q0 q1 hz1 hz2 a0 a1 hbr2 y1 y2 hx hy h0 hi
          go_wp2
          go_roundw
          case rel => exact ⟨m + 1, by omega, by go_num, HN, HBW⟩
          case measure => simp [intOf]; omega
      | false =>
       cases hy : (py == qy) with
       | true =>
        cases h0 : (X0 == X1) with
        | true =>
         cases hi : (((m : Int) % 2) == 0) with
         | true =>
          have HC : Hid (chkO l = 8) := hide (HC8.out (by rw [HBAD.out, y1, y2, hx, hy, h0, hi]; rfl))
          clear c1 c2 HBAD HC8
          go_quiet (fail)
          refine name_exit fun W hW => ?_
          have HBW : Hid (Below w.heap.size w W) := hide (by rw [hW]; exact below_drewN HB2.out _)
          clear hW
          go_wp2
          go_ret
          exact ⟨ret_eq (by rw [HC.out]; rfl), HBW.out⟩
         | false =>
          have HN : Hid ((List.range (m + 1)).any (badC l) = false) := hide (by rw [any_range, HA.out, HBAD.out, y1, y2, hx, hy, h0, hi]; rfl)
          clear c1 c2 HBAD HC8
          go_quiet (fail)
          refine name_exit fun W hW => ?_
          have HBW : Hid (Below w.heap.size w W) := hide (by rw [hW]; exact below_drewN HB2.out _)
          clear hW
          clear p0 p1 q0 q1 hz1 hz2 a0 a1 hbr2 y1 y2 hx hy h0 hi
          go_wp2
          go_roundw
          case rel => exact ⟨m + 1, by omega, by go_num, HN, HBW⟩
          case measure => simp [intOf]; omega
        | false =>
         cases hi : (((m : Int) % 2) == 0) with
         | true =>
          have HN : Hid ((List.range (m + 1)).any (badC l) = false) := hide (by rw [any_range, HA.out, HBAD.out, y1, y2, hx, hy, h0, hi]; rfl)
          clear c1 c2 HBAD HC8
          go_quiet (fail)
          refine name_exit fun W hW => ?_
          have HBW : Hid (Below w.heap.size w W) := hide (by rw [hW]; exact below_drewN HB2.out _)
          clear hW
          clear p0 p1 q0 q1 hz1 hz2 a0 a1 hbr2 y1 y2 hx hy h0 hi
          go_wp2
          go_roundw
          case rel => exact ⟨m + 1, by omega, by go_num, HN, HBW⟩
          case measure => simp [intOf]; omega
         | false =>
          have HC : Hid (chkO l = 8) := hide (HC8.out (by rw [HBAD.out, y1, y2, hx, hy, h0, hi]; rfl))
          clear c1 c2 HBAD HC8
          go_quiet (fail)
          refine name_exit fun W hW => ?_
          have HBW : Hid (Below w.heap.size w W) := hide (by rw [hW]; exact below_drewN HB2.out _)
          clear hW
          go_wp2
          go_ret
          exact ⟨ret_eq (by rw [HC.out]; rfl), HBW.out⟩
       | false =>
        have HC : Hid (chkO l = 8) := hide (HC8.out (by rw [HBAD.out, y1, y2, hx, hy]; rfl))
        clear c1 c2 HBAD HC8
        go_quiet (fail)
        refine name_exit fun W hW => ?_
        have HBW : Hid (Below w.heap.size w W) := hide (by rw [hW]; exact below_drewN HB2.out _)
        clear hW
        go_wp2
        go_ret
        exact ⟨ret_eq (by rw [HC.out]; rfl), HBW.out⟩
     ·have mz : ¬ (m : Int) < (l.length : Int) := by omega
      obtain rfl : m = l.length := by omega
      have HC : Hid (chkO l = 0) := hide (by rw [HC0.out, HA.out]; rfl)
      go_wp2
      go_ret
      exact ⟨ret_eq (by rw [HC.out]; rfl), HB.out⟩
end Go.Proofs.YtdfpbhlnlkjjlaaGreat

/- Outlines: Area, Length. -/
namespace Go.Proofs.YtdfpbhlnlkjjlaaGreat
open Go.RowKit
set_option linter.unusedVariables false
set_option linter.unusedSimpArgs false
def finC (l : List Pt) (i : Nat) : Prop := (-1000000 ≤ (pAt l i).1 ∧ (pAt l i).1 ≤ 1000000) ∧ -1000000 ≤ (pAt l i).2 ∧ (pAt l i).2 ≤ 1000000
theorem chkO_ok {l : List Pt} (h : chkO l = 0) : (4 ≤ l.length ∧ l.length ≤ 2000) ∧ l.length % 2 = 0 ∧ ∀ i, i < l.length → badC l i = false := by
 unfold chkO at h
 split at h
 ·omega
 ·split at h
  ·omega
  ·split at h
   ·omega
   ·rename_i h1 h2 h3
    refine ⟨by omega, by omega, fun i hi => ?_⟩
    rw [Bool.eq_false_iff]
    intro hb
    exact h3 (any_upto hi hb)
theorem chkO_fin {l : List Pt} (h : chkO l = 0) {i : Nat} (hi : i < l.length) : finC l i := by
 have hb := (chkO_ok h).2.2 i hi
 unfold badC at hb
 simp only [Bool.or_eq_false_iff, decide_eq_false_iff_not] at hb
 obtain ⟨h1, h2, _⟩ := hb
 unfold finC
 omega
theorem mul_bd {a b : Int} (ha : -1000000 ≤ a ∧ a ≤ 1000000) (hb : -1000000 ≤ b ∧ b ≤ 1000000) : -1000000000000 ≤ a * b ∧ a * b ≤ 1000000000000 := by
 have h1 : (a * b).natAbs ≤ 1000000 * 1000000 := by
  rw [Int.natAbs_mul]
  exact Nat.mul_le_mul (by omega) (by omega)
 omega
def crsS (l : List Pt) (m : Nat) : Int := smN (fun i => crsP (pAt l i) (qAt l i)) m
def lenS (l : List Pt) (m : Nat) : Int := smN (fun i => lenP (pAt l i) (qAt l i)) m
def areaO (l : List Pt) : Int × Int := if chkO l = 0 then (Int.tdiv (crsS l l.length) 2, 0) else (0, chkO l)
def lenO (l : List Pt) : Int × Int := if chkO l = 0 then (lenS l l.length, 0) else (0, chkO l)
theorem crsS_bd {l : List Pt} (h : chkO l = 0) : ∀ m, m ≤ l.length → -(2000000000000 * (m : Int)) ≤ crsS l m ∧ crsS l m ≤ 2000000000000 * (m : Int)
 | 0, _ => by simp [crsS, smN]
 | m + 1, hm => by
  have ih := crsS_bd h m (by omega)
  have h1 := chkO_fin h (i := m) (by omega)
  have h2 : finC l ((m + 1) % l.length) := chkO_fin h (Nat.mod_lt _ (by omega))
  have m1 := mul_bd h1.1 h2.2
  have m2 := mul_bd h2.1 h1.2
  show -(2000000000000 * ((m + 1 : Nat) : Int)) ≤ crsS l m + crsP (pAt l m) (qAt l m) ∧ crsS l m + crsP (pAt l m) (qAt l m) ≤ _
  unfold crsP qAt
  omega
theorem lenS_bd {l : List Pt} (h : chkO l = 0) : ∀ m, m ≤ l.length → 0 ≤ lenS l m ∧ lenS l m ≤ 4000000 * (m : Int)
 | 0, _ => by simp [lenS, smN]
 | m + 1, hm => by
  have ih := lenS_bd h m (by omega)
  have h1 := chkO_fin h (i := m) (by omega)
  have h2 : finC l ((m + 1) % l.length) := chkO_fin h (Nat.mod_lt _ (by omega))
  unfold finC at h1 h2
  show 0 ≤ lenS l m + lenP (pAt l m) (qAt l m) ∧ lenS l m + lenP (pAt l m) (qAt l m) ≤ _
  unfold lenP qAt
  omega
theorem wr63 {x : Int} (h1 : -9223372036854775808 ≤ x) (h2 : x ≤ 9223372036854775807) : IntKind.i64.wrap x = x := IntWalk.i64_in _ (by omega)
set_option maxRecDepth 100000 in
set_option maxHeartbeats 8000000 in
theorem area_o_any {w : World} {v : Value} {l : List Pt} (hr : RdK encS 2 w w.heap.size v l) (hl : l.length ≤ 100000000) :
  Calls Tryz.prog 27 #[v] w fun e w' => e = .returned (.tuple #[.int .i64 (areaO l).1, .int .i64 (areaO l).2]) ∧ Below w.heap.size w w' := by
 have HRD := hide hr
 have HCK := hide (chkO_any hr hl)
 obtain ⟨A, c, rfl, _⟩ := hr
 go_enter Tryz.func27, Tryz.ntmps27
 go_wp2_with (fail)
 refine HCK.out.mono ?_
 rintro e w0 ⟨rfl, hb0⟩
 have HB0 := hide hb0
 clear hb0 HCK
 have HSP : Hid (areaO l = if chkO l = 0 then (Int.tdiv (crsS l l.length) 2, 0) else (0, chkO l)) := hide rfl
 obtain ⟨r, hr⟩ : ∃ r, chkO l = r := ⟨_, rfl⟩
 rw [hr] at HSP ⊢
 by_cases h0 : r = 0
 ·subst h0
  have HOK := hide hr
  have HV : Hid (areaO l = (Int.tdiv (crsS l l.length) 2, 0)) := hide (by rw [HSP.out, if_pos rfl])
  have HL := hide (chkO_ok hr).1
  obtain ⟨b, o, rfl, hb, hcell⟩ := rd_two HRD.out (show 0 < l.length by have := HL.out; omega)
  have HCL := hide hcell
  clear hr hcell HRD HSP
  go_wp2
  go_loopw [5, 16] (fun s i wr => ∃ m : Nat, m ≤ l.length ∧ i = .int .i64 (m : Int) ∧ s = .int .i64 (crsS l m) ∧ Hid (Below w.heap.size w wr)) (fun _ i _ => l.length - (intOf i).toNat)
  case atStart => exact ⟨0, Nat.zero_le _, rfl, rfl, HB0⟩
  case round =>
   obtain ⟨m, hm, rfl, rfl, HB⟩ := hrel
   have hll := HL.out
   by_cases hlt : m < l.length
   ·have mz : (m : Int) < (l.length : Int) := by omega
    have m0 : (0 : Int) ≤ (m : Int) := by omega
    have d0 := (HB.out.cell (p := ⟨b, _, none⟩) hb).trans (HCL.out m hlt).1
    have d1 := (HB.out.cell (p := ⟨b, _, none⟩) hb).trans (HCL.out m hlt).2
    have hbr : b < wr.heap.size := Nat.lt_of_lt_of_le hb HB.out.size
    go_upto_region 8 with fail
    refine wp_name fun w1 hw1 => ?_
    obtain ⟨g, hg⟩ : ∃ g, wr.heap.size = g := ⟨_, rfl⟩
    have hb1 : Below wr.heap.size wr w1 := by rw [hw1]; exact (Below.refl _ _).alloc (Nat.le_refl _) _
    have p0 : w1.cell? ⟨g, 0, none⟩ = some (.int .i64 (pAt l m).1) := by rw [hw1, ← hg]; simp [go_sem]
    have p1 : w1.cell? ⟨g, 1, none⟩ = some (.int .i64 (pAt l m).2) := by rw [hw1, ← hg]; simp [go_sem]
    have hg1 : g < w1.heap.size := by rw [hw1, ← hg]; simp
    have HB1 := hide (HB.out.trans (hb1.mono HB.out.size))
    rw [hg]
    clear hw1 hb1 d0 d1 hbr HB hg
    obtain ⟨j, hj⟩ : ∃ j, (m + 1) % l.length = j := ⟨_, rfl⟩
    have hjl : j < l.length := by rw [← hj]; exact Nat.mod_lt _ (by omega)
    have hmod : ((m : Int) + 1) % (l.length : Int) = (j : Int) := by rw [← hj]; simp
    have HQ : Hid (qAt l m = pAt l j) := hide (by unfold qAt; rw [hj])
    have e0 := (HB1.out.cell (p := ⟨b, _, none⟩) hb).trans (HCL.out j hjl).1
    have e1 := (HB1.out.cell (p := ⟨b, _, none⟩) hb).trans (HCL.out j hjl).2
    have hbr : b < w1.heap.size := Nat.lt_of_lt_of_le hb HB1.out.size
    have w1' : IntKind.i64.wrap ((m : Int) + 1) = (m : Int) + 1 := IntWalk.i64_in _ (by omega)
    have jz : (j : Int) < (l.length : Int) := by omega
    have j0 : (0 : Int) ≤ (j : Int) := by omega
    have l0 : ¬ (l.length : Int) = 0 := by omega
    have hf1 := chkO_fin HOK.out hlt
    have hf2 := chkO_fin HOK.out hjl
    have hbd1 := crsS_bd HOK.out m (by omega)
    have hbd2 := crsS_bd HOK.out (m + 1) (by omega)
    have HNX : Hid (crsS l (m + 1) = crsS l m + crsP (pAt l m) (pAt l j)) := hide (by rw [← HQ.out]; rfl)
    rw [HNX.out] at hbd2
    have hm2k : m ≤ 2000 := by omega
    clear hj hll hlt
    go_upto_region 9 with fail
    refine wp_name fun w2 hw2 => ?_
    obtain ⟨g2, hg2⟩ : ∃ g, w1.heap.size = g := ⟨_, rfl⟩
    have hb2 : Below w1.heap.size w1 w2 := by rw [hw2]; exact (Below.refl _ _).alloc (Nat.le_refl _) _
    have q0 : w2.cell? ⟨g2, 0, none⟩ = some (.int .i64 (pAt l j).1) := by rw [hw2, ← hg2]; simp [go_sem]
    have q1 : w2.cell? ⟨g2, 1, none⟩ = some (.int .i64 (pAt l j).2) := by rw [hw2, ← hg2]; simp [go_sem]
    have hz2 : g2 < w2.heap.size := by rw [hw2, ← hg2]; simp
    replace p0 := (hb2.cell (p := ⟨g, 0, none⟩) hg1).trans p0
    replace p1 := (hb2.cell (p := ⟨g, 1, none⟩) hg1).trans p1
    have hz1 : g < w2.heap.size := Nat.lt_of_lt_of_le hg1 hb2.size
    have HB2 := hide (HB1.out.trans (hb2.mono HB1.out.size))
    rw [hg2]
    clear hw2 hb2 hg2 hg1 HB1 e0 e1 hbr hmod jz j0 hjl HQ w1' l0
    unfold finC at hf1 hf2
    generalize pAt l m = P at *
    generalize pAt l j = Q at *
    generalize crsS l m = SM at *
    obtain ⟨px, py⟩ := P
    obtain ⟨qx, qy⟩ := Q
    simp only at p0 p1 q0 q1 hf1 hf2 HNX hbd2
    obtain ⟨⟨a1, a2⟩, a3, a4⟩ := hf1
    obtain ⟨⟨b1, b2⟩, b3, b4⟩ := hf2
    have hm1 := mul_bd (a := px) (b := qy) ⟨a1, a2⟩ ⟨b3, b4⟩
    have hm2 := mul_bd (a := qx) (b := py) ⟨b1, b2⟩ ⟨a3, a4⟩
    have k1 : IntKind.i64.wrap (px * qy) = px * qy := wr63 (by omega) (by omega)
    have k2 : IntKind.i64.wrap (qx * py) = qx * py := wr63 (by omega) (by omega)
    have k3 : IntKind.i64.wrap (px * qy - qx * py) = px * qy - qx * py := wr63 (by omega) (by omega)
    have k4 : IntKind.i64.wrap (SM + (px * qy - qx * py)) = SM + (px * qy - qx * py) := wr63 (by simp only [crsP] at hbd2; omega) (by simp only [crsP] at hbd2; omega)
    clear hm1 hm2 a1 a2 a3 a4 b1 b2 b3 b4
    clear hbd1 hbd2 hm2k
    go_wp2
    go_roundw
    case rel => exact ⟨m + 1, by omega, by go_num, by rw [HNX.out]; first | rfl | (simp only [crsP]), HB2⟩
    case measure => simp [intOf]; omega
   ·have mz : ¬ (m : Int) < (l.length : Int) := by omega
    obtain rfl : m = l.length := by omega
    have hbd := crsS_bd HOK.out l.length (Nat.le_refl _)
    have hna : (Int.tdiv (crsS l l.length) 2).natAbs = (crsS l l.length).natAbs / 2 := Int.natAbs_tdiv _ _
    have hq : IntKind.i64.wrap (Int.tdiv (crsS l l.length) 2) = Int.tdiv (crsS l l.length) 2 := wr63 (by have := HL.out; omega) (by have := HL.out; omega)
    clear hna
    have HBE := HB
    clear hbd
    go_wp2
    go_ret2
    exact ⟨by rw [HV.out]; rfl, HBE.out⟩
 ·have hz : (r != 0) = true := by simpa using h0
  have HV : Hid (areaO l = (0, r)) := hide (by rw [HSP.out, if_neg h0])
  clear h0 HSP hr
  go_wp2
  go_ret2
  exact ⟨by rw [HV.out]; rfl, HB0.out⟩
set_option maxRecDepth 100000 in
set_option maxHeartbeats 8000000 in
theorem len_o_any {w : World} {v : Value} {l : List Pt} (hr : RdK encS 2 w w.heap.size v l) (hl : l.length ≤ 100000000) :
  Calls Tryz.prog 24 #[v] w fun e w' => e = .returned (.tuple #[.int .i64 (lenO l).1, .int .i64 (lenO l).2]) ∧ Below w.heap.size w w' := by
 have HRD := hide hr
 have HCK := hide (chkO_any hr hl)
 obtain ⟨A, c, rfl, _⟩ := hr
 go_enter Tryz.func24, Tryz.ntmps24
 go_wp2_with (fail)
 refine HCK.out.mono ?_
 rintro e w0 ⟨rfl, hb0⟩
 have HB0 := hide hb0
 clear hb0 HCK
 have HSP : Hid (lenO l = if chkO l = 0 then (lenS l l.length, 0) else (0, chkO l)) := hide rfl
 obtain ⟨r, hr⟩ : ∃ r, chkO l = r := ⟨_, rfl⟩
 rw [hr] at HSP ⊢
 by_cases h0 : r = 0
 ·subst h0
  have HOK := hide hr
  have HV : Hid (lenO l = (lenS l l.length, 0)) := hide (by rw [HSP.out, if_pos rfl])
  have HL := hide (chkO_ok hr).1
  obtain ⟨b, o, rfl, hb, hcell⟩ := rd_two HRD.out (show 0 < l.length by have := HL.out; omega)
  have HCL := hide hcell
  clear hr hcell HRD HSP
  go_wp2
  go_loopw [5, 16] (fun s i wr => ∃ m : Nat, m ≤ l.length ∧ i = .int .i64 (m : Int) ∧ s = .int .i64 (lenS l m) ∧ Hid (Below w.heap.size w wr)) (fun _ i _ => l.length - (intOf i).toNat)
  case atStart => exact ⟨0, Nat.zero_le _, rfl, rfl, HB0⟩
  case round =>
   obtain ⟨m, hm, rfl, rfl, HB⟩ := hrel
   have hll := HL.out
   by_cases hlt : m < l.length
   ·have mz : (m : Int) < (l.length : Int) := by omega
    have m0 : (0 : Int) ≤ (m : Int) := by omega
    have d0 := (HB.out.cell (p := ⟨b, _, none⟩) hb).trans (HCL.out m hlt).1
    have d1 := (HB.out.cell (p := ⟨b, _, none⟩) hb).trans (HCL.out m hlt).2
    have hbr : b < wr.heap.size := Nat.lt_of_lt_of_le hb HB.out.size
    go_upto_region 8 with fail
    refine wp_name fun w1 hw1 => ?_
    obtain ⟨g, hg⟩ : ∃ g, wr.heap.size = g := ⟨_, rfl⟩
    have hb1 : Below wr.heap.size wr w1 := by rw [hw1]; exact (Below.refl _ _).alloc (Nat.le_refl _) _
    have p0 : w1.cell? ⟨g, 0, none⟩ = some (.int .i64 (pAt l m).1) := by rw [hw1, ← hg]; simp [go_sem]
    have p1 : w1.cell? ⟨g, 1, none⟩ = some (.int .i64 (pAt l m).2) := by rw [hw1, ← hg]; simp [go_sem]
    have hg1 : g < w1.heap.size := by rw [hw1, ← hg]; simp
    have HB1 := hide (HB.out.trans (hb1.mono HB.out.size))
    rw [hg]
    clear hw1 hb1 d0 d1 hbr HB hg
    obtain ⟨j, hj⟩ : ∃ j, (m + 1) % l.length = j := ⟨_, rfl⟩
    have hjl : j < l.length := by rw [← hj]; exact Nat.mod_lt _ (by omega)
    have hmod : ((m : Int) + 1) % (l.length : Int) = (j : Int) := by rw [← hj]; simp
    have HQ : Hid (qAt l m = pAt l j) := hide (by unfold qAt; rw [hj])
    have e0 := (HB1.out.cell (p := ⟨b, _, none⟩) hb).trans (HCL.out j hjl).1
    have e1 := (HB1.out.cell (p := ⟨b, _, none⟩) hb).trans (HCL.out j hjl).2
    have hbr : b < w1.heap.size := Nat.lt_of_lt_of_le hb HB1.out.size
    have w1' : IntKind.i64.wrap ((m : Int) + 1) = (m : Int) + 1 := IntWalk.i64_in _ (by omega)
    have jz : (j : Int) < (l.length : Int) := by omega
    have j0 : (0 : Int) ≤ (j : Int) := by omega
    have l0 : ¬ (l.length : Int) = 0 := by omega
    have hf1 := chkO_fin HOK.out hlt
    have hf2 := chkO_fin HOK.out hjl
    have hbd1 := lenS_bd HOK.out m (by omega)
    have hbd2 := lenS_bd HOK.out (m + 1) (by omega)
    have HNX : Hid (lenS l (m + 1) = lenS l m + lenP (pAt l m) (pAt l j)) := hide (by rw [← HQ.out]; rfl)
    rw [HNX.out] at hbd2
    have hm2k : m ≤ 2000 := by omega
    clear hj hll hlt
    go_upto_region 9 with fail
    refine wp_name fun w2 hw2 => ?_
    obtain ⟨g2, hg2⟩ : ∃ g, w1.heap.size = g := ⟨_, rfl⟩
    have hb2 : Below w1.heap.size w1 w2 := by rw [hw2]; exact (Below.refl _ _).alloc (Nat.le_refl _) _
    have q0 : w2.cell? ⟨g2, 0, none⟩ = some (.int .i64 (pAt l j).1) := by rw [hw2, ← hg2]; simp [go_sem]
    have q1 : w2.cell? ⟨g2, 1, none⟩ = some (.int .i64 (pAt l j).2) := by rw [hw2, ← hg2]; simp [go_sem]
    have hz2 : g2 < w2.heap.size := by rw [hw2, ← hg2]; simp
    replace p0 := (hb2.cell (p := ⟨g, 0, none⟩) hg1).trans p0
    replace p1 := (hb2.cell (p := ⟨g, 1, none⟩) hg1).trans p1
    have hz1 : g < w2.heap.size := Nat.lt_of_lt_of_le hg1 hb2.size
    have HB2 := hide (HB1.out.trans (hb2.mono HB1.out.size))
    rw [hg2]
    clear hw2 hb2 hg2 hg1 HB1 e0 e1 hbr hmod jz j0 hjl HQ w1' l0
    unfold finC at hf1 hf2
    generalize pAt l m = P at *
    generalize pAt l j = Q at *
    generalize lenS l m = SM at *
    obtain ⟨px, py⟩ := P
    obtain ⟨qx, qy⟩ := Q
    simp only at p0 p1 q0 q1 hf1 hf2 HNX hbd2
    have k1 : IntKind.i64.wrap (px - qx) = px - qx := wr63 (by omega) (by omega)
    have k2 : IntKind.i64.wrap (qx - px) = qx - px := wr63 (by omega) (by omega)
    have k3 : IntKind.i64.wrap (py - qy) = py - qy := wr63 (by omega) (by omega)
    have k4 : IntKind.i64.wrap (qy - py) = qy - py := wr63 (by omega) (by omega)
    have k5 : IntKind.i64.wrap (max (px - qx) (qx - px) + max (py - qy) (qy - py)) = max (px - qx) (qx - px) + max (py - qy) (qy - py) := wr63 (by omega) (by omega)
    have k6 : IntKind.i64.wrap (SM + (max (px - qx) (qx - px) + max (py - qy) (qy - py))) = SM + (max (px - qx) (qx - px) + max (py - qy) (qy - py)) := wr63 (by simp only [lenP] at hbd2; omega) (by simp only [lenP] at hbd2; omega)
    clear hf1 hf2
    clear hbd1 hbd2 hm2k
    go_wp2
    go_roundw
    case rel => exact ⟨m + 1, by omega, by go_num, by rw [HNX.out]; first | rfl | (simp only [lenP]), HB2⟩
    case measure => simp [intOf]; omega
   ·have mz : ¬ (m : Int) < (l.length : Int) := by omega
    obtain rfl : m = l.length := by omega
    have hbd := lenS_bd HOK.out l.length (Nat.le_refl _)
    have HBE := HB
    clear hbd
    go_wp2
    go_ret2
    exact ⟨by rw [HV.out]; rfl, HBE.out⟩
 ·have hz : (r != 0) = true := by simpa using h0
  have HV : Hid (lenO l = (0, r)) := hide (by rw [HSP.out, if_neg h0])
  clear h0 HSP hr
  go_wp2
  go_ret2
  exact ⟨by rw [HV.out]; rfl, HB0.out⟩
end Go.Proofs.YtdfpbhlnlkjjlaaGreat

/- Outlines: the closures of edges. -/
namespace Go.Proofs.YtdfpbhlnlkjjlaaGreat
open Go.RowKit
set_option linter.unusedVariables false
set_option linter.unusedSimpArgs false
theorem edges1_any {w : World} {b : Nat} {x : Int} (hx : w.cell? ⟨b, 0, none⟩ = some (.int .i64 x)) (t : R4) :
  Calls Tryz.prog 65 (#[.agg (encR t).toArray] ++ #[.pointer (some ⟨b, 0, none⟩)]) w fun e w' => e = .returned (.bool (t.x1 == x)) ∧ Below w.heap.size w w' := by
 obtain ⟨a0, a1, a2, a3⟩ := t
 have hb : b < w.heap.size := lt_of_cell hx
 show Calls Tryz.prog 65 #[.agg #[.int .i64 a0, .int .i64 a1, .int .i64 a2, .int .i64 a3], .pointer (some ⟨b, 0, none⟩)] w fun e w' => e = .returned (.bool (a2 == x)) ∧ Below w.heap.size w w'
 go_enter Tryz.func65, Tryz.ntmps65
 go_wp2
 go_ret
 exact ⟨rfl, (Below.refl _ _).alloc (Nat.le_refl _) _⟩
theorem edges2_any {w : World} {b : Nat} {x : Int} (hx : w.cell? ⟨b, 0, none⟩ = some (.int .i64 x)) (t : R4) :
  Calls Tryz.prog 66 (#[.agg (encR t).toArray] ++ #[.pointer (some ⟨b, 0, none⟩)]) w fun e w' => e = .returned (.bool (t.x0 == x)) ∧ Below w.heap.size w w' := by
 obtain ⟨a0, a1, a2, a3⟩ := t
 have hb : b < w.heap.size := lt_of_cell hx
 show Calls Tryz.prog 66 #[.agg #[.int .i64 a0, .int .i64 a1, .int .i64 a2, .int .i64 a3], .pointer (some ⟨b, 0, none⟩)] w fun e w' => e = .returned (.bool (a0 == x)) ∧ Below w.heap.size w w'
 go_enter Tryz.func66, Tryz.ntmps66
 go_wp2
 go_ret
 exact ⟨rfl, (Below.refl _ _).alloc (Nat.le_refl _) _⟩
end Go.Proofs.YtdfpbhlnlkjjlaaGreat

/- Outlines: the closures of edges. -/
namespace Go.Proofs.YtdfpbhlnlkjjlaaGreat
open Go.RowKit
set_option linter.unusedVariables false
set_option linter.unusedSimpArgs false
theorem enter_edges1 : ∀ args w, (callFunc 65 args).run Tryz.prog w = .ok (.enter 65 args) w := enters_of Tryz.func65 (by kernel_rfl) rfl
theorem enter_edges2 : ∀ args w, (callFunc 66 args).run Tryz.prog w = .ok (.enter 66 args) w := enters_of Tryz.func66 (by kernel_rfl) rfl
def ysP (l : List R4) (p : R4 → Bool) : List Sp := (l.filter p).map fun t => (t.y0, t.y1)
def sideF (l : List R4) (p : R4 → Bool) : List Sp := sjoin hFst (ysP l p) []
theorem ysP_succ {l : List R4} {p : R4 → Bool} {k : Nat} {t : R4} (h : l[k]? = some t) : ysP (l.take (k + 1)) p = ysP (l.take k) p ++ (if p t then [(t.y0, t.y1)] else []) := by
 unfold ysP
 rw [List.take_add_one, h, List.filter_append, List.map_append]
 cases hp : p t <;> simp [hp]
theorem ysP_len (l : List R4) (p : R4 → Bool) : (ysP l p).length ≤ l.length := by unfold ysP; rw [List.length_map]; exact List.length_filter_le _ _
set_option maxRecDepth 100000 in
set_option maxHeartbeats 8000000 in
theorem side_any {w : World} {v : Value} {l : List R4} (g : Nat) (cb : Array Value) (p : R4 → Bool) (eg : ∀ args w, (callFunc g args).run Tryz.prog w = .ok (.enter g args) w) (hr : RdK encR 4 w w.heap.size v l) (hl : l.length ≤ 400) (hv : ∀ t ∈ l, validS (t.y0, t.y1))
  (hf : ∀ (W : World) (t : R4), Below w.heap.size w W → Calls Tryz.prog g (#[.agg (encR t).toArray] ++ cb) W fun e w' => e = .returned (.bool (p t)) ∧ Below W.heap.size W w') :
  Calls Tryz.prog 64 #[v, .func (.func g) #[] cb] w fun e w' => ∃ A c, e = .returned (.slice A (sideF l p).length c) ∧ w'.ownsRow w.heap.size 104 2 (.slice A (sideF l p).length c) (sideF l p).length ((sideF l p).flatMap encS) ∧ Below w.heap.size w w' := by
 obtain ⟨i1, gi, gz0, gz1, gz2⟩ := info_parts infoS
 have HF := hide hf
 obtain ⟨A, c, rfl, hc⟩ := hr
 have HR := hide hc
 have HV := hide hv
 clear hc hf hv
 go_enter Tryz.func64, Tryz.ntmps64
 go_wp2
 go_loopw [5, 12] (fun o i wr => ∃ (k : Nat) (Ao : Option Addr) (co : Nat), k ≤ l.length ∧ i = .int .i64 (k : Int) ∧ o = .slice Ao (ysP (l.take k) p).length co ∧ Hid (wr.ownsRow w.heap.size 104 2 (.slice Ao (ysP (l.take k) p).length co) (ysP (l.take k) p).length ((ysP (l.take k) p).flatMap encS)) ∧ Hid (Below w.heap.size w wr)) (fun _ i _ => l.length - (intOf i).toNat)
 case atStart => exact ⟨0, none, 0, Nat.zero_le _, rfl, rfl, hide (World.ownsRow_nil _ _ _ _), hide (Below.refl _ _)⟩
 case round =>
  obtain ⟨k, Ao, co, hk, rfl, rfl, HO, HB⟩ := hrel
  by_cases hlt : k < l.length
  ·have kz : (k : Int) < (l.length : Int) := by omega
   obtain ⟨⟨a0, a1, a2, a3⟩, ht⟩ : ∃ t, l[k]? = some t := ⟨_, List.getElem?_eq_getElem hlt⟩
   obtain ⟨b, o, rfl, hb, kc⟩ := HR.out (by intro e; rw [e] at hlt; simp at hlt)
   have d0 : wr.cell? ⟨b, o + k * 4, none⟩ = some (.int .i64 a0) := (HB.out.cell (p := ⟨b, _, none⟩) hb).trans (kc k _ ht 0 _ rfl)
   have d1 : wr.cell? ⟨b, o + k * 4 + 1, none⟩ = some (.int .i64 a1) := (HB.out.cell (p := ⟨b, _, none⟩) hb).trans (kc k _ ht 1 _ rfl)
   have d2 : wr.cell? ⟨b, o + k * 4 + 2, none⟩ = some (.int .i64 a2) := (HB.out.cell (p := ⟨b, _, none⟩) hb).trans (kc k _ ht 2 _ rfl)
   have d3 : wr.cell? ⟨b, o + k * 4 + 3, none⟩ = some (.int .i64 a3) := (HB.out.cell (p := ⟨b, _, none⟩) hb).trans (kc k _ ht 3 _ rfl)
   have hbr : b < wr.heap.size := Nat.lt_of_lt_of_le hb HB.out.size
   have HN := hide (ysP_succ (p := p) ht)
   have HLE : Hid ((ysP (l.take k) p).length ≤ 400) := hide (by have := ysP_len (l.take k) p; rw [List.length_take] at this; omega)
   clear ht kc
   go_upto_region 5 with fail
   refine wp_name fun w1 hw1 => ?_
   obtain ⟨q, hq⟩ : ∃ q, wr.heap.size = q := ⟨_, rfl⟩
   have hb1 : Below wr.heap.size wr w1 := by
    rw [hw1]
    repeat (first | with_reducible exact Below.refl _ _ | with_reducible refine Below.setCell ?_ (by first | (simp; done) | (simp; omega)) _ | with_reducible refine Below.alloc ?_ (by first | omega | (simp; omega) | simp) _)
   have e0 : w1.cell? ⟨q, 0, none⟩ = some (.int .i64 a0) := by rw [hw1, ← hq]; simp [go_sem]
   have e1 : w1.cell? ⟨q, 1, none⟩ = some (.int .i64 a1) := by rw [hw1, ← hq]; simp [go_sem]
   have e2 : w1.cell? ⟨q, 2, none⟩ = some (.int .i64 a2) := by rw [hw1, ← hq]; simp [go_sem]
   have e3 : w1.cell? ⟨q, 3, none⟩ = some (.int .i64 a3) := by rw [hw1, ← hq]; simp [go_sem]
   have hq1 : q < w1.heap.size := lt_of_cell e0
   have HB1 := hide (HB.out.trans (hb1.mono HB.out.size))
   have HO1 := hide (own_below HO.out hb1)
   rw [hq]
   clear hw1 hb1 hq d0 d1 d2 d3 hbr HO HB
   have hc : Calls Tryz.prog g (#[.agg #[.int .i64 a0, .int .i64 a1, .int .i64 a2, .int .i64 a3]] ++ cb) w1 fun e w' => e = .returned (.bool (p ⟨a0, a1, a2, a3⟩)) ∧ Below w1.heap.size w1 w' := HF.out w1 ⟨a0, a1, a2, a3⟩ HB1.out
   cases hp : p ⟨a0, a1, a2, a3⟩ with
   | true =>
    rw [hp] at hc HN
    clear hp
    go_wp2_with (fail)
    go_at_fn g
    refine hc.mono ?_
    rintro e w2 ⟨rfl, hb2⟩
    replace e0 := (hb2.cell (p := ⟨q, _, none⟩) hq1).trans e0
    replace e1 := (hb2.cell (p := ⟨q, _, none⟩) hq1).trans e1
    replace e2 := (hb2.cell (p := ⟨q, _, none⟩) hq1).trans e2
    replace e3 := (hb2.cell (p := ⟨q, _, none⟩) hq1).trans e3
    have hq2 : q < w2.heap.size := Nat.lt_of_lt_of_le hq1 hb2.size
    have HB2 := hide (HB1.out.trans (hb2.mono HB1.out.size))
    have HO2 := hide (own_below HO1.out hb2)
    have hws : w.heap.size ≤ w2.heap.size := HB2.out.size
    have hle := HLE.out
    clear hc hb2 hq1 HB1 HO1
    go_wp2_with (at_builtin; go_loud (refine wpList_append_lies _ rfl (.tmp 19) (.tmp 25) 99 rfl w.heap.size 104 i1 (.agg #[.int .i64 0, .int .i64 0]) 2 16 Tryz.underlying99 gi gz0 gz1 gz2 rfl (by decide) _ (ysP (l.take k) p).length _ rfl (World.ownsRow.alloc HO2.out _) ⟨w2.heap.size, 0, none⟩ 1 1 [.int .i64 a1, .int .i64 a3] rfl rfl (news_new w2 _ _ _ rfl) (ints_one rfl) (by omega) (by unfold maxLen; omega) (by omega) (by simp; omega) _ rfl ?_))
    intro g9 cap9 w9 hown9 hgrow9 _ _
    have HB9 : Hid (Below w.heap.size w w9) := hide ((HB2.out.alloc hws _).grown hgrow9 (by simp; omega) (fun q hq => (HO2.out.lt q hq).1))
    have HO9 : Hid (w9.ownsRow w.heap.size 104 2 (.slice (some ⟨g9, 0, none⟩) (ysP (l.take (k + 1)) p).length cap9) (ysP (l.take (k + 1)) p).length ((ysP (l.take (k + 1)) p).flatMap encS)) := hide (by
     rw [HN.out, if_pos trivial, List.length_append, List.flatMap_append]
     exact hown9)
    have HE : Hid ((ysP (l.take (k + 1)) p).length = (ysP (l.take k) p).length + 1) := hide (by rw [HN.out, if_pos trivial, List.length_append]; rfl)
    clear hown9 hgrow9
    go_wp2
    go_roundw
    case rel => exact ⟨k + 1, some ⟨g9, 0, none⟩, cap9, by omega, by go_num, by rw [HE.out], HO9, HB9⟩
    case measure => simp [intOf]; omega
   | false =>
    rw [hp] at hc HN
    clear hp
    go_wp2_with (fail)
    go_at_fn g
    refine hc.mono ?_
    rintro e w2 ⟨rfl, hb2⟩
    replace e0 := (hb2.cell (p := ⟨q, _, none⟩) hq1).trans e0
    replace e1 := (hb2.cell (p := ⟨q, _, none⟩) hq1).trans e1
    replace e2 := (hb2.cell (p := ⟨q, _, none⟩) hq1).trans e2
    replace e3 := (hb2.cell (p := ⟨q, _, none⟩) hq1).trans e3
    have hq2 : q < w2.heap.size := Nat.lt_of_lt_of_le hq1 hb2.size
    have HB2 := hide (HB1.out.trans (hb2.mono HB1.out.size))
    have HO2 := hide (own_below HO1.out hb2)
    have hws : w.heap.size ≤ w2.heap.size := HB2.out.size
    have hle := HLE.out
    clear hc hb2 hq1 HB1 HO1
    have HE : Hid (ysP (l.take (k + 1)) p = ysP (l.take k) p) := hide (by rw [HN.out]; simp)
    go_wp2
    go_roundw
    case rel => exact ⟨k + 1, Ao, co, by omega, by go_num, by rw [HE.out], hide (by rw [HE.out]; exact HO2.out), HB2⟩
    case measure => simp [intOf]; omega
  ·have kz : ¬ (k : Int) < (l.length : Int) := by omega
   obtain rfl : k = l.length := by omega
   rw [List.take_length] at HO
   have HCM := hide (spanMake_ok (w := wr) (v := .slice Ao (ysP l p).length co) (l := ysP l p) ((own_rd HO.out (fun _ => rfl))) (Nat.le_trans (ysP_len l p) hl) (fun x hx => by
    unfold ysP at hx
    obtain ⟨t, ht, rfl⟩ := List.mem_map.1 hx
    exact HV.out t (List.mem_filter.1 ht).1))
   have HBW := HB
   rw [List.take_length]
   go_wp2_with (fail)
   refine HCM.out.mono ?_
   rintro e w2 ⟨A2, c2, rfl, ho2, hb2⟩
   have HZ := hide ho2
   have HBZ := hide (HBW.out.trans (hb2.mono HBW.out.size))
   have HSZ := HBW.out.size
   clear ho2 hb2 HCM HB HO
   go_wp2
   go_ret
   exact ⟨A2, c2, rfl, own_base HZ.out HSZ, HBZ.out⟩
end Go.Proofs.YtdfpbhlnlkjjlaaGreat
