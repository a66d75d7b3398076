/- span.ends: the ends of the spans of two lists, in order, as an iterator. -/
import Derived.Test.YtamnaojheecopaaSortE
import Derived.Test.YtamnaojheecopaaValues
import Derived.OwnWalk
namespace Go.Proofs.Ytamnaojheecopaa
open Go.RowKit Go.Sort
set_option linter.unusedVariables false
set_option linter.unusedSimpArgs false

theorem evs_append (i : Int) (s t : List Sp) : evs i (s ++ t) = evs i s ++ evs i t := by
  induction s with
  | nil => rfl
  | cons p s ih => simp [evs, ih]
theorem evs_length (i : Int) (s : List Sp) : (evs i s).length = 2 * s.length := by
  induction s with
  | nil => rfl
  | cons p s ih => simp [evs, ih]; omega
theorem evs_take (i : Int) (s : List Sp) (m : Nat) (p : Sp) (h : s[m]? = some p) : evs i (s.take (m + 1)) = evs i (s.take m) ++ [(p.1, i, 1), (p.2, i, -1)] := by
  obtain ⟨hm, hp⟩ := List.getElem?_eq_some_iff.1 h
  rw [List.take_succ_eq_append_getElem hm, hp, evs_append]; rfl
theorem evs_mem {i : Int} {s : List Sp} {e : En} (h : e ∈ evs i s) : ∃ p ∈ s, (e.1 = p.1 ∨ e.1 = p.2) ∧ e.2.1 = i ∧ (e.2.2 = 1 ∨ e.2.2 = -1) := by
  induction s with
  | nil => simp [evs] at h
  | cons p s ih =>
    simp only [evs, List.mem_cons] at h
    rcases h with rfl | rfl | h
    · exact ⟨p, by simp, by simp⟩
    · exact ⟨p, by simp, by simp⟩
    · obtain ⟨q, hq, h⟩ := ih h
      exact ⟨q, by simp [hq], h⟩
/-- What the first k lists give. -/
def evK (a b : List Sp) (k : Nat) : List En := if k = 0 then [] else if k = 1 then evs 0 a else evs 0 a ++ evs 1 b

theorem infoE : (Try.prog.info? 123).map (fun i => (i.zero, i.size, i.bytes)) = some (some (.agg #[.int .i64 0, .int .i64 0, .int .i64 0]), 3, 24) := by kernel_rfl
theorem rel_push {w1 : World} {base : Nat} {v1 : Value} {P : List En} {x y : En} {cells : List Value} (h : w1.ownsRow base 123 3 v1 (P.length + 2) (P.flatMap encE ++ cells)) (hc : cells = encE x ++ encE y) :
    w1.ownsRow base 123 3 v1 (P ++ [x, y]).length ((P ++ [x, y]).flatMap encE) := by
  rw [List.flatMap_append, List.length_append]
  subst hc
  simpa using h

set_option maxHeartbeats 2000000 in
theorem ends_loop (a b : List Sp) (L c : Nat) (va vb : Value) (w : World) (hL : L < w.heap.size) (h0 : w.cell? ⟨L, 0, none⟩ = some va) (h1 : w.cell? ⟨L, 1, none⟩ = some vb)
    (ra : RdK encS 2 w w.heap.size va a) (rb : RdK encS 2 w w.heap.size vb b) (na : a.length ≤ 100000000) (nb : b.length ≤ 100000000) (ba : ∀ p ∈ a, validS p) (bb : ∀ p ∈ b, validS p) :
    Calls Try.prog 91 #[.slice (some ⟨L, 0, none⟩) 2 c] w fun e w' => ∃ (E : List En) (Bx rw : Nat), e = .returned (.func (.func 113) #[] #[.pointer (some ⟨Bx, 0, none⟩)]) ∧
      E.Perm (evs 0 a ++ evs 1 b) ∧ E.Pairwise (fun a b => a.1 ≤ b.1) ∧ Below w.heap.size w w' ∧ w.heap.size ≤ rw ∧ rw < w'.heap.size ∧
      Iter Try.prog 113 #[.pointer (some ⟨Bx, 0, none⟩)] E (fun x args _ => args = #[.agg (encE x).toArray]) (KpB rw) w' := by
  obtain ⟨i0, hi, hz0, hz1, hz2⟩ := info_parts infoE
  go_enter Try.func91, Try.ntmps91
  go_wp2
  go_loopw [3, 10] (fun v i wr => ∃ k : Nat, k ≤ 2 ∧ i = .int .i64 k ∧ wr.ownsRow w.heap.size 123 3 v (evK a b k).length ((evK a b k).flatMap encE) ∧ Below w.heap.size w wr)
    (fun _ i _ => 2 - (intOf i).toNat)
  case atStart => exact ⟨0, by omega, rfl, World.ownsRow_nil _ _ _ _, Below.refl _ _⟩
  case round =>
    obtain ⟨k, hk, rfl, hown, hb⟩ := hrel
    by_cases hlt : k < 2
    · obtain ⟨l, v, hc, hr, hn, hv, hK, hnK⟩ : ∃ l v, wr.cell? ⟨L, k, none⟩ = some v ∧ RdK encS 2 w w.heap.size v l ∧ l.length ≤ 100000000 ∧ (∀ p ∈ l, validS p) ∧ evK a b (k + 1) = evK a b k ++ evs k l ∧ (evK a b k).length ≤ 2000000000 := by
        rcases (show k = 0 ∨ k = 1 by omega) with rfl | rfl
        · exact ⟨a, va, (hb.cell (p := ⟨L, 0, none⟩) hL).trans h0, ra, na, ba, rfl, by simp [evK]⟩
        · exact ⟨b, vb, (hb.cell (p := ⟨L, 1, none⟩) hL).trans h1, rb, nb, bb, rfl, by show (evs 0 a).length ≤ _; rw [evs_length]; omega⟩
      obtain ⟨A, c0, rfl, hcl⟩ := hr
      have HK := hide hK
      have HV := hide hv
      have HR := hide hcl
      generalize evK a b k = P at *
      generalize wr = w1 at *
      clear hK hv hcl h0 h1 ra rb na nb ba bb
      have hkz : (k : Int) < 2 := by omega
      go_wp2
      go_loopw [3, 17] (fun u j wi => ∃ m : Nat, m ≤ l.length ∧ j = .int .i64 m ∧ wi.ownsRow w.heap.size 123 3 u (P ++ evs k (l.take m)).length ((P ++ evs k (l.take m)).flatMap encE) ∧ Below w.heap.size w wi)
        (fun _ j _ => l.length - (intOf j).toNat)
      case atStart => exact ⟨0, by omega, rfl, by simpa [evs] using hown, hb⟩
      case round =>
        obtain ⟨m, hm, rfl, hownm, hbm⟩ := hrel
        by_cases hml : m < l.length
        · obtain ⟨p, hp⟩ : ∃ p, l[m]? = some p := ⟨_, List.getElem?_eq_getElem hml⟩
          obtain ⟨x, y⟩ := p
          have hne : l ≠ [] := by intro e; rw [e] at hml; simp at hml
          obtain ⟨bk, off, rfl, hbk, hcell⟩ := HR.out hne
          have c0' : wr.cell? ⟨bk, off + m * 2, none⟩ = some (.int .i64 x) := (hbm.cell hbk).trans (hcell m _ hp 0 _ rfl)
          have c1' : wr.cell? ⟨bk, off + m * 2 + 1, none⟩ = some (.int .i64 y) := (hbm.cell hbk).trans (hcell m _ hp 1 _ rfl)
          have hmz : (m : Int) < (l.length : Int) := by omega
          clear hcell
          have hlenE : (P ++ evs k (l.take m)).length ≤ 4000000000 := by rw [List.length_append, evs_length, List.length_take]; omega
          have hbs := hbm.size
          have HE : Hid (P ++ evs k (l.take (m + 1)) = P ++ evs k (l.take m) ++ [(x, (k : Int), 1), (y, (k : Int), -1)]) := hide (by rw [evs_take k l m _ hp, List.append_assoc])
          generalize P ++ evs k (l.take m) = E0 at *
          go_wp2_with (at_builtin; go_loud (refine wpList_append_lies _ rfl (.tmp 21) (.tmp 30) 137 rfl w.heap.size 123 i0 (.agg #[.int .i64 0, .int .i64 0, .int .i64 0]) 3 24 Try.underlying137 hi hz0 hz1 hz2 rfl (by decide) _ _ _ rfl ((hownm.alloc _).alloc _) ⟨wr.heap.size + 1, 0, none⟩ 2 2 [.int .i64 x, .int .i64 k, .int .i64 1, .int .i64 y, .int .i64 k, .int .i64 (-1)] rfl rfl (news_new (wr.alloc _) _ _ _ (by simp)) (ints_one rfl) (by omega) (by unfold maxLen; omega) (by omega) (by simp; omega) _ rfl ?_))
          intro g cap w2 hown2 hgrow _ _
          have R := rel_push (x := (x, (k : Int), 1)) (y := (y, (k : Int), -1)) hown2 rfl
          rw [← HE.out] at R
          have hb2 : Below w.heap.size w w2 := ((hbm.alloc (by omega) _).alloc (by simp; omega) _).grown hgrow (by simp; omega) fun k h => (hownm.lt k h).1
          clear hown2 hgrow hownm hown
          go_wp2
          go_roundw
          case rel => exact ⟨m + 1, by omega, by go_num, R, hb2⟩
          case measure => simp [intOf]; omega
        · have hme : ¬ (m : Int) < (l.length : Int) := by omega
          have hmt : l.take m = l := List.take_of_length_le (by omega)
          rw [hmt, ← HK.out] at hownm
          clear hmt hown
          go_wp2
          go_roundw
          case rel => exact ⟨k + 1, by omega, by go_num, hownm, hbm⟩
          case measure => simp [intOf]; omega
    · obtain rfl : k = 2 := by omega
      have hE : evK a b 2 = evs 0 a ++ evs 1 b := rfl
      rw [hE] at hown
      have hl : (evs 0 a ++ evs 1 b).length ≤ 400000000 := by rw [List.length_append, evs_length, evs_length]; omega
      have hin : ∀ e ∈ evs 0 a ++ evs 1 b, -1000000 ≤ e.1 ∧ e.1 ≤ 1000000 := by
        intro e he
        have key : ∃ p, validS p ∧ (e.1 = p.1 ∨ e.1 = p.2) := by
          rcases List.mem_append.1 he with he | he
          · obtain ⟨p, hp, h, _⟩ := evs_mem he
            exact ⟨p, ba p hp, h⟩
          · obtain ⟨p, hp, h, _⟩ := evs_mem he
            exact ⟨p, bb p hp, h⟩
        obtain ⟨p, ⟨v1, v2, v3⟩, h⟩ := key
        omega
      clear hE h0 h1 ra rb na nb ba bb
      have HE : ∃ E0, Hid (evs 0 a ++ evs 1 b = E0) := ⟨_, hide rfl⟩
      obtain ⟨E0, HE⟩ := HE
      rw [HE.out] at hown hin hl
      obtain ⟨A0, c0, hv, _⟩ := own_rd hown (fun _ => rfl)
      subst hv
      go_wp2_with (first
        | (go_at_call 103; refine (sortE_any w.heap.size _ E0 hin _ hown (by omega)).mono ?_; rintro e w1 ⟨rfl, E1, hp, hs, ho, hg⟩)
        | (go_at_call 105; refine (values_any _ _ rfl).mono ?_; rintro e w2 ⟨rfl, rfl⟩))
      go_ret
      have hb1 : Below w.heap.size w w1 := hb.grown hg hb.size fun k h => (hown.lt k h).1
      have hlen : E1.length = E0.length := hp.length_eq
      have hrd := own_rd ho (fun _ => rfl)
      obtain ⟨A1, c1, e1, hcl⟩ := hrd
      rw [hlen] at e1
      injection e1 with e2 _ e3
      subst e2; subst e3
      have hw2 : ∀ b o, b < w1.heap.size → (w1.alloc (.cells #[.slice A0 E0.length c0] 137)).cell? ⟨b, o, none⟩ = w1.cell? ⟨b, o, none⟩ := fun b o h => World.cell?_alloc_lt w1 _ ⟨b, o, none⟩ h
      have hbx : (w1.alloc (.cells #[.slice A0 E0.length c0] 137)).cell? ⟨w1.heap.size, 0, none⟩ = some (.slice A0 E1.length c0) := by rw [hlen]; simp [go_sem]
      by_cases h0 : E1 = []
      · refine ⟨E1, w1.heap.size, w1.heap.size, rfl, HE.out ▸ hp, hs, hb1.alloc hb1.size _, hb1.size, by simp, ?_⟩
        exact values1_iter w1.heap.size w1.heap.size 0 c0 E1 _ (by omega) A0 (by simp) hbx fun h => absurd h0 h
      · obtain ⟨bk, off, rfl, hbk, hc⟩ := hcl h0
        refine ⟨E1, w1.heap.size, bk, rfl, HE.out ▸ hp, hs, hb1.alloc hb1.size _, (ho.lt bk rfl).1, by simp; omega, ?_⟩
        exact values1_iter w1.heap.size bk off c0 E1 _ (by omega) _ (by simp) hbx fun h => ⟨rfl, by simp; omega, fun j x hx i u hu => (hw2 _ _ hbk).trans (hc j x hx i u hu)⟩
end Go.Proofs.Ytamnaojheecopaa
