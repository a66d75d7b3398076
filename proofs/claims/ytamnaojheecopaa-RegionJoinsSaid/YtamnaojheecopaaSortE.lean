/- slices.SortFunc at span.end, by its closure. -/
import Derived.Test.YtamnaojheecopaaRegA
import Derived.Test.YtamnaojheecopaaOwn
import Derived.Test.YtamnaojheecopaaShelf
namespace Go.Proofs.Ytamnaojheecopaa
open Go.RowKit Go.Sort
set_option linter.unusedVariables false
set_option linter.unusedSimpArgs false

/-- An end in range: there the closure's subtraction does not wrap. -/
abbrev BE := { e : En // -1000000 ≤ e.1 ∧ e.1 ≤ 1000000 }
instance : Inhabited BE := ⟨⟨(0, 0, 0), by decide⟩⟩
def encB (e : BE) : List Value := encE e.1
def cfE (x y : BE) : Int := x.1.1 - y.1.1
theorem lift_be : ∀ (E : List En), (∀ e ∈ E, -1000000 ≤ e.1 ∧ e.1 ≤ 1000000) → ∃ L : List BE, L.map (·.1) = E
  | [], _ => ⟨[], rfl⟩
  | e :: E, h => by
    obtain ⟨L, hL⟩ := lift_be E fun x hx => h x (by simp [hx])
    exact ⟨⟨e, h e (by simp)⟩ :: L, by simp [hL]⟩
theorem flat_be (L : List BE) : L.flatMap encB = (L.map (·.1)).flatMap encE := by
  rw [List.flatMap_map]; rfl
theorem swoE : SWO (ltOf cfE) where
  irrefl x := by simp [ltOf, cfE]
  trans x y z h1 h2 := by
    unfold ltOf cfE at *
    have a := of_decide_eq_true h1
    have b := of_decide_eq_true h2
    exact decide_eq_true (by omega)
  ntrans x y z h1 h2 := by
    unfold ltOf cfE at *
    have a := of_decide_eq_false h1
    have b := of_decide_eq_false h2
    exact decide_eq_false (by omega)

set_option maxHeartbeats 1000000 in
theorem cmpE_any (x y : BE) (W : World) : Calls Try.prog 104 #[.agg (encB x).toArray, .agg (encB y).toArray] W fun e w' => e = .returned (.int .i64 (cfE x y)) ∧ ∃ q os', w' = grow (W.drewN q) os' := by
  obtain ⟨⟨a, b, c⟩, hx⟩ := x
  obtain ⟨⟨d, e, f⟩, hy⟩ := y
  show Calls Try.prog 104 #[.agg #[.int .i64 a, .int .i64 b, .int .i64 c], .agg #[.int .i64 d, .int .i64 e, .int .i64 f]] W fun r w' => r = .returned (.int .i64 (a - d)) ∧ ∃ q os', w' = grow (W.drewN q) os'
  simp only at hx hy
  obtain ⟨x1, x2⟩ := hx
  obtain ⟨y1, y2⟩ := hy
  go_enter Try.func104, Try.ntmps104
  go_wp2
  go_ret
  exact ⟨rfl, 0, _, by rw [alloc_eq_grow, alloc_eq_grow, grow_grow]; rfl⟩

/-- The sort's contract: the row then holds the ends in order; all else is as it was. -/
theorem sortE_any (base : Nat) (v : Value) (E : List En) (hB : ∀ e ∈ E, -1000000 ≤ e.1 ∧ e.1 ≤ 1000000) (w : World) (hown : w.ownsRow base 123 3 v E.length (E.flatMap encE)) (hsz : E.length < 4611686018427387904) :
    Calls Try.prog 103 #[v, .func (.func 104) #[] #[]] w fun e w' => e = .returned (.tuple #[]) ∧
      ∃ E' : List En, E'.Perm E ∧ E'.Pairwise (fun a b => a.1 ≤ b.1) ∧ w'.ownsRow base 123 3 v E'.length (E'.flatMap encE) ∧ w.grownBy w' v.ownBlock := by
  by_cases h0 : E = []
  · subst h0
    obtain ⟨p, cap, hv⟩ : ∃ p cap, v = .slice p 0 cap := by
      rcases hown.2 with ⟨rfl, _⟩ | ⟨g, cap, cur, rfl, _⟩
      · exact ⟨_, _, rfl⟩
      · exact ⟨_, _, rfl⟩
    subst hv
    have h := AnyF.slices_SortFunc_none Try.sortEnd p cap (.func (.func 104) #[] #[]) w
    change Calls Try.prog 103 _ _ _ at h
    refine h.mono ?_
    rintro e w' ⟨rfl, rfl⟩
    exact ⟨rfl, [], .refl _, .nil, hown, ⟨rfl, rfl, rfl, Nat.le_refl _, fun _ _ _ => rfl⟩⟩
  · obtain ⟨L, hL⟩ := lift_be E hB
    have hlen : L.length = E.length := by rw [← hL]; simp
    have hown0 := hown
    rw [← hL, ← flat_be, List.length_map] at hown
    obtain ⟨g, cap, rfl, hbg, hg⟩ := hown.form (by rw [hlen]; exact List.length_pos_iff.2 h0)
    have hk : ∀ x : BE, (encB x).length = 3 := fun _ => rfl
    have hcon := AnyQ.slices_SortFunc Try.sortEnd 3 Try.isAgg123 Try.sizeOf123 encB hk (fun x v hv => by simp [encB, encE] at hv; rcases hv with rfl | rfl | rfl <;> rfl) cfE swoE 104 #[] g 0 cap L.toArray w
      (enters_of Try.func104 (by kernel_rfl) rfl) (fun _ _ _ _ x y => cmpE_any x y _) (own_holds hk hown) hg (by simpa [hlen] using hsz)
    change Calls Try.prog 103 _ _ _ at hcon
    rw [List.size_toArray] at hcon
    refine hcon.mono ?_
    rintro e w' ⟨rfl, d', n, os, hp, hs, rfl⟩
    obtain ⟨hp1, _, hp3⟩ := hp
    have hsz' : d'.toList.length = L.length := by simpa using hp1
    have hperm : d'.toList.Perm L := by
      have e1 : (d'.extract 0 L.length).toList = d'.toList := by
        rw [Array.toList_extract, List.extract_eq_take_drop, List.drop_zero, Nat.sub_zero, ← hsz', List.take_length]
      have e2 : (L.toArray.extract 0 L.length).toList = L := by
        simp [List.extract]
      rw [e1, e2] at hp3
      exact hp3
    obtain ⟨o1, o2⟩ := own_sorted (n := n) (l' := d'.toList) hk os hown hsz'
    have eW : d'.toList.toArray = d' := by simp
    rw [eW] at o1 o2
    refine ⟨rfl, d'.toList.map (·.1), ?_, ?_, ?_, o2⟩
    · rw [← hL]; exact hperm.map _
    · rw [List.pairwise_map, List.pairwise_iff_getElem]
      intro i j hi hj hij
      have := hs i j (Nat.zero_le _) hij (by rw [← hsz']; exact hj)
      have hi' : i < d'.size := by simpa using hi
      have hj' : j < d'.size := by simpa using hj
      rw [getElem!_pos d' i hi', getElem!_pos d' j hj'] at this
      unfold ltOf cfE at this
      have := of_decide_eq_false this
      rw [Array.getElem_toList, Array.getElem_toList]
      omega
    · rw [List.length_map, ← flat_be, ← hsz']
      rw [hsz'] at o1 ⊢
      exact o1
end Go.Proofs.Ytamnaojheecopaa
