/- The reference's Canon. -/
import Derived.Test.YtamnaojheecopaaRefS
namespace Go.Proofs.Ytamnaojheecopaa
open Go.RowKit
set_option linter.unusedVariables false
set_option linter.unusedSimpArgs false

def encBo (x : Bool) : List Value := [.bool x]
theorem flat_encBo (l : List Bool) : l.flatMap encBo = l.map Value.bool := by
  induction l with
  | nil => rfl
  | cons a l ih => simp [List.flatMap_cons, encBo, ih]
/-- The canonical list behind m cuts. -/
def canP (cs : List Int) (bs : List Bool) (m : Nat) : List Sp := (((prs cs).zip bs).take m).foldl (fun out x => if x.2 then sext out x.1.1 x.1.2 else out) []
theorem canP_zero (cs : List Int) (bs : List Bool) : canP cs bs 0 = [] := rfl
theorem canP_step {cs : List Int} {bs : List Bool} {m : Nat} {c d : Int} {p : Bool} (hc : cs[m]? = some c) (hd : cs[m + 1]? = some d) (hp : bs[m]? = some p) : canP cs bs (m + 1) = if p then sext (canP cs bs m) c d else canP cs bs m := by
  have h := prs_get cs m c d hc hd
  have hz : ((prs cs).zip bs)[m]? = some ((c, d), p) := by rw [List.getElem?_zip_eq_some]; exact ⟨h, hp⟩
  obtain ⟨i1, e1⟩ := List.getElem?_eq_some_iff.1 hz
  unfold canP
  rw [List.take_succ_eq_append_getElem i1, List.foldl_append, e1]
  rfl
theorem canP_all {cs : List Int} {bs : List Bool} {m : Nat} (hm : cs.length ≤ m + 1) : canP cs bs m = canF cs bs := by
  unfold canP canF
  rw [List.take_of_length_le]
  have := prs_len cs
  simp; omega
theorem canP_len (cs : List Int) (bs : List Bool) (m : Nat) : (canP cs bs m).length ≤ cs.length := by
  have h1 := canF_len_from (((prs cs).zip bs).take m) []
  have h2 := prs_len cs
  have h3 : (((prs cs).zip bs).take m).length ≤ (prs cs).length := by simp; omega
  unfold canP
  simp at h1 h3 ⊢
  omega

set_option maxRecDepth 100000 in
set_option maxHeartbeats 4000000 in
theorem rCanon_any {w : World} {vc vb : Value} {cs : List Int} {bs : List Bool} {B : Nat} (hc : RdK encI 1 w B vc cs) (hb : RdK encBo 1 w B vb bs) (hB : B ≤ w.heap.size) (hl : cs.length ≤ 100000000) (hlen : bs.length = cs.length) :
    Calls Try.prog 51 #[vc, vb] w fun e w' => ∃ vo, e = .returned vo ∧ w'.ownsRow w.heap.size 78 2 vo (canF cs bs).length ((canF cs bs).flatMap encS) ∧ Below w.heap.size w w' := by
  obtain ⟨i1, gi, gz0, gz1, gz2⟩ := info_parts infoSp
  obtain ⟨A, c0, rfl, hca⟩ := hc
  obtain ⟨A2, c2, rfl, hcb⟩ := hb
  have HA := hide hca
  have HB0 := hide hcb
  have HLN := hide hlen
  clear hca hcb
  have hbl : bs.length ≤ 100000000 := by omega
  clear hlen
  go_enter Try.func51, Try.ntmps51
  go_wp2
  go_loopw [5, 6, 7] (fun v i _ wr => ∃ m : Nat, (m = 0 ∨ m < cs.length) ∧ i = .int .i64 m ∧ ∃ Av n cv, v = .slice Av n cv ∧ Hid (wr.ownsRow w.heap.size 78 2 v n ((canP cs bs m).flatMap encS)) ∧ Hid (Below w.heap.size w wr)) (fun _ i _ _ => cs.length - (intOf i).toNat)
  case atStart => exact ⟨0, .inl rfl, rfl, none, 0, 0, rfl, hide (World.ownsRow_nil _ _ _ _), hide (Below.refl _ _)⟩
  case round =>
    obtain ⟨m, hm, rfl, Av, n, cv, rfl, HO, HB⟩ := hrel
    by_cases hlt : m + 1 < cs.length
    · obtain ⟨c, hc⟩ : ∃ c, cs[m]? = some c := ⟨_, List.getElem?_eq_getElem (by omega)⟩
      obtain ⟨d, hd⟩ : ∃ d, cs[m + 1]? = some d := ⟨_, List.getElem?_eq_getElem hlt⟩
      have hbm : m < bs.length := by rw [HLN.out]; omega
      obtain ⟨p, hp⟩ : ∃ p, bs[m]? = some p := ⟨_, List.getElem?_eq_getElem hbm⟩
      obtain ⟨bk, off, rfl, hbk, kc⟩ := HA.out (by intro e; rw [e] at hlt; simp at hlt)
      obtain ⟨b2, off2, rfl, hb2, kb⟩ := HB0.out (by intro e; rw [e] at hbm; simp at hbm)
      have dW : ∀ W, Below w.heap.size w W → W.cell? ⟨bk, off + m, none⟩ = some (.int .i64 c) ∧ W.cell? ⟨bk, off + (m + 1), none⟩ = some (.int .i64 d) := fun W hW =>
        ⟨(hW.cell (p := ⟨bk, _, none⟩) (by show bk < _; omega)).trans (by have := kc m _ hc 0 _ rfl; rwa [Nat.mul_one] at this), (hW.cell (p := ⟨bk, _, none⟩) (by show bk < _; omega)).trans (by have := kc (m + 1) _ hd 0 _ rfl; rwa [Nat.mul_one] at this)⟩
      have eW : wr.cell? ⟨b2, off2 + m, none⟩ = some (.bool p) := (HB.out.cell (p := ⟨b2, _, none⟩) (by show b2 < _; omega)).trans (by have := kb m _ hp 0 _ rfl; rwa [Nat.mul_one] at this)
      have DW := hide dW
      have mz : (m : Int) + 1 < (cs.length : Int) := by omega
      have mz2 : (m : Int) < (bs.length : Int) := by omega
      have mz3 : (m : Int) < (cs.length : Int) := by omega
      have hT := canP_step hc hd hp
      have hSl := canP_len cs bs m
      have HN := hide (own_len (k := 2) HO.out (fun _ => rfl) (by omega))
      have hn : n ≤ 100000000 := by have := HN.out; omega
      obtain ⟨d0, d1⟩ := dW wr HB.out
      clear kc kb dW hc hd hp
      generalize canP cs bs m = S at *
      cases p with
      | false =>
        have HT : Hid (canP cs bs (m + 1) = S) := hide hT
        clear hT
        go_wp2
        go_roundw
        case rel => exact ⟨m + 1, by omega, by go_num, Av, n, cv, rfl, hide (by rw [HT.out]; exact HO.out), HB⟩
        case measure => simp [intOf]; omega
      | true =>
        have HT : Hid (canP cs bs (m + 1) = sext S c d) := hide hT
        clear hT
        rcases List.eq_nil_or_concat S with hS | ⟨q, ⟨x, y⟩, hS⟩
        · have hn0 : n = 0 := by rw [HN.out, hS]; rfl
          have HE : Hid (sext S c d = S ++ [(c, d)]) := hide (by rw [hS]; rfl)
          clear hS HN hn
          subst hn0
          go_wp2
          go_quiet (fail)
          refine name_exit fun wd hwd => ?_
          have hbd : Below w.heap.size w wd := by rw [hwd]; exact below_drewN HB.out _
          have hod : wd.ownsRow w.heap.size 78 2 (.slice Av 0 cv) (0) (S.flatMap encS) := by rw [hwd]; exact HO.out
          obtain ⟨k1, k2⟩ := DW.out wd hbd
          have HBD := hide hbd
          have HOD := hide hod
          have hsz := hbd.size
          have hbkd : bk < wd.heap.size := by omega
          clear hwd hod hbd
          go_wp2
          have r1 : IntKind.i64.wrap ((m : Int) + 1) = (m : Int) + 1 := by simp [IntKind.wrap, IntKind.bits, IntKind.signed]; omega
          have r2 : (0 : Int) ≤ (m : Int) + 1 := by omega
          have r3 : (m : Int) + 1 < (cs.length : Int) := by omega
          have r4 : ((m : Int) + 1).toNat = m + 1 := by omega
          have r5 : (m : Int) < (cs.length : Int) := by omega
          have r6 : (0 : Int) ≤ (m : Int) := by omega
          refine wp_region_reads 11 (fun w' => w'.cell? ⟨bk, off + m, none⟩ = some (.int .i64 c) ∧ w'.cell? ⟨bk, off + (m + 1), none⟩ = some (.int .i64 d)) (by kernel_rfl) (by kernel_rfl) ⟨k1, k2⟩ ?_
          simp only [List.take_succ_cons, List.take_zero, List.drop_succ_cons, List.drop_zero]
          iterate 11
            refine ⟨?_, Or.inl ⟨by rfl, ?_⟩, ?_⟩
            rotate_left 1
            · intro w' hSw
              obtain ⟨z1, z2⟩ := hSw
              go_simp
              first | done | with_reducible rfl
            simp only [Act.put, List.setIfInBounds_toArray, List.set_cons_zero, List.set_cons_succ]
          clear r1 r2 r3 r4 r5 r6
          simp only [wpReads]
          intro K hK
          go_simp
          refine hK _ _ (fun _ => ⟨by go_keep, by go_keep⟩) ?_
          clear hK K
          intro K hK
          refine step_append_lies _ rfl (.tmp 47) (.tmp 58) 48 rfl w.heap.size 78 i1 (.agg #[.int .i64 0, .int .i64 0]) 2 16 Try.underlying48 gi gz0 gz1 gz2 rfl (by decide) _ _ _ rfl (own_drew (World.ownsRow.alloc (w := wd) HOD.out _)) ⟨wd.heap.size, 0, none⟩ 1 1 [.int .i64 c, .int .i64 d] rfl rfl (news_drew wd _ _ _ rfl) (ints_one rfl) (by omega) (by unfold maxLen; omega) (by omega) (by simp; omega) _ rfl ?_
          intro g9 cap9 w9 hown9 hgrow9 _ _
          have hb9 : Below w.heap.size w w9 := ((HBD.out.alloc hsz _).drew).grown hgrow9 (by simp; omega) (fun q hq => (HOD.out.lt q hq).1)
          have hx9 : S.flatMap encS ++ [.int .i64 c, .int .i64 d] = (S ++ [(c, d)]).flatMap encS := by simp [encS]
          rw [hx9, ← HE.out] at hown9
          have HO9 := hide hown9
          have HB9 := hide hb9
          clear hown9 hgrow9 hx9 hb9
          refine hK _ _ (fun _ => DW.out _ HB9.out) ?_
          clear hK K
          intro K hK
          simp only [Act.put, List.setIfInBounds_toArray, List.set_cons_zero, List.set_cons_succ] at hK ⊢
          go_simp
          refine hK _ _ (fun h => absurd rfl h) ?_
          clear hK K
          refine NoPanic.normal ?_
          go_wp2
          go_roundw
          case rel => exact ⟨m + 1, by omega, by go_num, _, _, cap9, rfl, hide (by rw [HT.out]; exact HO9.out), HB9⟩
          case measure => simp [intOf]; omega
        · rw [List.concat_eq_append] at hS
          obtain ⟨j, hj⟩ : ∃ j, q.length = j := ⟨_, rfl⟩
          have hn1 : n = j + 1 := by rw [HN.out, hS, List.length_append, hj]; rfl
          clear HN
          subst hn1
          obtain ⟨g, cap, hv, hBg, hgw⟩ := HO.out.form (by omega)
          injection hv with e1 _ e3
          subst e1; subst e3
          have cy : wr.cell? ⟨g, j * 2 + 1, none⟩ = some (.int .i64 y) := by
            have := (HO.out.cells (g := g) rfl) _ _ (flat_get (k := 2) (fun _ => rfl) S j (x, y) 1 _ (by rw [hS, List.getElem?_append_right (by omega), hj]; simp) rfl)
            rwa [addr_add] at this
          have q1 : (0 : Int) < (j : Int) + 1 := by omega
          have q2 : (j : Int) < (j : Int) + 1 := by omega
          have q3 : IntKind.i64.wrap ((j : Int) + 1 - 1) = j := by simp [IntKind.wrap, IntKind.bits, IntKind.signed]; omega
          have q4 : (0 : Int) ≤ (j : Int) := by omega
          have HJ := hide hj
          have HS := hide hS
          clear hj hS
          by_cases hyc : y = c
          · subst hyc
            have hee : (y == y) = true := by simp
            have HE : Hid (sext S y d = q ++ [(x, d)]) := hide (by rw [HS.out]; unfold sext; simp)
            go_wp2
            go_quiet (fail)
            refine name_exit fun wd hwd => ?_
            have hbd : Below w.heap.size w wd := by rw [hwd]; exact below_drewN HB.out _
            have hod : wd.ownsRow w.heap.size 78 2 (.slice (some ⟨g, 0, none⟩) (j + 1) cv) (j + 1) (S.flatMap encS) := by rw [hwd]; exact HO.out
            have cy2 : wd.cell? ⟨g, j * 2 + 1, none⟩ = some (.int .i64 y) := by rw [hwd]; exact cy
            have f2 : wd.frozen? ⟨g, j * 2 + 1, none⟩ = false := hod.frozenAt _
            have hst := hod.stored (j * 2 + 1) (.int .i64 d)
            have hset := set_last q x y d
            rw [HJ.out, ← HS.out] at hset
            rw [hset] at hst
            obtain ⟨k1, k2⟩ := DW.out wd hbd
            have HST := hide hst
            have HBD := hide hbd
            clear hwd hod hbd hst hset cy
            go_wp2
            go_roundw
            case rel => exact ⟨m + 1, by omega, by go_num, _, _, cv, rfl, hide (by rw [HT.out, HE.out]; exact HST.out.1), hide (HBD.out.setCell hBg _)⟩
            case measure => simp [intOf]; omega
          · have hee : (y == c) = false := by simpa using hyc
            have HE : Hid (sext S c d = S ++ [(c, d)]) := hide (by rw [HS.out]; unfold sext; simp [hyc])
            clear hyc
            go_wp2
            go_quiet (fail)
            refine name_exit fun wd hwd => ?_
            have hbd : Below w.heap.size w wd := by rw [hwd]; exact below_drewN HB.out _
            have hod : wd.ownsRow w.heap.size 78 2 (.slice (some ⟨g, 0, none⟩) (j + 1) cv) (j + 1) (S.flatMap encS) := by rw [hwd]; exact HO.out
            obtain ⟨k1, k2⟩ := DW.out wd hbd
            have HBD := hide hbd
            have HOD := hide hod
            have hsz := hbd.size
            have hbkd : bk < wd.heap.size := by omega
            clear hwd hod hbd
            go_wp2
            have r1 : IntKind.i64.wrap ((m : Int) + 1) = (m : Int) + 1 := by simp [IntKind.wrap, IntKind.bits, IntKind.signed]; omega
            have r2 : (0 : Int) ≤ (m : Int) + 1 := by omega
            have r3 : (m : Int) + 1 < (cs.length : Int) := by omega
            have r4 : ((m : Int) + 1).toNat = m + 1 := by omega
            have r5 : (m : Int) < (cs.length : Int) := by omega
            have r6 : (0 : Int) ≤ (m : Int) := by omega
            refine wp_region_reads 11 (fun w' => w'.cell? ⟨bk, off + m, none⟩ = some (.int .i64 c) ∧ w'.cell? ⟨bk, off + (m + 1), none⟩ = some (.int .i64 d)) (by kernel_rfl) (by kernel_rfl) ⟨k1, k2⟩ ?_
            simp only [List.take_succ_cons, List.take_zero, List.drop_succ_cons, List.drop_zero]
            iterate 11
              refine ⟨?_, Or.inl ⟨by rfl, ?_⟩, ?_⟩
              rotate_left 1
              · intro w' hSw
                obtain ⟨z1, z2⟩ := hSw
                go_simp
                first | done | with_reducible rfl
              simp only [Act.put, List.setIfInBounds_toArray, List.set_cons_zero, List.set_cons_succ]
            clear r1 r2 r3 r4 r5 r6
            simp only [wpReads]
            intro K hK
            go_simp
            refine hK _ _ (fun _ => ⟨by go_keep, by go_keep⟩) ?_
            clear hK K
            intro K hK
            refine step_append_lies _ rfl (.tmp 47) (.tmp 58) 48 rfl w.heap.size 78 i1 (.agg #[.int .i64 0, .int .i64 0]) 2 16 Try.underlying48 gi gz0 gz1 gz2 rfl (by decide) _ _ _ rfl (own_drew (World.ownsRow.alloc (w := wd) HOD.out _)) ⟨wd.heap.size, 0, none⟩ 1 1 [.int .i64 c, .int .i64 d] rfl rfl (news_drew wd _ _ _ rfl) (ints_one rfl) (by omega) (by unfold maxLen; omega) (by omega) (by simp; omega) _ rfl ?_
            intro g9 cap9 w9 hown9 hgrow9 _ _
            have hb9 : Below w.heap.size w w9 := ((HBD.out.alloc hsz _).drew).grown hgrow9 (by simp; omega) (fun q hq => (HOD.out.lt q hq).1)
            have hx9 : S.flatMap encS ++ [.int .i64 c, .int .i64 d] = (S ++ [(c, d)]).flatMap encS := by simp [encS]
            rw [hx9, ← HE.out] at hown9
            have HO9 := hide hown9
            have HB9 := hide hb9
            clear hown9 hgrow9 hx9 hb9
            refine hK _ _ (fun _ => DW.out _ HB9.out) ?_
            clear hK K
            intro K hK
            simp only [Act.put, List.setIfInBounds_toArray, List.set_cons_zero, List.set_cons_succ] at hK ⊢
            go_simp
            refine hK _ _ (fun h => absurd rfl h) ?_
            clear hK K
            refine NoPanic.normal ?_
            go_wp2
            go_roundw
            case rel => exact ⟨m + 1, by omega, by go_num, _, _, cap9, rfl, hide (by rw [HT.out]; exact HO9.out), HB9⟩
            case measure => simp [intOf]; omega
    · have mz : ¬ (m : Int) + 1 < (cs.length : Int) := by omega
      have ht := canP_all (cs := cs) (bs := bs) (m := m) (by omega)
      rw [ht] at HO
      have HN := hide (own_len (k := 2) HO.out (fun _ => rfl) (by omega))
      have hml : (m : Int) + 1 ≤ 200000000 := by omega
      clear ht
      go_wp2
      go_ret
      exact ⟨_, rfl, own_n HO.out HN.out, HB.out⟩
end Go.Proofs.Ytamnaojheecopaa
