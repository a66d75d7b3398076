/- Texts laid together: OffU, RoundR, OffV, OffW, OffX, OffR, MOffD, OffD, OffE, MOffE, LookH. Lemmas for the statements of this seat; no condition. -/
import Derived.Test.YtdolpeljengpaaaGreatPk5
import Derived.Test.YtdolpeljengpaaaGreatPk3
import Derived.Test.YtdolpeljengpaaaGreatPk2
import Derived.Test.YtdolpeljengpaaaGreatPk1
import Derived.Test.YtdolpeljengpaaaGreatPk4

/- offset.slabs's iterator: the slabs between neighbouring cuts, with the spans kept and in no hole. -/
namespace Go.Proofs.YtdolpeljengpaaaGreat
open Go.RowKit
set_option linter.unusedVariables false
set_option linter.unusedSimpArgs false
attribute [local go_sem] Oper.semAt_some

theorem infoEn : (Tryz.prog.info? 301).map (fun i => (i.zero, i.size, i.bytes)) = some (some (.agg #[.int .i64 0, .int .i64 0, .int .i64 0]), 3, 24) := by kernel_rfl
/-- What a round keeps for the iterator: the old blocks, but for the three boxes from bb on. -/
def KpY (bb n : Nat) (A B : World) : Prop := A.heap.size ≤ B.heap.size ∧ ∀ b o, b < n → (b < bb ∨ bb + 3 ≤ b) → B.cell? ⟨b, o, none⟩ = A.cell? ⟨b, o, none⟩
theorem KpY.trans {b n : Nat} {A B C : World} (h : KpY b n A B) (k : KpY b n B C) : KpY b n A C := ⟨Nat.le_trans h.1 k.1, fun q o h1 h2 => (k.2 q o h1 h2).trans (h.2 q o h1 h2)⟩
/-- What a round is handed: the slab from x.1 to x.2, with the spans kept and in no hole. -/
def OkOff (B : Nat) (la lb : List R4) (x : Int × Int) (args : Array Value) (W : World) : Prop :=
  ∃ A c, args = #[.agg #[.int .i64 x.1, .int .i64 x.2, .slice A (sjoin hSub (crossL la x.1) (crossL lb x.1)).length c]] ∧ W.ownsRow B 188 2 (.slice A (sjoin hSub (crossL la x.1) (crossL lb x.1)).length c) (sjoin hSub (crossL la x.1) (crossL lb x.1)).length ((sjoin hSub (crossL la x.1) (crossL lb x.1)).flatMap encS)
/-- The ends gathered ahead of list number k. -/
def ek (la lb : List R4) (c : Int) : Nat → List En
  | 0 => []
  | 1 => evs 0 (crossL la c)
  | _ => evs 0 (crossL la c) ++ evs 1 (crossL lb c)
theorem evs_len (i : Int) : ∀ (a : List Sp), (evs i a).length = 2 * a.length
  | [] => rfl
  | p :: s => by simp [evs, evs_len i s]; omega
theorem ek_next {la lb : List R4} {c : Int} {k : Nat} {l : List R4} (h : [la, lb][k]? = some l) : ek la lb c (k + 1) = ek la lb c k ++ evs k (crossL l c) := by
  match k, h with
  | 0, h => injection h with h; subst h; simp [ek]
  | 1, h => injection h with h; subst h; simp [ek]
  | k + 2, h => simp at h
theorem evs_bd {l : List R4} {c b : Int} {i : Int} (hl : ∀ r ∈ l, -b ≤ r.y0 ∧ r.y0 ≤ b ∧ -b ≤ r.y1 ∧ r.y1 ≤ b) : ∀ e ∈ evs i (crossL l c), -b ≤ e.1 ∧ e.1 ≤ b := by
  intro e he
  obtain ⟨p, hp, h⟩ : ∃ p ∈ crossL l c, e.1 = p.1 ∨ e.1 = p.2 := by
    generalize crossL l c = S at he
    induction S with
    | nil => simp [evs] at he
    | cons p s ih =>
      simp only [evs, List.mem_cons] at he
      rcases he with rfl | rfl | he
      · exact ⟨p, by simp, .inl rfl⟩
      · exact ⟨p, by simp, .inr rfl⟩
      · obtain ⟨q, h1, h2⟩ := ih he
        exact ⟨q, by simp [h1], h2⟩
  unfold crossL at hp
  obtain ⟨r, hr, rfl⟩ := List.mem_map.1 hp
  have := hl r (List.mem_filter.1 hr).1
  simp only at h
  omega

theorem hB2 {wi wr W2 : World} {v : Option Nat} (h : Below wi.heap.size wi wr) (hg : wr.drew.grownBy W2 v) (hv : ∀ q, v = some q → wi.heap.size ≤ q) : Below wi.heap.size wi W2 :=
  h.drew.grown hg h.size hv
set_option maxRecDepth 100000 in
set_option maxHeartbeats 8000000 in
theorem oslabsIt (la lb : List R4) (cs : List Int) (bc bl na nb c0 c1 cv bb base : Nat) (A A0 A1 : Option Addr) (w0 : World) (hna : na = la.length) (hnb : nb = lb.length) (hbl : bl < w0.heap.size) (hbc : bc < w0.heap.size) (n1 : bl < bb ∨ bb + 3 ≤ bl) (n2 : bc < bb ∨ bb + 3 ≤ bc) (n4 : bb + 3 ≤ base) (n5 : bb ≤ w0.heap.size)
    (hlb0 : w0.cell? ⟨bl, 0, none⟩ = some (.slice A0 na c0)) (hlb1 : w0.cell? ⟨bl, 1, none⟩ = some (.slice A1 nb c1)) (hcb : w0.cell? ⟨bc, 0, none⟩ = some (.slice A cs.length cv)) (hown : w0.ownsRow base 3 1 (.slice A cs.length cv) cs.length (cs.map iv))
    (hra : RdK encR 4 w0 bb (.slice A0 na c0) la) (hrb : RdK encR 4 w0 bb (.slice A1 nb c1) lb) (hal : ∀ r ∈ la, r.y0 < r.y1 ∧ -3000000 ≤ r.y0 ∧ r.y0 ≤ 3000000 ∧ -3000000 ≤ r.y1 ∧ r.y1 ≤ 3000000) (hbL : ∀ r ∈ lb, r.y0 < r.y1 ∧ -3000000 ≤ r.y0 ∧ r.y0 ≤ 3000000 ∧ -3000000 ≤ r.y1 ∧ r.y1 ≤ 3000000)
    (hla : la.length ≤ 10000000) (hlbn : lb.length ≤ 10000000) (hcs : cs.length ≤ 100000000) :
    Iter Tryz.prog 227 #[.pointer (some ⟨bc, 0, none⟩), .pointer (some ⟨bl, 0, none⟩)] (prs cs) (OkOff w0.heap.size la lb) (KpY bb w0.heap.size) w0 := by
  intro l J Jx W hW hJ hY h0
  obtain ⟨i0, hi, hz0, hz1, hz2⟩ := info_parts infoEn
  have HSP : Hid (∀ (c : Int) (w : World) (v : Value) (base : Nat), w.ownsRow base 301 3 v (ek la lb c 2).length ((ek la lb c 2).flatMap encE) → Calls Tryz.prog 228 #[v] w (SpansRet w v (sjoin hSub (crossL la c) (crossL lb c)))) := hide (by
    intro c w v base h
    have cl : ∀ (l : List R4), (crossL l c).length ≤ l.length := fun l => by
      unfold crossL
      rw [List.length_map]
      exact List.length_filter_le _ _
    have ct : ∀ (l : List R4), (∀ r ∈ l, r.y0 < r.y1 ∧ -3000000 ≤ r.y0 ∧ r.y0 ≤ 3000000 ∧ -3000000 ≤ r.y1 ∧ r.y1 ≤ 3000000) → ∀ p ∈ crossL l c, p.1 < p.2 := fun l hl p hp => by
      unfold crossL at hp
      obtain ⟨r, hr, rfl⟩ := List.mem_map.1 hp
      exact (hl r (List.mem_filter.1 hr).1).1
    refine spans_any (ct la hal) (ct lb hbL) (fun e he => ?_) h ?_
    · rcases List.mem_append.1 he with he | he
      · exact evs_bd (fun r hr => (hal r hr).2) e he
      · exact evs_bd (fun r hr => (hbL r hr).2) e he
    · have h1 := cl la
      have h2 := cl lb
      rw [List.length_append, evs_len, evs_len]
      omega)
  obtain ⟨ls, hls⟩ : ∃ ls, ls = [la, lb] := ⟨_, rfl⟩
  have HV : Hid (∀ (k : Nat) l, ls[k]? = some l → l.length ≤ 10000000 ∧ (∀ c, ek la lb c (k + 1) = ek la lb c k ++ evs k (crossL l c)) ∧ (∀ c, (ek la lb c k).length ≤ 20000000) ∧ ∃ A c, (∀ w : World, (Instr.index 275 (.agg #[.slice A0 na c0, .slice A1 nb c1]) (.int .i64 k)).run Tryz.prog w = .ok (Value.slice A l.length c) w) ∧ RdK encR 4 w0 bb (Value.slice A l.length c) l) := hide (by
    have cl : ∀ (l : List R4) c, (crossL l c).length ≤ l.length := fun l c => by
      unfold crossL
      rw [List.length_map]
      exact List.length_filter_le _ _
    intro k l h
    rw [hls] at h
    have hk : k = 0 ∨ k = 1 := by
      obtain ⟨h1, _⟩ := List.getElem?_eq_some_iff.1 h
      simp at h1
      omega
    have hn := fun c => ek_next (c := c) h
    rcases hk with rfl | rfl
    · have h : la = l := by injection h
      subst h; subst hna
      exact ⟨hla, hn, fun c => by simp [ek], A0, c0, fun _ => rfl, hra⟩
    · have h : lb = l := by injection h
      subst h; subst hnb
      exact ⟨hlbn, hn, fun c => by have := cl la c; simp only [ek]; rw [evs_len]; omega, A1, c1, fun _ => rfl, hrb⟩)
  have hl2 : ls.length = 2 := by rw [hls]; rfl
  clear hls hra hrb hal hbL hna hnb hla hlbn
  refine callsIn_of_wp Tryz.func227 rfl trivial ?_
  simp only [Tryz.ntmps227, List.size_toArray, List.length_cons, List.length_nil, Nat.reduceAdd, Nat.reduceSub, Array.replicate_succ, Array.replicate_zero, List.push_toArray, List.append_toArray, List.nil_append, List.cons_append]
  have HY := hide hY
  have HJ := hide hJ
  clear hY hJ
  gi_wp2
  gi_loopw [4] (fun p wr => ∃ k : Nat, k ≤ (prs cs).length ∧ p = .int .i64 ((k : Int) + 1) ∧ Hid (J ((prs cs).take k) wr) ∧ Hid (∀ b o, b < w0.heap.size → (b < bb ∨ bb + 3 ≤ b) → wr.cell? ⟨b, o, none⟩ = w0.cell? ⟨b, o, none⟩) ∧ w0.heap.size ≤ wr.heap.size)
    (fun p _ => ((prs cs).length + 1) - (intOf p).toNat)
  case atStart => exact ⟨0, Nat.zero_le _, rfl, hide (by simpa using h0), hide fun b o h _ => hW.cell (p := ⟨b, o, none⟩) h, hW.size⟩
  case round =>
    obtain ⟨k, hk, rfl, HJk, HC, hsz⟩ := hrel
    have hpl := prs_len cs
    have kb0 := (HC.out bl 0 hbl n1).trans hlb0
    have kb1 := (HC.out bl 1 hbl n1).trans hlb1
    have kc := (HC.out bc 0 hbc n2).trans hcb
    by_cases hlt : k < (prs cs).length
    · have hltz : (k : Int) + 1 < (cs.length : Int) := by omega
      obtain ⟨c, hc⟩ : ∃ c, cs[k]? = some c := ⟨_, List.getElem?_eq_getElem (by omega)⟩
      obtain ⟨d, hd⟩ : ∃ d, cs[k + 1]? = some d := ⟨_, List.getElem?_eq_getElem (by omega)⟩
      obtain ⟨g, cv', hf, hbg, hgw⟩ := hown.form (by omega)
      injection hf with e1 _ e3
      subst e1; subst e3
      have kc0 : wr.cell? ⟨g, k, none⟩ = some (.int .i64 c) := by
        have := (hown.cells (g := g) rfl) k (iv c) (by simp [hc])
        rw [addr_add] at this
        exact (HC.out g k hgw (by omega)).trans this
      have kc1 : wr.cell? ⟨g, k + 1, none⟩ = some (.int .i64 d) := by
        have := (hown.cells (g := g) rfl) (k + 1) (iv d) (by simp [hd])
        rw [addr_add] at this
        exact (HC.out g (k + 1) hgw (by omega)).trans this
      have HP := hide (prs_get cs k c d hc hd)
      have q1 : (0 : Int) ≤ (k : Int) := by omega
      have q2 : (k : Int) < (cs.length : Int) := by omega
      have q3 : (0 : Int) ≤ (k : Int) + 1 := by omega
      have hcsz : (cs.length : Int) ≤ 100000000 := by omega
      have hw1 : IntKind.i64.wrap (k : Int) = k := by simp [IntKind.wrap, IntKind.bits, IntKind.signed]; omega
      have hw2 : IntKind.i64.wrap ((k : Int) + 1) = (k : Int) + 1 := by simp [IntKind.wrap, IntKind.bits, IntKind.signed]; omega
      have t1 : ((k : Int) + 1).toNat = k + 1 := by omega
      gi_wp2
      generalize wr = wi at *
      refine wpIn_wide.2 ?_
      go_loopw [5, 17] (fun ov i wx => ∃ (j : Nat) (A9 : Option Addr) (c9 : Nat), j ≤ 2 ∧ i = .int .i64 j ∧ ov = .slice A9 (ek la lb c j).length c9 ∧ wx.ownsRow wi.heap.size 301 3 (.slice A9 (ek la lb c j).length c9) (ek la lb c j).length ((ek la lb c j).flatMap encE) ∧ Below wi.heap.size wi wx) (fun _ i _ => 2 - (intOf i).toNat)
      case atStart => exact ⟨0, none, 0, by omega, rfl, rfl, World.ownsRow_nil _ _ _ _, Below.refl _ _⟩
      case round =>
        obtain ⟨j, A9, c9, hj, rfl, rfl, hO, hB⟩ := hrel
        by_cases hj2 : j < 2
        · obtain ⟨r, hr⟩ : ∃ r, ls[j]? = some r := ⟨_, List.getElem?_eq_getElem (by omega)⟩
          obtain ⟨hrl, hnx, hel, Ar, cr, hidx, hrd⟩ := HV.out j r hr
          obtain ⟨Ax, cx, ex, hrdr⟩ := hrd
          injection ex with eA _ eC
          subst eA; subst eC
          have hjz : (j : Int) < 2 := by omega
          have HR := hide hrdr
          have hE0 := hel c
          have HNX := hide (hnx c)
          clear hrdr hel hnx
          generalize ek la lb c j = E0 at *
          generalize wr = wk at *
          go_upto_region 8 with fail
          go_loopw [5, 23] (fun ov i wx => ∃ (m : Nat) (A9 : Option Addr) (c9 : Nat), m ≤ r.length ∧ i = .int .i64 m ∧ ov = .slice A9 (E0 ++ evs j (crossL (r.take m) c)).length c9 ∧ wx.ownsRow wi.heap.size 301 3 (.slice A9 (E0 ++ evs j (crossL (r.take m) c)).length c9) (E0 ++ evs j (crossL (r.take m) c)).length ((E0 ++ evs j (crossL (r.take m) c)).flatMap encE) ∧ Below wi.heap.size wi wx) (fun _ i _ => r.length - (intOf i).toNat)
          case atStart => exact ⟨0, A9, c9, by omega, rfl, by simp [crossL, evs], by simpa [crossL, evs] using hO, hB⟩
          case round =>
            clear hO hB
            obtain ⟨m, A8, c8, hm, rfl, rfl, hO, hB⟩ := hrel
            by_cases hml : m < r.length
            · obtain ⟨⟨x0, y0, x1, y1⟩, hp⟩ : ∃ p, r[m]? = some p := ⟨_, List.getElem?_eq_getElem hml⟩
              have hner : r ≠ [] := by intro e; rw [e] at hml; simp at hml
              obtain ⟨bk, off, rfl, hbk, hcell⟩ := HR.out hner
              have tr : ∀ b o, b < w0.heap.size → (b < bb ∨ bb + 3 ≤ b) → wr.cell? ⟨b, o, none⟩ = w0.cell? ⟨b, o, none⟩ := fun b o h1 h2 =>
                (hB.cell (p := ⟨b, o, none⟩) (by show b < _; omega)).trans (HC.out b o h1 h2)
              have tw : ∀ b o, b < w0.heap.size → wr.cell? ⟨b, o, none⟩ = wi.cell? ⟨b, o, none⟩ := fun b o h1 => hB.cell (p := ⟨b, o, none⟩) (by show b < _; omega)
              have d0 : wr.cell? ⟨bk, off + m * 4, none⟩ = some (.int .i64 x0) := (tr _ _ (by omega) (by omega)).trans (hcell m _ hp 0 _ rfl)
              have d1 : wr.cell? ⟨bk, off + m * 4 + 1, none⟩ = some (.int .i64 y0) := (tr _ _ (by omega) (by omega)).trans (hcell m _ hp 1 _ rfl)
              have d2 : wr.cell? ⟨bk, off + m * 4 + 2, none⟩ = some (.int .i64 x1) := (tr _ _ (by omega) (by omega)).trans (hcell m _ hp 2 _ rfl)
              have d3 : wr.cell? ⟨bk, off + m * 4 + 3, none⟩ = some (.int .i64 y1) := (tr _ _ (by omega) (by omega)).trans (hcell m _ hp 3 _ rfl)
              have f0 := (tw bc 0 hbc).trans kc
              have f1 := (tw g k hgw).trans kc0
              have hmz : (m : Int) < (r.length : Int) := by omega
              have hbcw : bc < wr.heap.size := by have := hB.size; omega
              have hgw2 : g < wr.heap.size := by have := hB.size; omega
              have HTK := hide (crossL_take (c := c) hp)
              have hcl : (crossL (r.take m) c).length ≤ r.length := by
                unfold crossL
                rw [List.length_map]
                refine Nat.le_trans (List.length_filter_le _ _) ?_
                rw [List.length_take]; omega
              have hEm : (E0 ++ evs j (crossL (r.take m) c)).length ≤ 40000000 := by rw [List.length_append, evs_len]; omega
              have hwiw := hB.size
              clear hcell tr tw hbk
              go_upto_region 10 with fail
              refine wp_name fun Z hZ => ?_
              have hbz : Below wr.heap.size wr Z := by rw [hZ]; exact (Below.refl _ _).alloc (Nat.le_refl _) _
              have hqs : wr.heap.size < Z.heap.size := by rw [hZ]; simp
              have e0 : Z.cell? ⟨wr.heap.size, 0, none⟩ = some (.int .i64 x0) := by rw [hZ]; simp [go_sem]
              have e1 : Z.cell? ⟨wr.heap.size, 1, none⟩ = some (.int .i64 y0) := by rw [hZ]; simp [go_sem]
              have e2 : Z.cell? ⟨wr.heap.size, 2, none⟩ = some (.int .i64 x1) := by rw [hZ]; simp [go_sem]
              have e3 : Z.cell? ⟨wr.heap.size, 3, none⟩ = some (.int .i64 y1) := by rw [hZ]; simp [go_sem]
              have f0 := (hbz.cell (p := ⟨bc, 0, none⟩) hbcw).trans f0
              have f1 := (hbz.cell (p := ⟨g, k, none⟩) hgw2).trans f1
              clear hZ d0 d1 d2 d3
              by_cases c1 : x0 ≤ c
              · have hg1 : decide (x0 ≤ c) = true := decide_eq_true c1
                by_cases c2 : c < x1
                · have hg2 : decide (c < x1) = true := decide_eq_true c2
                  go_quiet (fail)
                  refine name_exit fun X hX => ?_
                  have hbx : Below wr.heap.size Z X := by rw [hX]; exact below_drewN (Below.refl _ _) _
                  have hOX := own_below hO (hbz.trans hbx)
                  have hBX := hB.trans ((hbz.trans hbx).mono hwiw)
                  have e1 : X.cell? ⟨wr.heap.size, 1, none⟩ = some (.int .i64 y0) := by rw [hX]; exact e1
                  have e3 : X.cell? ⟨wr.heap.size, 3, none⟩ = some (.int .i64 y1) := by rw [hX]; exact e3
                  have hqx : wr.heap.size < X.heap.size := Nat.lt_of_lt_of_le hqs (by rw [hX]; exact Nat.le_refl _)
                  have hwx : wi.heap.size ≤ X.heap.size := by omega
                  have HTX : Hid ((E0 ++ evs j (crossL (r.take (m + 1)) c)).length = (E0 ++ evs j (crossL (r.take m) c)).length + 2 ∧ (E0 ++ evs j (crossL (r.take (m + 1)) c)).flatMap encE = (E0 ++ evs j (crossL (r.take m) c)).flatMap encE ++ [.int .i64 y0, .int .i64 j, .int .i64 1, .int .i64 y1, .int .i64 j, .int .i64 (-1)]) := hide (by
                    rw [HTK.out, if_pos (show x0 ≤ c ∧ c < x1 from ⟨c1, c2⟩), evs_append, ← List.append_assoc]
                    generalize E0 ++ evs j (crossL (r.take m) c) = EE
                    exact ⟨by simp [evs], by rw [List.flatMap_append]; rfl⟩)
                  clear hX hbx hbz hB hO e0 e2 f0 f1 c1 c2 hg1 hg2 hqs hcl HTK
                  generalize E0 ++ evs j (crossL (r.take m) c) = EE at *
                  go_wp2_with (at_builtin; refine wpList_append_lies _ rfl (.tmp 45) (.tmp 54) 299 rfl wi.heap.size 301 i0 (.agg #[.int .i64 0, .int .i64 0, .int .i64 0]) 3 24 Tryz.underlying299 hi hz0 hz1 hz2 rfl (by decide) _ _ _ rfl (hOX.alloc _) ⟨X.heap.size, 0, none⟩ 2 2 [.int .i64 y0, .int .i64 j, .int .i64 1, .int .i64 y1, .int .i64 j, .int .i64 (-1)] rfl rfl (news_new X _ _ _ (by simp)) (ints_one rfl) (by omega) (by unfold maxLen; omega) (by omega) (by simp; omega) _ rfl ?_)
                  intro g2 cap2 Y hown2 hgrow _ _
                  rw [← HTX.out.2, ← HTX.out.1] at hown2
                  have HBY := hide ((hBX.alloc hwx _).grown hgrow (by simp; omega) (fun k h => (hOX.lt k h).1))
                  have HOY := hide hown2
                  clear hgrow hown2 hOX hBX e1 e3
                  go_wp2
                  go_roundw
                  case rel => exact ⟨m + 1, some ⟨g2, 0, none⟩, cap2, by omega, by go_num, by rw [HTX.out.1], HOY.out, HBY.out⟩
                  case measure => simp [intOf]; omega
                · have hg2 : decide (c < x1) = false := decide_eq_false c2
                  go_quiet (fail)
                  refine name_exit fun X hX => ?_
                  have hbx : Below wr.heap.size Z X := by rw [hX]; exact below_drewN (Below.refl _ _) _
                  have HOX := hide (own_below hO (hbz.trans hbx))
                  have HBX := hide (hB.trans ((hbz.trans hbx).mono hwiw))
                  have HTX : Hid (evs j (crossL (r.take (m + 1)) c) = evs j (crossL (r.take m) c)) := hide (by
                    rw [HTK.out, if_neg (show ¬ (x0 ≤ c ∧ c < x1) from fun h => c2 h.2), List.append_nil])
                  clear hX hbx hbz hB hO e0 e1 e2 e3 f0 f1
                  go_wp2
                  go_roundw
                  case rel => exact ⟨m + 1, A8, c8, by omega, by go_num, by rw [HTX.out], by rw [HTX.out]; exact HOX.out, HBX.out⟩
                  case measure => simp [intOf]; omega
              · have hg1 : decide (x0 ≤ c) = false := decide_eq_false c1
                go_quiet (fail)
                refine name_exit fun X hX => ?_
                have hbx : Below wr.heap.size Z X := by rw [hX]; exact below_drewN (Below.refl _ _) _
                have HOX := hide (own_below hO (hbz.trans hbx))
                have HBX := hide (hB.trans ((hbz.trans hbx).mono hwiw))
                have HTX : Hid (evs j (crossL (r.take (m + 1)) c) = evs j (crossL (r.take m) c)) := hide (by
                  rw [HTK.out, if_neg (show ¬ (x0 ≤ c ∧ c < x1) from fun h => c1 h.1), List.append_nil])
                clear hX hbx hbz hB hO e0 e1 e2 e3 f0 f1
                go_wp2
                go_roundw
                case rel => exact ⟨m + 1, A8, c8, by omega, by go_num, by rw [HTX.out], by rw [HTX.out]; exact HOX.out, HBX.out⟩
                case measure => simp [intOf]; omega
            · obtain rfl : m = r.length := by omega
              have hmz : ¬ (r.length : Int) < (r.length : Int) := by omega
              rw [List.take_length] at hO
              rw [List.take_length, ← HNX.out] at *
              go_wp2
              go_roundw
              case rel => exact ⟨j + 1, A8, c8, by omega, by go_num, rfl, hO, hB⟩
              case measure => simp [intOf]; omega
        · obtain rfl : j = 2 := by omega
          have hjz : ¬ ((2 : Nat) : Int) < 2 := by omega
          have tw : ∀ b o, b < w0.heap.size → wr.cell? ⟨b, o, none⟩ = wi.cell? ⟨b, o, none⟩ := fun b o h1 => hB.cell (p := ⟨b, o, none⟩) (by show b < _; omega)
          have f0 := (tw bc 0 hbc).trans kc
          have f1 := (tw g k hgw).trans kc0
          have f2 := (tw g (k + 1) hgw).trans kc1
          clear tw
          have hbcw : bc < wr.heap.size := by have := hB.size; omega
          have hgw2 : g < wr.heap.size := by have := hB.size; omega
          have HO := hide hO
          have HB := hide hB
          have hlw := hO.lt
          clear hO hB kc kc0 kc1 kb0 kb1
          go_wp2
          refine wpIn_seq ?_
          refine wpIn_region_yield [0, 1, 2, 3, 4, 5, 6, 7, 8, 9, 10] [11, 12] 13 14 (fun w' => w'.cell? ⟨bc, 0, none⟩ = some (.slice (some ⟨g, 0, none⟩) cs.length cv) ∧ w'.cell? ⟨g, k, none⟩ = some (.int .i64 c) ∧ w'.cell? ⟨g, k + 1, none⟩ = some (.int .i64 d)) (by kernel_rfl) (by kernel_rfl) ⟨f0, f1, f2⟩ ?_
          simp only [List.map_cons, List.map_nil, opAt, List.getElem?_cons_succ, List.getElem?_cons_zero, Option.getD_some]
          iterate 11
            refine ⟨?_, Or.inl ⟨by rfl, ?_⟩, ?_⟩
            rotate_left 1
            · intro w' hSw
              obtain ⟨y1, y2, y3⟩ := hSw
              go_simp
              first | done | with_reducible rfl
            simp only [Act.put, List.setIfInBounds_toArray, List.set_cons_zero, List.set_cons_succ]
          simp only [wpReads]
          intro K hK
          simp only [Act.put, List.setIfInBounds_toArray, List.set_cons_zero, List.set_cons_succ] at hK ⊢
          go_simp
          refine (HSP.out c _ _ _ (own_drew HO.out)).mono ?_
          rintro e W2 ⟨⟨A2, cc2, rfl, ho2⟩, hg2⟩
          have hbl2 : ∀ q o, q < wi.heap.size → W2.cell? ⟨q, o, none⟩ = wr.cell? ⟨q, o, none⟩ := fun q o hq =>
            World.cell?_of_block (w := wr) (a := ⟨q, o, none⟩) (hg2.block q (by have := HB.out.size; show q < wr.heap.size; omega) (fun e => by have := (hlw q e.symm).1; omega))
          have hbg := hB2 HB.out hg2 (fun q hq => (hlw q hq).1)
          have f0 := (hbl2 bc 0 (by omega)).trans f0
          have f1 := (hbl2 g k (by omega)).trans f1
          have f2 := (hbl2 g (k + 1) (by omega)).trans f2
          have HO2 := hide ho2
          have HBG := hide hbg
          have hwsz : w0.heap.size ≤ wr.drew.heap.size := by
            have h1 : wi.heap.size ≤ wr.heap.size := HB.out.size
            show w0.heap.size ≤ wr.heap.size
            omega
          clear ho2 hg2 hbl2 hlw hbg HO HB
          refine hK _ _ ⟨f0, f1, f2⟩ ?_
          clear hK K
          intro K hK
          simp only [Act.put, List.setIfInBounds_toArray, List.set_cons_zero, List.set_cons_succ] at hK ⊢
          go_simp
          refine hK _ _ ⟨f0, f1, f2⟩ ?_
          clear hK K
          have hJ2 := HJ.out _ _ _ HJk.out HBG.out
          have hx : (prs cs)[k]? = some (c, d) := HP.out
          obtain ⟨hkp, hxe⟩ := List.getElem?_eq_some_iff.1 hx
          have hfi : (prs cs).take (k + 1) = (prs cs).take k ++ [(c, d)] := by rw [List.take_succ_eq_append_getElem hkp, hxe]
          have hpost : ∃ post, prs cs = (prs cs).take k ++ (c, d) :: post := ⟨(prs cs).drop (k + 1), by rw [← hxe, ← List.drop_eq_getElem_cons hkp, List.take_append_drop]⟩
          have hok : OkOff w0.heap.size la lb (c, d) #[.agg #[.int .i64 c, .int .i64 d, .slice A2 (sjoin hSub (crossL la c) (crossL lb c)).length cc2]] W2 := ⟨A2, cc2, rfl, own_base HO2.out hwsz⟩
          obtain ⟨fn, tmps, assign, body, hy, hR⟩ := HY.out ((prs cs).take k) (c, d) _ W2 hJ2 hpost hok
          have FI := hide hfi
          clear hx hxe hfi hpost hJ2 hok HJ HY
          have hk2 : (k : Int) + 1 + 1 ≤ 100000001 := by omega
          intro K hK
          simp only [Act.put, List.setIfInBounds_toArray, List.set_cons_zero, List.set_cons_succ] at hK ⊢
          rw [if_pos (by rfl)]
          refine ⟨fun _ _ => trivial, ?_⟩
          rw [show Fence.wide.round = none from rfl, Oper.semAt_none]
          go_simp
          refine ⟨rfl, hR.mono ?_⟩
          rintro e W3 (⟨rfl, hJ3, hk3⟩ | ⟨rfl, hJx3⟩)
          · have HJ3 := hide hJ3
            have HK3 := hide hk3
            clear hJ3 hk3 hR
            refine hK _ _ ?_
            clear hK K
            intro K2 hK2
            simp only [Act.put, List.setIfInBounds_toArray, List.set_cons_zero, List.set_cons_succ] at hK2 ⊢
            rw [if_pos (by rfl)]
            refine ⟨fun _ _ => trivial, ?_⟩
            rw [show Fence.wide.round = none from rfl, Oper.semAt_none]
            go_simp
            refine hK2 _ _ ?_
            clear hK2 K2
            gi_wp2
            go_roundw
            case rel =>
              refine ⟨k + 1, by omega, by go_num, hide (by rw [FI.out]; exact HJ3.out), hide fun b o h1 h2 => (HK3.out.2 b o (by have := HBG.out.size; omega) h2).trans ((HBG.out.cell (p := ⟨b, o, none⟩) (by show b < _; omega)).trans (HC.out b o h1 h2)), ?_⟩
              have := HK3.out.1
              have := HBG.out.size
              omega
            case measure => simp [intOf]; omega
          · have HJx := hide hJx3
            clear hJx3 hR
            refine hK _ _ ?_
            clear hK K
            intro K2 hK2
            simp only [Act.put, List.setIfInBounds_toArray, List.set_cons_zero, List.set_cons_succ] at hK2 ⊢
            rw [if_pos (by rfl)]
            refine ⟨fun _ _ => trivial, ?_⟩
            rw [show Fence.wide.round = none from rfl, Oper.semAt_none]
            go_simp
            refine hK2 _ _ ?_
            clear hK2 K2
            gi_wp2
            refine bodyPost_ret (results_none rfl _ _ _) rfl ?_
            exact ⟨⟨_, rfl⟩, .inr ⟨_, HJx.out⟩⟩
    · have hltz : ¬ (k : Int) + 1 < (cs.length : Int) := by omega
      have hk' : (prs cs).take k = prs cs := List.take_of_length_le (by omega)
      have HK := hide hk'
      clear hk' HJ HY h0
      gi_wp2
      go_end0
      exact ⟨⟨_, rfl⟩, .inl (by have := HJk.out; rw [HK.out] at this; exact this)⟩
end Go.Proofs.YtdolpeljengpaaaGreat

/- Regions inside a round, by the walks that serve outside of one: plain ones, and those that draw their order (reads under a condition, then a tail). -/
namespace Go.Proofs.YtdolpeljengpaaaGreat
open Go.RowKit
set_option linter.unusedVariables false
set_option linter.unusedSimpArgs false

theorem wpList_round {P : Program} {ops : Array Oper} {Q : Exit → Act → World → Prop} {r n : Nat} (hout : ∀ a w, ¬ Q .outgrown a w) :
    ∀ (l : List Oper) (a : Act) (w : World), noDefer l = true → wpList P ops Q l a w → wpListIn (Fence.wide.inRound r) n P ops Q l a w
  | [], _, _, _, h => h
  | o :: l, a, w, hn, h => by
    simp only [noDefer, List.all_cons, Bool.and_eq_true] at hn
    unfold wpList at h
    unfold wpListIn
    by_cases hw : Region.wanted o (yielded ops a.tmps) = true
    · simp only [hw, if_true] at h ⊢
      rcases h with h | ⟨_, a0, w0, hq⟩
      · exact oper_round (fun c hc => by have := hn.1; rw [hc] at this; cases this) (fun a' w' h' => wpList_round hout l a' w' hn.2 h') h
      · exact (hout _ _ hq).elim
    · simp only [hw] at h ⊢
      exact ⟨fun _ _ => trivial, wpList_round hout l _ w hn.2 h⟩
/-- A plain region in a round. -/
theorem wpIn_region_plain_round {P : Program} {id r n : Nat} {Q : Exit → Act → World → Prop} {a : Act} {w : World} {l : List Oper} (hnd : noDefer l = true) (hout : ∀ a w, ¬ Q .outgrown a w) (h : wpList P l.toArray Q l a w) :
    (Code.region id l.toArray false).wpIn (Fence.wide.inRound r) n P Q a w := wpIn_region_lit (wpList_round hout l a w hnd h)
/-- A region that draws its order, in a round: reads under S, then a tail. -/
theorem wpIn_region_mix_round {P : Program} {id r n : Nat} {Q : Exit → Act → World → Prop} {a : Act} {w : World} {l : List Oper} (R T : List Nat) (S : World → Prop) (hm : P.follows .mixedOrders = true) (hB : mixB .any l.toArray R T = true) (hnd : noDefer l = true) (hout : ∀ a w, ¬ Q .outgrown a w) (hS : S w.drew)
    (h : wpReads P l.toArray S (fun a' => wpTail P l.toArray S (NoPanic Q) (T.map (opAt l)) a' w.drew) (R.map (opAt l)) a) : (Code.region id l.toArray true).wpIn (Fence.wide.inRound r) n P Q a w := by
  refine wpIn_mono (Q := NoPanic Q) (wpIn_region_any hm (wpAny_round (Q := NoPanic Q) (noDefer_spec hnd) (fun a w h => hout a w h) _ _ _ _ (wpAny_of_E (S := S) (L := l.length - 1) _ _ _ _ ?_))) NoPanic.imp
  simp only [mixB, Bool.and_eq_true, decide_eq_true_eq, beq_iff_eq, List.size_toArray] at hB
  obtain ⟨⟨⟨b1, b2⟩, b3⟩, b4⟩ := hB
  have := wpReads_mix (Q := NoPanic Q) (S := S) (l := l) (T := T) (w := w.drew) (Region.noSelect_spec b1) (fun _ _ _ _ h => h) (fun t ht => by rw [b3] at ht; injection ht with ht; exact ht.symm) hS R _ a b4 h
  rw [b2] at this
  exact this
end Go.Proofs.YtdolpeljengpaaaGreat

/- offset.carve: what its three boxes hold. -/
namespace Go.Proofs.YtdolpeljengpaaaGreat
open Go.RowKit
set_option linter.unusedVariables false
set_option linter.unusedSimpArgs false

/-- What carve computes. -/
def carveF (a b : List R4) : List R4 × Int := if 400 < (rjoin hSub a b).length then ([], 4) else (rjoin hSub a b, 0)
/-- The three boxes from bb on hold the slabs S put together; the rows lie at or above Bo. -/
structure BC (bb Bo : Nat) (S : List Slab) (last : List Sp) (first : Nat) (e : Int) (W : World) : Prop where
  low : bb + 3 ≤ Bo
  size : Bo ≤ W.heap.size
  out : ∃ vo, W.cell? ⟨bb, 0, none⟩ = some vo ∧ W.ownsRow Bo 69 4 vo (flat S).length ((flat S).flatMap encR)
  fr : ∃ f, W.cell? ⟨bb + 1, 0, none⟩ = some (.int .i64 f)
  en : W.cell? ⟨bb + 1, 1, none⟩ = some (.int .i64 e)
  la : ∃ vl, W.cell? ⟨bb + 1, 2, none⟩ = some vl ∧ W.ownsRow Bo 188 2 vl last.length (last.flatMap encS)
  fi : W.cell? ⟨bb + 2, 0, none⟩ = some (.int .i64 first)
  fz : ∀ q j, bb ≤ q → q < bb + 3 → W.frozen? ⟨q, j, none⟩ = false
  inv : BInv S last first e
theorem BC.move {bb Bo : Nat} {S : List Slab} {last : List Sp} {first : Nat} {e : Int} {A B : World} (h : BC bb Bo S last first e A) (hs : A.heap.size ≤ B.heap.size) (hc : ∀ q o, bb ≤ q → q < bb + 3 → B.cell? ⟨q, o, none⟩ = A.cell? ⟨q, o, none⟩) (hf : ∀ q o, bb ≤ q → q < bb + 3 → B.frozen? ⟨q, o, none⟩ = A.frozen? ⟨q, o, none⟩)
    (hr : ∀ {t size v n xs}, A.ownsRow Bo t size v n xs → B.ownsRow Bo t size v n xs) : BC bb Bo S last first e B := by
  obtain ⟨vo, o1, o2⟩ := h.out
  obtain ⟨vl, l1, l2⟩ := h.la
  obtain ⟨f, f1⟩ := h.fr
  exact ⟨h.low, Nat.le_trans h.size hs, ⟨vo, (hc _ _ (by omega) (by omega)).trans o1, hr o2⟩, ⟨f, (hc _ _ (by omega) (by omega)).trans f1⟩, (hc _ _ (by omega) (by omega)).trans h.en, ⟨vl, (hc _ _ (by omega) (by omega)).trans l1, hr l2⟩, (hc _ _ (by omega) (by omega)).trans h.fi, fun q j h1 h2 => (hf q j h1 h2).trans (h.fz q j h1 h2), h.inv⟩
theorem BC.below {bb Bo : Nat} {S : List Slab} {last : List Sp} {first : Nat} {e : Int} {A B : World} (h : BC bb Bo S last first e A) (hb : Below A.heap.size A B) : BC bb Bo S last first e B :=
  h.move hb.size (fun q o _ h2 => hb.cell (p := ⟨q, o, none⟩) (by show q < _; have := h.low; have := h.size; omega)) (fun q o _ h2 => hb.frozen (p := ⟨q, o, none⟩) (by show q < _; have := h.low; have := h.size; omega)) (fun hw => own_below hw hb)
theorem BC.putObj {bb Bo : Nat} {S : List Slab} {last : List Sp} {first : Nat} {e : Int} {A : World} (h : BC bb Bo S last first e A) {l : Nat} {o o' : Obj} (hl : A.heap[l]? = some o) (ho : o.isCells = false) (ho' : o'.isCells = false) : BC bb Bo S last first e (A.putObj l o') :=
  h.move (by simp) (fun q o _ _ => (cell_putObj (o' := o') hl ho ho' _).1) (fun q o _ _ => (cell_putObj (o' := o') hl ho ho' _).2) (fun hw => own_putObj hw hl ho)
theorem BC.ne {bb Bo : Nat} {S : List Slab} {last : List Sp} {first : Nat} {e : Int} {A : World} (h : BC bb Bo S last first e A) {l : Nat} {o : Obj} (hl : A.heap[l]? = some o) (ho : o.isCells = false) {q : Nat} (h1 : bb ≤ q) (h2 : q < bb + 3) : q ≠ l := by
  have key : ∀ {p i : Nat} {v : Value}, A.cell? ⟨p, i, none⟩ = some v → p ≠ l := by
    rintro p i v hv rfl
    obtain ⟨ob, k1, k2⟩ := cells_of_cell hv
    rw [hl] at k1
    injection k1 with k1
    subst k1
    rw [ho] at k2; cases k2
  obtain ⟨vo, o1, _⟩ := h.out
  have k0 := key o1
  have k1 := key h.en
  have k2 := key h.fi
  omega
theorem BC.grown {bb Bo : Nat} {S : List Slab} {last : List Sp} {first : Nat} {e : Int} {A B : World} (h : BC bb Bo S last first e A) {l : Nat} {o : Obj} (hg : A.grownBy B (some l)) (hl : A.heap[l]? = some o) (ho : o.isCells = false) : BC bb Bo S last first e B := by
  have hbk : ∀ q, bb ≤ q → q < bb + 3 → B.heap[q]? = A.heap[q]? := fun q h1 h2 => hg.block q (by have := h.low; have := h.size; omega) (fun e => by injection e with e; exact h.ne hl ho h1 h2 e)
  refine h.move hg.size (fun q i h1 h2 => World.cell?_of_block (w := A) (a := ⟨q, i, none⟩) (hbk q h1 h2)) (fun q i h1 h2 => World.frozen?_of_block (w := A) (a := ⟨q, i, none⟩) (hbk q h1 h2)) (fun {t size v n xs} hw => hw.kept hg ?_)
  right
  intro e
  have := own_cells hw l o e hl
  rw [ho] at this; cases this
/-- Behind some rounds. -/
structure MC (bb Bo : Nat) (g : Int → List Sp) (m : Nat) (w : World) (pre : List (Int × Int)) (W : World) : Prop where
  bw : ∃ last first e, BC bb Bo (swp g pre) last first e W ∧ last.length ≤ m ∧ (pre = [] ∨ ∃ p, pre.getLast? = some p ∧ e = p.2)
  low : Below w.heap.size w W
theorem MC.below {bb Bo : Nat} {g : Int → List Sp} {m : Nat} {w : World} {pre : List (Int × Int)} {A B : World} (h : MC bb Bo g m w pre A) (hb : Below A.heap.size A B) : MC bb Bo g m w pre B := by
  obtain ⟨last, first, e, h1, h2, h3⟩ := h.bw
  exact ⟨⟨last, first, e, h1.below hb, h2, h3⟩, h.low.trans (hb.mono h.low.size)⟩
theorem MC.putObj {bb Bo : Nat} {g : Int → List Sp} {m : Nat} {w : World} {pre : List (Int × Int)} {A : World} (h : MC bb Bo g m w pre A) {l : Nat} {o o' : Obj} (hw : w.heap.size ≤ l) (hl : A.heap[l]? = some o) (ho : o.isCells = false) (ho' : o'.isCells = false) : MC bb Bo g m w pre (A.putObj l o') := by
  obtain ⟨last, first, e, h1, h2, h3⟩ := h.bw
  exact ⟨⟨last, first, e, h1.putObj hl ho ho', h2, h3⟩, below_putObj h.low hw _⟩
theorem MC.grown {bb Bo : Nat} {g : Int → List Sp} {m : Nat} {w : World} {pre : List (Int × Int)} {A B : World} (h : MC bb Bo g m w pre A) {l : Nat} {o : Obj} (hw : w.heap.size ≤ l) (hg : A.grownBy B (some l)) (hl : A.heap[l]? = some o) (ho : o.isCells = false) : MC bb Bo g m w pre B := by
  obtain ⟨last, first, e, h1, h2, h3⟩ := h.bw
  exact ⟨⟨last, first, e, h1.grown hg hl ho, h2, h3⟩, h.low.grown hg h.low.size (fun k hk => by injection hk with hk; omega)⟩
theorem KpY.below {bb n : Nat} {A B : World} (hn : n ≤ A.heap.size) (hb : Below A.heap.size A B) : KpY bb n A B := ⟨hb.size, fun b o h _ => hb.cell (p := ⟨b, o, none⟩) (by show b < _; omega)⟩

/-- In the loop over the slab's spans: the rectangles put out so far are L; the slab lies in block q9. -/
structure AddC (bb Bo q9 : Nat) (w0 : World) (L : List R4) (vs : Value) (s : List Sp) (n : Nat) (f t : Int) (wr : World) : Prop where
  low : bb + 3 ≤ Bo
  size : Bo ≤ wr.heap.size
  out : ∃ vo, wr.cell? ⟨bb, 0, none⟩ = some vo ∧ wr.ownsRow Bo 69 4 vo L.length (L.flatMap encR) ∧ vo.ownBlock ≠ some q9
  c0 : wr.cell? ⟨bb + 1, 0, none⟩ = some (.int .i64 f)
  c1 : wr.cell? ⟨bb + 1, 1, none⟩ = some (.int .i64 t)
  c2 : wr.cell? ⟨bb + 1, 2, none⟩ = some vs
  c3 : wr.cell? ⟨bb + 2, 0, none⟩ = some (.int .i64 n)
  fz : ∀ q j, bb ≤ q → q < bb + 3 → wr.frozen? ⟨q, j, none⟩ = false
  own : wr.ownsRow Bo 188 2 vs s.length (s.flatMap encS)
  at9 : Bo ≤ q9 ∧ q9 < wr.heap.size
  x0 : wr.cell? ⟨q9, 0, none⟩ = some (.int .i64 f)
  x1 : wr.cell? ⟨q9, 1, none⟩ = some (.int .i64 t)
  x2 : wr.cell? ⟨q9, 2, none⟩ = some vs
  os : wr.os = w0.os
  tape : wr.tape = w0.tape
  output : wr.output = w0.output
  grow : w0.heap.size ≤ wr.heap.size
  block : ∀ q, q < Bo → (q < bb ∨ bb + 3 ≤ q) → wr.heap[q]? = w0.heap[q]?
  keep : KeepsOthers w0 wr
/-- One rectangle more, behind what was made and the append. -/
theorem AddC.push {bb Bo q9 : Nat} {w0 wr wa w2 : World} {L : List R4} {r : R4} {vs vo v2 : Value} {s : List Sp} {n k : Nat} {f t : Int} (h : AddC bb Bo q9 w0 L vs s n f t wr) (hvo : wr.cell? ⟨bb, 0, none⟩ = some vo) (how : wr.ownsRow Bo 69 4 vo L.length (L.flatMap encR))
    (ha : Below wr.heap.size wr wa) (hg : wa.grownBy w2 vo.ownBlock) (hown2 : w2.ownsRow Bo 69 4 v2 k ((L ++ [r]).flatMap encR)) (hn9 : v2.ownBlock ≠ some q9) :
    w2.cell? ⟨bb, 0, none⟩ = some vo ∧ w2.frozen? ⟨bb, 0, none⟩ = false ∧ Hid (AddC bb Bo q9 w0 (L ++ [r]) vs s n f t (w2.setCell ⟨bb, 0, none⟩ v2)) := by
  have hlow := h.low
  have hsz := h.size
  have hq9 := h.at9
  obtain ⟨vo', e1, _, hv9⟩ := h.out
  rw [hvo] at e1
  injection e1 with e1
  subst e1
  have hB : Below Bo wr w2 := (ha.mono hsz).grown hg (Nat.le_trans hsz ha.size) fun q hq => (how.lt q hq).1
  have hc : ∀ q o, q < bb + 3 → w2.cell? ⟨q, o, none⟩ = wr.cell? ⟨q, o, none⟩ := fun q o h1 => hB.cell (p := ⟨q, o, none⟩) (by show q < _; omega)
  have hf : ∀ q o, q < bb + 3 → w2.frozen? ⟨q, o, none⟩ = wr.frozen? ⟨q, o, none⟩ := fun q o h1 => hB.frozen (p := ⟨q, o, none⟩) (by show q < _; omega)
  have h9 : ∀ o, w2.cell? ⟨q9, o, none⟩ = wr.cell? ⟨q9, o, none⟩ := fun o => (World.cell?_of_block (w := wa) (a := ⟨q9, o, none⟩) (hg.block q9 (by have := ha.size; omega) (fun e => hv9 e.symm))).trans (ha.cell (p := ⟨q9, o, none⟩) hq9.2)
  have k0 := (hc bb 0 (by omega)).trans hvo
  have hk := own_len (k := 4) hown2 (fun _ => rfl) (by omega)
  subst hk
  have far : ∀ q o, q ≠ bb → (w2.setCell ⟨bb, 0, none⟩ v2).cell? ⟨q, o, none⟩ = w2.cell? ⟨q, o, none⟩ := fun q o hq => World.cell?_of_block (w := w2) (a := ⟨q, o, none⟩) (Below.heap_setCell _ _ _ _ hq)
  refine ⟨k0, (hf bb 0 (by omega)).trans (h.fz bb 0 (by omega) (by omega)), hide ⟨hlow, ?_, ⟨v2, by simp [go_sem, k0], ownsRow_setCell_below hown2 (by show bb < _; omega) _, hn9⟩, ?_, ?_, ?_, ?_, fun q j h1 h2 => ?_, ownsRow_setCell_below ((own_below h.own ha).kept hg ?_) (by show bb < _; omega) _, ⟨hq9.1, ?_⟩, ?_, ?_, ?_, hB.os.trans h.os, hB.tape.trans h.tape, hB.output.trans h.output, ?_, fun q h1 h2 => ?_, ((h.keep.trans (keeps_below ha)).trans (KeepsOthers.of_grownBy hg fun j o hj ho => ?_)).trans (KeepsOthers.setCell _ _ _)⟩⟩
  · have := hB.size; simp [World.setCell]; omega
  · exact (far _ _ (by omega)).trans ((hc _ _ (by omega)).trans h.c0)
  · exact (far _ _ (by omega)).trans ((hc _ _ (by omega)).trans h.c1)
  · exact (far _ _ (by omega)).trans ((hc _ _ (by omega)).trans h.c2)
  · exact (far _ _ (by omega)).trans ((hc _ _ (by omega)).trans h.c3)
  · rw [World.frozen?_setCell, hf q j h2]; exact h.fz q j h1 h2
  · exact own_apart h.own how (by decide)
  · have := hB.size; simp [World.setCell]; omega
  · exact (far _ _ (by omega)).trans ((h9 _).trans h.x0)
  · exact (far _ _ (by omega)).trans ((h9 _).trans h.x1)
  · exact (far _ _ (by omega)).trans ((h9 _).trans h.x2)
  · have := hB.size; have := h.grow; simp [World.setCell]; omega
  · exact (Below.heap_setCell _ _ _ _ (show q ≠ bb by omega)).trans ((hB.block q h1).trans (h.block q h1 h2))
  · exact own_cells (own_below how ha) j o hj ho
/-- At the loop's head: the boxes hold the new slab. -/
theorem AddC.start {bb Bo q9 : Nat} {S : List Slab} {last s : List Sp} {first : Nat} {e f t : Int} {vs vo : Value} {w w1 : World} (h : BC bb Bo S last first e w) (o1 : w.cell? ⟨bb, 0, none⟩ = some vo) (hne : vo.ownBlock ≠ some q9) (hb : Below w.heap.size w w1) (hs : w.ownsRow Bo 188 2 vs s.length (s.flatMap encS))
    (hq : Bo ≤ q9 ∧ q9 < w.heap.size) (x0 : w.cell? ⟨q9, 0, none⟩ = some (.int .i64 f)) (x1 : w.cell? ⟨q9, 1, none⟩ = some (.int .i64 t)) (x2 : w.cell? ⟨q9, 2, none⟩ = some vs) :
    AddC bb Bo q9 w (flat S) vs s (flat S).length f t ((((w1.setCell ⟨bb + 1 + 1, 0, none⟩ (.int .i64 ((flat S).length : Nat))).setCell ⟨bb + 1, 0, none⟩ (.int .i64 f)).setCell ⟨bb + 1, 1, none⟩ (.int .i64 t)).setCell ⟨bb + 1, 2, none⟩ vs) := by
  have hlow := h.low
  have hsz := h.size
  obtain ⟨vo', o1', o2⟩ := h.out
  rw [o1] at o1'
  injection o1' with o1'
  subst o1'
  obtain ⟨vl, l1, l2⟩ := h.la
  obtain ⟨f', fr⟩ := h.fr
  have hc : ∀ q o, q < w.heap.size → w1.cell? ⟨q, o, none⟩ = w.cell? ⟨q, o, none⟩ := fun q o hq => hb.cell (p := ⟨q, o, none⟩) hq
  have hf : ∀ q o, q < w.heap.size → w1.frozen? ⟨q, o, none⟩ = w.frozen? ⟨q, o, none⟩ := fun q o hq => hb.frozen (p := ⟨q, o, none⟩) hq
  have c0 := (hc (bb + 1) 0 (by omega)).trans fr
  have c1 := (hc (bb + 1) 1 (by omega)).trans h.en
  have c2 := (hc (bb + 1) 2 (by omega)).trans l1
  have c3 := (hc (bb + 1 + 1) 0 (by omega)).trans h.fi
  have far : ∀ q o, q ≠ bb + 1 → q ≠ bb + 1 + 1 → ((((w1.setCell ⟨bb + 1 + 1, 0, none⟩ (.int .i64 ((flat S).length : Nat))).setCell ⟨bb + 1, 0, none⟩ (.int .i64 f)).setCell ⟨bb + 1, 1, none⟩ (.int .i64 t)).setCell ⟨bb + 1, 2, none⟩ vs).cell? ⟨q, o, none⟩ = w1.cell? ⟨q, o, none⟩ := fun q o h1 h2 =>
    World.cell?_of_block (w := w1) (a := ⟨q, o, none⟩) ((Below.heap_setCell _ _ _ _ h1).trans ((Below.heap_setCell _ _ _ _ h1).trans ((Below.heap_setCell _ _ _ _ h1).trans (Below.heap_setCell _ _ _ _ h2))))
  have rows : ∀ {t' size v n xs}, w.ownsRow Bo t' size v n xs → ((((w1.setCell ⟨bb + 1 + 1, 0, none⟩ (.int .i64 ((flat S).length : Nat))).setCell ⟨bb + 1, 0, none⟩ (.int .i64 f)).setCell ⟨bb + 1, 1, none⟩ (.int .i64 t)).setCell ⟨bb + 1, 2, none⟩ vs).ownsRow Bo t' size v n xs := fun hw =>
    ownsRow_setCell_below (ownsRow_setCell_below (ownsRow_setCell_below (ownsRow_setCell_below (own_below hw hb) (by show bb + 1 + 1 < _; omega) _) (by show bb + 1 < _; omega) _) (by show bb + 1 < _; omega) _) (by show bb + 1 < _; omega) _
  refine ⟨hlow, ?_, ⟨vo, (far _ _ (by omega) (by omega)).trans ((hc _ _ (by omega)).trans o1), rows o2, hne⟩, ?_, ?_, ?_, ?_, fun q j h1 h2 => ?_, rows hs, ⟨hq.1, ?_⟩, (far _ _ (by omega) (by omega)).trans ((hc _ _ hq.2).trans x0), (far _ _ (by omega) (by omega)).trans ((hc _ _ hq.2).trans x1), (far _ _ (by omega) (by omega)).trans ((hc _ _ hq.2).trans x2), hb.os, hb.tape, hb.output, ?_, fun q h1 h2 => ?_,
    ((((keeps_below hb).trans (KeepsOthers.setCell _ _ _)).trans (KeepsOthers.setCell _ _ _)).trans (KeepsOthers.setCell _ _ _)).trans (KeepsOthers.setCell _ _ _)⟩
  · have := hb.size; simp [World.setCell]; omega
  · simp [go_sem, c0]
  · simp [go_sem, c1]
  · simp [go_sem, c2]
  · simp [go_sem, c3]
  · rw [World.frozen?_setCell, World.frozen?_setCell, World.frozen?_setCell, World.frozen?_setCell, hf q j (by omega)]; exact h.fz q j h1 h2
  · have := hb.size; simp [World.setCell]; omega
  · have := hb.size; simp [World.setCell]; omega
  · exact (Below.heap_setCell _ _ _ _ (show q ≠ bb + 1 by omega)).trans ((Below.heap_setCell _ _ _ _ (show q ≠ bb + 1 by omega)).trans ((Below.heap_setCell _ _ _ _ (show q ≠ bb + 1 by omega)).trans ((Below.heap_setCell _ _ _ _ (show q ≠ bb + 1 + 1 by omega)).trans (hb.block q (by omega)))))
theorem own_grown {A B : World} {Bo : Nat} {t : TypeId} {size : Nat} {v : Value} {n : Nat} {xs : List Value} (hw : A.ownsRow Bo t size v n xs) {l : Nat} {o : Obj} (hg : A.grownBy B (some l)) (hl : A.heap[l]? = some o) (ho : o.isCells = false) : B.ownsRow Bo t size v n xs := by
  refine hw.kept hg ?_
  right
  intro e
  have := own_cells hw l o e hl
  rw [ho] at this; cases this
/-- Behind the loop: the boxes of one slab more. -/
theorem AddC.done {bb Bo q9 : Nat} {w0 wr : World} {S S' : List Slab} {vs : Value} {s : List Sp} {n : Nat} {f t : Int} (h : AddC bb Bo q9 w0 (flat S') vs s n f t wr) (hi : BInv S' s n t) : BC bb Bo S' s n t wr := by
  obtain ⟨vo, o1, o2, _⟩ := h.out
  exact ⟨h.low, h.size, ⟨vo, o1, o2⟩, ⟨_, h.c0⟩, h.c1, ⟨_, h.c2, h.own⟩, h.c3, h.fz, hi⟩
theorem AddC.drew {bb Bo q9 : Nat} {w0 wr : World} {L : List R4} {vs : Value} {s : List Sp} {n : Nat} {f t : Int} (h : AddC bb Bo q9 w0 L vs s n f t wr) : AddC bb Bo q9 w0 L vs s n f t wr.drew :=
  ⟨h.low, h.size, h.out, h.c0, h.c1, h.c2, h.c3, h.fz, h.own, h.at9, h.x0, h.x1, h.x2, h.os, h.tape, h.output, h.grow, h.block, ⟨h.keep.size, h.keep.same⟩⟩
theorem AddC.below {bb Bo q9 : Nat} {w0 wr : World} {L : List R4} {vs : Value} {s : List Sp} {n : Nat} {f t : Int} (h : AddC bb Bo q9 w0 L vs s n f t wr) : Below bb w0 wr :=
  ⟨h.os, h.tape, h.output, h.grow, fun q hq => h.block q (by have := h.low; omega) (.inl hq)⟩
theorem AddC.kpy {bb Bo q9 : Nat} {w0 wr : World} {L : List R4} {vs : Value} {s : List Sp} {n : Nat} {f t : Int} (h : AddC bb Bo q9 w0 L vs s n f t wr) : KpY bb Bo w0 wr :=
  ⟨h.grow, fun b o h1 h2 => World.cell?_of_block (w := w0) (a := ⟨b, o, none⟩) (h.block b h1 h2)⟩
/-- Behind the loop over the rectangles that end further on. -/
theorem BC.joined {bb Bo : Nat} {S S' : List Slab} {last : List Sp} {first : Nat} {e d : Int} {vo : Value} {xs : List Value} {m : Nat} {w2 w1 wr : World} (h : BC bb Bo S last first e w2) (hb1 : Below w2.heap.size w2 w1) (d0 : wr.cell? ⟨bb, 0, none⟩ = some vo) (hown : w2.ownsRow Bo 69 4 vo m xs)
    (R : wr.ownsRow Bo 69 4 vo (flat S').length ((flat S').flatMap encR)) (hG : w1.grownBy wr vo.ownBlock) (hinv : BInv S' last first d) :
    BC bb Bo S' last first d (wr.setCell ⟨bb + 1, 1, none⟩ (.int .i64 d)) ∧ Below bb w2 (wr.setCell ⟨bb + 1, 1, none⟩ (.int .i64 d)) ∧ KpY bb Bo w2 (wr.setCell ⟨bb + 1, 1, none⟩ (.int .i64 d)) ∧ KeepsOthers w2 (wr.setCell ⟨bb + 1, 1, none⟩ (.int .i64 d)) := by
  have hlow := h.low
  have hsz := h.size
  have hs1 := hb1.size
  have hGB : Below Bo w1 wr := (Below.refl Bo w1).grown hG (by omega) (fun q hq => (R.lt q hq).1)
  have hs2 := hGB.size
  have hc : ∀ q o, q < Bo → wr.cell? ⟨q, o, none⟩ = w2.cell? ⟨q, o, none⟩ := fun q o hq => (hGB.cell (p := ⟨q, o, none⟩) hq).trans (hb1.cell (p := ⟨q, o, none⟩) (by show q < _; omega))
  have hf : ∀ q o, q < Bo → wr.frozen? ⟨q, o, none⟩ = w2.frozen? ⟨q, o, none⟩ := fun q o hq => (hGB.frozen (p := ⟨q, o, none⟩) hq).trans (hb1.frozen (p := ⟨q, o, none⟩) (by show q < _; omega))
  obtain ⟨vl, l1, l2⟩ := h.la
  obtain ⟨f', fr⟩ := h.fr
  have c0 := (hc (bb + 1) 0 (by omega)).trans fr
  have c1 := (hc (bb + 1) 1 (by omega)).trans h.en
  have c2 := (hc (bb + 1) 2 (by omega)).trans l1
  have c3 := (hc (bb + 2) 0 (by omega)).trans h.fi
  have far : ∀ q o, q ≠ bb + 1 → (wr.setCell ⟨bb + 1, 1, none⟩ (.int .i64 d)).cell? ⟨q, o, none⟩ = wr.cell? ⟨q, o, none⟩ := fun q o h1 =>
    World.cell?_of_block (w := wr) (a := ⟨q, o, none⟩) (Below.heap_setCell _ _ _ _ h1)
  have hlb : bb + 1 < Bo := by omega
  refine ⟨⟨hlow, by simp [World.setCell]; omega, ⟨vo, (far _ _ (by omega)).trans d0, ownsRow_setCell_below R hlb _⟩, ⟨f', by simp [go_sem, c0]⟩, by simp [go_sem, c1], ⟨vl, by simp [go_sem, c2], ownsRow_setCell_below ((own_below l2 hb1).kept hG ?_) hlb _⟩, (far _ _ (by omega)).trans c3, fun q j h1 h2 => ?_, hinv⟩, ?_, ⟨by simp [World.setCell]; omega, fun b o h1 h2 => (far _ _ (by omega)).trans (hc _ _ h1)⟩, ?_⟩
  · exact own_apart l2 hown (by decide)
  · rw [World.frozen?_setCell, hf q j (by omega)]; exact h.fz q j h1 h2
  · exact Below.setCell ((hb1.mono (by omega)).trans (hGB.mono (by omega))) (p := ⟨bb + 1, 1, none⟩) (by show bb ≤ bb + 1; omega) _
  · exact ((keeps_below hb1).trans (KeepsOthers.of_grownBy hG fun j o hj ho => own_cells (own_below hown hb1) j o hj ho)).trans (KeepsOthers.setCell _ _ _)
end Go.Proofs.YtdolpeljengpaaaGreat

/- offset.carve: the region of what some rectangles have, and no hole has. -/
namespace Go.Proofs.YtdolpeljengpaaaGreat
open Go.RowKit
set_option linter.unusedVariables false
set_option linter.unusedSimpArgs false
attribute [local go_sem] Oper.semAt_some

set_option maxRecDepth 100000 in
set_option maxHeartbeats 8000000 in
theorem carve_any {a b : List R4} {va vb : Value} {w : World} (ra : RdK encR 4 w w.heap.size va a) (rb : RdK encR 4 w w.heap.size vb b) (na : a.length ≤ 2000) (nb : b.length ≤ 2000) (wa : ∀ r ∈ a, wf4 r) (wb : ∀ r ∈ b, wf4 r)
    (ba : ∀ r ∈ a, -3000000 ≤ r.y0 ∧ r.y0 ≤ 3000000 ∧ -3000000 ≤ r.y1 ∧ r.y1 ≤ 3000000) (bb0 : ∀ r ∈ b, -3000000 ≤ r.y0 ∧ r.y0 ≤ 3000000 ∧ -3000000 ≤ r.y1 ∧ r.y1 ≤ 3000000) :
    Calls Tryz.prog 175 #[va, vb] w fun e w' => RegRet w.heap.size (carveF a b) e w' ∧ Below w.heap.size w w' := by
  have hcl : (List.flatMap cutsL [a, b]).length ≤ 100000000 := by simp [cutsL_len]; omega
  have hcs := cutsOf_ok (List.flatMap cutsL [a, b])
  have hl2 : (List.flatMap cutsL [a, b]).length = 2 * a.length + 2 * b.length := by simp [cutsL_len]
  have hcn : (cutsOf (List.flatMap cutsL [a, b])).length ≤ 8000 := by
    have h1 := cutsOf_len (List.flatMap cutsL [a, b])
    omega
  clear hl2
  have hfin := swp_join (h := hSub) rfl wa wb hcs.1 (fun c hc => (hcs.2 c).2 (by simp [hc])) (fun c hc => (hcs.2 c).2 (by simp [hc]))
  have hgl : ∀ c, (sjoin hSub (crossL a c) (crossL b c)).length ≤ 8000 := by
    intro c
    have h1 := sjoin_len hSub (crossL a c) (crossL b c)
    have h2 := crossL_len a c
    have h3 := crossL_len b c
    omega
  have hal : ∀ r ∈ a, r.y0 < r.y1 ∧ -3000000 ≤ r.y0 ∧ r.y0 ≤ 3000000 ∧ -3000000 ≤ r.y1 ∧ r.y1 ≤ 3000000 := fun r hr => ⟨(wa r hr).2, ba r hr⟩
  have hbl : ∀ r ∈ b, r.y0 < r.y1 ∧ -3000000 ≤ r.y0 ∧ r.y0 ≤ 3000000 ∧ -3000000 ≤ r.y1 ∧ r.y1 ≤ 3000000 := fun r hr => ⟨(wb r hr).2, bb0 r hr⟩
  obtain ⟨A1, c1, hva, _⟩ := id ra
  obtain ⟨A2, c2, hvb, _⟩ := id rb
  subst hva; subst hvb
  have hslab := fun (W : World) (hW : Below w.heap.size w W) => oslabs_any a b A1 A2 c1 c2 W ((ra.below hW).mono hW.size) ((rb.below hW).mono hW.size) hcl
  have hcF : carveF a b = if 400 < (rjoin hSub a b).length then ([], 4) else (rjoin hSub a b, 0) := rfl
  generalize hcsd : cutsOf (List.flatMap cutsL [a, b]) = cs at *
  clear hcsd
  have RA := hide ra
  have RB := hide rb
  have HS := hide hslab
  have HF := hide hfin
  have HG := hide hgl
  have HC := hide hcs
  have HCF := hide hcF
  have HAL := hide hal
  have HBL := hide hbl
  clear ra rb hslab hfin hgl hcs hcF hal hbl wa wb ba bb0 hcl
  refine (callsIn_wide (n := 0)).1 ?_
  refine callsIn_of_wp_marks Tryz.func175 rfl trivial ?_
  simp only [Tryz.ntmps175, List.size_toArray, List.length_cons, List.length_nil, Nat.reduceAdd, Nat.reduceSub, Array.replicate_succ, Array.replicate_zero, List.push_toArray, List.append_toArray, List.nil_append, List.cons_append]
  refine wpIn_wide.2 ?_
  go_wp2_with (fail)
  obtain ⟨W1, hW1⟩ : ∃ x, x = ((w.alloc (.cells #[.slice none 0 0] 27)).alloc (.cells #[.int .i64 0, .int .i64 0, .slice none 0 0] 272)).alloc (.cells #[.int .i64 0] 3) := ⟨_, rfl⟩
  rw [← hW1]
  have hb1 : Below w.heap.size w W1 := by rw [hW1]; exact (((Below.refl _ _).alloc (Nat.le_refl _) _).alloc (by simp) _).alloc (by simp; omega) _
  have hs1 : W1.heap.size = w.heap.size + 3 := by rw [hW1]; simp
  have k0 : W1.cell? ⟨w.heap.size, 0, none⟩ = some (.slice none 0 0) := by rw [hW1]; simp [go_sem]
  have k10 : W1.cell? ⟨w.heap.size + 1, 0, none⟩ = some (.int .i64 0) := by rw [hW1]; simp [go_sem]
  have k11 : W1.cell? ⟨w.heap.size + 1, 1, none⟩ = some (.int .i64 0) := by rw [hW1]; simp [go_sem]
  have k12 : W1.cell? ⟨w.heap.size + 1, 2, none⟩ = some (.slice none 0 0) := by rw [hW1]; simp [go_sem]
  have k2 : W1.cell? ⟨w.heap.size + 2, 0, none⟩ = some (.int .i64 0) := by rw [hW1]; simp [go_sem]
  have hz : ∀ q j, w.heap.size ≤ q → q < w.heap.size + 3 → W1.frozen? ⟨q, j, none⟩ = false := fun q j h1 h2 => by
    rw [hW1]
    have : q = w.heap.size ∨ q = w.heap.size + 1 ∨ q = w.heap.size + 2 := by omega
    rcases this with rfl | rfl | rfl <;> simp [go_sem]
  clear hW1
  refine (HS.out W1 hb1).mono ?_
  rintro e wS ⟨vc, rfl, l0, l1, kc, hown, hbS⟩
  have HS1 := hide hs1
  clear hs1
  go_wp2_with (fail)
  have hs1 := HS1.out
  have hcsz := hbS.size
  obtain ⟨Ac, cc, hvc⟩ := own_form hown
  subst hvc
  have hlow : Below w.heap.size w wS := hb1.trans (hbS.mono (by omega))
  have kS : ∀ q j, q < w.heap.size + 3 → wS.cell? ⟨q, j, none⟩ = W1.cell? ⟨q, j, none⟩ := fun q j h => hbS.cell (p := ⟨q, j, none⟩) (by show q < _; omega)
  have zS : ∀ q j, q < w.heap.size + 3 → wS.frozen? ⟨q, j, none⟩ = W1.frozen? ⟨q, j, none⟩ := fun q j h => hbS.frozen (p := ⟨q, j, none⟩) (by show q < _; omega)
  have hbc0 : BC w.heap.size wS.heap.size (swp (fun c => sjoin hSub (crossL a c) (crossL b c)) []) [] 0 0 wS :=
    ⟨by omega, Nat.le_refl _, ⟨_, (kS _ _ (by omega)).trans k0, World.ownsRow_nil _ _ _ _⟩, ⟨_, (kS _ _ (by omega)).trans k10⟩, (kS _ _ (by omega)).trans k11, ⟨_, (kS _ _ (by omega)).trans k12, World.ownsRow_nil _ _ _ _⟩, (kS _ _ (by omega)).trans k2, fun q j h1 h2 => (zS q j h2).trans (hz q j h1 h2), BInv.start⟩
  have hbl : W1.heap.size < wS.heap.size := lt_of_cell l0
  have hbcs : W1.heap.size + 1 < wS.heap.size := lt_of_cell kc
  have hit := oslabsIt a b cs (W1.heap.size + 1) W1.heap.size a.length b.length c1 c2 cc w.heap.size (W1.heap.size + 2) Ac A1 A2 wS rfl rfl hbl hbcs (by omega) (by omega) (by omega) (by omega) l0 l1 kc hown
    (RA.out.below hlow) (RB.out.below hlow) HAL.out HBL.out (by omega) (by omega) (by omega)
  have hI0 : MC w.heap.size wS.heap.size (fun c => sjoin hSub (crossL a c) (crossL b c)) 8000 w [] wS := ⟨⟨[], 0, 0, hbc0, by simp, .inl rfl⟩, hlow⟩
  have hws : w.heap.size + 5 ≤ wS.heap.size := by omega
  clear hs1 hb1 k0 k10 k11 k12 k2 hz l0 l1 kc hown hbS hcsz hlow kS zS hbc0 hbl
  refine (wpIn_wide (n := 0)).1 ?_
  refine wp_range rfl (enters_of Tryz.func227 (by kernel_rfl) rfl) hit (Below.refl _ _) (fun x args A hx => by obtain ⟨A, c, rfl, _⟩ := hx; rfl) KpY.trans ?_
    (MC w.heap.size wS.heap.size (fun c => sjoin hSub (crossL a c) (crossL b c)) 8000 w) (fun _ _ => False) (fun pre A B h hb => h.below hb) (fun pre A l o o' h hw hl ho ho' => h.putObj (by omega) hl ho ho') (fun _ _ _ _ _ h => h.elim) hI0 ?_ ?_ (fun _ _ _ _ h => h.elim)
  · intro A l o o' _ h1 h2 h3
    exact ⟨by simp, fun b off _ _ => (cell_putObj h1 h2 h3 _).1⟩
  · rintro l2 pre ⟨c, d⟩ args A hMI ⟨post, hpost⟩ ⟨As, cs9, rfl, hos⟩ hl1 ⟨ol, hl2, hl3⟩
    have hll : l2 < A.heap.size := (Array.getElem?_eq_some_iff.1 hl2).1
    have hlo := hMI.low.size
    have hprs := hpost
    have hlt := prs_lt cs HC.out.1 (c, d) (by rw [hprs]; simp)
    have hnx := prs_next cs pre (c, d) post hprs
    have hplen : pre.length ≤ 8000 := by
      have h1 := prs_len cs
      rw [hprs] at h1
      simp at h1
      omega
    have hfl := swp_len (fun c => sjoin hSub (crossL a c) (crossL b c)) 8000 HG.out pre
    have hfl2 : (flat (swp (fun c => sjoin hSub (crossL a c) (crossL b c)) pre)).length ≤ 100000000 := by have := Nat.mul_le_mul_right 8000 hplen; omega
    have hsl := HG.out c
    have HSW : Hid (swp (fun c => sjoin hSub (crossL a c) (crossL b c)) (pre ++ [(c, d)]) = addS (swp (fun c => sjoin hSub (crossL a c) (crossL b c)) pre) c d (sjoin hSub (crossL a c) (crossL b c))) := hide (swp_snoc _ _ _)
    obtain ⟨last, first, e, BA, q1, q2⟩ := hMI.bw
    have hef : swp (fun c => sjoin hSub (crossL a c) (crossL b c)) pre = [] ∨ e ≤ c := by
      rcases q2 with rfl | ⟨p, hp, rfl⟩
      · exact .inl rfl
      · exact .inr (by rw [hnx p hp]; exact Int.le_refl _)
    have hoA : ∃ vo, A.cell? ⟨w.heap.size, 0, none⟩ = some vo ∧ ∀ q, vo.ownBlock = some q → q < A.heap.size := by
      obtain ⟨vo, o1, o2⟩ := BA.out
      exact ⟨vo, o1, fun q hq => (o2.lt q hq).2⟩
    have hBoA := BA.size
    have hM := hide hMI
    have HL2 := hide hl2
    have HOS := hide hos
    have HOA := hide hoA
    have HBA := hide BA
    have HEF := hide hef
    have HGO : Hid (MC w.heap.size wS.heap.size (fun c => sjoin hSub (crossL a c) (crossL b c)) 8000 w = MC w.heap.size wS.heap.size (fun c => sjoin hSub (crossL a c) (crossL b c)) 8000 w) := hide rfl
    clear hMI hit hI0 hl2 hpost hprs hnx hos hoA BA hef q2 hfl
    simp only at hlt
    gi_wp2
    refine ⟨KeepsFrom.of_below' ((Below.refl _ _).alloc (Nat.le_refl _) _), KpY.below hBoA ((Below.refl _ _).alloc (Nat.le_refl _) _), ?_⟩
    intro A2 g2 s2 e2 f2
    have s3 : A2.heap.size = A.heap.size + 1 := by rw [s2]; simp
    have hbA : Below A.heap.size A (A.alloc (.cells #[.int .i64 c, .int .i64 d, .slice As (sjoin hSub (crossL a c) (crossL b c)).length cs9] 272)) := (Below.refl _ _).alloc (Nat.le_refl _) _
    have x90 : A2.cell? ⟨A.heap.size, 0, none⟩ = some (.int .i64 c) := (e2 _).trans (by simp [go_sem])
    have x91 : A2.cell? ⟨A.heap.size, 1, none⟩ = some (.int .i64 d) := (e2 _).trans (by simp [go_sem])
    have x92 : A2.cell? ⟨A.heap.size, 2, none⟩ = some (.slice As (sjoin hSub (crossL a c) (crossL b c)).length cs9) := (e2 _).trans (by simp [go_sem])
    have hl2' := (Below.heap_alloc A (.cells #[.int .i64 c, .int .i64 d, .slice As (sjoin hSub (crossL a c) (crossL b c)).length cs9] 272) _ hll).trans HL2.out
    have HB2 := hide ((HBA.out.below hbA).grown g2 hl2' hl3)
    have HO2 := hide (own_grown (own_below HOS.out hbA) g2 hl2' hl3)
    have HM2 := hide ((hM.out.below hbA).grown (by omega) g2 hl2' hl3).low
    obtain ⟨vo, o1, o2⟩ := HOA.out
    have hne9 : vo.ownBlock ≠ some A.heap.size := fun e => by have := o2 _ e; omega
    have b0 : A2.cell? ⟨w.heap.size, 0, none⟩ = some vo := (e2 _).trans ((World.cell?_alloc_lt A _ ⟨w.heap.size, 0, none⟩ (by show w.heap.size < _; omega)).trans o1)
    clear s2 g2 e2 f2 hbA hl2' hl3 HL2 HOS HBA HOA o1 o2 hM HGO
    generalize sjoin hSub (crossL a c) (crossL b c) = s at *
    generalize swp (fun c => sjoin hSub (crossL a c) (crossL b c)) pre = S at *
    obtain ⟨f0, fr⟩ := HB2.out.fr
    have en := HB2.out.en
    obtain ⟨vl, la1, la2⟩ := HB2.out.la
    have fi := HB2.out.fi
    obtain ⟨vo', oo1, oo2⟩ := HB2.out.out
    rw [b0] at oo1
    injection oo1 with oo1
    subst oo1
    obtain ⟨Ao, co, hvo, _⟩ := own_rd oo2 (fun _ => rfl)
    have hrl := own_rd la2 (fun _ => rfl)
    obtain ⟨Al, cl, hvl, _⟩ := id hrl
    subst hvo; subst hvl
    have hrs := own_rd HO2.out (fun _ => rfl)
    have z11 := HB2.out.fz (w.heap.size + 1) 1 (by omega) (by omega)
    have z10 := HB2.out.fz (w.heap.size + 1) 0 (by omega) (by omega)
    have z12 := HB2.out.fz (w.heap.size + 1) 2 (by omega) (by omega)
    have z2 := HB2.out.fz (w.heap.size + 2) 0 (by omega) (by omega)
    have HEQ := hide (fun (W : World) (hb : Below A2.heap.size A2 W) => eqSpan_any (w := W) (B := A2.heap.size) (C := A2.heap.size) (hrl.below hb) (hrs.below hb) (by omega) hb.size hb.size)
    have HOO := hide oo2
    have HLA := hide la2
    clear hrl hrs oo2 la2
    generalize hbbd : w.heap.size = bb at *
    generalize hBod : wS.heap.size = Bo at *
    generalize hq9d : A.heap.size = q9 at *
    by_cases hc : s ≠ [] ∧ e = c ∧ last = s
    · obtain ⟨hsne, hec, hls⟩ := hc
      subst hec; subst hls
      obtain ⟨S0, f1, hS, hfi, hadd, hinv⟩ := BInv.join (t := d) HB2.out.inv hsne rfl rfl
      have hd : decide (last = last) = true := decide_eq_true rfl
      rw [hd] at HEQ
      have hfl : first < (flat S).length := by
        rw [hS, flat_append, flat_one, List.length_append, hfi]
        have := List.length_pos_iff.2 hsne
        simp [flat1]; omega
      obtain ⟨g, cap, hvo, hBg, hgw⟩ := HOO.out.form (by omega)
      injection hvo with e1 _ e3
      subst e1; subst e3
      have hg9 : g ≠ q9 := fun e => hne9 (by rw [← e]; rfl)
      have hlp : (0 : Int) < (last.length : Int) := by have := List.length_pos_iff.2 hsne; omega
      have hee : (e == e) = true := by simp
      have HI := hide hinv
      have HS0 := hide hS
      have HF0 := hide hfi
      have HA0 := hide hadd
      clear hd hinv hS hfi hadd
      have hbb2 : bb + 3 ≤ A2.heap.size := by omega
      have hq92 : q9 < A2.heap.size := by omega
      gi_wp2_with (first
        | (refine ⟨trivial, rfl, ?_⟩)
        | (gi_at_call 186; refine (CallsIn.inRound l2 (callsIn_wide.2 (HEQ.out _ (Below.refl _ _)))).mono ?_; rintro r w1 ⟨rfl, hb1⟩; have d0 := (hb1.cell (p := ⟨bb, 0, none⟩) (by show bb < _; omega)).trans b0; have d2 := (hb1.cell (p := ⟨bb + 2, 0, none⟩) (by show bb + 2 < _; omega)).trans fi; have d3 := (hb1.cell (p := ⟨q9, 1, none⟩) hq92).trans x91; have d4 := (hb1.cell (p := ⟨bb + 1, 1, none⟩) (by show bb + 1 < _; omega)).trans en; have g4 := (hb1.frozen (p := ⟨bb + 1, 1, none⟩) (by show bb + 1 < _; omega)).trans z11))
      have HB1 := hide hb1
      have HFI := hide fi
      clear hb1 b0 f0 fr en fi la1 z11 z10 z12 z2 x90 x91 x92 hee hlp
      gi_loopw [10] (fun i wr => ∃ k : Nat, first ≤ k ∧ k ≤ (flat S).length ∧ i = .int .i64 k ∧ wr.cell? ⟨bb, 0, none⟩ = some (.slice (some ⟨g, 0, none⟩) (flat S).length co) ∧ wr.cell? ⟨q9, 1, none⟩ = some (.int .i64 d) ∧ wr.cell? ⟨bb + 1, 1, none⟩ = some (.int .i64 e) ∧ wr.frozen? ⟨bb + 1, 1, none⟩ = false ∧
          Hid (wr.ownsRow Bo 69 4 (.slice (some ⟨g, 0, none⟩) (flat S).length co) (flat S).length ((upTo d first k (flat S)).flatMap encR)) ∧ Hid (w1.grownBy wr (Value.slice (some ⟨g, 0, none⟩) (flat S).length co).ownBlock)) (fun i _ => (flat S).length - (intOf i).toNat)
      case atStart => exact ⟨first, Nat.le_refl _, by omega, rfl, d0, d3, d4, g4, hide (by rw [upTo_start]; exact own_below HOO.out HB1.out), hide (grown_refl _ _)⟩
      case round =>
        clear d0 d2 d3 d4 g4
        obtain ⟨k, hk1, hk2, rfl, d0, d3, d4, g4, HR, HGR⟩ := hrel
        by_cases hlt : k < (flat S).length
        · have hkz : (k : Int) < ((flat S).length : Int) := by omega
          obtain ⟨r, hr⟩ : ∃ r, (upTo d first k (flat S))[k]? = some r := ⟨_, List.getElem?_eq_getElem (by rw [upTo_len]; exact hlt)⟩
          have x1 : wr.cell? ⟨g, k * 4 + 2, none⟩ = some (.int .i64 r.x1) := by
            have := (HR.out.cells (g := g) rfl) _ _ (flat_get (k := 4) (fun _ => rfl) _ k r 2 _ hr rfl)
            rwa [addr_add] at this
          have f1 : wr.frozen? ⟨g, k * 4 + 2, none⟩ = false := HR.out.frozenAt _
          have hst := HR.out.stored (k * 4 + 2) (.int .i64 d)
          rw [flat_set d _ k r hr, upTo_step d first k _ r hk1 hr] at hst
          have HST := hide hst
          have n1 : bb ≠ g := by omega
          have n2 : g ≠ bb := by omega
          have n3 : bb + 1 ≠ g := by omega
          have n4 : g ≠ bb + 1 := by omega
          have n5 : q9 ≠ g := fun e => hg9 e.symm
          clear hr hst
          gi_wp2
          go_roundw
          case rel => exact ⟨k + 1, by omega, by omega, by go_num, by simp [go_sem, d0, n1, n2], by simp [go_sem, d3, n5, hg9], by simp [go_sem, d4, n3, n4], by simp [go_sem, g4], hide HST.out.1, hide (HGR.out.trans HST.out.2)⟩
          case measure => simp [intOf]; omega
        · obtain rfl : k = (flat S).length := by omega
          have hkz : ¬ ((flat S).length : Int) < ((flat S).length : Int) := by omega
          gi_wp2
          have hend := upTo_end S0 f1 e d last
          rw [← HS0.out, ← HF0.out, ← HA0.out] at hend
          have R := HR.out
          have hlen : (flat (addS S e d last)).length = (flat S).length := by rw [← hend, upTo_len]
          rw [hend] at R
          obtain ⟨j1, j2, j3, j4⟩ := BC.joined HB2.out HB1.out d0 HOO.out (own_n R hlen.symm) HGR.out HI.out
          exact ⟨j4.from _, j3, ⟨last, first, d, by rw [HSW.out]; exact j1, hsl, .inr ⟨(e, d), by simp, rfl⟩⟩, by rw [hbbd]; exact HM2.out.trans j2⟩
    · obtain ⟨hfl, hinv⟩ := BInv.push (t := d) HB2.out.inv HEF.out hlt.1 hc
      have HF := hide hfl
      have HI := hide hinv
      have hbb2 : bb + 3 ≤ A2.heap.size := by omega
      have hq92 : q9 < A2.heap.size := by omega
      clear hfl hinv
      have HNE9 := hide hne9
      have h3 : (e == c) = false ∨ ((e == c) = true ∧ ¬ (0 : Int) < (s.length : Int)) ∨ ((e == c) = true ∧ (0 : Int) < (s.length : Int) ∧ decide (last = s) = false) := by
        by_cases hec : e = c
        · by_cases hs0 : s = []
          · exact .inr (.inl ⟨by simpa using hec, by simp [hs0]⟩)
          · exact .inr (.inr ⟨by simpa using hec, by have := List.length_pos_iff.2 hs0; omega, decide_eq_false fun g => hc ⟨hs0, hec, g⟩⟩)
        · exact .inl (by simpa using hec)
      clear hc
      rcases h3 with hee | ⟨hee, hlp⟩ | ⟨hee, hlp, hd⟩
      gi_wp2_with (refine ⟨trivial, ?_⟩)
      have HB1 : Hid (Below A2.heap.size A2 A2) := hide (Below.refl _ _)
      have d0 := b0
      have y0 := x90
      have y1 := x91
      have y2 := x92
      have g10 := z10
      have g11 := z11
      have g12 := z12
      have g2 := z2
      have d2 := fi
      have d10 := fr
      have d11 := en
      have d12 := la1
      generalize hw1 : A2 = w1 at d0 y0 y1 y2 g10 g11 g12 g2 d2 d10 d11 d12 ⊢
      have HB1 : Hid (Below A2.heap.size A2 w1) := hide (by rw [← hw1]; exact Below.refl _ _)
      clear hw1
      rotate_left 1
      gi_wp2_with (refine ⟨trivial, ?_⟩)
      have HB1 : Hid (Below A2.heap.size A2 A2) := hide (Below.refl _ _)
      have d0 := b0
      have y0 := x90
      have y1 := x91
      have y2 := x92
      have g10 := z10
      have g11 := z11
      have g12 := z12
      have g2 := z2
      have d2 := fi
      have d10 := fr
      have d11 := en
      have d12 := la1
      generalize hw1 : A2 = w1 at d0 y0 y1 y2 g10 g11 g12 g2 d2 d10 d11 d12 ⊢
      have HB1 : Hid (Below A2.heap.size A2 w1) := hide (by rw [← hw1]; exact Below.refl _ _)
      clear hw1
      rotate_left 1
      rw [hd] at HEQ
      clear hd
      gi_wp2_with (first
        | (refine ⟨trivial, rfl, ?_⟩)
        | (refine ⟨rfl, ?_⟩)
        | (gi_at_call 186; refine (CallsIn.inRound l2 (callsIn_wide.2 (HEQ.out _ (Below.refl _ _)))).mono ?_; rintro r w1 ⟨rfl, hb1⟩; have HB1 := hide hb1; clear hb1; have d0 := (HB1.out.cell (p := ⟨bb, 0, none⟩) (by show bb < _; omega)).trans b0; have y0 := (HB1.out.cell (p := ⟨q9, 0, none⟩) hq92).trans x90; have y1 := (HB1.out.cell (p := ⟨q9, 1, none⟩) hq92).trans x91; have y2 := (HB1.out.cell (p := ⟨q9, 2, none⟩) hq92).trans x92; have g10 := (HB1.out.frozen (p := ⟨bb + 1, 0, none⟩) (by show bb + 1 < _; omega)).trans z10; have g11 := (HB1.out.frozen (p := ⟨bb + 1, 1, none⟩) (by show bb + 1 < _; omega)).trans z11; have g12 := (HB1.out.frozen (p := ⟨bb + 1, 2, none⟩) (by show bb + 1 < _; omega)).trans z12; have g2 := (HB1.out.frozen (p := ⟨bb + 2, 0, none⟩) (by show bb + 2 < _; omega)).trans z2; have d2 := (HB1.out.cell (p := ⟨bb + 2, 0, none⟩) (by show bb + 2 < _; omega)).trans fi; have d10 := (HB1.out.cell (p := ⟨bb + 1, 0, none⟩) (by show bb + 1 < _; omega)).trans fr; have d11 := (HB1.out.cell (p := ⟨bb + 1, 1, none⟩) (by show bb + 1 < _; omega)).trans en; have d12 := (HB1.out.cell (p := ⟨bb + 1, 2, none⟩) (by show bb + 1 < _; omega)).trans la1))
      all_goals
        have HQ9 := hide (And.intro x90 (And.intro x91 x92))
        have HB0 := hide b0
        clear b0 x90 x91 x92 z10 z11 z12 z2 fi fr en la1 hee
        try clear hlp
        refine wpIn_region_mix_round [0, 1, 2] [3, 4] (fun w' => w'.cell? ⟨bb, 0, none⟩ = some (.slice Ao (flat S).length co) ∧ w'.cell? ⟨q9, 0, none⟩ = some (.int .i64 c) ∧ w'.cell? ⟨q9, 1, none⟩ = some (.int .i64 d) ∧ w'.cell? ⟨q9, 2, none⟩ = some (.slice As s.length cs9)) (by kernel_rfl) (by kernel_rfl) (by kernel_rfl) (fun _ _ h => h) ⟨d0, y0, y1, y2⟩ ?_
        simp only [List.map_cons, List.map_nil, opAt, List.getElem?_cons_succ, List.getElem?_cons_zero, Option.getD_some]
        iterate 3
          refine ⟨?_, Or.inl ⟨by rfl, ?_⟩, ?_⟩
          rotate_left 1
          · intro w' hSw
            obtain ⟨u1, u2, u3, u4⟩ := hSw
            go_simp
            first | done | with_reducible rfl
          simp only [Act.put, List.setIfInBounds_toArray, List.set_cons_zero, List.set_cons_succ]
        simp only [wpReads]
        intro K hK
        simp only [Act.put, List.setIfInBounds_toArray, List.set_cons_zero, List.set_cons_succ] at hK ⊢
        go_simp
        have far : ∀ q o (u : Value), q ≠ bb + 1 + 1 → ((w1.setCell ⟨bb + 1 + 1, 0, none⟩ u).drew).cell? ⟨q, o, none⟩ = w1.cell? ⟨q, o, none⟩ := fun q o u hq => World.cell?_of_block (w := w1) (a := ⟨q, o, none⟩) (Below.heap_setCell _ _ _ _ hq)
        refine hK _ _ (fun _ => ⟨(far _ _ _ (by omega)).trans d0, (far _ _ _ (by omega)).trans y0, (far _ _ _ (by omega)).trans y1, (far _ _ _ (by omega)).trans y2⟩) ?_
        clear hK K far
        intro K hK
        simp only [Act.put, List.setIfInBounds_toArray, List.set_cons_zero, List.set_cons_succ] at hK ⊢
        go_simp
        refine hK _ _ (fun h => absurd rfl h) ?_
        clear hK K
        refine NoPanic.normal ?_
        have HS2 := hide ((AddC.start (first := first) (e := e) HB2.out HB0.out HNE9.out HB1.out HO2.out ⟨hBoA, hq92⟩ HQ9.out.1 HQ9.out.2.1 HQ9.out.2.2).drew)
        obtain ⟨Z, hZ⟩ : ∃ Z, Z = ((((w1.setCell ⟨bb + 1 + 1, 0, none⟩ (.int .i64 ((flat S).length : Nat))).setCell ⟨bb + 1, 0, none⟩ (.int .i64 c)).setCell ⟨bb + 1, 1, none⟩ (.int .i64 d)).setCell ⟨bb + 1, 2, none⟩ (.slice As s.length cs9)).drew := ⟨_, rfl⟩
        rw [← hZ] at HS2 ⊢
        have yy2 := HS2.out.x2
        clear hZ d0 y0 y1 y2 g10 g11 g12 g2 d2 d10 d11 d12 HB1
        gi_wp2
        clear yy2
        obtain ⟨i1, gi, gz0, gz1, gz2⟩ := info_parts infoRc
        gi_loopw [58] (fun i wr => ∃ m : Nat, m ≤ s.length ∧ i = .int .i64 m ∧ Hid (AddC bb Bo q9 A2 (flat S ++ (s.take m).map (fun p => ⟨c, p.1, d, p.2⟩)) (.slice As s.length cs9) s (flat S).length c d wr)) (fun i _ => s.length - (intOf i).toNat)
        case atStart => exact ⟨0, Nat.zero_le _, rfl, hide (by rw [List.take_zero, List.map_nil, List.append_nil]; exact HS2.out)⟩
        case round =>
          clear HS2
          obtain ⟨m, hm, rfl, HA⟩ := hrel
          by_cases hlm : m < s.length
          · try (exfalso; omega)
            all_goals
              have hmz : (m : Int) < (s.length : Int) := by omega
              obtain ⟨gs, cap2, hvs, hB2s, hg2s⟩ := HA.out.own.form (by omega)
              injection hvs with e1 _ e3
              subst e1; subst e3
              obtain ⟨⟨p1, p2⟩, hp⟩ : ∃ p, s[m]? = some p := ⟨_, List.getElem?_eq_getElem hlm⟩
              have x0 : wr.cell? ⟨gs, m * 2, none⟩ = some (.int .i64 p1) := by
                have := (HA.out.own.cells (g := gs) rfl) _ _ (flat_get (k := 2) (fun _ => rfl) _ m _ 0 _ hp rfl)
                rwa [addr_add] at this
              have x1 : wr.cell? ⟨gs, m * 2 + 1, none⟩ = some (.int .i64 p2) := by
                have := (HA.out.own.cells (g := gs) rfl) _ _ (flat_get (k := 2) (fun _ => rfl) _ m _ 1 _ hp rfl)
                rwa [addr_add] at this
              have HT2 : Hid (flat S ++ (s.take (m + 1)).map (fun p : Sp => (⟨c, p.1, d, p.2⟩ : R4)) = (flat S ++ (s.take m).map (fun p : Sp => (⟨c, p.1, d, p.2⟩ : R4))) ++ [⟨c, p1, d, p2⟩]) := hide (by
                obtain ⟨hk, hpe⟩ := List.getElem?_eq_some_iff.1 hp
                rw [List.take_succ_eq_append_getElem hk, List.map_append, hpe, ← List.append_assoc]; rfl)
              have hL : (flat S ++ (s.take m).map (fun p : Sp => (⟨c, p.1, d, p.2⟩ : R4))).length ≤ 200000000 := by
                rw [List.length_append, List.length_map, List.length_take]; omega
              clear hp
              generalize flat S ++ (s.take m).map (fun p : Sp => (⟨c, p.1, d, p.2⟩ : R4)) = L at *
              gi_upto_region 16 with fail
              obtain ⟨wb, hwb⟩ : ∃ wb, wb = wr.alloc (.cells #[.int .i64 p1, .int .i64 p2] 188) := ⟨_, rfl⟩
              rw [← hwb]
              obtain ⟨vo, v1, v2, v9⟩ := HA.out.out
              obtain ⟨Av, cv, hv, _⟩ := own_rd v2 (fun _ => rfl)
              subst hv
              have hbw : Below wr.heap.size wr wb := by rw [hwb]; exact (Below.refl _ _).alloc (Nat.le_refl _) _
              have hq9w := HA.out.at9
              have hBow := HA.out.size
              have gv : wb.cell? ⟨bb, 0, none⟩ = some (.slice Av L.length cv) := (hbw.cell (p := ⟨bb, 0, none⟩) (by show bb < _; omega)).trans v1
              have gz0' : wb.cell? ⟨q9, 0, none⟩ = some (.int .i64 c) := (hbw.cell (p := ⟨q9, 0, none⟩) (by show q9 < _; omega)).trans HA.out.x0
              have gz1' : wb.cell? ⟨q9, 1, none⟩ = some (.int .i64 d) := (hbw.cell (p := ⟨q9, 1, none⟩) (by show q9 < _; omega)).trans HA.out.x1
              have gy0 : wb.cell? ⟨wr.heap.size, 0, none⟩ = some (.int .i64 p1) := by rw [hwb]; simp [go_sem]
              have gy1 : wb.cell? ⟨wr.heap.size, 1, none⟩ = some (.int .i64 p2) := by rw [hwb]; simp [go_sem]
              have gs' : wb.heap.size = wr.heap.size + 1 := by rw [hwb]; simp
              have HV1 := hide v1
              have HV2 := hide v2
              have HV9 := hide v9
              have HBW := hide hbw
              have HOB := hide (own_below v2 hbw)
              have HGS := hide gs'
              have hBw2 : Bo ≤ wb.heap.size := by omega
              clear v1 v2 v9 hbw hwb x0 x1 gs' hq9w
              refine wpIn_region_plain_round (by kernel_rfl) (fun _ _ h => h) ?_
              go_wp2_with (at_builtin; refine wpList_append_lies _ rfl (.tmp 62) (.tmp 72) 27 rfl Bo 69 i1 (.agg #[.int .i64 0, .int .i64 0, .int .i64 0, .int .i64 0]) 4 32 Tryz.underlying27 gi gz0 gz1 gz2 rfl (by decide) _ L.length _ rfl (HOB.out.alloc _) ⟨wb.heap.size, 0, none⟩ 1 1 [.int .i64 c, .int .i64 p1, .int .i64 d, .int .i64 p2] rfl rfl (news_new wb _ _ _ rfl) (ints_one rfl) (by omega) (by unfold maxLen; omega) (by omega) (by simp; omega) _ rfl ?_)
              intro g9 cap9 w9 hown9 hgrow9 hor9 hlt9
              have hx9 : L.flatMap encR ++ [.int .i64 c, .int .i64 p1, .int .i64 d, .int .i64 p2] = (L ++ [(⟨c, p1, d, p2⟩ : R4)]).flatMap encR := by simp [encR]
              rw [hx9] at hown9
              have hn9 : (Value.slice (some ⟨g9, 0, none⟩) (L.length + 1) cap9).ownBlock ≠ some q9 := by
                intro e
                have e' : g9 = q9 := by injection e
                rcases hor9 with h | h
                · exact HV9.out (by rw [h, e'])
                · have h9 := HA.out.at9
                  have hs := HGS.out
                  have hz : g9 = wb.heap.size + 1 := by simpa using h
                  omega
              obtain ⟨s1, s2, HF9⟩ := AddC.push (r := ⟨c, p1, d, p2⟩) HA.out HV1.out HV2.out ((HBW.out.trans ((Below.refl wr.heap.size wb).alloc (by have := HBW.out.size; omega) _))) hgrow9 hown9 hn9
              clear hown9 hgrow9 hor9 hx9 hn9
              go_wp2_with (fail)
              gi_wp2
              go_roundw
              case rel => exact ⟨m + 1, by omega, by go_num, hide (by rw [HT2.out]; exact HF9.out)⟩
              case measure => simp [intOf]; omega
          · obtain rfl : m = s.length := by omega
            have hmz : ¬ (s.length : Int) < (s.length : Int) := by omega
            have hA := HA.out
            rw [List.take_length, ← HF.out] at hA
            have HA2 := hide hA
            clear hA HA
            gi_wp2
            have j1 := HA2.out.done (S := S) HI.out
            exact ⟨HA2.out.keep.from _, HA2.out.kpy, ⟨s, _, d, by rw [HSW.out]; exact j1, hsl, .inr ⟨(c, d), by simp, rfl⟩⟩, by rw [hbbd]; exact HM2.out.trans HA2.out.below⟩
  · rintro D W hD hMI hK
    obtain ⟨last, first, e, hB, _, _⟩ := hMI.bw
    obtain ⟨vo, o1, o2⟩ := hB.out
    have hplen : (prs cs).length ≤ 8000 := by
      have h1 := prs_len cs
      omega
    have hfl := swp_len (fun c => sjoin hSub (crossL a c) (crossL b c)) 8000 HG.out (prs cs)
    have hfl2 : (flat (swp (fun c => sjoin hSub (crossL a c) (crossL b c)) (prs cs))).length ≤ 100000000 := by have := Nat.mul_le_mul_right 8000 hplen; omega
    rw [HF.out] at o2 hfl2
    obtain ⟨Ao, co, hvo⟩ := own_form o2
    subst hvo
    have HO := hide o2
    have HM := hide hMI.low
    have HK := hide hK
    have hD2 : D < W.heap.size := (Array.getElem?_eq_some_iff.1 hK).1
    clear hB hMI hfl hit hI0 hK o2 hplen
    simp only [Exit.inBlock, Exit.then]
    by_cases h4 : 400 < (rjoin hSub a b).length
    · have hm : carveF a b = ([], 4) := by rw [HCF.out, if_pos h4]
      have HMF := hide hm
      clear hm
      generalize rjoin hSub a b = R at *
      have hz : (400 : Int) < (R.length : Int) := by omega
      go_wp2
      refine ⟨by simp, .inl ⟨_, _, rfl, run_takeDeferred HK.out, ?_⟩⟩
      refine ⟨_, results_tmp2 rfl _ _ _, ⟨none, 0, by rw [HMF.out]; rfl, by rw [HMF.out]; exact World.ownsRow_nil _ _ _ _⟩, below_putObj HM.out (by omega) _⟩
    · have hm : carveF a b = (rjoin hSub a b, 0) := by rw [HCF.out, if_neg h4]
      have HMF := hide hm
      clear hm
      generalize rjoin hSub a b = R at *
      have hz : (R.length : Int) ≤ 400 := by omega
      go_wp2
      refine ⟨by simp, .inl ⟨_, _, rfl, run_takeDeferred HK.out, ?_⟩⟩
      refine ⟨_, results_tmp2 rfl _ _ _, ⟨Ao, co, by rw [HMF.out]; rfl, by rw [HMF.out]; exact own_base (own_putObj HO.out HK.out rfl) (by omega)⟩, below_putObj HM.out (by omega) _⟩
end Go.Proofs.YtdolpeljengpaaaGreat

/- offset: checked, grown, and the closure of missing. -/
namespace Go.Proofs.YtdolpeljengpaaaGreat
open Go.RowKit
set_option linter.unusedVariables false
set_option linter.unusedSimpArgs false

/-- The error of a region or a distance. -/
def chkD (l : List R4) (d : Int) : Int := if checkF l = 0 then (if d < 0 ∨ 1000000 < d then 2 else 0) else checkF l
set_option maxHeartbeats 1000000 in
theorem ochecked_any {w : World} {v : Value} {l : List R4} (hr : RdK encR 4 w w.heap.size v l) (hl : l.length ≤ 100000000) (d : Int) :
    Calls Tryz.prog 170 #[v, .int .i64 d] w fun e w' => e = .returned (.int .i64 (chkD l d)) ∧ Below w.heap.size w w' := by
  have hck := check_any hr hl
  obtain ⟨A, c, hv, _⟩ := id hr
  subst hv
  clear hr
  by_cases h0 : checkF l = 0
  · have hF : chkD l d = if d < 0 ∨ 1000000 < d then 2 else 0 := if_pos h0
    rw [h0] at hck
    have HC := hide hck
    clear hck h0
    by_cases h1 : d < 0
    · have HF : Hid (chkD l d = 2) := hide (by rw [hF, if_pos (.inl h1)])
      clear hF
      go_enter Tryz.func170, Tryz.ntmps170
      go_wp2_with (go_at_call 68; refine HC.out.mono ?_; rintro e w1 ⟨rfl, hb1⟩)
      go_ret
      exact ⟨ret_eq (int_eq HF.out.symm), hb1⟩
    · by_cases h2 : 1000000 < d
      · have HF : Hid (chkD l d = 2) := hide (by rw [hF, if_pos (.inr h2)])
        clear hF
        go_enter Tryz.func170, Tryz.ntmps170
        go_wp2_with (go_at_call 68; refine HC.out.mono ?_; rintro e w1 ⟨rfl, hb1⟩)
        go_ret
        exact ⟨ret_eq (int_eq HF.out.symm), hb1⟩
      · have HF : Hid (chkD l d = 0) := hide (by rw [hF, if_neg (by omega)])
        clear hF
        go_enter Tryz.func170, Tryz.ntmps170
        go_wp2_with (go_at_call 68; refine HC.out.mono ?_; rintro e w1 ⟨rfl, hb1⟩)
        go_ret
        exact ⟨ret_eq (int_eq HF.out.symm), hb1⟩
  · have HF : Hid (chkD l d = checkF l) := hide (if_neg h0)
    have hz : (checkF l != 0) = true := by simpa using h0
    have HC := hide hck
    clear hck h0
    generalize checkF l = k at *
    go_enter Tryz.func170, Tryz.ntmps170
    go_wp2_with (go_at_call 68; refine HC.out.mono ?_; rintro e w1 ⟨rfl, hb1⟩)
    go_ret
    exact ⟨ret_eq (int_eq HF.out.symm), hb1⟩
set_option maxHeartbeats 1000000 in
theorem ogrown_any (r : R4) (d : Int) (hr : (-4000000 ≤ r.x0 ∧ r.x0 ≤ 4000000) ∧ (-4000000 ≤ r.y0 ∧ r.y0 ≤ 4000000) ∧ (-4000000 ≤ r.x1 ∧ r.x1 ≤ 4000000) ∧ (-4000000 ≤ r.y1 ∧ r.y1 ≤ 4000000)) (hd : -4000000 ≤ d ∧ d ≤ 4000000) (w : World) :
    Calls Tryz.prog 172 #[.agg #[.int .i64 r.x0, .int .i64 r.y0, .int .i64 r.x1, .int .i64 r.y1], .int .i64 d] w fun e w' => e = .returned (.agg #[.int .i64 (r.x0 - d), .int .i64 (r.y0 - d), .int .i64 (r.x1 + d), .int .i64 (r.y1 + d)]) ∧ Below w.heap.size w w' := by
  obtain ⟨x0, y0, x1, y1⟩ := r
  simp only at hr ⊢
  obtain ⟨⟨a1, a2⟩, ⟨b1, b2⟩, ⟨c1, c2⟩, e1, e2⟩ := hr
  obtain ⟨d1, d2⟩ := hd
  go_enter Tryz.func172, Tryz.ntmps172
  go_wp2
  refine bodyPost_ret (v := .agg #[.int .i64 (x0 - d), .int .i64 (y0 - d), .int .i64 (x1 + d), .int .i64 (y1 + d)]) (by simp [results, Tryz.results172, go_sem]) rfl ⟨rfl, ?_⟩
  repeat (first | exact Below.refl _ _ | refine Below.setCell ?_ (by simp) _ | refine Below.alloc ?_ (by simp) _)

/-- Behind an append to the list in box o. -/
theorem rect_fin {B o : Nat} {w w1 w2 : World} {row : Option Nat} {v2 x : Value} {out' : List R4} {n : Nat} (kb : Upd o row w w1) (ks : B ≤ w1.heap.size) (hoB : o < B) (k3 : w1.cell? ⟨o, 0, none⟩ = some x) (k4 : w1.frozen? ⟨o, 0, none⟩ = false) (blk : Obj)
    (hgrow : (w1.alloc blk).grownBy w2 row) (hr : ∀ k, row = some k → B ≤ k) (hown2 : w2.ownsRow B 69 4 v2 n (out'.flatMap encR)) (hn : n = out'.length) :
    w2.cell? ⟨o, 0, none⟩ = some x ∧ w2.frozen? ⟨o, 0, none⟩ = false ∧ Hid ((w2.setCell ⟨o, 0, none⟩ v2).cell? ⟨o, 0, none⟩ = some v2 ∧ (w2.setCell ⟨o, 0, none⟩ v2).frozen? ⟨o, 0, none⟩ = false ∧
      (w2.setCell ⟨o, 0, none⟩ v2).ownsRow B 69 4 v2 out'.length (out'.flatMap encR) ∧ Upd o row w (w2.setCell ⟨o, 0, none⟩ v2)) := by
  have hb : Below B w1 w2 := ((Below.refl B w1).alloc ks _).grown hgrow (by simp; omega) hr
  have c := (hb.cell (p := ⟨o, 0, none⟩) hoB).trans k3
  have f := (hb.frozen (p := ⟨o, 0, none⟩) hoB).trans k4
  subst hn
  refine ⟨c, f, hide ⟨by simp [go_sem, c], by simp [go_sem, f], ownsRow_setCell_below hown2 hoB _, (kb.trans ((Upd.of_below ((Below.refl _ _).alloc (Nat.le_refl _) blk)).trans (.of_grown hgrow))).setCell _ _⟩⟩
/-- What the closure leaves: the list in box o has one rectangle more, unless that is empty. -/
def MissAdd (B o : Nat) (vo : Value) (L : List R4) (w : World) (e : Ending) (w' : World) : Prop :=
  e = .returned (.tuple #[]) ∧ ∃ vo', w'.cell? ⟨o, 0, none⟩ = some vo' ∧ w'.frozen? ⟨o, 0, none⟩ = false ∧ w'.ownsRow B 69 4 vo' L.length (L.flatMap encR) ∧ Upd o vo.ownBlock w w' ∧ (vo'.ownBlock = vo.ownBlock ∨ ∀ q, vo'.ownBlock = some q → w.heap.size ≤ q)
set_option maxHeartbeats 1000000 in
theorem missAdd_any (B o : Nat) (vo : Value) (L : List R4) (z : R4) (w : World) (h3 : w.cell? ⟨o, 0, none⟩ = some vo) (h4 : w.frozen? ⟨o, 0, none⟩ = false)
    (hoB : o < B) (hB : B ≤ w.heap.size) (hown : w.ownsRow B 69 4 vo L.length (L.flatMap encR)) (hn : L.length ≤ 100000000) :
    Calls Tryz.prog 206 #[.agg #[.int .i64 z.x0, .int .i64 z.y0, .int .i64 z.x1, .int .i64 z.y1], .pointer (some ⟨o, 0, none⟩)] w (MissAdd B o vo (L ++ nz z) w) := by
  obtain ⟨i0, hi, hz0, hz1, hz2⟩ := info_parts infoRc
  obtain ⟨A, c, hv, _⟩ := own_rd hown (fun _ => rfl)
  subst hv
  obtain ⟨x0, y0, x1, y1⟩ := z
  simp only
  have how : o < w.heap.size := by omega
  have hnw : ¬ w.heap.size = o := by omega
  have hna : Upd o (Value.slice A L.length c).ownBlock w (w.alloc (.cells #[.int .i64 x0, .int .i64 y0, .int .i64 x1, .int .i64 y1] 69)) := .of_below ((Below.refl _ _).alloc (Nat.le_refl _) _)
  have hownA : (w.alloc (.cells #[.int .i64 x0, .int .i64 y0, .int .i64 x1, .int .i64 y1] 69)).ownsRow B 69 4 (.slice A L.length c) L.length (L.flatMap encR) := hown.alloc _
  have k3 : (w.alloc (.cells #[.int .i64 x0, .int .i64 y0, .int .i64 x1, .int .i64 y1] 69)).cell? ⟨o, 0, none⟩ = some (.slice A L.length c) := (World.cell?_alloc_lt w _ ⟨o, 0, none⟩ how).trans h3
  have k4 : (w.alloc (.cells #[.int .i64 x0, .int .i64 y0, .int .i64 x1, .int .i64 y1] 69)).frozen? ⟨o, 0, none⟩ = false := by
    have := (((Below.refl w.heap.size w).alloc (Nat.le_refl _) (.cells #[.int .i64 x0, .int .i64 y0, .int .i64 x1, .int .i64 y1] 69)).frozen (p := ⟨o, 0, none⟩) how)
    exact this.trans h4
  have HNA := hide hna
  have HOWN := hide hownA
  have HK := hide (And.intro k3 k4)
  have HO := hide hown
  clear hna hownA k3 k4 hown
  have hne : ¬ (x0 < x1 ∧ y0 < y1) → L ++ nz ⟨x0, y0, x1, y1⟩ = L := fun h => by unfold nz; rw [if_neg h, List.append_nil]
  by_cases h1 : x0 < x1
  · by_cases h2 : y0 < y1
    · have HL : Hid (L ++ nz ⟨x0, y0, x1, y1⟩ = L ++ [⟨x0, y0, x1, y1⟩]) := hide (by unfold nz; rw [if_pos ⟨h1, h2⟩])
      clear hne
      go_enter Tryz.func206, Tryz.ntmps206
      go_wp2_with (at_builtin; refine wpList_append_lies _ rfl (.tmp 15) (.tmp 17) 26 rfl B 69 i0 (.agg #[.int .i64 0, .int .i64 0, .int .i64 0, .int .i64 0]) 4 32 Tryz.underlying26 hi hz0 hz1 hz2 rfl (by decide) _ _ _ rfl (HOWN.out.alloc _) ⟨w.heap.size + 1, 0, none⟩ 1 1 [.int .i64 x0, .int .i64 y0, .int .i64 x1, .int .i64 y1] rfl rfl (news_new _ _ _ _ (by simp)) (ints_one rfl) (by omega) (by unfold maxLen; omega) (by omega) (by simp; omega) _ rfl ?_)
      intro g cap w2 hown2 hgrow hor _
      have HOR : Hid ((Value.slice (some ⟨g, 0, none⟩) (L.length + 1) cap).ownBlock = (Value.slice A L.length c).ownBlock ∨ ∀ q, (Value.slice (some ⟨g, 0, none⟩) (L.length + 1) cap).ownBlock = some q → w.heap.size ≤ q) := hide (by
        rcases hor with h | h
        · exact .inl h.symm
        · refine .inr fun q hq => ?_
          have e : g = q := by injection hq
          have hz : g = w.heap.size + 1 + 1 := by simpa using h
          omega)
      clear hor
      have hx : L.flatMap encR ++ [.int .i64 x0, .int .i64 y0, .int .i64 x1, .int .i64 y1] = (L ++ [(⟨x0, y0, x1, y1⟩ : R4)]).flatMap encR := by simp [encR]
      rw [hx] at hown2
      obtain ⟨c2, f2, HF⟩ := rect_fin HNA.out (by simp; omega) hoB HK.out.1 HK.out.2 _ hgrow (fun k h => (HO.out.lt k h).1) hown2 (by simp)
      clear hown2 hgrow hx h3 h4
      go_wp2
      go_end0
      refine ⟨rfl, ?_⟩
      rw [HL.out]
      exact ⟨_, HF.out.1, HF.out.2.1, HF.out.2.2.1, HF.out.2.2.2, HOR.out⟩
    · have HL := hide (hne (fun h => h2 h.2))
      clear hne
      go_enter Tryz.func206, Tryz.ntmps206
      go_wp2
      refine bodyPost_ret (results_none rfl _ _ _) rfl ⟨rfl, ?_⟩
      rw [HL.out]
      exact ⟨_, HK.out.1, HK.out.2, HOWN.out, HNA.out, .inl rfl⟩
  · have HL := hide (hne (fun h => h1 h.1))
    clear hne
    go_enter Tryz.func206, Tryz.ntmps206
    go_wp2
    refine bodyPost_ret (results_none rfl _ _ _) rfl ⟨rfl, ?_⟩
    rw [HL.out]
    exact ⟨_, HK.out.1, HK.out.2, HOWN.out, HNA.out, .inl rfl⟩
end Go.Proofs.YtdolpeljengpaaaGreat

/- The reference of offset: Check, Count, Area, around. -/
namespace Go.Proofs.YtdolpeljengpaaaGreat
open Go.RowKit
set_option linter.unusedVariables false
set_option linter.unusedSimpArgs false

/-- The width and the height of what a square and a rectangle have in common. -/
def cwX (q : R4) (x d : Int) : Int := min q.x1 (x + d + 1) - max q.x0 (x - d)
def cwY (q : R4) (y d : Int) : Int := min q.y1 (y + d + 1) - max q.y0 (y - d)
end Go.Proofs.YtdolpeljengpaaaGreat

/- Plain: how many cuts the reference's grid has. -/
namespace Go.Proofs.YtdolpeljengpaaaGreat
set_option linter.unusedVariables false
set_option linter.unusedSimpArgs false

end Go.Proofs.YtdolpeljengpaaaGreat

/- The reference of offset: made. -/
namespace Go.Proofs.YtdolpeljengpaaaGreat
open Go.RowKit
set_option linter.unusedVariables false
set_option linter.unusedSimpArgs false

/-- A column's test. -/
def pG (l : List R4) (d low high c y : Int) : Bool := decide (low ≤ cntF l c y d) && decide (cntF l c y d ≤ high)
theorem cuts_in {l : List R4} (hv : ∀ r ∈ l, valid4 r) : (∀ c ∈ cutsL l ++ cutsL [], -1000000 ≤ c ∧ c ≤ 1000000) ∧ ∀ c ∈ cutsY l ++ cutsY [], -1000000 ≤ c ∧ c ≤ 1000000 := by
  have e1 : cutsL ([] : List R4) = [] := rfl
  have e2 : cutsY ([] : List R4) = [] := rfl
  rw [e1, e2, List.append_nil, List.append_nil]
  constructor
  · intro c hc
    unfold cutsL at hc
    obtain ⟨r, hr, hc⟩ := List.mem_flatMap.1 hc
    obtain ⟨v1, v2, ⟨v3, v4⟩, ⟨v5, v6⟩, ⟨v7, v8⟩, ⟨v9, v10⟩⟩ := hv r hr
    simp only [List.mem_cons, List.not_mem_nil, or_false] at hc
    omega
  · intro c hc
    unfold cutsY at hc
    obtain ⟨r, hr, hc⟩ := List.mem_flatMap.1 hc
    obtain ⟨v1, v2, ⟨v3, v4⟩, ⟨v5, v6⟩, ⟨v7, v8⟩, ⟨v9, v10⟩⟩ := hv r hr
    simp only [List.mem_cons, List.not_mem_nil, or_false] at hc
    omega
end Go.Proofs.YtdolpeljengpaaaGreat

/- The reference of offset: Check, Area, Grow, Shrink, Depth. -/
namespace Go.Proofs.YtdolpeljengpaaaGreat
open Go.RowKit
set_option linter.unusedVariables false
set_option linter.unusedSimpArgs false

/-- Grown out of range. -/
def farR (d : Int) (r : R4) : Bool := decide (r.x0 - d < -1000000) || decide (r.y0 - d < -1000000) || decide (1000000 < r.x1 + d) || decide (1000000 < r.y1 + d)
def growF (l : List R4) (d : Int) : List R4 × Int := if chkD l d = 0 then (if l.any (farR d) then ([], 16) else carveF (l.map (growR d)) []) else ([], chkD l d)
def shrF (l : List R4) (d : Int) : List R4 × Int := if chkD l d = 0 then (if 400 < (shrR l d).length then ([], 4) else (shrR l d, 0)) else ([], chkD l d)
def depF (l : List R4) (x y : Int) : Int × Int := if checkF l = 0 then (if pmem l x y then (depP (hullL l) (missL (hullL l) none l) x y, 0) else (-1, 0)) else (0, checkF l)
theorem chkD_ok {l : List R4} {d : Int} (h : chkD l d = 0) : checkF l = 0 ∧ 0 ≤ d ∧ d ≤ 1000000 := by
  unfold chkD at h
  by_cases h0 : checkF l = 0
  · rw [if_pos h0] at h
    by_cases h1 : d < 0 ∨ 1000000 < d
    · rw [if_pos h1] at h; omega
    · exact ⟨h0, by omega, by omega⟩
  · rw [if_neg h0] at h; exact absurd h h0
end Go.Proofs.YtdolpeljengpaaaGreat

/- Plain: the missing rectangles, one place behind the other. -/
namespace Go.Proofs.YtdolpeljengpaaaGreat
set_option linter.unusedVariables false
set_option linter.unusedSimpArgs false

/-- What place i gives; p stands ahead of the list. -/
def mAtP (h : R4) (p : Option R4) (l : List R4) (i : Nat) : List R4 :=
  match l[i]? with
  | none => []
  | some x => missAt h (match i with | 0 => p | j + 1 => l[j]?) x l[i + 1]?
theorem mAtP_succ (h : R4) (p : Option R4) (x : R4) (r : List R4) (i : Nat) : mAtP h p (x :: r) (i + 1) = mAtP h (some x) r i := by
  unfold mAtP
  simp only [List.getElem?_cons_succ]
  cases r[i]? with
  | none => rfl
  | some y =>
    simp only
    cases i with
    | zero => simp
    | succ j => simp
theorem missL_flat (h : R4) : ∀ (l : List R4) (p : Option R4), missL h p l = (List.range l.length).flatMap (mAtP h p l)
  | [], p => rfl
  | x :: r, p => by
    have h1 := missL_flat h r (some x)
    rw [List.length_cons, List.range_succ_eq_map, List.flatMap_cons, List.flatMap_map]
    have e : (fun a => mAtP h p (x :: r) (Nat.succ a)) = mAtP h (some x) r := funext fun i => mAtP_succ h p x r i
    rw [e, ← h1]
    show missAt h p x r.head? ++ _ = mAtP h p (x :: r) 0 ++ _
    congr 1
    unfold mAtP
    simp only [List.getElem?_cons_zero, List.getElem?_cons_succ]
    rw [List.head?_eq_getElem?]
def missTo (h : R4) (l : List R4) (m : Nat) : List R4 := (List.range m).flatMap (mAtP h none l)
theorem missTo_all (h : R4) (l : List R4) : missTo h l l.length = missL h none l := (missL_flat h l none).symm
theorem missTo_succ (h : R4) (l : List R4) (m : Nat) : missTo h l (m + 1) = missTo h l m ++ mAtP h none l m := by
  unfold missTo
  rw [List.range_succ, List.flatMap_append]
  simp
theorem nz_len (z : R4) : (nz z).length ≤ 1 := by
  unfold nz
  split <;> simp
theorem missAt_len (h : R4) (p : Option R4) (x : R4) (q : Option R4) : (missAt h p x q).length ≤ 3 := by
  unfold missAt
  rw [List.length_append, List.length_append]
  have h1 : (gapX h p x).length ≤ 1 := by
    cases p with
    | none => simp [gapX]
    | some p =>
      show (if p.x0 = x.x0 then [] else nz ⟨p.x1, h.y0, x.x0, h.y1⟩ : List R4).length ≤ 1
      split
      · simp
      · exact nz_len _
  have h2 := nz_len ⟨x.x0, lowY h p x, x.x1, x.y0⟩
  have h3 : (topY h x q).length ≤ 1 := by
    cases q with
    | none => exact nz_len _
    | some q =>
      show (if q.x0 = x.x0 then [] else nz ⟨x.x0, x.y1, x.x1, h.y1⟩ : List R4).length ≤ 1
      split
      · simp
      · exact nz_len _
  omega
theorem missTo_len (h : R4) (l : List R4) : ∀ m, (missTo h l m).length ≤ 3 * m
  | 0 => by simp [missTo]
  | m + 1 => by
    have h1 := missTo_len h l m
    rw [missTo_succ, List.length_append]
    have h2 : (mAtP h none l m).length ≤ 3 := by
      unfold mAtP
      split
      · simp
      · exact missAt_len _ _ _ _
    omega
theorem mAt_zero {h : R4} {l : List R4} {x : R4} (hx : l[0]? = some x) : mAtP h none l 0 = nz ⟨x.x0, h.y0, x.x1, x.y0⟩ ++ topY h x l[1]? := by
  unfold mAtP
  rw [hx]
  rfl
theorem mAt_succ {h : R4} {l : List R4} {k : Nat} {p x : R4} (hp : l[k]? = some p) (hx : l[k + 1]? = some x) : mAtP h none l (k + 1) = if p.x0 = x.x0 then nz ⟨x.x0, p.y1, x.x1, x.y0⟩ ++ topY h x l[k + 2]? else nz ⟨p.x1, h.y0, x.x0, h.y1⟩ ++ (nz ⟨x.x0, h.y0, x.x1, x.y0⟩ ++ topY h x l[k + 2]?) := by
  unfold mAtP
  rw [hx]
  simp only [hp]
  unfold missAt gapX lowY
  simp only
  split <;> simp
end Go.Proofs.YtdolpeljengpaaaGreat

/- region.Hull and the reference's Hull. -/
namespace Go.Proofs.YtdolpeljengpaaaGreat
open Go.RowKit
set_option linter.unusedVariables false
set_option linter.unusedSimpArgs false

/-- The result's box R and the hull's box H, between two rectangles. -/
structure HullR (w : World) (H : Nat) (P : R4) (wr : World) : Prop where
  low : Below w.heap.size w wr
  gt : w.heap.size < H
  lt : H < wr.heap.size
  c : wr.cell? ⟨H, 0, none⟩ = some (.int .i64 P.x0) ∧ wr.cell? ⟨H, 1, none⟩ = some (.int .i64 P.y0) ∧ wr.cell? ⟨H, 2, none⟩ = some (.int .i64 P.x1) ∧ wr.cell? ⟨H, 3, none⟩ = some (.int .i64 P.y1)
  f : ∀ j, wr.frozen? ⟨H, j, none⟩ = false
  r : wr.cell? ⟨w.heap.size, 0, none⟩ = some (.int .i64 0) ∧ wr.cell? ⟨w.heap.size, 1, none⟩ = some (.int .i64 0) ∧ wr.cell? ⟨w.heap.size, 2, none⟩ = some (.int .i64 0) ∧ wr.cell? ⟨w.heap.size, 3, none⟩ = some (.int .i64 0)
  fr : ∀ j, wr.frozen? ⟨w.heap.size, j, none⟩ = false
theorem HullR.below {w wr w2 : World} {H : Nat} {P : R4} (h : HullR w H P wr) (hb : Below wr.heap.size wr w2) : HullR w H P w2 := by
  have hl := h.lt
  have hg := h.gt
  have k1 := fun j => hb.cell (p := ⟨H, j, none⟩) hl
  have k2 := fun j => hb.frozen (p := ⟨H, j, none⟩) hl
  have k3 := fun j => hb.cell (p := ⟨w.heap.size, j, none⟩) (by show w.heap.size < _; omega)
  have k4 := fun j => hb.frozen (p := ⟨w.heap.size, j, none⟩) (by show w.heap.size < _; omega)
  exact ⟨h.low.trans (hb.mono h.low.size), hg, Nat.lt_of_lt_of_le hl hb.size, ⟨(k1 0).trans h.c.1, (k1 1).trans h.c.2.1, (k1 2).trans h.c.2.2.1, (k1 3).trans h.c.2.2.2⟩, fun j => (k2 j).trans (h.f j), ⟨(k3 0).trans h.r.1, (k3 1).trans h.r.2.1, (k3 2).trans h.r.2.2.1, (k3 3).trans h.r.2.2.2⟩, fun j => (k4 j).trans (h.fr j)⟩
theorem HullR.set {w wr : World} {H : Nat} {P : R4} (h : HullR w H P wr) (a b c d : Int) : HullR w H ⟨a, b, c, d⟩ ((((wr.setCell ⟨H, 0, none⟩ (.int .i64 a)).setCell ⟨H, 1, none⟩ (.int .i64 b)).setCell ⟨H, 2, none⟩ (.int .i64 c)).setCell ⟨H, 3, none⟩ (.int .i64 d)) := by
  have hl := h.lt
  have hg := h.gt
  obtain ⟨c0, c1, c2, c3⟩ := h.c
  obtain ⟨r0, r1, r2, r3⟩ := h.r
  have ne : w.heap.size ≠ H := by omega
  have ge : w.heap.size ≤ H := by omega
  refine ⟨(((h.low.setCell ge _).setCell ge _).setCell ge _).setCell ge _, hg, by simpa [World.setCell] using hl, ⟨by simp [go_sem, c0], by simp [go_sem, c1], by simp [go_sem, c2], by simp [go_sem, c3]⟩, fun j => ?_, ⟨by simp [go_sem, r0, ne], by simp [go_sem, r1, ne], by simp [go_sem, r2, ne], by simp [go_sem, r3, ne]⟩, fun j => ?_⟩
  · rw [World.frozen?_setCell, World.frozen?_setCell, World.frozen?_setCell, World.frozen?_setCell]; exact h.f j
  · rw [World.frozen?_setCell, World.frozen?_setCell, World.frozen?_setCell, World.frozen?_setCell]; exact h.fr j

set_option maxRecDepth 100000 in
set_option maxHeartbeats 4000000 in
theorem hull_any {w : World} {v : Value} {l : List R4} (hr : RdK encR 4 w w.heap.size v l) (hl : l.length ≤ 100000000) :
    Calls Tryz.prog 129 #[v] w fun e w' => e = .returned (.tuple #[.agg (encR (hullF l).1).toArray, .int .i64 (hullF l).2]) ∧ Below w.heap.size w w' := by
  have hck := fun (W : World) (hW : Below w.heap.size w W) => check_any (w := W) ((hr.below hW).mono hW.size) hl
  obtain ⟨A, c, hv, hc⟩ := id hr
  subst hv
  have HCK := hide hck
  have HRC := hide hc
  clear hck hr hc
  have hb0 : Below w.heap.size w (w.alloc (.cells #[.int .i64 0, .int .i64 0, .int .i64 0, .int .i64 0] 69)) := (Below.refl _ _).alloc (Nat.le_refl _) _
  have HB0 := hide hb0
  clear hb0
  have key : ∀ w1, Below (w.alloc (.cells #[.int .i64 0, .int .i64 0, .int .i64 0, .int .i64 0] 69)).heap.size (w.alloc (.cells #[.int .i64 0, .int .i64 0, .int .i64 0, .int .i64 0] 69)) w1 →
      (w1.cell? ⟨w.heap.size, 0, none⟩ = some (.int .i64 0) ∧ w1.cell? ⟨w.heap.size, 1, none⟩ = some (.int .i64 0) ∧ w1.cell? ⟨w.heap.size, 2, none⟩ = some (.int .i64 0) ∧ w1.cell? ⟨w.heap.size, 3, none⟩ = some (.int .i64 0)) ∧ ∀ j, w1.frozen? ⟨w.heap.size, j, none⟩ = false := by
    intro w1 hb
    have hc := fun j => hb.cell (p := ⟨w.heap.size, j, none⟩) (by simp)
    have hf := fun j => hb.frozen (p := ⟨w.heap.size, j, none⟩) (by simp)
    exact ⟨⟨(hc 0).trans (by simp [go_sem]), (hc 1).trans (by simp [go_sem]), (hc 2).trans (by simp [go_sem]), (hc 3).trans (by simp [go_sem])⟩, fun j => (hf j).trans (by simp [go_sem])⟩
  have KEY := hide key
  clear key
  by_cases h0 : checkF l = 0
  · obtain ⟨k1, k2, _⟩ := checkF_ok h0
    rw [h0] at HCK
    have H0 := hide h0
    clear k2 h0
    by_cases hle : l = []
    · have HF : Hid (hullF l = (⟨0, 0, 0, 0⟩, 6)) := hide (by unfold hullF; rw [if_pos H0.out, if_pos hle])
      subst hle
      go_enter Tryz.func129, Tryz.ntmps129
      go_wp2_with (fail)
      refine (HCK.out _ HB0.out).mono ?_
      rintro e w1 ⟨rfl, hb1⟩
      obtain ⟨⟨r0, r1, r2, r3⟩, hf⟩ := KEY.out w1 hb1
      have f0 := hf 0
      have f1 := hf 1
      have f2 := hf 2
      have f3 := hf 3
      have HB1 := hide hb1
      clear hb1 hf
      go_wp2_with (fail)
      refine bodyPost_ret (v := .tuple #[.agg #[.int .i64 0, .int .i64 0, .int .i64 0, .int .i64 0], .int .i64 6]) (by simp [results, Tryz.results129, go_sem, r0, r1, r2, r3]) rfl ⟨by rw [HF.out]; rfl, ?_⟩
      exact ((((HB0.out.trans (HB1.out.mono (by simp))).setCell (Nat.le_refl _) _).setCell (Nat.le_refl _) _).setCell (Nat.le_refl _) _).setCell (Nat.le_refl _) _
    · have HF : Hid (hullF l = (hullL l, 0)) := hide (by unfold hullF; rw [if_pos H0.out, if_neg hle])
      have hlp : 0 < l.length := List.length_pos_iff.2 hle
      have hlz : (0 : Int) < (l.length : Int) := by omega
      have hne0 : ((l.length : Int) == 0) = false := by simp; omega
      obtain ⟨⟨a0, b0, a1, b1⟩, hp⟩ : ∃ p, l[0]? = some p := ⟨_, List.getElem?_eq_getElem hlp⟩
      obtain ⟨b, o, rfl, hbl, k⟩ := HRC.out hle
      have HD : Hid (∀ W, Below w.heap.size w W → W.cell? ⟨b, o, none⟩ = some (.int .i64 a0) ∧ W.cell? ⟨b, o + 1, none⟩ = some (.int .i64 b0) ∧ W.cell? ⟨b, o + 2, none⟩ = some (.int .i64 a1) ∧ W.cell? ⟨b, o + 3, none⟩ = some (.int .i64 b1)) := hide fun W hW =>
        ⟨(hW.cell (p := ⟨b, _, none⟩) hbl).trans (by simpa using k 0 _ hp 0 _ rfl), (hW.cell (p := ⟨b, _, none⟩) hbl).trans (by simpa using k 0 _ hp 1 _ rfl), (hW.cell (p := ⟨b, _, none⟩) hbl).trans (by simpa using k 0 _ hp 2 _ rfl), (hW.cell (p := ⟨b, _, none⟩) hbl).trans (by simpa using k 0 _ hp 3 _ rfl)⟩
      have HH0 : Hid (hullP l 0 = ⟨a0, b0, a1, b1⟩) := hide (by
        cases l with
        | nil => exact absurd rfl hle
        | cons r l => simp at hp; subst hp; rfl)
      clear hp k hle
      go_enter Tryz.func129, Tryz.ntmps129
      go_wp2_with (fail)
      refine (HCK.out _ HB0.out).mono ?_
      rintro e w1 ⟨rfl, hb1⟩
      have hlow := HB0.out.trans (hb1.mono (by simp))
      obtain ⟨d0, d1, d2, d3⟩ := HD.out w1 hlow
      have hs1 : w.heap.size < w1.heap.size := by have := hb1.size; simp at this; omega
      have HI : Hid (HullR w w1.heap.size (hullP l 0) (w1.alloc (.cells #[.int .i64 a0, .int .i64 b0, .int .i64 a1, .int .i64 b1] 69))) := hide (by
        obtain ⟨hr4, hf4⟩ := KEY.out w1 hb1
        have kb : Below w1.heap.size w1 (w1.alloc (.cells #[.int .i64 a0, .int .i64 b0, .int .i64 a1, .int .i64 b1] 69)) := (Below.refl _ _).alloc (Nat.le_refl _) _
        have k3 := fun j => kb.cell (p := ⟨w.heap.size, j, none⟩) hs1
        have k4 := fun j => kb.frozen (p := ⟨w.heap.size, j, none⟩) hs1
        rw [HH0.out]
        exact ⟨hlow.trans (kb.mono (by omega)), hs1, by simp, ⟨by simp [go_sem], by simp [go_sem], by simp [go_sem], by simp [go_sem]⟩, fun j => by simp [go_sem], ⟨(k3 0).trans hr4.1, (k3 1).trans hr4.2.1, (k3 2).trans hr4.2.2.1, (k3 3).trans hr4.2.2.2⟩, fun j => (k4 j).trans (hf4 j)⟩)
      have HHb := hide hs1
      clear hb1 hlow
      go_wp2_with (fail)
      obtain ⟨H, hH⟩ : ∃ H, w1.heap.size = H := ⟨_, rfl⟩
      rw [hH] at HI ⊢
      clear hH d0 d1 d2 d3
      go_loopw [23] (fun i wr => ∃ m : Nat, m ≤ l.length ∧ i = .int .i64 m ∧ Hid (HullR w H (hullP l m) wr)) (fun i _ => l.length - (intOf i).toNat)
      case atStart => exact ⟨0, Nat.zero_le _, rfl, HI⟩
      case round =>
        clear HI HH0
        obtain ⟨m, hm, rfl, HI⟩ := hrel
        by_cases hlt : m < l.length
        · obtain ⟨⟨x0, y0, x1, y1⟩, hp⟩ : ∃ p, l[m]? = some p := ⟨_, List.getElem?_eq_getElem hlt⟩
          obtain ⟨b', o', hbo, hbl', k⟩ := HRC.out (by intro e; rw [e] at hlt; simp at hlt)
          injection hbo with hbo
          injection hbo with hbo1 hbo2
          subst hbo1; subst hbo2
          have d0 : wr.cell? ⟨b, o + m * 4, none⟩ = some (.int .i64 x0) := (HI.out.low.cell (p := ⟨b, _, none⟩) hbl).trans (k m _ hp 0 _ rfl)
          have d1 : wr.cell? ⟨b, o + m * 4 + 1, none⟩ = some (.int .i64 y0) := (HI.out.low.cell (p := ⟨b, _, none⟩) hbl).trans (k m _ hp 1 _ rfl)
          have d2 : wr.cell? ⟨b, o + m * 4 + 2, none⟩ = some (.int .i64 x1) := (HI.out.low.cell (p := ⟨b, _, none⟩) hbl).trans (k m _ hp 2 _ rfl)
          have d3 : wr.cell? ⟨b, o + m * 4 + 3, none⟩ = some (.int .i64 y1) := (HI.out.low.cell (p := ⟨b, _, none⟩) hbl).trans (k m _ hp 3 _ rfl)
          have mz : (m : Int) < (l.length : Int) := by omega
          have HS := hide (hullP_step hp)
          clear k hp
          generalize hullP l m = P at *
          obtain ⟨p0, p1, p2, p3⟩ := P
          obtain ⟨c0, c1, c2, c3⟩ := HI.out.c
          have f0 := HI.out.f 0
          have f1 := HI.out.f 1
          have f2 := HI.out.f 2
          have f3 := HI.out.f 3
          have hltH := HI.out.lt
          have hneH : H ≠ wr.heap.size := by omega
          have hneH2 : wr.heap.size ≠ H := by omega
          simp only at c0 c1 c2 c3
          go_wp2
          go_roundw
          case rel => exact ⟨m + 1, by omega, by go_num, hide (by rw [HS.out]; exact (HI.out.set _ _ _ _).below ((Below.refl _ _).alloc (Nat.le_refl _) _))⟩
          case measure => simp [intOf]; omega
        · have mz : ¬ (m : Int) < (l.length : Int) := by omega
          have hall := hullP_all (l := l) (m := m) (by omega)
          have HA := hide hall
          clear hall
          generalize hullP l m = P at *
          obtain ⟨p0, p1, p2, p3⟩ := P
          obtain ⟨c0, c1, c2, c3⟩ := HI.out.c
          obtain ⟨r0, r1, r2, r3⟩ := HI.out.r
          have f0 := HI.out.fr 0
          have f1 := HI.out.fr 1
          have f2 := HI.out.fr 2
          have f3 := HI.out.fr 3
          simp only at c0 c1 c2 c3
          have HF2 : Hid (hullF l = (⟨p0, p1, p2, p3⟩, 0)) := hide (by rw [HF.out, ← HA.out])
          go_wp2
          refine bodyPost_ret (v := .tuple #[.agg #[.int .i64 p0, .int .i64 p1, .int .i64 p2, .int .i64 p3], .int .i64 0]) (by simp [results, Tryz.results129, go_sem, r0, r1, r2, r3]) rfl ⟨by rw [HF2.out]; rfl, ?_⟩
          exact (((HI.out.low.setCell (Nat.le_refl _) _).setCell (Nat.le_refl _) _).setCell (Nat.le_refl _) _).setCell (Nat.le_refl _) _
  · have HF : Hid (hullF l = (⟨0, 0, 0, 0⟩, checkF l)) := hide (if_neg h0)
    generalize checkF l = ck at *
    have hne : (ck != 0) = true := by simpa using h0
    clear h0
    go_enter Tryz.func129, Tryz.ntmps129
    go_wp2_with (fail)
    refine (HCK.out _ HB0.out).mono ?_
    rintro e w1 ⟨rfl, hb1⟩
    obtain ⟨⟨r0, r1, r2, r3⟩, hf⟩ := KEY.out w1 hb1
    have f0 := hf 0
    have f1 := hf 1
    have f2 := hf 2
    have f3 := hf 3
    have HB1 := hide hb1
    clear hb1 hf
    go_wp2_with (fail)
    refine bodyPost_ret (v := .tuple #[.agg #[.int .i64 0, .int .i64 0, .int .i64 0, .int .i64 0], .int .i64 ck]) (by simp [results, Tryz.results129, go_sem, r0, r1, r2, r3]) rfl ⟨by rw [HF.out]; rfl, ?_⟩
    exact ((((HB0.out.trans (HB1.out.mono (by simp))).setCell (Nat.le_refl _) _).setCell (Nat.le_refl _) _).setCell (Nat.le_refl _) _).setCell (Nat.le_refl _) _

end Go.Proofs.YtdolpeljengpaaaGreat
