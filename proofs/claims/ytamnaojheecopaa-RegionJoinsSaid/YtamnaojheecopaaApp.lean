/- append(x, y...) where y reads as a list, empty or nil let in; and the reference's Twin. -/
import Derived.Test.YtamnaojheecopaaAdd
import Derived.Maps.AppendAt
import Derived.Laws.AppendOwnNone
namespace Go.Proofs.Ytamnaojheecopaa
open Go.RowKit
set_option linter.unusedVariables false
set_option linter.unusedSimpArgs false

section
variable {P : Program} {α : Type} {enc : α → List Value} {k : Nat}
theorem run_app_rd (w : World) (henc : ∀ x, (enc x).length = k) (hint : ∀ (l : List α), ∀ u ∈ l.flatMap enc, u.oneCell' = true) (base : Nat) (t ty e : TypeId) (i : TypeInfo) (z : Value) (bytes : Nat)
    (ht : P.underlying t = some (.slice e)) (hi : P.info? e = some i) (hz : i.zero = some z) (hsize : i.size = k) (hby : i.bytes = bytes) (hzs : z.cells.size = k) (hsz : 0 < k)
    (v : Value) (n : Nat) (xs : List Value) (hown : w.ownsRow base e k v n xs) (B : Nat) (x : Value) (l : List α) (hr : RdK enc k w B x l) (h63 : n + l.length ≤ maxLen) (hbytes : (n + l.length) * bytes ≤ 140737488355328) (hbase : base ≤ w.heap.size) :
    ∃ v' w', (Builtin.append_ #[t, t] ty #[v, x]).run P w = .ok v' w' ∧ w'.ownsRow base e k v' (n + l.length) (xs ++ l.flatMap enc) ∧ w.grownBy w' v.ownBlock := by
  obtain ⟨A, c, rfl, hc⟩ := hr
  have key : ∀ ad : Addr, (∀ j u, (l.flatMap enc)[j]? = some u → w.cell? (ad.add j) = some u) → ∃ v' w', (Builtin.append_ #[t, t] ty #[v, .slice (some ad) l.length c]).run P w = .ok v' w' ∧ w'.ownsRow base e k v' (n + l.length) (xs ++ l.flatMap enc) ∧ w.grownBy w' v.ownBlock := by
    intro ad had
    obtain ⟨v', w', h1, h2, h3, _, _⟩ := run_append_own_at (P := P) w base t ty e i z k bytes ht hi hz hsize hby hzs hsz v n xs hown ad l.length c (l.flatMap enc) (by rw [flat_len henc]) had (hint l) h63 hbytes hbase
    exact ⟨v', w', h1, h2, h3⟩
  by_cases hl : l = []
  · subst hl
    cases A with
    | some ad => exact key ad (by simp)
    | none =>
      refine ⟨v, w, ?_, by simpa using hown, grown_refl _ _⟩
      rcases hown.2 with ⟨rfl, rfl⟩ | ⟨g, cap, cur, rfl, _, _, hnc, _⟩
      · simp [Builtin.append_, run_underlying ht, sizeOf, typeInfo, hi, Builtin.lenOf, Builtin.firstCells]
      · simp [Builtin.append_, run_underlying ht, sizeOf, typeInfo, hi, Builtin.lenOf, Builtin.firstCells, hnc, storeCells]
  · obtain ⟨b, off, rfl, hb, hcell⟩ := hc hl
    refine key _ fun j u hu => ?_
    have hj : j < (l.flatMap enc).length := (List.getElem?_eq_some_iff.1 hu).1
    rw [flat_len henc] at hj
    have hq : j / k < l.length := (Nat.div_lt_iff_lt_mul hsz).2 hj
    have e1 : j / k * k + j % k = j := by rw [Nat.mul_comm]; exact Nat.div_add_mod j k
    have hu2 : (enc l[j / k])[j % k]? = some u := by
      have h1 := List.getElem?_eq_getElem (l := enc l[j / k]) (i := j % k) (by rw [henc]; exact Nat.mod_lt _ hsz)
      have h2 := flat_get henc l (j / k) _ (j % k) _ (List.getElem?_eq_getElem hq) h1
      rw [e1, hu] at h2
      rw [h1]; exact h2.symm
    have := hcell (j / k) _ (List.getElem?_eq_getElem hq) (j % k) u hu2
    rw [Nat.add_assoc, e1] at this
    have e2 : (⟨b, off, none⟩ : Addr).add j = ⟨b, off + j, none⟩ := by unfold Addr.add; split <;> simp_all
    rw [e2]; exact this

theorem wp_app_rd (w : World) {o : Oper} {a : Act} {K : Act → World → Prop} {Q : Exit → Act → World → Prop} (henc : ∀ x, (enc x).length = k) (hint : ∀ (l : List α), ∀ u ∈ l.flatMap enc, u.oneCell' = true) (s x : Operand) (t : TypeId)
    (ho : o.op = .call { callee := .builtin .append, args := #[s, x], argTypes := #[t, t] }) (base : Nat) (e : TypeId) (i : TypeInfo) (z : Value) (bytes : Nat)
    (ht : P.underlying t = some (.slice e)) (hi : P.info? e = some i) (hz : i.zero = some z) (hsize : i.size = k) (hby : i.bytes = bytes) (hzs : z.cells.size = k) (hsz : 0 < k)
    (v : Value) (n : Nat) (xs : List Value) (hs : a.eval s = v) (hown : w.ownsRow base e k v n xs) (B : Nat) (l : List α) (hr : RdK enc k w B (a.eval x) l) (h63 : n + l.length ≤ maxLen) (hbytes : (n + l.length) * bytes ≤ 140737488355328) (hbase : base ≤ w.heap.size)
    (h : ∀ v' w', w'.ownsRow base e k v' (n + l.length) (xs ++ l.flatMap enc) → w.grownBy w' v.ownBlock → K (a.put o.dst v') w') : o.wp P a w K Q := by
  obtain ⟨v', w', hrun, h2, h3⟩ := run_app_rd (P := P) w henc hint base t o.type e i z bytes ht hi hz hsize hby hzs hsz v n xs hown B _ l hr h63 hbytes hbase
  unfold Oper.wp execOp
  simp only [ho, resolve, invoke, builtin, Sem.run_bind, Sem.run_pure, Result.andThen_ok, List.map_toArray, List.map_cons, List.map_nil, hs, hrun]
  exact h v' w' h2 h3
theorem wpList_app_rd {w : World} {ops : Array Oper} {rest : List Oper} {o : Oper} {a : Act} {Q : Exit → Act → World → Prop} (hgd : o.guard = none) (henc : ∀ x, (enc x).length = k) (hint : ∀ (l : List α), ∀ u ∈ l.flatMap enc, u.oneCell' = true) (s x : Operand) (t : TypeId)
    (ho : o.op = .call { callee := .builtin .append, args := #[s, x], argTypes := #[t, t] }) (base : Nat) (e : TypeId) (i : TypeInfo) (z : Value) (bytes : Nat)
    (ht : P.underlying t = some (.slice e)) (hi : P.info? e = some i) (hz : i.zero = some z) (hsize : i.size = k) (hby : i.bytes = bytes) (hzs : z.cells.size = k) (hsz : 0 < k)
    (v : Value) (n : Nat) (xs : List Value) (hs : a.eval s = v) (hown : w.ownsRow base e k v n xs) (B : Nat) (l : List α) (hr : RdK enc k w B (a.eval x) l) (h63 : n + l.length ≤ maxLen) (hbytes : (n + l.length) * bytes ≤ 140737488355328) (hbase : base ≤ w.heap.size)
    (h : ∀ v' w', w'.ownsRow base e k v' (n + l.length) (xs ++ l.flatMap enc) → w.grownBy w' v.ownBlock → wpList P ops Q rest (a.put o.dst v') w') : wpList P ops Q (o :: rest) a w :=
  wpList_plain hgd fun _ hK => wp_app_rd w henc hint s x t ho base e i z bytes ht hi hz hsize hby hzs hsz v n xs hs hown B l hr h63 hbytes hbase fun v' w' h2 h3 => hK _ _ (h v' w' h2 h3)
end
theorem one_encR (l : List R4) : ∀ u ∈ l.flatMap encR, u.oneCell' = true := by
  intro u hu
  obtain ⟨r, _, hr⟩ := List.mem_flatMap.1 hu
  simp only [encR, List.mem_cons, List.not_mem_nil, or_false] at hr
  rcases hr with rfl | rfl | rfl | rfl <;> rfl

set_option maxHeartbeats 1000000 in
theorem rTwin_any {w : World} {v : Value} {l : List R4} (hr : RdK encR 4 w w.heap.size v l) (hl : l.length ≤ 100000000) :
    Calls Try.prog 9 #[v] w fun e w' => ∃ vo, e = .returned vo ∧ w'.ownsRow w.heap.size 43 4 vo l.length (l.flatMap encR) ∧ Below w.heap.size w w' := by
  obtain ⟨i1, gi, gz0, gz1, gz2⟩ := info_parts infoRc
  obtain ⟨A, c, hv, _⟩ := id hr
  subst hv
  have HR := hide hr
  clear hr
  go_enter Try.func9, Try.ntmps9
  go_wp2_with (at_builtin; go_loud (refine wpList_app_rd (enc := encR) (k := 4) (l := l) rfl (fun _ => rfl) one_encR (.tmp 3) (.tmp 4) 22 rfl w.heap.size 43 i1 (.agg #[.int .i64 0, .int .i64 0, .int .i64 0, .int .i64 0]) 32 Try.underlying22 gi gz0 gz1 gz2 rfl (by decide) (.slice (some ⟨w.heap.size, 0, none⟩) 0 0) 0 [] rfl ⟨by simp, .inr ⟨w.heap.size, 0, #[], rfl, Nat.le_refl _, World.alloc_heap_new _ _, Nat.le_refl _, by simp [maxLen], by simp, by simp⟩⟩ w.heap.size (HR.out.below ((Below.refl _ _).alloc (Nat.le_refl _) _)) (by unfold maxLen; omega) (by omega) (by simp) ?_))
  intro v2 w2 hown2 hg2
  have hb2 : Below w.heap.size w w2 := ((Below.refl _ _).alloc (Nat.le_refl _) _).grown hg2 (by simp) (fun q hq => by simp [Value.ownBlock] at hq; omega)
  have HO := hide hown2
  clear hown2 hg2
  go_wp2
  go_ret
  exact ⟨_, rfl, own_n (by simpa using HO.out) (by simp), hb2⟩
end Go.Proofs.Ytamnaojheecopaa
