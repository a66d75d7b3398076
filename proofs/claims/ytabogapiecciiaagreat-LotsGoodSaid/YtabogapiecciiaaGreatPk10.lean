/- Texts laid together: ParW, LotN, LotX, LawLParcels, MLotsC, LotH, LotV, RegsC. Lemmas for the statements of this seat; no condition. -/
import Derived.Test.YtabogapiecciiaaGreatPk9
import Derived.Test.YtabogapiecciiaaGreatPk7
import Derived.Test.YtabogapiecciiaaGreatPk3
import Derived.Test.YtabogapiecciiaaGreatPk8
import Derived.Test.YtabogapiecciiaaGreatPk1
import Derived.Laws.StructEq
import Derived.Deep.QuietTactic
import Derived.BigQuiet
import Derived.Test.YtabogapiecciiaaGreatPk6

/- The reference's all (it calls itself) and Split. -/
namespace Go.Proofs.YtabogapiecciiaaGreat
open Go.RowKit
set_option linter.unusedVariables false
set_option linter.unusedSimpArgs false

/-- What all gives: the lots behind those that were there, no more than 401. -/
def allR (p : Pl3) (l : Lot5) (O : List Lot5) : List Lot5 := (O ++ leaves p l).take 401
theorem take_app (A B C : List Lot5) : ((A ++ B).take 401 ++ C).take 401 = (A ++ (B ++ C)).take 401 := by
  rw [← List.append_assoc]
  generalize A ++ B = D
  rw [List.take_append, List.take_append, List.take_take, Nat.min_self, List.length_take]
  by_cases h : D.length ≤ 401
  · rw [Nat.min_eq_right h]
  · rw [Nat.min_eq_left (by omega), show 401 - 401 = 0 from rfl, show 401 - D.length = 0 by omega]
theorem allR_none {p : Pl3} {l : Lot5} {O : List Lot5} (h : cutL p l = none) (hO : O.length ≤ 400) : allR p l O = O ++ [l] := by
  unfold allR
  rw [leaves_none h, List.take_of_length_le (by simp; omega)]
theorem allR_full {p : Pl3} {l : Lot5} {O : List Lot5} (h1 : 400 < O.length) (h2 : O.length ≤ 401) : allR p l O = O := by
  unfold allR
  rw [List.take_append, List.take_of_length_le h2, show 401 - O.length = 0 by omega]
  simp
theorem allR_some {p : Pl3} {l a b : Lot5} {O : List Lot5} (h : cutL p l = some (a, b)) : allR p b (allR p a O) = allR p l O := by
  unfold allR
  rw [take_app, leaves_some h]
theorem allR_len (p : Pl3) (l : Lot5) (O : List Lot5) : (allR p l O).length ≤ 401 := by
  unfold allR
  rw [List.length_take]
  exact Nat.min_le_left _ _
theorem gtrans {a b c : World} {r s : Option Nat} (h : a.grownBy b r) (k : b.grownBy c s) (hs : ∀ q, s = some q → r = some q ∨ a.heap.size ≤ q) : a.grownBy c r :=
  ⟨k.os.trans h.os, k.tape.trans h.tape, k.output.trans h.output, Nat.le_trans h.size k.size, fun i hi hne => (k.block i (Nat.lt_of_lt_of_le hi h.size) (fun e => by
    rcases hs i e.symm with h1 | h1
    · exact hne h1.symm
    · omega)).trans (h.block i hi hne)⟩
theorem g_below {a b : World} {r : Option Nat} (h : Below a.heap.size a b) : a.grownBy b r := ⟨h.os, h.tape, h.output, h.size, fun i hi _ => h.block i hi⟩
/-- What a call of all leaves. -/
def AllRet (w : World) (B : Nat) (row : Option Nat) (R : List Lot5) (e : Ending) (w' : World) : Prop :=
  ∃ A c, e = .returned (.slice A R.length c) ∧ w'.ownsRow B 56 5 (.slice A R.length c) R.length (R.flatMap encL) ∧ w.grownBy w' row ∧ ∀ q, (Value.slice A R.length c).ownBlock = some q → row = some q ∨ w.heap.size ≤ q
theorem cutR_none {l : Lot5} {p : Pl3} (h : cutL p l = none) : cutR l p = (zeroL, zeroL, false) := by simp [cutR, h]
theorem cutR_some {l a b : Lot5} {p : Pl3} (h : cutL p l = some (a, b)) : cutR l p = (a, b, true) := by simp [cutR, h]
theorem five_grown {A B : World} {r : Option Nat} {b : Nat} {l : Lot5} (h : Box5L A b l) (hg : A.grownBy B r) (hr : ∀ q, r = some q → q ≠ b) : Box5L B b l := by
  have hs := lt_of_cell h.c0
  have hb : B.heap[b]? = A.heap[b]? := hg.block b hs (fun e => hr b e.symm rfl)
  exact ⟨(World.cell?_of_block (a := ⟨b, 0, none⟩) hb).trans h.c0, (World.cell?_of_block (a := ⟨b, 1, none⟩) hb).trans h.c1, (World.cell?_of_block (a := ⟨b, 2, none⟩) hb).trans h.c2, (World.cell?_of_block (a := ⟨b, 3, none⟩) hb).trans h.c3, (World.cell?_of_block (a := ⟨b, 4, none⟩) hb).trans h.c4,
    (World.frozen?_of_block (a := ⟨b, 0, none⟩) hb).trans h.z0, (World.frozen?_of_block (a := ⟨b, 1, none⟩) hb).trans h.z1, (World.frozen?_of_block (a := ⟨b, 2, none⟩) hb).trans h.z2, (World.frozen?_of_block (a := ⟨b, 3, none⟩) hb).trans h.z3, (World.frozen?_of_block (a := ⟨b, 4, none⟩) hb).trans h.z4⟩
theorem three_cells {W : World} {b1 b2 b3 : Nat} {l k : Lot5} {v0 v1 v2 : Value} (h1 : Box5L W b1 l) (h2 : Box3 W b2 v0 v1 v2) (h3 : Box5L W b3 k) :
    (W.cell? ⟨b1, 0, none⟩ = some (.int .i64 l.r.x0) ∧ W.cell? ⟨b1, 1, none⟩ = some (.int .i64 l.r.y0) ∧ W.cell? ⟨b1, 2, none⟩ = some (.int .i64 l.r.x1) ∧ W.cell? ⟨b1, 3, none⟩ = some (.int .i64 l.r.y1) ∧ W.cell? ⟨b1, 4, none⟩ = some (.int .u8 l.f)) ∧ (W.cell? ⟨b2, 0, none⟩ = some v0 ∧ W.cell? ⟨b2, 1, none⟩ = some v1 ∧ W.cell? ⟨b2, 2, none⟩ = some v2) ∧ (W.cell? ⟨b3, 0, none⟩ = some (.int .i64 k.r.x0) ∧ W.cell? ⟨b3, 1, none⟩ = some (.int .i64 k.r.y0) ∧ W.cell? ⟨b3, 2, none⟩ = some (.int .i64 k.r.x1) ∧ W.cell? ⟨b3, 3, none⟩ = some (.int .i64 k.r.y1) ∧ W.cell? ⟨b3, 4, none⟩ = some (.int .u8 k.f)) :=
  ⟨⟨h1.c0, h1.c1, h1.c2, h1.c3, h1.c4⟩, ⟨h2.c0, h2.c1, h2.c2⟩, ⟨h3.c0, h3.c1, h3.c2, h3.c3, h3.c4⟩⟩
set_option maxRecDepth 100000 in
set_option maxHeartbeats 4000000 in
theorem rall_full (p : Pl3) (l : Lot5) {w : World} {B : Nat} {A : Option Addr} {c : Nat} {O : List Lot5} (hown : w.ownsRow B 56 5 (.slice A O.length c) O.length (O.flatMap encL)) (hB : B ≤ w.heap.size) (h1 : 400 < O.length) (h2 : O.length ≤ 401) : Calls Tryz.prog 84 #[.agg (encL l).toArray, .agg (encP p).toArray, .slice A O.length c] w (AllRet w B (Value.slice A O.length c).ownBlock (allR p l O)) := by
  rw [allR_full h1 h2]
  show Calls Tryz.prog _ #[.agg #[.int .i64 l.r.x0, .int .i64 l.r.y0, .int .i64 l.r.x1, .int .i64 l.r.y1, .int .u8 l.f], .agg #[.int .i64 p.mf, .int .i64 p.ms, .int .i64 p.ma], .slice A O.length c] w _
  have hz : (400 : Int) < (O.length : Int) := by omega
  have HO := hide hown
  obtain ⟨no, hno⟩ : ∃ no, O.length = no := ⟨_, rfl⟩
  simp only [hno] at hz HO ⊢
  have HNO := hide hno
  clear hown h1 h2 hno
  go_enter Tryz.func84, Tryz.ntmps84
  go_wp2_with (fail)
  go_ret
  have hb : Below w.heap.size w ((w.alloc (.cells #[.int .i64 l.r.x0, .int .i64 l.r.y0, .int .i64 l.r.x1, .int .i64 l.r.y1, .int .u8 l.f] 56)).alloc (.cells #[.int .i64 p.mf, .int .i64 p.ms, .int .i64 p.ma] 24)) := ((Below.refl _ _).alloc (Nat.le_refl _) _).alloc (by simp) _
  refine ⟨A, c, by rw [HNO.out]; rfl, by rw [HNO.out]; exact own_below HO.out hb, g_below hb, fun q hq => .inl (by rw [HNO.out] at hq; exact hq)⟩
set_option maxRecDepth 100000 in
set_option maxHeartbeats 4000000 in
theorem rall_none (p : Pl3) (l : Lot5) (hv : validL l) (hc : cutL p l = none) {w : World} {B : Nat} {A : Option Addr} {c : Nat} {O : List Lot5} (hown : w.ownsRow B 56 5 (.slice A O.length c) O.length (O.flatMap encL)) (hB : B ≤ w.heap.size) (h1 : O.length ≤ 400) : Calls Tryz.prog 84 #[.agg (encL l).toArray, .agg (encP p).toArray, .slice A O.length c] w (AllRet w B (Value.slice A O.length c).ownBlock (allR p l O)) := by
  rw [allR_none hc h1]
  obtain ⟨i1, gi, gz0, gz1, gz2⟩ := info_parts infoLot
  have HCU : Hid (∀ W, Calls Tryz.prog 110 #[.agg (encL l).toArray, .agg (encP p).toArray] W fun e w' => e = .returned (.tuple #[.agg (encL zeroL).toArray, .agg (encL zeroL).toArray, .bool false]) ∧ Below W.heap.size W w') := hide (fun W => by have := rparts_any l p hv W; rw [cutR_none hc] at this; exact this)
  simp only [encL, encP] at HCU
  show Calls Tryz.prog _ #[.agg #[.int .i64 l.r.x0, .int .i64 l.r.y0, .int .i64 l.r.x1, .int .i64 l.r.y1, .int .u8 l.f], .agg #[.int .i64 p.mf, .int .i64 p.ms, .int .i64 p.ma], .slice A O.length c] w _
  have hz : (O.length : Int) ≤ 400 := by omega
  obtain ⟨no, hno⟩ : ∃ no, O.length = no := ⟨_, rfl⟩
  have hno4 : no ≤ 400 := by omega
  simp only [hno] at hz hown ⊢
  have HNO := hide hno
  clear h1 hno hv hc
  go_enter Tryz.func84, Tryz.ntmps84
  go_wp2_with (fail)
  obtain ⟨W, hW⟩ : ∃ x, x = (w.alloc (.cells #[.int .i64 l.r.x0, .int .i64 l.r.y0, .int .i64 l.r.x1, .int .i64 l.r.y1, .int .u8 l.f] 56)).alloc (.cells #[.int .i64 p.mf, .int .i64 p.ms, .int .i64 p.ma] 24) := ⟨_, rfl⟩
  rw [← hW]
  have hb0 : Below w.heap.size w W := by rw [hW]; exact ((Below.refl _ _).alloc (Nat.le_refl _) _).alloc (by simp) _
  have hs0 : w.heap.size + 2 ≤ W.heap.size := by rw [hW]; simp
  have HL : Box5L W w.heap.size l := by rw [hW]; refine ⟨?_, ?_, ?_, ?_, ?_, ?_, ?_, ?_, ?_, ?_⟩ <;> simp [go_sem]
  have HP : Box3 W (w.heap.size + 1) (.int .i64 p.mf) (.int .i64 p.ms) (.int .i64 p.ma) := by rw [hW]; refine ⟨?_, ?_, ?_⟩ <;> simp [go_sem]
  have HROW := hide (own_below hown hb0)
  obtain ⟨n, hn⟩ : ∃ n, w.heap.size = n := ⟨_, rfl⟩
  have HN := hide hn
  have HROWLT : Hid (∀ q, (Value.slice A no c).ownBlock = some q → q < n) := hide (fun q hq => by rw [← hn]; exact (hown.lt q hq).2)
  rw [hn] at hb0 hs0 HL HP hB ⊢
  have K0 := hide hb0
  clear hW hb0 hn hown
  refine (HCU.out _).mono ?_
  rintro e w1 ⟨rfl, hb⟩
  have HL1 := HL.below hb
  have HROW1 := hide (own_below HROW.out hb)
  have K1 := hide (K0.out.trans (hb.mono (by omega)))
  have hs1 : n + 2 ≤ w1.heap.size := Nat.le_trans hs0 hb.size
  clear hb HL HP HROW K0 hs0
  go_upto_region 5 with fail
  refine wp_name5 fun Z hZ => ?_
  have hbz : Below w1.heap.size w1 Z := by
    rw [hZ]
    repeat (first | with_reducible exact Below.refl _ _ | with_reducible refine Below.setCell ?_ (by first | (simp; done) | (simp; omega)) _ | with_reducible refine Below.alloc ?_ (by first | omega | (simp; omega) | simp) _)
  have HLZ := HL1.below hbz
  have HROWZ := hide (own_below HROW1.out hbz)
  have KZ := hide (K1.out.trans (hbz.mono (by omega)))
  have hsZ : n + 2 ≤ Z.heap.size := Nat.le_trans hs1 hbz.size
  clear hZ hbz HL1 HROW1 K1 hs1
  obtain ⟨a0, a1, a2, a3, a4, -, -, -, -, -⟩ := HLZ
  go_wp2_with (at_builtin; go_loud (refine wpList_append_lies _ rfl (.tmp 23) (.tmp 25) 91 rfl B 56 i1 (.agg #[.int .i64 0, .int .i64 0, .int .i64 0, .int .i64 0, .int .u8 0]) 5 40 Tryz.underlying91 gi gz0 gz1 gz2 rfl (by decide) _ no _ rfl (World.ownsRow.alloc HROWZ.out _) ⟨Z.heap.size, 0, none⟩ 1 1 [.int .i64 l.r.x0, .int .i64 l.r.y0, .int .i64 l.r.x1, .int .i64 l.r.y1, .int .u8 l.f] rfl rfl (news_new Z _ _ _ rfl) (ints_one rfl) (by omega) (by unfold maxLen; omega) (by omega) (by simp; omega) _ rfl ?_))
  intro g2 cp2 w9 hown hgrow hg2 hlt
  have hgz : w.grownBy Z (Value.slice A no c).ownBlock := g_below (by rw [HN.out]; exact KZ.out)
  have HG : Hid (w.grownBy w9 (Value.slice A no c).ownBlock) := hide (gtrans hgz (gtrans (World.grownBy_alloc _ _ _) hgrow (fun q hq => .inl hq)) (fun q hq => .inl hq))
  have HO := hide hown
  have HG2 : Hid (∀ q, (Value.slice (some ⟨g2, 0, none⟩) (no + 1) cp2).ownBlock = some q → (Value.slice A no c).ownBlock = some q ∨ w.heap.size ≤ q) := hide (fun q hq => by
    rcases hg2 with h | h
    · exact .inl (by rw [h]; exact hq)
    · right
      have : g2 = q := by injection hq
      rw [HN.out]; first | omega | (simp at h; omega))
  clear hown hgrow hg2 hlt a0 a1 a2 a3 a4 hgz
  go_wp2_with (fail)
  go_ret
  have e1 : (O ++ [l]).length = no + 1 := by rw [List.length_append, HNO.out]; rfl
  refine ⟨some ⟨g2, 0, none⟩, cp2, by rw [e1]; rfl, by rw [e1, List.flatMap_append]; exact HO.out, HG.out, fun q hq => HG2.out q (by rw [e1] at hq; exact hq)⟩
set_option maxRecDepth 100000 in
set_option maxHeartbeats 8000000 in
theorem rall_some (p : Pl3) (l a b : Lot5) (hv : validL l) (hc : cutL p l = some (a, b)) {w : World} {B : Nat} {A : Option Addr} {c : Nat} {O : List Lot5} (hown : w.ownsRow B 56 5 (.slice A O.length c) O.length (O.flatMap encL)) (hB : B ≤ w.heap.size) (h1 : O.length ≤ 400)
    (iha : ∀ {w : World} {B : Nat} {A : Option Addr} {c : Nat} {O : List Lot5}, w.ownsRow B 56 5 (.slice A O.length c) O.length (O.flatMap encL) → B ≤ w.heap.size → O.length ≤ 401 → Calls Tryz.prog 84 #[.agg (encL a).toArray, .agg (encP p).toArray, .slice A O.length c] w (AllRet w B (Value.slice A O.length c).ownBlock (allR p a O)))
    (ihb : ∀ {w : World} {B : Nat} {A : Option Addr} {c : Nat} {O : List Lot5}, w.ownsRow B 56 5 (.slice A O.length c) O.length (O.flatMap encL) → B ≤ w.heap.size → O.length ≤ 401 → Calls Tryz.prog 84 #[.agg (encL b).toArray, .agg (encP p).toArray, .slice A O.length c] w (AllRet w B (Value.slice A O.length c).ownBlock (allR p b O))) : Calls Tryz.prog 84 #[.agg (encL l).toArray, .agg (encP p).toArray, .slice A O.length c] w (AllRet w B (Value.slice A O.length c).ownBlock (allR p l O)) := by
  have HEQ := hide (allR_some (O := O) hc)
  have HIA : Hid (∀ W, W.ownsRow B 56 5 (.slice A O.length c) O.length (O.flatMap encL) → B ≤ W.heap.size → Calls Tryz.prog 84 #[.agg (encL a).toArray, .agg (encP p).toArray, .slice A O.length c] W (AllRet W B (Value.slice A O.length c).ownBlock (allR p a O))) := hide (fun W h h' => iha h h' (by omega))
  have hl1 := allR_len p a O
  generalize allR p a O = R1 at *
  have HIB : Hid (∀ W A c, W.ownsRow B 56 5 (.slice A R1.length c) R1.length (R1.flatMap encL) → B ≤ W.heap.size → Calls Tryz.prog 84 #[.agg (encL b).toArray, .agg (encP p).toArray, .slice A R1.length c] W (AllRet W B (Value.slice A R1.length c).ownBlock (allR p b R1))) := hide (fun W A c h h' => ihb h h' hl1)
  have HCU : Hid (∀ W, Calls Tryz.prog 110 #[.agg (encL l).toArray, .agg (encP p).toArray] W fun e w' => e = .returned (.tuple #[.agg (encL a).toArray, .agg (encL b).toArray, .bool true]) ∧ Below W.heap.size W w') := hide (fun W => by have := rparts_any l p hv W; rw [cutR_some hc] at this; exact this)
  simp only [encP] at HCU HIA HIB
  simp only [encL] at HCU
  have HIA' : Hid (∀ W, W.ownsRow B 56 5 (.slice A O.length c) O.length (O.flatMap encL) → B ≤ W.heap.size → Calls Tryz.prog 84 #[.agg #[.int .i64 a.r.x0, .int .i64 a.r.y0, .int .i64 a.r.x1, .int .i64 a.r.y1, .int .u8 a.f], .agg #[.int .i64 p.mf, .int .i64 p.ms, .int .i64 p.ma], .slice A O.length c] W (AllRet W B (Value.slice A O.length c).ownBlock R1)) := hide HIA.out
  have HIB' : Hid (∀ W A c, W.ownsRow B 56 5 (.slice A R1.length c) R1.length (R1.flatMap encL) → B ≤ W.heap.size → Calls Tryz.prog 84 #[.agg #[.int .i64 b.r.x0, .int .i64 b.r.y0, .int .i64 b.r.x1, .int .i64 b.r.y1, .int .u8 b.f], .agg #[.int .i64 p.mf, .int .i64 p.ms, .int .i64 p.ma], .slice A R1.length c] W (AllRet W B (Value.slice A R1.length c).ownBlock (allR p b R1))) := hide HIB.out
  rw [← HEQ.out]
  clear HIA HIB iha ihb hv hc HEQ hl1
  generalize allR p b R1 = R2 at *
  show Calls Tryz.prog _ #[.agg #[.int .i64 l.r.x0, .int .i64 l.r.y0, .int .i64 l.r.x1, .int .i64 l.r.y1, .int .u8 l.f], .agg #[.int .i64 p.mf, .int .i64 p.ms, .int .i64 p.ma], .slice A O.length c] w _
  have hz : (O.length : Int) ≤ 400 := by omega
  obtain ⟨no, hno⟩ : ∃ no, O.length = no := ⟨_, rfl⟩
  have hno4 : no ≤ 400 := by omega
  simp only [hno] at hz hown HIA' ⊢
  clear h1 hno
  go_enter Tryz.func84, Tryz.ntmps84
  go_wp2_with (fail)
  obtain ⟨W, hW⟩ : ∃ x, x = (w.alloc (.cells #[.int .i64 l.r.x0, .int .i64 l.r.y0, .int .i64 l.r.x1, .int .i64 l.r.y1, .int .u8 l.f] 56)).alloc (.cells #[.int .i64 p.mf, .int .i64 p.ms, .int .i64 p.ma] 24) := ⟨_, rfl⟩
  rw [← hW]
  have hb0 : Below w.heap.size w W := by rw [hW]; exact ((Below.refl _ _).alloc (Nat.le_refl _) _).alloc (by simp) _
  have hs0 : w.heap.size + 2 ≤ W.heap.size := by rw [hW]; simp
  have HL : Box5L W w.heap.size l := by rw [hW]; refine ⟨?_, ?_, ?_, ?_, ?_, ?_, ?_, ?_, ?_, ?_⟩ <;> simp [go_sem]
  have HP : Box3 W (w.heap.size + 1) (.int .i64 p.mf) (.int .i64 p.ms) (.int .i64 p.ma) := by rw [hW]; refine ⟨?_, ?_, ?_⟩ <;> simp [go_sem]
  have HROW := hide (own_below hown hb0)
  obtain ⟨n, hn⟩ : ∃ n, w.heap.size = n := ⟨_, rfl⟩
  have HN := hide hn
  have HROWLT : Hid (∀ q, (Value.slice A no c).ownBlock = some q → q < n) := hide (fun q hq => by rw [← hn]; exact (hown.lt q hq).2)
  rw [hn] at hb0 hs0 HL HP hB ⊢
  have K0 := hide hb0
  clear hW hb0 hn hown
  refine (HCU.out _).mono ?_
  rintro e w1 ⟨rfl, hb⟩
  have HL1 := HL.below hb
  have HP1 := HP.below hb
  have HROW1 := hide (own_below HROW.out hb)
  have K1 := hide (K0.out.trans (hb.mono (by omega)))
  have hs1 : n + 2 ≤ w1.heap.size := Nat.le_trans hs0 hb.size
  clear hb HL HP HROW K0 hs0 HCU
  go_upto_region 6 with fail
  refine wp_name5 fun Z hZ => ?_
  have hbz : Below w1.heap.size w1 Z := by
    rw [hZ]
    repeat (first | with_reducible exact Below.refl _ _ | with_reducible refine Below.setCell ?_ (by first | (simp; done) | (simp; omega)) _ | with_reducible refine Below.alloc ?_ (by first | omega | (simp; omega) | simp) _)
  have HXZ : Box5L Z w1.heap.size a := by rw [hZ]; refine ⟨?_, ?_, ?_, ?_, ?_, ?_, ?_, ?_, ?_, ?_⟩ <;> simp [go_sem]
  have HYZ : Box5L Z (w1.heap.size + 1) b := by rw [hZ]; refine ⟨?_, ?_, ?_, ?_, ?_, ?_, ?_, ?_, ?_, ?_⟩ <;> simp [go_sem]
  have HPZ := HP1.below hbz
  have HROWZ := hide (own_below HROW1.out hbz)
  have KZ := hide (K1.out.trans (hbz.mono (by omega)))
  have hsZ : n + 2 ≤ Z.heap.size := Nat.le_trans hs1 hbz.size
  obtain ⟨m, hm⟩ : ∃ m, w1.heap.size = m := ⟨_, rfl⟩
  rw [hm] at HXZ HYZ hs1 ⊢
  clear hZ hbz HL1 HP1 HROW1 K1 hm
  have HD : Hid (Box5L Z.drew (m + 1) b ∧ Box3 Z.drew (n + 1) (.int .i64 p.mf) (.int .i64 p.ms) (.int .i64 p.ma) ∧ Box5L Z.drew m a) := hide ⟨⟨HYZ.c0, HYZ.c1, HYZ.c2, HYZ.c3, HYZ.c4, HYZ.z0, HYZ.z1, HYZ.z2, HYZ.z3, HYZ.z4⟩, ⟨HPZ.c0, HPZ.c1, HPZ.c2⟩, ⟨HXZ.c0, HXZ.c1, HXZ.c2, HXZ.c3, HXZ.c4, HXZ.z0, HXZ.z1, HXZ.z2, HXZ.z3, HXZ.z4⟩⟩
  have HROWD := hide (World.ownsRow.drew HROWZ.out)
  have KD := hide KZ.out.drew
  have hmZ : m + 1 < Z.drew.heap.size := lt_of_cell HD.out.1.c0
  clear HXZ HYZ HPZ HROWZ KZ hsZ
  refine wp_region_mix [0, 1, 2, 3, 4] [5, 6, 7] (fun w' => (w'.cell? ⟨m + 1, 0, none⟩ = some (.int .i64 b.r.x0) ∧ w'.cell? ⟨m + 1, 1, none⟩ = some (.int .i64 b.r.y0) ∧ w'.cell? ⟨m + 1, 2, none⟩ = some (.int .i64 b.r.x1) ∧ w'.cell? ⟨m + 1, 3, none⟩ = some (.int .i64 b.r.y1) ∧ w'.cell? ⟨m + 1, 4, none⟩ = some (.int .u8 b.f)) ∧ (w'.cell? ⟨n + 1, 0, none⟩ = some (.int .i64 p.mf) ∧ w'.cell? ⟨n + 1, 1, none⟩ = some (.int .i64 p.ms) ∧ w'.cell? ⟨n + 1, 2, none⟩ = some (.int .i64 p.ma)) ∧ (w'.cell? ⟨m, 0, none⟩ = some (.int .i64 a.r.x0) ∧ w'.cell? ⟨m, 1, none⟩ = some (.int .i64 a.r.y0) ∧ w'.cell? ⟨m, 2, none⟩ = some (.int .i64 a.r.x1) ∧ w'.cell? ⟨m, 3, none⟩ = some (.int .i64 a.r.y1) ∧ w'.cell? ⟨m, 4, none⟩ = some (.int .u8 a.f))) (by kernel_rfl) (by kernel_rfl) (three_cells HD.out.1 HD.out.2.1 HD.out.2.2) ?_
  generalize Z.drew = Y at *
  simp only [List.map_cons, List.map_nil, opAt, List.getElem?_cons_succ, List.getElem?_cons_zero, Option.getD_some]
  iterate 5
    refine ⟨?_, Or.inl ⟨by rfl, ?_⟩, ?_⟩
    rotate_left 1
    · intro w' hSw
      obtain ⟨⟨z0, z1, z2, z3, z4⟩, ⟨z5, z6, z7⟩, ⟨z8, z9, z10, z11, z12⟩⟩ := hSw
      go_simp
      first | done | with_reducible rfl
    simp only [Act.put, List.setIfInBounds_toArray, List.set_cons_zero, List.set_cons_succ]
  simp only [wpReads]
  intro K hK
  simp only [Act.put, List.setIfInBounds_toArray, List.set_cons_zero, List.set_cons_succ] at hK ⊢
  go_simp
  refine (HIA'.out _ HROWD.out (by omega)).mono ?_
  rintro e w2 ⟨A1, c1, rfl, ho1, hg1, hq1⟩
  have HD2 : Hid (Box5L w2 (m + 1) b ∧ Box3 w2 (n + 1) (.int .i64 p.mf) (.int .i64 p.ms) (.int .i64 p.ma) ∧ Box5L w2 m a) := hide ⟨five_grown HD.out.1 hg1 (fun q hq => by have := HROWLT.out q hq; omega), box_grown HD.out.2.1 hg1 (fun q hq => by have := HROWLT.out q hq; omega), five_grown HD.out.2.2 hg1 (fun q hq => by have := HROWLT.out q hq; omega)⟩
  have HO1 := hide ho1
  have HG1 := hide hg1
  have HQ1 := hide hq1
  have hs2 := hg1.size
  clear ho1 hg1 hq1
  refine hK _ _ (fun _ => three_cells HD2.out.1 HD2.out.2.1 HD2.out.2.2) ?_
  clear hK K
  intro K hK
  simp only [Act.put, List.setIfInBounds_toArray, List.set_cons_zero, List.set_cons_succ] at hK ⊢
  go_simp
  refine (HIB'.out _ _ _ HO1.out (by omega)).mono ?_
  rintro e w3 ⟨A2, c2, rfl, ho2, hg2, hq2⟩
  have HROW2 : Hid (∀ q, (Value.slice A1 R1.length c1).ownBlock = some q → q < n ∨ m + 1 < q) := hide (fun q hq => by
    rcases HQ1.out q hq with h | h
    · exact .inl (HROWLT.out q h)
    · exact .inr (by omega))
  have HD3 : Hid (Box5L w3 (m + 1) b ∧ Box3 w3 (n + 1) (.int .i64 p.mf) (.int .i64 p.ms) (.int .i64 p.ma) ∧ Box5L w3 m a) := hide ⟨five_grown HD2.out.1 hg2 (fun q hq => by have := HROW2.out q hq; omega), box_grown HD2.out.2.1 hg2 (fun q hq => by have := HROW2.out q hq; omega), five_grown HD2.out.2.2 hg2 (fun q hq => by have := HROW2.out q hq; omega)⟩
  have HO2 := hide ho2
  have HG2 := hide hg2
  have HQ2 := hide hq2
  clear ho2 hg2 hq2
  refine hK _ _ (fun _ => three_cells HD3.out.1 HD3.out.2.1 HD3.out.2.2) ?_
  clear hK K
  intro K hK
  simp only [Act.put, List.setIfInBounds_toArray, List.set_cons_zero, List.set_cons_succ] at hK ⊢
  go_simp
  refine hK _ _ (fun h => absurd rfl h) ?_
  clear hK K
  refine NoPanic.normal ?_
  have hnn := HN.out
  have HGD : Hid (w.grownBy w3 (Value.slice A no c).ownBlock) := hide (gtrans (gtrans (g_below (r := (Value.slice A no c).ownBlock) (by rw [hnn]; exact KD.out)) HG1.out (fun q hq => .inl hq)) HG2.out (fun q hq => by
    rcases HQ1.out q hq with h | h
    · exact .inl h
    · exact .inr (by omega)))
  have HQD : Hid (∀ q, (Value.slice A2 R2.length c2).ownBlock = some q → (Value.slice A no c).ownBlock = some q ∨ w.heap.size ≤ q) := hide (fun q hq => by
    rcases HQ2.out q hq with h | h
    · rcases HQ1.out q h with h | h
      · exact .inl h
      · exact .inr (by omega)
    · exact .inr (by omega))
  clear hnn hs2
  go_wp2_with (fail)
  go_ret
  exact ⟨A2, c2, rfl, HO2.out, HGD.out, HQD.out⟩
def AllGood (p : Pl3) (l : Lot5) : Prop := validL l → ∀ (w : World) (B : Nat) (A : Option Addr) (c : Nat) (O : List Lot5), w.ownsRow B 56 5 (.slice A O.length c) O.length (O.flatMap encL) → B ≤ w.heap.size → O.length ≤ 401 → Calls Tryz.prog 84 #[.agg (encL l).toArray, .agg (encP p).toArray, .slice A O.length c] w (AllRet w B (Value.slice A O.length c).ownBlock (allR p l O))
theorem rall_any (p : Pl3) : ∀ l, AllGood p l := cut_ind (p := p) (P := AllGood p)
  (fun l hc => by
    intro hv w B A c O hown hB h2
    by_cases h1 : O.length ≤ 400
    · exact rall_none p l hv hc hown hB h1
    · exact rall_full p l hown hB (by omega) h2)
  (fun l a b hc iha ihb => by
    intro hv w B A c O hown hB h2
    by_cases h1 : O.length ≤ 400
    · obtain ⟨_, ga, gb, _⟩ := cutL_some hc
      exact rall_some p l a b hv hc hown hB h1 (fun x1 x2 x3 => iha ga.1 _ _ _ _ _ x1 x2 x3) (fun x1 x2 x3 => ihb gb.1 _ _ _ _ _ x1 x2 x3)
    · exact rall_full p l hown hB (by omega) h2)
theorem allR_nil (p : Pl3) (l : Lot5) : allR p l [] = (leaves p l).take 401 := rfl
set_option maxRecDepth 100000 in
set_option maxHeartbeats 4000000 in
theorem rSplit_any (l : Lot5) (p : Pl3) (hf : 0 ≤ l.f ∧ l.f ≤ 255) (w : World) : Calls Tryz.prog 49 #[.agg (encL l).toArray, .agg (encP p).toArray] w (LotsRet w (splitR l p)) := by
  have HCK := hide (fun W => rCheckL_any l p hf W)
  by_cases h0 : checkL l p = 0
  · have hv := checkL_valid h0
    rw [h0] at HCK
    have HAL : Hid (∀ W : World, Calls Tryz.prog 84 #[.agg (encL l).toArray, .agg (encP p).toArray, .slice none 0 0] W (AllRet W W.heap.size none (allR p l []))) := hide (fun W => rall_any p l hv W W.heap.size none 0 [] (World.ownsRow_nil _ _ _ _) (Nat.le_refl _) (by simp))
    have hR : splitR l p = if (allR p l []).length ≤ 400 then (allR p l [], 0) else ([], 4) := by
      unfold splitR
      rw [if_pos h0, allR_nil]
      by_cases h : (leaves p l).length ≤ 400
      · rw [if_pos h, List.take_of_length_le (by omega), if_pos h]
      · rw [if_neg h, if_neg (by rw [List.length_take]; omega)]
    have hl4 := allR_len p l []
    have HR := hide hR
    clear h0 hv hf hR
    generalize splitR l p = R at *
    generalize allR p l [] = Q at *
    show Calls Tryz.prog _ #[.agg #[.int .i64 l.r.x0, .int .i64 l.r.y0, .int .i64 l.r.x1, .int .i64 l.r.y1, .int .u8 l.f], .agg #[.int .i64 p.mf, .int .i64 p.ms, .int .i64 p.ma]] w (LotsRet w R)
    simp only [encL, encP] at HCK
    have HAL' : Hid (∀ W : World, Calls Tryz.prog 84 #[.agg #[.int .i64 l.r.x0, .int .i64 l.r.y0, .int .i64 l.r.x1, .int .i64 l.r.y1, .int .u8 l.f], .agg #[.int .i64 p.mf, .int .i64 p.ms, .int .i64 p.ma], .slice none 0 0] W (AllRet W W.heap.size none Q)) := hide HAL.out
    clear HAL
    go_enter Tryz.func49, Tryz.ntmps49
    go_wp2_with (fail)
    obtain ⟨W, hW⟩ : ∃ x, x = (w.alloc (.cells #[.int .i64 l.r.x0, .int .i64 l.r.y0, .int .i64 l.r.x1, .int .i64 l.r.y1, .int .u8 l.f] 56)).alloc (.cells #[.int .i64 p.mf, .int .i64 p.ms, .int .i64 p.ma] 24) := ⟨_, rfl⟩
    rw [← hW]
    have hb0 : Below w.heap.size w W := by rw [hW]; exact ((Below.refl _ _).alloc (Nat.le_refl _) _).alloc (by simp) _
    have hs0 : w.heap.size + 2 ≤ W.heap.size := by rw [hW]; simp
    have HL : Box5L W w.heap.size l := by rw [hW]; refine ⟨?_, ?_, ?_, ?_, ?_, ?_, ?_, ?_, ?_, ?_⟩ <;> simp [go_sem]
    have HP : Box3 W (w.heap.size + 1) (.int .i64 p.mf) (.int .i64 p.ms) (.int .i64 p.ma) := by rw [hW]; refine ⟨?_, ?_, ?_⟩ <;> simp [go_sem]
    obtain ⟨n, hn⟩ : ∃ n, w.heap.size = n := ⟨_, rfl⟩
    have HN := hide hn
    rw [hn] at hb0 hs0 HL HP ⊢
    have K0 := hide hb0
    clear hW hb0 hn
    refine (HCK.out _).mono ?_
    rintro e w1 ⟨rfl, hb⟩
    have HL1 := HL.below hb
    have HP1 := HP.below hb
    have hs1 : n + 2 ≤ w1.heap.size := Nat.le_trans hs0 hb.size
    have K1 := hide (K0.out.trans (hb.mono (by omega)))
    clear hb HL HP K0 hs0
    try clear l0 l1 l2 l3 l4 p0 p1 p2
    obtain ⟨l0, l1, l2, l3, l4, -, -, -, -, -⟩ := id HL1
    obtain ⟨p0, p1, p2⟩ := id HP1
    go_wp2_with (fail)
    refine (HAL'.out _).mono ?_
    rintro e w2 ⟨A, c, rfl, ho, hg, hq⟩
    have K2 : Hid (Below n w w2) := hide (K1.out.grown hg (by omega) (fun q hq => by cases hq))
    have HO : Hid (w2.ownsRow w.heap.size 56 5 (.slice A Q.length c) Q.length (Q.flatMap encL)) := hide (own_base ho (by rw [HN.out]; omega))
    clear ho hg hq K1 hs1 HL1 HP1 l0 l1 l2 l3 l4 p0 p1 p2
    by_cases h4 : Q.length ≤ 400
    · have hz : ¬ (400 : Int) < (Q.length : Int) := by omega
      have HR2 : Hid (R = (Q, 0)) := hide (by rw [HR.out, if_pos h4])
      clear h4 hl4 HR
      go_wp2_with (fail)
      go_ret2
      exact ⟨⟨A, c, by rw [HR2.out]; rfl, by rw [HR2.out]; exact HO.out⟩, by rw [HN.out]; exact K2.out⟩
    · have hz : (400 : Int) < (Q.length : Int) := by omega
      have HR2 : Hid (R = ([], 4)) := hide (by rw [HR.out, if_neg h4])
      clear h4 hl4 HR
      go_wp2_with (fail)
      go_ret2
      exact ⟨⟨none, 0, by rw [HR2.out]; rfl, by rw [HR2.out]; exact World.ownsRow_nil _ _ _ _⟩, by rw [HN.out]; exact K2.out⟩
  · have HR : Hid (splitR l p = ([], checkL l p)) := hide (if_neg h0)
    clear hf
    generalize splitR l p = R at *
    generalize checkL l p = ck at *
    have hne : (ck != 0) = true := by simpa using h0
    clear h0
    show Calls Tryz.prog _ #[.agg #[.int .i64 l.r.x0, .int .i64 l.r.y0, .int .i64 l.r.x1, .int .i64 l.r.y1, .int .u8 l.f], .agg #[.int .i64 p.mf, .int .i64 p.ms, .int .i64 p.ma]] w (LotsRet w R)
    simp only [encL, encP] at HCK
    go_enter Tryz.func49, Tryz.ntmps49
    go_wp2_with (fail)
    obtain ⟨W, hW⟩ : ∃ x, x = (w.alloc (.cells #[.int .i64 l.r.x0, .int .i64 l.r.y0, .int .i64 l.r.x1, .int .i64 l.r.y1, .int .u8 l.f] 56)).alloc (.cells #[.int .i64 p.mf, .int .i64 p.ms, .int .i64 p.ma] 24) := ⟨_, rfl⟩
    rw [← hW]
    have hb0 : Below w.heap.size w W := by rw [hW]; exact ((Below.refl _ _).alloc (Nat.le_refl _) _).alloc (by simp) _
    have hs0 : w.heap.size + 2 ≤ W.heap.size := by rw [hW]; simp
    have HL : Box5L W w.heap.size l := by rw [hW]; refine ⟨?_, ?_, ?_, ?_, ?_, ?_, ?_, ?_, ?_, ?_⟩ <;> simp [go_sem]
    have HP : Box3 W (w.heap.size + 1) (.int .i64 p.mf) (.int .i64 p.ms) (.int .i64 p.ma) := by rw [hW]; refine ⟨?_, ?_, ?_⟩ <;> simp [go_sem]
    obtain ⟨n, hn⟩ : ∃ n, w.heap.size = n := ⟨_, rfl⟩
    have HN := hide hn
    rw [hn] at hb0 hs0 HL HP ⊢
    have K0 := hide hb0
    clear hW hb0 hn
    refine (HCK.out _).mono ?_
    rintro e w1 ⟨rfl, hb⟩
    have HL1 := HL.below hb
    have HP1 := HP.below hb
    have hs1 : n + 2 ≤ w1.heap.size := Nat.le_trans hs0 hb.size
    have K1 := hide (K0.out.trans (hb.mono (by omega)))
    clear hb HL HP K0 hs0
    try clear l0 l1 l2 l3 l4 p0 p1 p2
    obtain ⟨l0, l1, l2, l3, l4, -, -, -, -, -⟩ := id HL1
    obtain ⟨p0, p1, p2⟩ := id HP1
    go_wp2_with (fail)
    refine (HCK.out _).mono ?_
    rintro e w2 ⟨rfl, hb⟩
    have HL2 := HL1.below hb
    have HP2 := HP1.below hb
    have hs2 : n + 2 ≤ w2.heap.size := Nat.le_trans hs1 hb.size
    have K2 := hide (K1.out.trans (hb.mono (by omega)))
    clear hb HL1 HP1 K1 hs1
    try clear l0 l1 l2 l3 l4 p0 p1 p2
    obtain ⟨l0, l1, l2, l3, l4, -, -, -, -, -⟩ := id HL2
    obtain ⟨p0, p1, p2⟩ := id HP2
    go_wp2_with (fail)
    go_ret2
    exact ⟨⟨none, 0, by rw [HR.out]; rfl, by rw [HR.out]; exact World.ownsRow_nil _ _ _ _⟩, by rw [HN.out]; exact K2.out⟩
end Go.Proofs.YtabogapiecciiaaGreat

/- The walk of the reference's Lots. -/
namespace Go.Proofs.YtabogapiecciiaaGreat
open Go.RowKit
set_option linter.unusedVariables false
set_option linter.unusedSimpArgs false

/-- The cells that hold a rectangle of a block, and the block's own. -/
structure CellB (g o : Nat) (v : Value) (g2 o2 : Nat) (r : R4) (wr : World) : Prop where
  b : wr.cell? ⟨g, o, none⟩ = some v
  d0 : wr.cell? ⟨g2, o2, none⟩ = some (.int .i64 r.x0)
  d1 : wr.cell? ⟨g2, o2 + 1, none⟩ = some (.int .i64 r.y0)
  d2 : wr.cell? ⟨g2, o2 + 2, none⟩ = some (.int .i64 r.x1)
  d3 : wr.cell? ⟨g2, o2 + 3, none⟩ = some (.int .i64 r.y1)
  lt : g < wr.heap.size
  lt2 : g2 < wr.heap.size
theorem CellB.keep {g o g2 o2 : Nat} {v : Value} {r : R4} {wr w' : World} (h : CellB g o v g2 o2 r wr) (hb : Below wr.heap.size wr w') : w'.cell? ⟨g, o, none⟩ = some v ∧ w'.cell? ⟨g2, o2, none⟩ = some (.int .i64 r.x0) ∧ w'.cell? ⟨g2, o2 + 1, none⟩ = some (.int .i64 r.y0) ∧ w'.cell? ⟨g2, o2 + 2, none⟩ = some (.int .i64 r.x1) ∧ w'.cell? ⟨g2, o2 + 3, none⟩ = some (.int .i64 r.y1) :=
  ⟨(hb.cell (p := ⟨g, o, none⟩) h.lt).trans h.b, (hb.cell (p := ⟨g2, o2, none⟩) h.lt2).trans h.d0, (hb.cell (p := ⟨g2, o2 + 1, none⟩) h.lt2).trans h.d1, (hb.cell (p := ⟨g2, o2 + 2, none⟩) h.lt2).trans h.d2, (hb.cell (p := ⟨g2, o2 + 3, none⟩) h.lt2).trans h.d3⟩
set_option maxRecDepth 100000 in
set_option maxHeartbeats 16000000 in
theorem rLots_any {w : World} {vb v : Value} {bs : List (List R4)} {s : List R4} (hb : RdRR w w.heap.size vb bs) (hs : RdK encR 4 w w.heap.size v s) (p : Pl3) (nb : bs.length ≤ 410) (mb : ∀ b ∈ bs, b.length ≤ 420) (ns : s.length ≤ 420) :
    Calls Tryz.prog 20 #[vb, v, .agg (encP p).toArray] w (ParsRet w (lotsF bs s p)) := by
  obtain ⟨i1, gi, gz0, gz1, gz2⟩ := info_parts infoPar
  have HCK : Hid (∀ W : World, Below w.heap.size w W → Calls Tryz.prog 31 #[v] W fun e w' => e = .returned (.int .i64 (checkF s)) ∧ Below W.heap.size W w') := hide (fun W hw => rCheck_any ((hs.below hw).mono hw.size) (by omega))
  have HCB : Hid (∀ (b : List R4) (u : Value), b ∈ bs → RdK encR 4 w w.heap.size u b → ∀ W : World, Below w.heap.size w W → Calls Tryz.prog 31 #[u] W fun e w' => e = .returned (.int .i64 (checkF b)) ∧ Below W.heap.size W w') := hide (fun b u hm hu W hw => rCheck_any ((hu.below hw).mono hw.size) (by have := mb b hm; omega))
  have HPC : Hid (∀ W : World, Calls Tryz.prog 32 #[.agg #[.int .i64 0, .int .i64 0, .int .i64 1, .int .i64 1, .int .u8 1], .agg #[.int .i64 p.mf, .int .i64 p.ms, .int .i64 p.ma]] W fun e w' => e = .returned (.int .i64 (okW p)) ∧ Below W.heap.size W w') := hide (fun W => rCheckL_any ⟨⟨0, 0, 1, 1⟩, 1⟩ p (by decide) W)
  have HFR : Hid (checkF s = 0 → ∀ r : R4, okR r → ∀ W : World, Below w.heap.size w W → Calls Tryz.prog 48 #[.agg #[.int .i64 r.x0, .int .i64 r.y0, .int .i64 r.x1, .int .i64 r.y1], v] W fun e w' => e = .returned (.int .u8 (frF r s)) ∧ Below W.heap.size W w') := hide (fun hc r hr W hw => rfront_any r hr ((hs.below hw).mono hw.size) hc)
  have HSP : Hid (∀ (r : R4) (f : Int), 0 ≤ f ∧ f ≤ 15 → ∀ W : World, Calls Tryz.prog 49 #[.agg #[.int .i64 r.x0, .int .i64 r.y0, .int .i64 r.x1, .int .i64 r.y1, .int .u8 f], .agg #[.int .i64 p.mf, .int .i64 p.ms, .int .i64 p.ma]] W (LotsRet W (splitR ⟨r, f⟩ p))) := hide (fun r f hf W => rSplit_any ⟨r, f⟩ p ⟨hf.1, by show f ≤ 255; omega⟩ W)
  obtain ⟨Ab, cb, rfl, hbc⟩ := hb
  obtain ⟨As, cs, rfl, _⟩ := hs
  have HRB := hide hbc
  have HMB := hide mb
  have HW0 : Hid (Box3 (w.alloc (.cells #[.int .i64 p.mf, .int .i64 p.ms, .int .i64 p.ma] 24)) w.heap.size (.int .i64 p.mf) (.int .i64 p.ms) (.int .i64 p.ma) ∧ Below w.heap.size w (w.alloc (.cells #[.int .i64 p.mf, .int .i64 p.ms, .int .i64 p.ma] 24)) ∧ w.heap.size + 1 ≤ (w.alloc (.cells #[.int .i64 p.mf, .int .i64 p.ms, .int .i64 p.ma] 24)).heap.size) := hide ⟨⟨by simp [go_sem], by simp [go_sem], by simp [go_sem]⟩, (Below.refl _ _).alloc (Nat.le_refl _) _, by simp⟩
  generalize hW : w.alloc (.cells #[.int .i64 p.mf, .int .i64 p.ms, .int .i64 p.ma] 24) = W at *
  have nz : (bs.length : Int) ≤ 410 := by omega
  clear hbc mb
  have HI : Hid (LI w.heap.size w p [] (.slice none 0 0) 0 W) := hide ⟨World.ownsRow_nil _ _ _ _, HW0.out.2.1, HW0.out.2.2, HW0.out.1⟩
  clear HW0
  generalize hn : w.heap.size = n at *
  have HN := hide hn
  show Calls Tryz.prog _ #[.slice Ab bs.length cb, .slice As s.length cs, .agg #[.int .i64 p.mf, .int .i64 p.ms, .int .i64 p.ma]] w _
  by_cases hc : checkF s = 0
  · have HFR2 := hide (HFR.out hc)
    have HC := hide hc
    rw [hc] at HCK
    clear HFR hc
    go_enter Tryz.func20, Tryz.ntmps20
    go_wp2_with (fail)
    refine (HCK.out _ HI.out.below).mono ?_
    rintro e w1 ⟨rfl, hb⟩
    have HI1 := hide (HI.out.keep hb)
    clear hb hW hn HI HCK
    by_cases h4 : bs.length ≤ 400
    · have hz4 : (bs.length : Int) ≤ 400 := by omega
      have H4 := hide h4
      go_wp2_with (fail)
      go_wp2_with (fail)
      go_loopw [8] (fun i wr => ∃ m : Nat, m ≤ bs.length ∧ i = .int .i64 m ∧ Hid (∀ j x, j < m → bs[j]? = some x → checkF x = 0) ∧ Hid (LI n w p [] (.slice none 0 0) 0 wr)) (fun i _ => bs.length - (intOf i).toNat)
      case atStart => exact ⟨0, Nat.zero_le _, rfl, hide (fun j x hj => absurd hj (Nat.not_lt_zero _)), HI1⟩
      case round =>
        clear HI1
        obtain ⟨m, hm, rfl, HJ, HI⟩ := hrel
        by_cases hlt : m < bs.length
        · obtain ⟨b, hp⟩ : ∃ p, bs[m]? = some p := ⟨_, List.getElem?_eq_getElem hlt⟩
          obtain ⟨g, og, rfl, hbl, k⟩ := HRB.out (by intro e; rw [e] at hlt; simp at hlt)
          obtain ⟨u, d0, hu⟩ := k m _ hp
          have HCX := hide (HCB.out b u (List.mem_of_getElem? hp) hu)
          obtain ⟨Ax, cx, rfl, _⟩ := hu
          have d0 := (HI.out.below.cell (p := ⟨g, og + m, none⟩) hbl).trans d0
          have mz : (m : Int) < (bs.length : Int) := by omega
          have HP := hide hp
          clear k hp
          by_cases hcb : checkF b = 0
          · have HJS : Hid (∀ j x, j < m + 1 → bs[j]? = some x → checkF x = 0) := hide (fun j x hj hx => by
              rcases Nat.lt_or_ge j m with h | h
              · exact HJ.out j x h hx
              · obtain rfl : j = m := by omega
                rw [HP.out] at hx
                cases hx
                exact hcb)
            rw [hcb] at HCX
            clear hcb HJ
            go_wp2_with (fail)
            refine (HCX.out _ HI.out.below).mono ?_
            rintro e w2 ⟨rfl, hb⟩
            have HI2 := hide (HI.out.keep hb)
            clear hb HI HCX d0
            go_wp2_with (fail)
            go_roundw
            case rel => exact ⟨m + 1, by omega, by go_num, HJS, HI2⟩
            case measure => simp [intOf]; omega
          · have HF : Hid (lotsF bs s p = ([], checkF b)) := hide (by
              have hbad := bad_of HJ.out HP.out hcb
              have := H4.out
              unfold lotsF
              rw [if_neg (by rw [HC.out]; simp), if_neg (by omega), if_pos (by rw [hbad]; exact hcb), hbad])
            have hne : (checkF b != 0) = true := by simpa using hcb
            clear hcb HJ
            generalize checkF b = ck at *
            go_wp2_with (fail)
            refine (HCX.out _ HI.out.below).mono ?_
            rintro e w2 ⟨rfl, hb⟩
            have d0 := (hb.cell (p := ⟨g, og + m, none⟩) (Nat.lt_of_lt_of_le hbl (Nat.le_of_succ_le HI.out.size))).trans d0
            have HI2 := hide (HI.out.keep hb)
            clear hb HI
            go_wp2_with (fail)
            refine (HCX.out _ HI2.out.below).mono ?_
            rintro e w3 ⟨rfl, hb⟩
            have HI3 := hide (HI2.out.keep hb).below
            clear hb HI2 HCX d0
            go_wp2_with (fail)
            go_ret2
            exact pars_nil HF.out (by rw [HN.out]; exact HI3.out)
        · obtain rfl : m = bs.length := by omega
          have HBAD : Hid (badF bs = 0) := hide (bad_none HJ.out)
          have HALL : Hid (∀ (j : Nat) (b : List R4), bs[j]? = some b → checkF b = 0) := hide (fun j b hj => HJ.out j b (List.getElem?_eq_some_iff.1 hj).1 hj)
          clear HJ HCB
          obtain ⟨p0, p1, p2⟩ := HI.out.box
          go_wp2_with (fail)
          refine (HPC.out _).mono ?_
          rintro e w2 ⟨rfl, hb⟩
          have HI2 := hide (HI.out.keep hb)
          clear hb HI p0 p1 p2 HPC
          by_cases hok : okW p = 0
          · have HOK : Hid (LotsOk bs s p) := hide ⟨HC.out, H4.out, HBAD.out, hok⟩
            have HPW := hide hok
            rw [hok]
            clear hok HBAD
            go_wp2_with (fail)
            go_wp2_with (fail)
            go_loopw [9, 10] (fun ov i wr => ∃ (m no : Nat) (A : Option Addr) (c : Nat), m ≤ bs.length ∧ no ≤ 600 ∧ i = .int .i64 m ∧ ov = .slice A no c ∧ Hid (∀ (j : Nat) (b : List R4), j < m → bs[j]? = some b → ∀ (i : Nat) (r : R4), b[i]? = some r → (rectR s p r).2 = 0) ∧ Hid (LI n w p (pcA s p 0 (bs.take m)) (.slice A no c) no wr)) (fun _ i _ => bs.length - (intOf i).toNat)
            case atStart => exact ⟨0, 0, none, 0, Nat.zero_le _, Nat.zero_le _, rfl, rfl, hide (fun j x hj => absurd hj (Nat.not_lt_zero _)), HI2⟩
            case round =>
              clear HI2
              obtain ⟨m, no, A, c, hm, hno, rfl, rfl, HJ, HI⟩ := hrel
              have nz6 : (no : Int) ≤ 600 := by omega
              by_cases hlt : m < bs.length
              · obtain ⟨b, hp⟩ : ∃ p, bs[m]? = some p := ⟨_, List.getElem?_eq_getElem hlt⟩
                obtain ⟨g, og, rfl, hbl, k⟩ := HRB.out (by intro e; rw [e] at hlt; simp at hlt)
                obtain ⟨u, d0, hu⟩ := k m _ hp
                obtain ⟨Ax, cx, rfl, hbx⟩ := hu
                have HD9 := hide d0
                have d0 := (HI.out.below.cell (p := ⟨g, og + m, none⟩) hbl).trans d0
                have mz : (m : Int) < (bs.length : Int) := by omega
                have hcb := HALL.out m b hp
                have hbl4 : (b.length : Int) ≤ 400 := by have := (checkF_ok hcb).1; omega
                have HBX := hide hbx
                have HV : Hid (∀ r ∈ b, okR r) := hide (fun r hr => (ok_valid r).2 ((checkF_ok hcb).2.1 r hr))
                have HP := hide hp
                clear k hp hcb hbx
                go_wp2_with (fail)
                go_loopg [9, 11] (b.length) (fun gg ov i wr => ∃ (j no : Nat) (A : Option Addr) (c : Nat), gg + j = b.length ∧ no ≤ 600 ∧ i = .int .i64 j ∧ ov = .slice A no c ∧ Hid (∀ (i : Nat) (r : R4), i < j → b[i]? = some r → (rectR s p r).2 = 0) ∧ Hid (LI n w p (pcA s p 0 (bs.take m) ++ pcB s p m (b.take j)) (.slice A no c) no wr))
                case atStart => exact ⟨0, no, A, c, rfl, hno, rfl, rfl, hide (fun j x hj => absurd hj (Nat.not_lt_zero _)), by rw [show pcB s p m (b.take 0) = [] from rfl, List.append_nil]; exact HI⟩
                case round =>
                  clear HI d0 nz6
                  obtain ⟨j, no, A, c, hj, hno, rfl, rfl, HK, HI⟩ := hrel
                  have nz6 : (no : Int) ≤ 600 := by omega
                  have d9 := (HI.out.below.cell (p := ⟨g, og + m, none⟩) hbl).trans HD9.out
                  by_cases hltj : j < b.length
                  · obtain ⟨r, hpr⟩ : ∃ p, b[j]? = some p := ⟨_, List.getElem?_eq_getElem hltj⟩
                    obtain ⟨g2, o2, rfl, hbl2, k⟩ := HBX.out (by intro e; rw [e] at hltj; simp at hltj)
                    have d0 : wr.cell? ⟨g2, o2 + j * 4, none⟩ = some (.int .i64 r.x0) := (HI.out.below.cell (p := ⟨g2, _, none⟩) hbl2).trans (k j _ hpr 0 _ rfl)
                    have d1 : wr.cell? ⟨g2, o2 + j * 4 + 1, none⟩ = some (.int .i64 r.y0) := (HI.out.below.cell (p := ⟨g2, _, none⟩) hbl2).trans (k j _ hpr 1 _ rfl)
                    have d2 : wr.cell? ⟨g2, o2 + j * 4 + 2, none⟩ = some (.int .i64 r.x1) := (HI.out.below.cell (p := ⟨g2, _, none⟩) hbl2).trans (k j _ hpr 2 _ rfl)
                    have d3 : wr.cell? ⟨g2, o2 + j * 4 + 3, none⟩ = some (.int .i64 r.y1) := (HI.out.below.cell (p := ⟨g2, _, none⟩) hbl2).trans (k j _ hpr 3 _ rfl)
                    have jz : (j : Int) < (b.length : Int) := by omega
                    have HR := hide hpr
                    have hr := HV.out r (List.mem_of_getElem? hpr)
                    have HFX := hide (HFR2.out r hr)
                    have HPT : Hid (pcB s p m (b.take (j + 1)) = pcB s p m (b.take j) ++ pcR s p m r) := hide (pcB_at s p m hpr)
                    have HLE : Hid (∀ j, (pcA s p 0 (bs.take m)).length + (pcB s p m (b.take j)).length ≤ (pcA s p 0 bs).length) := hide (pcA_le s p HP.out)
                    have HFEW : Hid ((rectR s p r).2 ≠ 0 → fewF s p bs = false) := hide (fun h => few_at HP.out hpr h)
                    have HNO : Hid (no = (pcA s p 0 (bs.take m) ++ pcB s p m (b.take j)).length) := hide HI.out.len
                    clear k hpr
                    have HKB : Hid (CellB g (og + m) (.slice (some ⟨g2, o2, none⟩) b.length cx) g2 (o2 + j * 4) r wr) := hide ⟨d9, d0, d1, d2, d3, Nat.lt_of_lt_of_le hbl (Nat.le_of_succ_le HI.out.size), Nat.lt_of_lt_of_le hbl2 (Nat.le_of_succ_le HI.out.size)⟩
                    obtain ⟨F, hF⟩ : ∃ F, frF r s = F := ⟨_, rfl⟩
                    rw [hF] at HFX
                    have HFF := hide hF
                    have HF15 : Hid (0 ≤ F ∧ F ≤ 15) := hide (by rw [← hF]; obtain ⟨_, _, _, _, a, b⟩ := fr_has r s; exact ⟨a, b⟩)
                    have h02 := HF15.out.1
                    clear hF
                    have HFZ : Hid (∀ W : World, Below wr.heap.size wr W → Calls Tryz.prog 48 #[.agg #[.int .i64 r.x0, .int .i64 r.y0, .int .i64 r.x1, .int .i64 r.y1], .slice As s.length cs] W fun e w' => e = .returned (.int .u8 F) ∧ Below W.heap.size W w') := hide (fun W hW => HFX.out W (HI.out.below.trans (hW.mono (by have := HI.out.size; omega))))
                    clear HFX
                    go_upto_region 19 with fail
                    go_cut [12] (fun s12 wx => ∃ g, s12 = .pointer (some ⟨g, 0, none⟩) ∧ Below wr.heap.size wr wx ∧ BoxL5 g ⟨r, F⟩ wx)
                    case first =>
                      go_region_held3 (fun w' => w'.cell? ⟨g, og + m, none⟩ = some (.slice (some ⟨g2, o2, none⟩) b.length cx) ∧ w'.cell? ⟨g2, o2 + j * 4, none⟩ = some (.int .i64 r.x0) ∧ w'.cell? ⟨g2, o2 + j * 4 + 1, none⟩ = some (.int .i64 r.y0) ∧ w'.cell? ⟨g2, o2 + j * 4 + 2, none⟩ = some (.int .i64 r.x1) ∧ w'.cell? ⟨g2, o2 + j * 4 + 3, none⟩ = some (.int .i64 r.y1)) ((refine HKB.out.keep ?_; repeat (first | with_reducible exact Below.refl _ _ | with_reducible exact hbK | with_reducible refine Below.setCell ?_ (by first | omega | (simp; done) | (simp; omega)) _ | with_reducible refine Below.alloc ?_ (by first | omega | (simp; omega) | simp) _ | with_reducible refine Below.drew ?_)))
                        (first
                          | (go_at_call 48; refine (HFZ.out _ (by repeat (first | with_reducible exact Below.refl _ _ | with_reducible refine Below.alloc ?_ (by first | omega | (simp; omega) | simp) _ | with_reducible refine Below.drew ?_))).mono ?_; rintro e w10 ⟨rfl, hb10⟩; have hbK : Below wr.heap.size wr w10 := Below.trans (by repeat (first | with_reducible exact Below.refl _ _ | with_reducible refine Below.alloc ?_ (by first | omega | (simp; omega) | simp) _ | with_reducible refine Below.drew ?_)) (hb10.mono (by simp <;> omega)); have hsK := hbK.size; obtain ⟨hcK, hfK⟩ := bcell hb10; (try have z0 : wr.heap.size < w10.heap.size := by have := hb10.size; simp at this; omega); clear hb10))
                      all_goals (go_wp2_with (fail); go_meet)
                      all_goals
                        refine ⟨_, rfl, ?_, ⟨?_, ?_, ?_, ?_, ?_, ?_⟩⟩
                        · repeat (first | with_reducible exact Below.refl _ _ | with_reducible exact hbK | with_reducible refine Below.setCell ?_ (by first | omega | (simp; done) | (simp; omega)) _ | with_reducible refine Below.alloc ?_ (by first | omega | (simp; omega) | simp) _ | with_reducible refine Below.drew ?_)
                        · simp [go_sem, hcK, hfK]
                        · simp [go_sem, hcK, hfK]
                        · simp [go_sem, hcK, hfK]
                        · simp [go_sem, hcK, hfK]
                        · simp [go_sem, hcK, hfK]
                        · first | (simp; done) | (simp; omega)
                    case rest =>
                      obtain ⟨g5, rfl, hb, HBL⟩ := hcut
                      have HI9 := hide (HI.out.keep hb)
                      clear hb HI HKB HFZ d0 d1 d2 d3 d9
                      have HS1 : n + 1 ≤ wc.heap.size := HI9.out.size
                      obtain ⟨⟨Q, qc⟩, hQ⟩ : ∃ C, rectR s p r = C := ⟨_, rfl⟩
                      have HFN : Hid (rectR s p r = (Q, qc)) := hide hQ
                      have HQL : Hid (Q.length ≤ 400) := hide (by have := rect_len s p r; rw [hQ] at this; exact this)
                      have hql : (Q.length : Int) ≤ 400 := by have := HQL.out; omega
                      clear hQ
                      obtain ⟨l0, l1, l2, l3, l4, hg⟩ := id HBL
                      simp only at l0 l1 l2 l3 l4
                      go_upto_if 82 with (fail)
                      refine wp_name5 fun V hV => ?_
                      have hbv : Below wc.heap.size wc V := by
                        rw [hV]
                        repeat (first | with_reducible exact Below.refl _ _ | with_reducible refine Below.setCell ?_ (by first | (simp; done) | (simp; omega)) _ | with_reducible refine Below.alloc ?_ (by first | omega | (simp; omega) | simp) _)
                      have HI10 := hide (HI9.out.keep hbv)
                      have HRL : Hid (V.ownsRow wc.heap.size 56 5 (.slice (some ⟨wc.heap.size, 0, none⟩) 1 1) 1 ([(⟨r, F⟩ : Lot5)].flatMap encL)) := hide (by
                        rw [hV]
                        exact World.ownsRow_lit (base := wc.heap.size) (size := 5) wc _ 1 (Nat.le_refl _) (by simp [maxLen]) rfl)
                      have q0 : V.cell? ⟨g5, 0, none⟩ = some (.int .i64 r.x0) := (hbv.cell (p := ⟨g5, 0, none⟩) hg).trans l0
                      have q1 : V.cell? ⟨g5, 1, none⟩ = some (.int .i64 r.y0) := (hbv.cell (p := ⟨g5, 1, none⟩) hg).trans l1
                      have q2 : V.cell? ⟨g5, 2, none⟩ = some (.int .i64 r.x1) := (hbv.cell (p := ⟨g5, 2, none⟩) hg).trans l2
                      have q3 : V.cell? ⟨g5, 3, none⟩ = some (.int .i64 r.y1) := (hbv.cell (p := ⟨g5, 3, none⟩) hg).trans l3
                      have q4 : V.cell? ⟨g5, 4, none⟩ = some (.int .u8 F) := (hbv.cell (p := ⟨g5, 4, none⟩) hg).trans l4
                      generalize wc.heap.size = K at *
                      clear hV hbv HI9 l0 l1 l2 l3 l4 hg HBL HS1
                      have HS1 : n + 1 ≤ V.heap.size := HI10.out.size
                      go_cut [13, 14] (fun s13 s14 wx => ∃ A9 c9, s13 = .slice A9 Q.length c9 ∧ s14 = .int .i64 qc ∧ Hid (LI n w p (pcA s p 0 (bs.take m) ++ pcB s p m (b.take j)) (.slice A no c) no wx ∧ ∃ K, wx.ownsRow K 56 5 (.slice A9 Q.length c9) Q.length (Q.flatMap encL)))
                      case first =>
                        by_cases hF0 : F = 0
                        · subst hF0
                          obtain ⟨rfl, rfl⟩ : Q = [⟨r, 0⟩] ∧ qc = 0 := by
                            have := HFN.out
                            unfold rectR at this
                            rw [if_pos HFF.out] at this
                            injection this with e1 e2
                            exact ⟨e1.symm, e2.symm⟩
                          clear hql
                          go_wp2_with (fail)
                          go_meet
                          exact ⟨_, _, rfl, rfl, hide ⟨HI10.out, K, HRL.out⟩⟩
                        · have hfp : 0 < F := by omega
                          have HSX : Hid (∀ W : World, Calls Tryz.prog 49 #[.agg #[.int .i64 r.x0, .int .i64 r.y0, .int .i64 r.x1, .int .i64 r.y1, .int .u8 F], .agg #[.int .i64 p.mf, .int .i64 p.ms, .int .i64 p.ma]] W (LotsRet W (Q, qc))) := hide (by
                            have := HFN.out
                            unfold rectR at this
                            rw [if_neg (by rw [HFF.out]; exact hF0), HFF.out] at this
                            rw [← this]
                            exact HSP.out r F HF15.out)
                          obtain ⟨p0, p1, p2⟩ := HI10.out.box
                          have hn1 : n < V.heap.size := by omega
                          clear hF0 HSP
                          go_wp2_with (fail)
                          refine (HSX.out _).mono ?_
                          rintro e w8 ⟨⟨A8, c8, rfl, hown8⟩, hb⟩
                          have HI8 := hide (HI10.out.keep hb)
                          have HQR := hide hown8
                          clear hb HI10 HSX p0 p1 p2 hn1 hown8
                          simp only at HQR ⊢
                          go_wp2_with (fail)
                          go_meet
                          exact ⟨_, _, rfl, rfl, hide ⟨HI8.out, _, HQR.out⟩⟩
                      case rest =>
                        obtain ⟨A8, c8, rfl, rfl, HIK⟩ := hcut
                        obtain ⟨K8, HQ8⟩ := HIK.out.2
                        have HI8 := hide HIK.out.1
                        have HQR := hide HQ8
                        have HS8 : n + 1 ≤ wc.heap.size := HI8.out.size
                        clear HIK HQ8 HI10 HRL q0 q1 q2 q3 q4 HS1
                        by_cases hqc : qc = 0
                        · subst hqc
                          by_cases hsum : no + Q.length ≤ 600
                          · have hzs : (no : Int) + (Q.length : Int) ≤ 600 := by omega
                            go_wp2_with (fail)
                            go_loopw [9, 15] (fun ov i wr => ∃ (k n9 : Nat) (A : Option Addr) (c : Nat), k ≤ Q.length ∧ n9 + Q.length ≤ 600 + k ∧ i = .int .i64 k ∧ ov = .slice A n9 c ∧ Hid (LI n w p (pcA s p 0 (bs.take m) ++ pcB s p m (b.take j) ++ (Q.take k).map (Par6.mk (m : Int))) (.slice A n9 c) n9 wr ∧ wr.ownsRow K8 56 5 (.slice A8 Q.length c8) Q.length (Q.flatMap encL))) (fun _ i _ => Q.length - (intOf i).toNat)
                            case atStart => exact ⟨0, no, A, c, Nat.zero_le _, hsum, rfl, rfl, hide ⟨by rw [List.take_zero, List.map_nil, List.append_nil]; exact HI8.out, HQR.out⟩⟩
                            case round =>
                              clear HI8 HQR HS8 hzs nz6
                              obtain ⟨k, n9, A, c, hkq, hn9, rfl, rfl, HIQ⟩ := hrel
                              by_cases hltk : k < Q.length
                              · obtain ⟨x, hpx⟩ : ∃ p, Q[k]? = some p := ⟨_, List.getElem?_eq_getElem hltk⟩
                                obtain ⟨A0, c0, e0, hrd⟩ := own_rd HIQ.out.2 (fun _ => rfl)
                                injection e0 with eA eN eC
                                subst eC
                                obtain ⟨g3, o3, rfl, hbl3, kk⟩ := hrd (by intro e; rw [e] at hltk; simp at hltk)
                                subst eA
                                have d0 : wr.cell? ⟨g3, o3 + k * 5, none⟩ = some (.int .i64 x.r.x0) := kk k _ hpx 0 _ rfl
                                have d1 : wr.cell? ⟨g3, o3 + k * 5 + 1, none⟩ = some (.int .i64 x.r.y0) := kk k _ hpx 1 _ rfl
                                have d2 : wr.cell? ⟨g3, o3 + k * 5 + 2, none⟩ = some (.int .i64 x.r.x1) := kk k _ hpx 2 _ rfl
                                have d3 : wr.cell? ⟨g3, o3 + k * 5 + 3, none⟩ = some (.int .i64 x.r.y1) := kk k _ hpx 3 _ rfl
                                have d4 : wr.cell? ⟨g3, o3 + k * 5 + 4, none⟩ = some (.int .u8 x.f) := kk k _ hpx 4 _ rfl
                                have kz : (k : Int) < (Q.length : Int) := by omega
                                have HTK : Hid ((Q.take (k + 1)).map (Par6.mk (m : Int)) = (Q.take k).map (Par6.mk (m : Int)) ++ [⟨(m : Int), x⟩]) := hide (by rw [List.take_add_one, hpx]; simp)
                                clear kk hrd hpx
                                have HS2 : n + 1 ≤ wr.heap.size := HIQ.out.1.size
                                go_wp2_with (at_builtin; go_loud (refine wpList_append_lies _ rfl (.tmp 105) (.tmp 112) 47 rfl (n + 1) 58 i1 (.agg #[.int .i64 0, .int .i64 0, .int .i64 0, .int .i64 0, .int .i64 0, .int .u8 0]) 6 48 Tryz.underlying47 gi gz0 gz1 gz2 rfl (by decide) _ n9 _ rfl (World.ownsRow.alloc HIQ.out.1.row _) ⟨wr.heap.size, 0, none⟩ 1 1 [.int .i64 (m : Int), .int .i64 x.r.x0, .int .i64 x.r.y0, .int .i64 x.r.x1, .int .i64 x.r.y1, .int .u8 x.f] rfl rfl (news_new wr _ _ _ rfl) (ints_one rfl) (by omega) (by unfold maxLen; omega) (by omega) (by simp; omega) _ rfl ?_))
                                intro g9 cp9 w9 hown hgrow hg2 hlt9
                                have HR9 : Hid (LI n w p (pcA s p 0 (bs.take m) ++ pcB s p m (b.take j) ++ (Q.take (k + 1)).map (Par6.mk (m : Int))) (.slice (some ⟨g9, 0, none⟩) (n9 + 1) cp9) (n9 + 1) w9 ∧ w9.ownsRow K8 56 5 (.slice (some ⟨g3, o3, none⟩) Q.length c8) Q.length (Q.flatMap encL)) := hide ⟨(HIQ.out.1.keep ((Below.refl _ _).alloc (Nat.le_refl _) _)).push hgrow (by rw [HTK.out, ← List.append_assoc, List.flatMap_append, List.flatMap_append, List.flatMap_append, List.append_assoc, List.append_assoc, List.map_take]; exact hown), (own_below HIQ.out.2 ((Below.refl _ _).alloc (Nat.le_refl _) _)).kept hgrow (own_apart HIQ.out.2 HIQ.out.1.row lot_par)⟩
                                clear HIQ HTK d0 d1 d2 d3 d4 hbl3 hown hgrow hg2 hlt9
                                go_wp2_with (fail)
                                go_roundw
                                case rel => exact ⟨k + 1, n9 + 1, _, cp9, by omega, by omega, by go_num, rfl, HR9⟩
                                case measure => simp [intOf]; omega
                              · obtain rfl : k = Q.length := by omega
                                have HI7 := hide HIQ.out.1
                                clear HIQ
                                go_wp2_with (fail)
                                go_roundg (b.length - (j + 1))
                                case rel => exact ⟨j + 1, n9, A, c, by omega, by omega, by go_num, rfl, hide (fun i x hi hx => by
                                  rcases Nat.lt_or_ge i j with h | h
                                  · exact HK.out i x h hx
                                  · obtain rfl : i = j := by omega
                                    rw [HR.out] at hx
                                    cases hx
                                    rw [HFN.out]), by rw [HPT.out, show pcR s p m r = (Q.take Q.length).map (Par6.mk (m : Int)) by unfold pcR; rw [HFN.out, List.take_length], ← List.append_assoc]; exact HI7⟩
                                case measure => omega
                          · have hzs : (600 : Int) < (no : Int) + (Q.length : Int) := by omega
                            have HLO : Hid (lotsF bs s p = ([], 4)) := hide (HOK.out.long (by
                              have h1 := HLE.out (j + 1)
                              have h3 : (pcR s p m r).length = Q.length := by unfold pcR; rw [HFN.out, List.length_map]
                              rw [HPT.out, List.length_append, h3] at h1
                              have h2 := HNO.out
                              rw [List.length_append] at h2
                              omega))
                            have HB9 := hide HI8.out.below
                            clear HI8 HQR
                            go_wp2_with (fail)
                            go_ret2
                            exact pars_nil HLO.out (by rw [HN.out]; exact HB9.out)
                        · have hne : (qc != 0) = true := by simpa using hqc
                          have HLO : Hid (lotsF bs s p = ([], 4)) := hide (HOK.out.few (HFEW.out (by rw [HFN.out]; exact hqc)))
                          have HB9 := hide HI8.out.below
                          clear HI8 HQR
                          go_wp2_with (fail)
                          go_ret2
                          exact pars_nil HLO.out (by rw [HN.out]; exact HB9.out)
                  · obtain rfl : j = b.length := by omega
                    have HKA : Hid (∀ (i : Nat) (r : R4), b[i]? = some r → (rectR s p r).2 = 0) := hide (fun i r hi => HK.out i r (List.getElem?_eq_some_iff.1 hi).1 hi)
                    have HIM : Hid (LI n w p (pcA s p 0 (bs.take (m + 1))) (.slice A no c) no wr) := hide (by rw [pcA_at s p HP.out]; have := HI.out; rw [List.take_length] at this; exact this)
                    clear HI HK
                    go_wp2_with (fail)
                    go_roundw
                    case rel => exact ⟨m + 1, no, A, c, by omega, hno, by go_num, rfl, hide (fun i x hi hx => by
                      rcases Nat.lt_or_ge i m with h | h
                      · exact HJ.out i x h hx
                      · obtain rfl : i = m := by omega
                        rw [HP.out] at hx
                        cases hx
                        exact HKA.out), HIM⟩
                    case measure => simp [intOf]; omega
              · obtain rfl : m = bs.length := by omega
                have HALL2 : Hid (lotsF bs s p = (pcA s p 0 bs, 0)) := hide (by
                  have h1 := HI.out.len
                  rw [List.take_length] at h1
                  rw [HOK.out.eq, if_pos ⟨few_all fun i b hi => HJ.out i b (List.getElem?_eq_some_iff.1 hi).1 hi, by omega⟩])
                have HI6 : Hid (LI n w p (pcA s p 0 bs) (.slice A no c) no wr) := hide (by have := HI.out; rw [List.take_length] at this; exact this)
                have HB9 := hide HI6.out.below
                clear HI HJ
                go_wp2_with (fail)
                go_ret2
                have hnl := HI6.out.len
                refine ⟨⟨A, c, ?_, ?_⟩, by rw [HN.out]; exact HB9.out⟩
                · rw [HALL2.out]
                  show _ = Ending.returned (.tuple #[.slice A (pcA s p 0 bs).length c, .int .i64 0])
                  rw [← hnl]
                  rfl
                · rw [HALL2.out]
                  show World.ownsRow _ _ _ _ (.slice A (pcA s p 0 bs).length c) (pcA s p 0 bs).length ((pcA s p 0 bs).flatMap encQ)
                  rw [← hnl, HN.out]
                  exact own_base HI6.out.row (by omega)
          · have HF : Hid (lotsF bs s p = ([], 2)) := hide (by
              have := H4.out
              unfold lotsF
              rw [if_neg (by rw [HC.out]; simp), if_neg (by omega), if_neg (by rw [HBAD.out]; simp), if_pos hok])
            have hw2 : okW p = 2 := by
              have := okW_eq p
              split at this
              · exact absurd this hok
              · exact this
            have HB2 := hide HI2.out.below
            rw [hw2]
            clear hw2 hok HI2
            go_wp2_with (fail)
            go_ret2
            exact pars_nil HF.out (by rw [HN.out]; exact HB2.out)
    · have hz4 : (400 : Int) < (bs.length : Int) := by omega
      have HF : Hid (lotsF bs s p = ([], 4)) := hide (by
        unfold lotsF
        rw [if_neg (by rw [HC.out]; simp), if_pos (by omega)])
      have HI2 := hide HI1.out.below
      go_wp2_with (fail)
      go_ret2
      exact pars_nil HF.out (by rw [HN.out]; exact HI2.out)
  · have HF : Hid (lotsF bs s p = ([], checkF s)) := hide (if_pos hc)
    have hne : (checkF s != 0) = true := by simpa using hc
    clear HFR hc
    generalize checkF s = ck at *
    go_enter Tryz.func20, Tryz.ntmps20
    go_wp2_with (fail)
    refine (HCK.out _ HI.out.below).mono ?_
    rintro e w1 ⟨rfl, hb⟩
    have HI1 := hide (HI.out.keep hb)
    clear hb hW HI
    go_wp2_with (fail)
    refine (HCK.out _ HI1.out.below).mono ?_
    rintro e w2 ⟨rfl, hb⟩
    have HI2 := hide (HI1.out.keep hb).below
    clear hb HI1 HCK
    go_wp2_with (fail)
    go_ret2
    exact pars_nil HF.out (by rw [HN.out]; exact HI2.out)
end Go.Proofs.YtabogapiecciiaaGreat

/- The reference's Same of parcels: two lists are one. -/
namespace Go.Proofs.YtabogapiecciiaaGreat
open Go.RowKit
set_option linter.unusedVariables false
set_option linter.unusedSimpArgs false

set_option maxHeartbeats 4000000 in
theorem rSameP_any {w : World} {vs vt : Value} {s t : List Par6} {B C : Nat} (hs : RdK encQ 6 w B vs s) (ht : RdK encQ 6 w C vt t) (ns : s.length ≤ 100000000) (hB : B ≤ w.heap.size) (hC : C ≤ w.heap.size) :
    Calls Tryz.prog 21 #[vs, vt] w fun e w' => e = .returned (.bool (decide (s = t))) ∧ Below w.heap.size w w' := by
  obtain ⟨A1, c1, rfl, h1⟩ := hs
  obtain ⟨A2, c2, rfl, h2⟩ := ht
  have g : Tryz.prog.eqGuardType Tryz.prog.depth 58 = false := by kernel_rfl
  have H1 := hide h1
  have H2 := hide h2
  clear h1 h2
  go_enter Tryz.func21, Tryz.ntmps21
  by_cases hl : s.length = t.length
  · have hne : ((s.length : Int) != (t.length : Int)) = false := by rw [hl]; simp
    have HL := hide hl
    clear hl
    go_wp2
    go_loopw [5] (fun i wr => ∃ k : Nat, k ≤ s.length ∧ i = .int .i64 k ∧ Hid (s.take k = t.take k) ∧ Below w.heap.size w wr) (fun i _ => s.length - (intOf i).toNat)
    case atStart => exact ⟨0, Nat.zero_le _, rfl, hide rfl, Below.refl _ _⟩
    case round =>
      obtain ⟨k, hk, rfl, HT, hb⟩ := hrel
      by_cases hlt : k < s.length
      · obtain ⟨⟨a0, ⟨⟨a1, a2, a3, a4⟩, a5⟩⟩, hp⟩ : ∃ p, s[k]? = some p := ⟨_, List.getElem?_eq_getElem hlt⟩
        have hlt2 : k < t.length := by rw [← HL.out]; exact hlt
        obtain ⟨⟨b0, ⟨⟨b1, b2, b3, b4⟩, b5⟩⟩, hq⟩ : ∃ p, t[k]? = some p := ⟨_, List.getElem?_eq_getElem hlt2⟩
        obtain ⟨p1, o1, rfl, hp1, k1⟩ := H1.out (by intro e; rw [e] at hlt; simp at hlt)
        obtain ⟨p2, o2, rfl, hp2, k2⟩ := H2.out (by intro e; rw [e] at hlt2; simp at hlt2)
        have x0 : wr.cell? ⟨p1, o1 + k * 6, none⟩ = some (.int .i64 a0) := (hb.cell (p := ⟨p1, _, none⟩) (by show p1 < _; omega)).trans (k1 k _ hp 0 _ rfl)
        have y0 : wr.cell? ⟨p2, o2 + k * 6, none⟩ = some (.int .i64 b0) := (hb.cell (p := ⟨p2, _, none⟩) (by show p2 < _; omega)).trans (k2 k _ hq 0 _ rfl)
        have x1 : wr.cell? ⟨p1, o1 + k * 6 + 1, none⟩ = some (.int .i64 a1) := (hb.cell (p := ⟨p1, _, none⟩) (by show p1 < _; omega)).trans (k1 k _ hp 1 _ rfl)
        have y1 : wr.cell? ⟨p2, o2 + k * 6 + 1, none⟩ = some (.int .i64 b1) := (hb.cell (p := ⟨p2, _, none⟩) (by show p2 < _; omega)).trans (k2 k _ hq 1 _ rfl)
        have x2 : wr.cell? ⟨p1, o1 + k * 6 + 2, none⟩ = some (.int .i64 a2) := (hb.cell (p := ⟨p1, _, none⟩) (by show p1 < _; omega)).trans (k1 k _ hp 2 _ rfl)
        have y2 : wr.cell? ⟨p2, o2 + k * 6 + 2, none⟩ = some (.int .i64 b2) := (hb.cell (p := ⟨p2, _, none⟩) (by show p2 < _; omega)).trans (k2 k _ hq 2 _ rfl)
        have x3 : wr.cell? ⟨p1, o1 + k * 6 + 3, none⟩ = some (.int .i64 a3) := (hb.cell (p := ⟨p1, _, none⟩) (by show p1 < _; omega)).trans (k1 k _ hp 3 _ rfl)
        have y3 : wr.cell? ⟨p2, o2 + k * 6 + 3, none⟩ = some (.int .i64 b3) := (hb.cell (p := ⟨p2, _, none⟩) (by show p2 < _; omega)).trans (k2 k _ hq 3 _ rfl)
        have x4 : wr.cell? ⟨p1, o1 + k * 6 + 4, none⟩ = some (.int .i64 a4) := (hb.cell (p := ⟨p1, _, none⟩) (by show p1 < _; omega)).trans (k1 k _ hp 4 _ rfl)
        have y4 : wr.cell? ⟨p2, o2 + k * 6 + 4, none⟩ = some (.int .i64 b4) := (hb.cell (p := ⟨p2, _, none⟩) (by show p2 < _; omega)).trans (k2 k _ hq 4 _ rfl)
        have x5 : wr.cell? ⟨p1, o1 + k * 6 + 5, none⟩ = some (.int .u8 a5) := (hb.cell (p := ⟨p1, _, none⟩) (by show p1 < _; omega)).trans (k1 k _ hp 5 _ rfl)
        have y5 : wr.cell? ⟨p2, o2 + k * 6 + 5, none⟩ = some (.int .u8 b5) := (hb.cell (p := ⟨p2, _, none⟩) (by show p2 < _; omega)).trans (k2 k _ hq 5 _ rfl)
        have z1 : (k : Int) < (s.length : Int) := by omega
        have z2 : (k : Int) < (t.length : Int) := by omega
        have HP := hide hp
        have HQ := hide hq
        clear hp hq k1 k2
        by_cases e0 : a0 = b0
        rotate_left 1
        · have hd : decide (s = t) = false := decide_eq_false fun e => by
            subst e
            have := HP.out.symm.trans HQ.out
            simp only [Option.some.injEq, Par6.mk.injEq, Lot5.mk.injEq, R4.mk.injEq] at this
            omega
          have HD := hide hd
          clear hd
          go_wp2
          go_region
          go_wp2
          go_ret
          exact ⟨ret_eq (bool_eq HD.out.symm), hb.drew⟩
        by_cases e1 : a1 = b1
        rotate_left 1
        · have hd : decide (s = t) = false := decide_eq_false fun e => by
            subst e
            have := HP.out.symm.trans HQ.out
            simp only [Option.some.injEq, Par6.mk.injEq, Lot5.mk.injEq, R4.mk.injEq] at this
            omega
          have HD := hide hd
          clear hd
          subst e0
          go_wp2
          go_region
          go_wp2
          go_ret
          exact ⟨ret_eq (bool_eq HD.out.symm), hb.drew⟩
        by_cases e2 : a2 = b2
        rotate_left 1
        · have hd : decide (s = t) = false := decide_eq_false fun e => by
            subst e
            have := HP.out.symm.trans HQ.out
            simp only [Option.some.injEq, Par6.mk.injEq, Lot5.mk.injEq, R4.mk.injEq] at this
            omega
          have HD := hide hd
          clear hd
          subst e0
          subst e1
          go_wp2
          go_region
          go_wp2
          go_ret
          exact ⟨ret_eq (bool_eq HD.out.symm), hb.drew⟩
        by_cases e3 : a3 = b3
        rotate_left 1
        · have hd : decide (s = t) = false := decide_eq_false fun e => by
            subst e
            have := HP.out.symm.trans HQ.out
            simp only [Option.some.injEq, Par6.mk.injEq, Lot5.mk.injEq, R4.mk.injEq] at this
            omega
          have HD := hide hd
          clear hd
          subst e0
          subst e1
          subst e2
          go_wp2
          go_region
          go_wp2
          go_ret
          exact ⟨ret_eq (bool_eq HD.out.symm), hb.drew⟩
        by_cases e4 : a4 = b4
        rotate_left 1
        · have hd : decide (s = t) = false := decide_eq_false fun e => by
            subst e
            have := HP.out.symm.trans HQ.out
            simp only [Option.some.injEq, Par6.mk.injEq, Lot5.mk.injEq, R4.mk.injEq] at this
            omega
          have HD := hide hd
          clear hd
          subst e0
          subst e1
          subst e2
          subst e3
          go_wp2
          go_region
          go_wp2
          go_ret
          exact ⟨ret_eq (bool_eq HD.out.symm), hb.drew⟩
        by_cases e5 : a5 = b5
        rotate_left 1
        · have hd : decide (s = t) = false := decide_eq_false fun e => by
            subst e
            have := HP.out.symm.trans HQ.out
            simp only [Option.some.injEq, Par6.mk.injEq, Lot5.mk.injEq, R4.mk.injEq] at this
            omega
          have HD := hide hd
          clear hd
          subst e0
          subst e1
          subst e2
          subst e3
          subst e4
          go_wp2
          go_region
          go_wp2
          go_ret
          exact ⟨ret_eq (bool_eq HD.out.symm), hb.drew⟩
        subst e0
        subst e1
        subst e2
        subst e3
        subst e4
        subst e5
        go_wp2
        go_region
        go_wp2
        go_roundw
        case rel =>
          refine ⟨k + 1, by omega, by go_num, hide ?_, hb.drew⟩
          obtain ⟨i1, e1⟩ := List.getElem?_eq_some_iff.1 HP.out
          obtain ⟨i2, e2⟩ := List.getElem?_eq_some_iff.1 HQ.out
          rw [List.take_succ_eq_append_getElem i1, List.take_succ_eq_append_getElem i2, HT.out, e1, e2]
        case measure => simp [intOf]; omega
      · have hlz : ¬ (k : Int) < (s.length : Int) := by omega
        have hd : decide (s = t) = true := decide_eq_true (by
          have := HT.out
          rw [List.take_of_length_le (by omega), List.take_of_length_le (by rw [← HL.out]; omega)] at this
          exact this)
        have HD := hide hd
        clear hd
        go_wp2
        go_ret
        exact ⟨ret_eq (bool_eq HD.out.symm), hb⟩
  · have hne : ((s.length : Int) != (t.length : Int)) = true := by simp; omega
    have hd : decide (s = t) = false := decide_eq_false fun e => hl (by rw [e])
    rw [hd]
    clear hl hd
    go_wp2
    go_ret
    exact ⟨rfl, Below.refl _ _⟩
end Go.Proofs.YtabogapiecciiaaGreat

/- The walk of the law LotsParcels. -/
namespace Go.Proofs.YtabogapiecciiaaGreat
open Go.RowKit
set_option linter.unusedVariables false
set_option linter.unusedSimpArgs false

/-- The wishes in a box of the law's own. -/
structure BoxW (n : Nat) (w : World) (p : Pl3) (wr : World) : Prop where
  box : Box3 wr n (.int .i64 p.mf) (.int .i64 p.ms) (.int .i64 p.ma)
  below : Below n w wr
  size : n + 1 ≤ wr.heap.size
theorem BoxW.keep {n : Nat} {w wr w' : World} {p : Pl3} (h : BoxW n w p wr) (hb : Below wr.heap.size wr w') : BoxW n w p w' :=
  ⟨h.box.below hb, h.below.trans (hb.mono (by have := h.size; omega)), Nat.le_trans h.size hb.size⟩
theorem boxW_new (w : World) (p : Pl3) (t : TypeId) : BoxW w.heap.size w p (w.alloc (.cells #[.int .i64 p.mf, .int .i64 p.ms, .int .i64 p.ma] t)) :=
  ⟨⟨by simp [go_sem], by simp [go_sem], by simp [go_sem]⟩, (Below.refl _ _).alloc (Nat.le_refl _) _, by simp⟩
theorem rd_ownP {W : World} {R : List Par6} {B : Nat} {A : Option Addr} {c : Nat} (h : W.ownsRow B 58 6 (.slice A R.length c) R.length (R.flatMap encQ)) : RdK encQ 6 W W.heap.size (.slice A R.length c) R := own_rd h (fun _ => rfl)
theorem lots_len (bs : List (List R4)) (s : List R4) (p : Pl3) : (lotsF bs s p).1.length ≤ 600 := by
  unfold lotsF
  repeat' split
  all_goals first | (simp; done) | (rename_i h; exact h.2)
set_option maxRecDepth 100000 in
set_option maxHeartbeats 4000000 in
theorem parcels36_walk {w : World} {vb v : Value} {bs : List (List R4)} {s : List R4} (hb : RdRR w w.heap.size vb bs) (hs : RdK encR 4 w w.heap.size v s) (p : Pl3) (nb : bs.length ≤ maxLen) (ns : s.length ≤ maxLen) (mb : ∀ b ∈ bs, b.length ≤ maxLen) :
    Calls Tryz.prog 4 #[vb, v, .agg (encP p).toArray] w fun e w' => e = .returned (.bool true) ∧ Below w.heap.size w w' := by
  have HW := hide (boxW_new w p 24)
  generalize hW : w.alloc (.cells #[.int .i64 p.mf, .int .i64 p.ms, .int .i64 p.ma] 24) = W at *
  have HG : Hid (∀ W : World, Below w.heap.size w W → Calls Tryz.prog 19 #[vb, v] W fun e w' => GreatRet bs s.length e ∧ Below W.heap.size W w') := hide (fun W hW => by
    obtain ⟨A, c, rfl, _⟩ := hs
    exact rGreatB_any ((hb.below hW).mono hW.size) nb mb A s.length c ns)
  have HL1 : Hid (bs.length ≤ 410 ∧ (∀ b ∈ bs, b.length ≤ 420) ∧ s.length ≤ 420 → ∀ W : World, Below w.heap.size w W → Calls Tryz.prog 15 #[vb, v, .agg #[.int .i64 p.mf, .int .i64 p.ms, .int .i64 p.ma]] W (ParsRet W (lotsF bs s p))) := hide (fun h W hW => lots_any ((hb.below hW).mono hW.size) ((hs.below hW).mono hW.size) p h.1 h.2.1 h.2.2)
  have HL2 : Hid (bs.length ≤ 410 ∧ (∀ b ∈ bs, b.length ≤ 420) ∧ s.length ≤ 420 → ∀ W : World, Below w.heap.size w W → Calls Tryz.prog 20 #[vb, v, .agg #[.int .i64 p.mf, .int .i64 p.ms, .int .i64 p.ma]] W (ParsRet W (lotsF bs s p))) := hide (fun h W hW => rLots_any ((hb.below hW).mono hW.size) ((hs.below hW).mono hW.size) p h.1 h.2.1 h.2.2)
  have HLEN := hide (lots_len bs s p)
  obtain ⟨As, cs, rfl, _⟩ := hs
  obtain ⟨Ab, cb, rfl, _⟩ := hb
  clear nb ns mb
  generalize lotsF bs s p = FF at *
  generalize hn : w.heap.size = n at *
  have HN := hide hn
  show Calls Tryz.prog _ #[.slice Ab bs.length cb, .slice As s.length cs, .agg #[.int .i64 p.mf, .int .i64 p.ms, .int .i64 p.ma]] w _
  go_enter Tryz.func4, Tryz.ntmps4
  go_wp2_with (fail)
  refine (HG.out _ HW.out.below).mono ?_
  rintro e w1 ⟨⟨g, rfl, hg⟩, hb⟩
  have H1 := hide (HW.out.keep hb)
  clear hb hW hn HW HG
  cases g with
  | true =>
    clear hg
    have HB := hide H1.out.below
    go_wp2_with (fail)
    go_ret
    exact ⟨rfl, HB.out⟩
  | false =>
    have h4 := hg rfl
    have G1 := hide (HL1.out h4)
    have G2 := hide (HL2.out h4)
    clear hg h4 HL1 HL2
    obtain ⟨p0, p1, p2⟩ := H1.out.box
    go_wp2_with (fail)
    refine (G1.out _ H1.out.below).mono ?_
    rintro e w2 ⟨⟨A2, c2, rfl, ho⟩, hb⟩
    have HO := hide (rd_ownP ho)
    have H2 := hide (H1.out.keep hb)
    clear hb ho H1 G1 p0 p1 p2
    obtain ⟨p0, p1, p2⟩ := H2.out.box
    go_wp2_with (fail)
    refine (G2.out _ H2.out.below).mono ?_
    rintro e w3 ⟨⟨A3, c3, rfl, ho⟩, hb⟩
    have HO2 := hide ((HO.out.below hb).mono hb.size)
    have HO3 := hide (rd_ownP ho)
    have H3 := hide (H2.out.keep hb)
    clear hb ho H2 HO G2 p0 p1 p2
    have HS := hide (rSameP_any HO2.out HO3.out (by have := HLEN.out; omega) (Nat.le_refl _) (Nat.le_refl _))
    rw [decide_eq_true (rfl : FF.1 = FF.1)] at HS
    go_wp2_with (fail)
    refine HS.out.mono ?_
    rintro e w4 ⟨rfl, hb⟩
    have HB := hide (H3.out.keep hb).below
    clear hb H3 HO2 HO3 HS
    go_wp2_with (fail)
    go_ret
    exact ⟨by simp, HB.out⟩
end Go.Proofs.YtabogapiecciiaaGreat

/- Plain: the parcels of a block fill it; a parcel is good, or a whole rectangle. -/
namespace Go.Proofs.YtabogapiecciiaaGreat
open Go.RowKit
set_option linter.unusedVariables false
set_option linter.unusedSimpArgs false

theorem pcA_cut (s : List R4) (p : Pl3) {bs : List (List R4)} {m : Nat} {b : List R4} (h : bs[m]? = some b) : pcA s p 0 bs = pcA s p 0 (bs.take m) ++ (pcB s p m b ++ pcA s p (m + 1) (bs.drop (m + 1))) := by
  have hm : m < bs.length := (List.getElem?_eq_some_iff.1 h).1
  have h1 : pcA s p 0 bs = pcA s p 0 (bs.take (m + 1)) ++ pcA s p (0 + (bs.take (m + 1)).length) (bs.drop (m + 1)) := by rw [← pcA_append, List.take_append_drop]
  rw [h1, pcA_at s p h, List.append_assoc, List.length_take, Nat.min_eq_left (by omega), Nat.zero_add]
theorem pcA_in (s : List R4) (p : Pl3) {bs : List (List R4)} {m j : Nat} {b : List R4} (h : bs[m]? = some b) (hj : j < (pcB s p m b).length) : (pcA s p 0 bs)[(pcA s p 0 (bs.take m)).length + j]? = (pcB s p m b)[j]? := by
  rw [pcA_cut s p h, List.getElem?_append_right (by omega), Nat.add_sub_cancel_left, List.getElem?_append_left hj]
theorem pcA_out (s : List R4) (p : Pl3) {bs : List (List R4)} {m : Nat} {b : List R4} (h : bs[m]? = some b) {x : Par6} (hx : (pcA s p 0 bs)[(pcA s p 0 (bs.take m)).length + (pcB s p m b).length]? = some x) : x.b ≠ m := by
  rw [pcA_cut s p h, List.getElem?_append_right (by omega), Nat.add_sub_cancel_left, List.getElem?_append_right (Nat.le_refl _), Nat.sub_self] at hx
  obtain ⟨j, c, _, hb, _⟩ := pcA_mem.1 (List.mem_of_getElem? hx)
  omega
theorem of_ok {s : List R4} {p : Pl3} {r : R4} {l : Lot5} (hr : okR r) (h : ofRect s p r l) : okR l.r ∧ 0 ≤ l.f ∧ l.f ≤ 15 := by
  rcases h with ⟨h0, rfl⟩ | ⟨h0, hl⟩
  · exact ⟨hr, by simp, by simp⟩
  · have hv : validL ⟨r, frF r s⟩ := ⟨hr, fr_pos h0⟩
    have := leaves_valid hv l hl
    exact ⟨this.1, by have := this.2; omega, this.2.2⟩
theorem block_ok {s : List R4} {p : Pl3} {b : List R4} {k : Nat} (hb : ∀ r ∈ b, okR r) (hp : okW p = 0) : ∀ q ∈ pcB s p k b, okR q.l.r ∧ 0 ≤ q.l.f ∧ q.l.f ≤ 15 := fun q hq => by
  obtain ⟨_, r, hr, hl⟩ := pcB_mem.1 hq
  exact of_ok (hb r hr) (rect_of (hb r hr) hp hl)
theorem block_cover {s : List R4} {p : Pl3} {b : List R4} {k : Nat} (hb : ∀ r ∈ b, okR r) (hp : okW p = 0) (hf : ∀ r ∈ b, (rectR s p r).2 = 0) (x y : Int) : pmem ((pcB s p k b).map fun q => q.l.r) x y ↔ pmem b x y := by
  constructor
  · rintro ⟨z, hz, hin⟩
    obtain ⟨q, hq, rfl⟩ := List.mem_map.1 hz
    obtain ⟨_, r, hr, hl⟩ := pcB_mem.1 hq
    exact ⟨r, hr, (of_cover (hb r hr) hp (hf r hr) x y).1 ⟨q.l.r, List.mem_map_of_mem hl, hin⟩⟩
  · rintro ⟨r, hr, hin⟩
    obtain ⟨z, hz, hi⟩ := (of_cover (hb r hr) hp (hf r hr) x y).2 hin
    obtain ⟨l, hl, rfl⟩ := List.mem_map.1 hz
    exact ⟨l.r, List.mem_map.2 ⟨⟨k, l⟩, pcB_mem.2 ⟨rfl, r, hr, hl⟩, rfl⟩, hi⟩
theorem block_make {s : List R4} {p : Pl3} {b : List R4} {k : Nat} (hc : checkF b = 0) (hb : ∀ r ∈ b, okR r) (hp : okW p = 0) (hf : ∀ r ∈ b, (rectR s p r).2 = 0) (hn : (pcB s p k b).length ≤ 400) : makeF ((pcB s p k b).map fun q => q.l.r) = (b, 0) := by
  have hl : ∀ z ∈ (pcB s p k b).map fun q => q.l.r, valid4 z := fun z hz => by
    obtain ⟨q, hq, rfl⟩ := List.mem_map.1 hz
    exact (ok_valid q.l.r).1 (block_ok hb hp q hq).1
  have hw : ∀ z ∈ (pcB s p k b).map fun q => q.l.r, wf4 z := fun z hz => ⟨(hl z hz).1, (hl z hz).2.1⟩
  have e : rjoin hFst ((pcB s p k b).map fun q => q.l.r) [] = b := (rjoin_eq (h := hFst) rfl hw (by simp) (check_rcan hc) fun x y => by
    have := block_cover (k := k) hb hp hf x y
    simp only [hFst, decide_eq_true_eq]
    rw [this]).symm
  have hall : ((pcB s p k b).map fun q => q.l.r).any (fun r => !decide (valid4 r)) = false := by
    rw [List.any_eq_false]
    intro z hz
    simp [hl z hz]
  have h4 := (checkF_ok hc).1
  unfold makeF madeF
  rw [e, hall, List.length_map, if_neg (by omega)]
  simp
  omega
theorem block_area {s : List R4} {p : Pl3} {k : Nat} (hp : okW p = 0) : ∀ {b : List R4}, (∀ r ∈ b, okR r) → (∀ r ∈ b, (rectR s p r).2 = 0) → ((pcB s p k b).map fun q => arQ q.l.r).sum = areaS b
  | [], _, _ => rfl
  | r :: b, hb, hf => by
    have h1 := of_area (hb r (by simp)) hp (hf r (by simp))
    have h2 := block_area hp (k := k) (fun x hx => hb x (List.mem_cons_of_mem _ hx)) (fun x hx => hf x (List.mem_cons_of_mem _ hx))
    have e : pcB s p k (r :: b) = pcR s p k r ++ pcB s p k b := by unfold pcB; rw [List.flatMap_cons]
    have e2 : (pcR s p k r).map (fun q => arQ q.l.r) = (rectR s p r).1.map areaL := by unfold pcR; rw [List.map_map]; rfl
    rw [e, List.map_append, List.sum_append, h2, e2, h1]
    unfold areaS
    rw [List.map_cons, List.sum_cons]
    rfl
theorem arQ_bd {r : R4} (h : okR r) : 0 ≤ arQ r ∧ arQ r ≤ 4000000000000 := by
  unfold okR inR at h
  unfold arQ
  refine ⟨Int.mul_nonneg (by omega) (by omega), ?_⟩
  exact Int.mul_le_mul (show r.x1 - r.x0 ≤ 2000000 by omega) (show r.y1 - r.y0 ≤ 2000000 by omega) (by omega) (by omega)
theorem sum_bd {α : Type} {f : α → Int} {K : Int} (hK : 0 ≤ K) : ∀ (L : List α), (∀ x ∈ L, 0 ≤ f x ∧ f x ≤ K) → 0 ≤ (L.map f).sum ∧ (L.map f).sum ≤ K * L.length
  | [], _ => by simp
  | a :: L, h => by
    have h1 := h a (by simp)
    have h2 := sum_bd hK L fun x hx => h x (List.mem_cons_of_mem _ hx)
    simp only [List.map_cons, List.sum_cons, List.length_cons]
    have : K * ((L.length + 1 : Nat) : Int) = K * L.length + K := by rw [Int.natCast_add, Int.mul_add]; simp
    omega
theorem block_take {s : List R4} {p : Pl3} {b : List R4} {k : Nat} (hb : ∀ r ∈ b, okR r) (hp : okW p = 0) (hn : (pcB s p k b).length ≤ 600) (j : Nat) : 0 ≤ (((pcB s p k b).take j).map fun q => arQ q.l.r).sum ∧ (((pcB s p k b).take j).map fun q => arQ q.l.r).sum ≤ 2400000000000000 := by
  have := sum_bd (f := fun q : Par6 => arQ q.l.r) (K := 4000000000000) (by omega) ((pcB s p k b).take j) fun x hx => arQ_bd (block_ok hb hp x (List.mem_of_mem_take hx)).1
  have h2 : ((pcB s p k b).take j).length ≤ 600 := by rw [List.length_take]; omega
  omega
/-! Good -/
theorem cutE_no {x : Lot5} {p : Pl3} (h : checkL x p = 0) (hc : cutL p x = none) : cutE x p = (zeroL, zeroL, 6) := by
  rw [cutE_ok h, cutR_none hc]
  rfl
theorem of_good {s : List R4} {p : Pl3} {r : R4} {l : Lot5} (hr : okR r) (hp : okW p = 0) (h : ofRect s p r l) : (l.f = 0 → frF r s = 0 ∧ l.r = r) ∧
    (l.f ≠ 0 → checkL ⟨r, frF r s⟩ p = 0 ∧ checkL l p = 0 ∧ (goodL p ⟨r, frF r s⟩ → goodL p l) ∧ cutE l p = (zeroL, zeroL, 6)) ∧ rin r l.r.x0 l.r.y0 := by
  rcases h with ⟨h0, rfl⟩ | ⟨h0, hl⟩
  · refine ⟨fun _ => ⟨h0, rfl⟩, fun h => absurd rfl h, ?_⟩
    unfold okR at hr
    unfold rin
    simp only
    omega
  · have hv : validL ⟨r, frF r s⟩ := ⟨hr, fr_pos h0⟩
    have hx := leaves_valid hv l hl
    have hin := leaves_in p _ hv l hl
    have hck := check_lot hx.1 hx.2 hp
    refine ⟨fun h => absurd hx.2.1 (by omega), fun _ => ⟨check_lot hr (fr_pos h0) hp, hck, fun hg => ?_, cutE_no hck (leaves_end p _ l hl)⟩, ?_⟩
    · rcases leaves_good p _ l hl with e | e
      · rw [e]; exact hg
      · exact e
    · have := hx.1
      unfold okR at this
      unfold rin
      simp only at hin
      omega
theorem whole_has {b : List R4} (hb : checkF b = 0) {i k : Nat} {r q : R4} {x y : Int} (hr : b[i]? = some r) (hq : b[k]? = some q) (hin : rin r x y) : decide (pmem [q] x y) = decide (k = i) := by
  by_cases h : k = i
  · subst h
    rw [hr] at hq
    cases hq
    rw [decide_eq_true rfl]
    exact decide_eq_true ⟨r, by simp, hin⟩
  · rw [decide_eq_false h]
    refine decide_eq_false ?_
    rintro ⟨z, hz, hin2⟩
    rw [List.mem_singleton] at hz
    subst hz
    have ha := (check_rcan hb).apart
    obtain ⟨hi, rfl⟩ := List.getElem?_eq_some_iff.1 hr
    obtain ⟨hk, rfl⟩ := List.getElem?_eq_some_iff.1 hq
    rw [List.pairwise_iff_getElem] at ha
    have : apart4 b[i] b[k] ∨ apart4 b[k] b[i] := by
      rcases Nat.lt_or_gt_of_ne h with g | g
      · exact .inr (ha k i hk hi g)
      · exact .inl (ha i k hi hk g)
    rcases this with g | g
    · exact g x y ⟨hin, hin2⟩
    · exact g x y ⟨hin2, hin⟩
end Go.Proofs.YtabogapiecciiaaGreat

/- The helpers of the laws of chapter 36: box, wishes, piece, sides, valid; and its examples. -/
namespace Go.Proofs.YtabogapiecciiaaGreat
open Go.RowKit
set_option linter.unusedVariables false
set_option linter.unusedSimpArgs false

/-- A list of rectangles comes back, as a slice that may be read. -/
def RdRet (w : World) (l : List R4) (e : Ending) (w' : World) : Prop := ∃ A c, e = .returned (.slice A l.length c) ∧ RdK encR 4 w' w'.heap.size (.slice A l.length c) l
theorem box36_any (x0 y0 x1 y1 : Int) (w : World) : Calls Tryz.prog 14 #[.int .i64 x0, .int .i64 y0, .int .i64 x1, .int .i64 y1] w fun e w' => RdRet w [⟨x0, y0, x1, y1⟩] e w' ∧ Below w.heap.size w w' := by
  go_enter Tryz.func14, Tryz.ntmps14
  go_wp2
  go_ret
  exact ⟨⟨_, 1, rfl, rd_lit w [⟨x0, y0, x1, y1⟩] _ 1⟩, (Below.refl _ _).alloc (Nat.le_refl _) _⟩
theorem wishes36_any (w : World) : Calls Tryz.prog 33 #[] w fun e w' => e = .returned (.agg #[.int .i64 2, .int .i64 2, .int .i64 8]) ∧ Below w.heap.size w w' := by
  go_enter Tryz.func33, Tryz.ntmps33
  go_wp2
  exact bodyPost_ret (v := .agg #[.int .i64 2, .int .i64 2, .int .i64 8]) (by simp [results, Tryz.results33, go_sem]) rfl ⟨rfl, (Below.refl _ _).alloc (Nat.le_refl _) _⟩
theorem piece36_any (i x0 y0 x1 y1 f : Int) (w : World) : Calls Tryz.prog 34 #[.int .i64 i, .int .i64 x0, .int .i64 y0, .int .i64 x1, .int .i64 y1, .int .u8 f] w fun e w' => e = .returned (.agg #[.int .i64 i, .int .i64 x0, .int .i64 y0, .int .i64 x1, .int .i64 y1, .int .u8 f]) ∧ Below w.heap.size w w' := by
  go_enter Tryz.func34, Tryz.ntmps34
  go_wp2
  exact bodyPost_ret (v := .agg #[.int .i64 i, .int .i64 x0, .int .i64 y0, .int .i64 x1, .int .i64 y1, .int .u8 f]) (by simp [results, Tryz.results34, go_sem]) rfl ⟨rfl, (Below.refl _ _).alloc (Nat.le_refl _) _⟩
def exQ : List Par6 := [⟨0, ⟨⟨0, 2, 4, 4⟩, 4⟩⟩, ⟨0, ⟨⟨4, 2, 8, 4⟩, 4⟩⟩, ⟨1, ⟨⟨6, 2, 12, 4⟩, 0⟩⟩]
theorem exQ_lots : lotsF [[⟨0, 2, 8, 4⟩], [⟨6, 2, 12, 4⟩]] [⟨0, 0, 10, 2⟩] ⟨2, 2, 8⟩ = (exQ, 0) := by kernel_rfl
theorem rd_litP (w : World) (l : List Par6) (t : TypeId) (c : Nat) : RdK encQ 6 (w.alloc (.cells (l.flatMap encQ).toArray t)) (w.alloc (.cells (l.flatMap encQ).toArray t)).heap.size (.slice (some ⟨w.heap.size, 0, none⟩) l.length c) l := by
  refine ⟨_, c, rfl, fun _ => ⟨w.heap.size, 0, rfl, by simp, fun j x hx i u hu => ?_⟩⟩
  have := news_new w (l.flatMap encQ) t w.heap.size rfl _ _ (flat_get (k := 6) (fun _ => rfl) l j x i u hx hu)
  rw [addr_add] at this
  rwa [Nat.zero_add]
/-- Two regions in a literal. -/
theorem rr_two {w : World} {v1 v2 : Value} {a b : List R4} (h1 : RdK encR 4 w w.heap.size v1 a) (h2 : RdK encR 4 w w.heap.size v2 b) (t : TypeId) (c : Nat) : RdRR (w.alloc (.cells #[v1, v2] t)) (w.alloc (.cells #[v1, v2] t)).heap.size (.slice (some ⟨w.heap.size, 0, none⟩) 2 c) [a, b] := by
  have hb : Below w.heap.size w (w.alloc (.cells #[v1, v2] t)) := (Below.refl _ _).alloc (Nat.le_refl _) _
  refine ⟨_, c, rfl, fun _ => ⟨w.heap.size, 0, rfl, by simp, fun j x hx => ?_⟩⟩
  match j, hx with
  | 0, hx =>
    simp at hx
    subst hx
    exact ⟨v1, by simp [go_sem], (h1.below hb).mono hb.size⟩
  | 1, hx =>
    simp at hx
    subst hx
    exact ⟨v2, by simp [go_sem], (h2.below hb).mono hb.size⟩
theorem RdRR.rows {w w' : World} {v : Value} {bs : List (List R4)} (h : RdRR w w.heap.size v bs) (hb : Below w.heap.size w w') : RdRR w' w'.heap.size v bs := (h.below hb).mono hb.size
set_option maxRecDepth 100000 in
set_option maxHeartbeats 8000000 in
theorem alive36_any (w : World) : Calls Tryz.prog 9 #[] w fun e w' => e = .returned (.bool true) ∧ Below w.heap.size w w' := by
  have HL : Hid (∀ (W : World) (u v : Value), RdRR W W.heap.size u [[⟨0, 2, 8, 4⟩], [⟨6, 2, 12, 4⟩]] → RdK encR 4 W W.heap.size v [⟨0, 0, 10, 2⟩] → Calls Tryz.prog 15 #[u, v, .agg #[.int .i64 2, .int .i64 2, .int .i64 8]] W (ParsRet W (exQ, 0))) := hide (fun W u v hu hv => by
    have := lots_any hu hv ⟨2, 2, 8⟩ (by decide) (by decide) (by decide)
    rwa [exQ_lots] at this)
  have K := hide (Below.refl w.heap.size w)
  go_enter Tryz.func9, Tryz.ntmps9
  go_wp2_with (fail)
  refine (box36_any 0 2 8 4 _).mono ?_
  rintro e v1 ⟨⟨A1, c1, rfl, hr1⟩, hb⟩
  replace K := hide (K.out.trans (hb.mono K.out.size))
  have R1 := hide hr1
  clear hb hr1
  go_wp2_with (fail)
  refine (box36_any 6 2 12 4 _).mono ?_
  rintro e v2 ⟨⟨A2, c2, rfl, hr2⟩, hb⟩
  replace K := hide (K.out.trans (hb.mono K.out.size))
  replace R1 := hide ((R1.out.below hb).mono hb.size)
  have R2 := hide hr2
  clear hb hr2
  go_wp2_with (fail)
  refine calls_name fun v3 hZ => ?_
  have hbz : Below v2.heap.size v2 v3 := by
    rw [hZ]
    repeat (first | with_reducible exact Below.refl _ _ | with_reducible refine Below.setCell ?_ (by first | (simp; done) | (simp; omega)) _ | with_reducible refine Below.alloc ?_ (by first | omega | (simp; omega) | simp) _)
  have RB : Hid (RdRR v3 v3.heap.size (.slice (some ⟨v2.heap.size, 0, none⟩) 2 2) [[⟨0, 2, 8, 4⟩], [⟨6, 2, 12, 4⟩]]) := hide (by rw [hZ]; exact rr_two R1.out R2.out _ 2)
  replace K := hide (K.out.trans (hbz.mono K.out.size))
  replace R1 := hide ((R1.out.below hbz).mono hbz.size)
  replace R2 := hide ((R2.out.below hbz).mono hbz.size)
  clear hZ hbz
  generalize v2.heap.size = gB at *
  clear R1 R2
  refine (box36_any 0 0 10 2 _).mono ?_
  rintro e v4 ⟨⟨A3, c3, rfl, hr3⟩, hb⟩
  replace K := hide (K.out.trans (hb.mono K.out.size))
  replace RB := hide ((RB.out.below hb).mono hb.size)
  have R3 := hide hr3
  clear hb hr3
  go_wp2_with (fail)
  refine (wishes36_any _).mono ?_
  rintro e v5 ⟨rfl, hb⟩
  replace K := hide (K.out.trans (hb.mono K.out.size))
  replace RB := hide ((RB.out.below hb).mono hb.size)
  replace R3 := hide ((R3.out.below hb).mono hb.size)
  clear hb
  go_wp2_with (fail)
  refine (HL.out _ _ _ RB.out R3.out).mono ?_
  rintro e v6 ⟨⟨A4, c4, rfl, ho⟩, hb⟩
  replace K := hide (K.out.trans (hb.mono K.out.size))
  replace RB := hide ((RB.out.below hb).mono hb.size)
  replace R3 := hide ((R3.out.below hb).mono hb.size)
  have RO := hide (rd_ownP ho)
  clear hb ho
  clear RB R3
  go_wp2_with (fail)
  refine (piece36_any 0 0 2 4 4 4 _).mono ?_
  rintro e v7 ⟨rfl, hb⟩
  replace K := hide (K.out.trans (hb.mono K.out.size))
  replace RO := hide ((RO.out.below hb).mono hb.size)
  clear hb
  go_wp2_with (fail)
  refine (piece36_any 0 4 2 8 4 4 _).mono ?_
  rintro e v8 ⟨rfl, hb⟩
  replace K := hide (K.out.trans (hb.mono K.out.size))
  replace RO := hide ((RO.out.below hb).mono hb.size)
  clear hb
  go_wp2_with (fail)
  refine (piece36_any 1 6 2 12 4 0 _).mono ?_
  rintro e v9 ⟨rfl, hb⟩
  replace K := hide (K.out.trans (hb.mono K.out.size))
  replace RO := hide ((RO.out.below hb).mono hb.size)
  clear hb
  go_wp2_with (fail)
  refine calls_name fun v10 hZ => ?_
  have hbz : Below v9.heap.size v9 v10 := by
    rw [hZ]
    repeat (first | with_reducible exact Below.refl _ _ | with_reducible refine Below.setCell ?_ (by first | (simp; done) | (simp; omega)) _ | with_reducible refine Below.alloc ?_ (by first | omega | (simp; omega) | simp) _)
  have RX : Hid (RdK encQ 6 v10 v10.heap.size (.slice (some ⟨v9.heap.size, 0, none⟩) 3 3) exQ) := hide (by rw [hZ]; exact rd_litP v9 exQ _ 3)
  replace K := hide (K.out.trans (hbz.mono K.out.size))
  replace RO := hide ((RO.out.below hbz).mono hbz.size)
  clear hZ hbz
  generalize v9.heap.size = gX at *
  have HS := hide (rSameP_any RO.out RX.out (by decide) (Nat.le_refl _) (Nat.le_refl _))
  rw [decide_eq_true (rfl : exQ = exQ)] at HS
  refine (HS.out).mono ?_
  rintro e v11 ⟨rfl, hb⟩
  replace K := hide (K.out.trans (hb.mono K.out.size))
  replace RO := hide ((RO.out.below hb).mono hb.size)
  replace RX := hide ((RX.out.below hb).mono hb.size)
  clear hb
  go_wp2_with (fail)
  go_ret
  exact ⟨rfl, K.out⟩
/-- The sides' lengths, so far. -/
def sdP (l : Lot5) : Nat → Int
  | 0 => 0
  | m + 1 => sdP l m + if hasS l.f (sideN m) = true then (if m < 2 then l.h else l.w) else 0
theorem sdP_four (l : Lot5) : sdP l 4 = sidesF l := by
  unfold sidesF
  simp [sdP, sideN]
theorem sdP_bd {l : Lot5} (h : okR l.r) (m : Nat) : 0 ≤ sdP l m ∧ sdP l m ≤ 2000000 * m := by
  have : 0 ≤ l.h ∧ l.h ≤ 2000000 ∧ 0 ≤ l.w ∧ l.w ≤ 2000000 := by
    unfold okR inR at h
    unfold Lot5.h Lot5.w
    omega
  induction m with
  | zero => simp [sdP]
  | succ m ih =>
    simp only [sdP]
    split
    · split <;> omega
    · omega
end Go.Proofs.YtabogapiecciiaaGreat

/- valid and sides of the laws of chapter 36. -/
namespace Go.Proofs.YtabogapiecciiaaGreat
open Go.RowKit
set_option linter.unusedVariables false
set_option linter.unusedSimpArgs false

structure OkAll (bs : List (List R4)) (s : List R4) (p : Pl3) : Prop where
  len : bs.length ≤ 6
  few : ∀ b ∈ bs, b.length ≤ 420
  ns : s.length ≤ 420
  chk : checkF s = 0
  ok : okW p = 0
  all : ∀ b ∈ bs, checkF b = 0
/-- What valid says: a true says that all is well. -/
def ValidRet (bs : List (List R4)) (s : List R4) (p : Pl3) (e : Ending) : Prop := ∃ g, e = .returned (.bool g) ∧ (g = true → OkAll bs s p)
set_option maxRecDepth 100000 in
set_option maxHeartbeats 4000000 in
theorem valid36_any {w : World} {vb v : Value} {bs : List (List R4)} {s : List R4} (hb : RdRR w w.heap.size vb bs) (hs : RdK encR 4 w w.heap.size v s) (p : Pl3) (nb : bs.length ≤ maxLen) (ns : s.length ≤ maxLen) (mb : ∀ b ∈ bs, b.length ≤ maxLen) :
    Calls Tryz.prog 8 #[vb, v, .agg (encP p).toArray] w fun e w' => ValidRet bs s p e ∧ Below w.heap.size w w' := by
  have HW := hide (boxW_new w p 24)
  generalize hW : w.alloc (.cells #[.int .i64 p.mf, .int .i64 p.ms, .int .i64 p.ma] 24) = W at *
  have HG : Hid (∀ W : World, Below w.heap.size w W → Calls Tryz.prog 19 #[vb, v] W fun e w' => GreatRet bs s.length e ∧ Below W.heap.size W w') := hide (fun W hW => by
    obtain ⟨A, c, rfl, _⟩ := hs
    exact rGreatB_any ((hb.below hW).mono hW.size) nb mb A s.length c ns)
  have HCK : Hid (s.length ≤ 420 → ∀ W : World, Below w.heap.size w W → Calls Tryz.prog 31 #[v] W fun e w' => e = .returned (.int .i64 (checkF s)) ∧ Below W.heap.size W w') := hide (fun h W hw => rCheck_any ((hs.below hw).mono hw.size) (by omega))
  have HCB : Hid (∀ (b : List R4) (u : Value), b.length ≤ 420 → RdK encR 4 w w.heap.size u b → ∀ W : World, Below w.heap.size w W → Calls Tryz.prog 31 #[u] W fun e w' => e = .returned (.int .i64 (checkF b)) ∧ Below W.heap.size W w') := hide (fun b u hm hu W hw => rCheck_any ((hu.below hw).mono hw.size) (by omega))
  have HPC : Hid (∀ W : World, Calls Tryz.prog 32 #[.agg #[.int .i64 0, .int .i64 0, .int .i64 1, .int .i64 1, .int .u8 1], .agg #[.int .i64 p.mf, .int .i64 p.ms, .int .i64 p.ma]] W fun e w' => e = .returned (.int .i64 (okW p)) ∧ Below W.heap.size W w') := hide (fun W => rCheckL_any ⟨⟨0, 0, 1, 1⟩, 1⟩ p (by decide) W)
  obtain ⟨As, cs, rfl, _⟩ := hs
  obtain ⟨Ab, cb, rfl, hbc⟩ := hb
  have HRB := hide hbc
  clear nb ns mb hbc
  generalize hn : w.heap.size = n at *
  have HN := hide hn
  show Calls Tryz.prog _ #[.slice Ab bs.length cb, .slice As s.length cs, .agg #[.int .i64 p.mf, .int .i64 p.ms, .int .i64 p.ma]] w _
  go_enter Tryz.func8, Tryz.ntmps8
  go_wp2_with (fail)
  refine (HG.out _ HW.out.below).mono ?_
  rintro e w1 ⟨⟨g, rfl, hg⟩, hb⟩
  have H1 := hide (HW.out.keep hb)
  clear hb hW hn HW HG
  cases g with
  | true =>
    have HB := hide H1.out.below
    clear hg H1
    go_wp2_with (fail)
    go_ret
    exact ⟨⟨false, rfl, fun h => by cases h⟩, HB.out⟩
  | false =>
    obtain ⟨h1, h2, h3⟩ := hg rfl
    have HS := hide h3
    have HM := hide h2
    have HCK2 := hide (HCK.out h3)
    have nz : (bs.length : Int) ≤ 410 := by omega
    clear hg h2 h3 HCK
    obtain ⟨ck, hck⟩ : ∃ x, checkF s = x := ⟨_, rfl⟩
    rw [hck] at HCK2
    have HCS := hide hck
    clear hck
    go_wp2_with (fail)
    refine (HCK2.out _ H1.out.below).mono ?_
    rintro e w2 ⟨rfl, hb⟩
    have H2 := hide (H1.out.keep hb)
    clear hb H1 HCK2
    by_cases hc : ck = 0
    · subst hc
      obtain ⟨p0, p1, p2⟩ := H2.out.box
      go_wp2_with (fail)
      refine (HPC.out _).mono ?_
      rintro e w3 ⟨rfl, hb⟩
      have H3 := hide (H2.out.keep hb).below
      clear hb H2 HPC p0 p1 p2
      by_cases hok : okW p = 0
      · rw [hok]
        have HOK := hide hok
        clear hok
        by_cases h6 : bs.length ≤ 6
        · have hz6 : (bs.length : Int) ≤ 6 := by omega
          go_wp2_with (fail)
          go_loopw [7] (fun i wr => ∃ m : Nat, m ≤ bs.length ∧ i = .int .i64 m ∧ Hid (∀ j x, j < m → bs[j]? = some x → checkF x = 0) ∧ Hid (Below n w wr)) (fun i _ => bs.length - (intOf i).toNat)
          case atStart => exact ⟨0, Nat.zero_le _, rfl, hide (fun j x hj => absurd hj (Nat.not_lt_zero _)), H3⟩
          case round =>
            clear H3
            obtain ⟨m, hm, rfl, HJ, HI⟩ := hrel
            by_cases hlt : m < bs.length
            · obtain ⟨b, hp⟩ : ∃ p, bs[m]? = some p := ⟨_, List.getElem?_eq_getElem hlt⟩
              obtain ⟨g, og, rfl, hbl, k⟩ := HRB.out (by intro e; rw [e] at hlt; simp at hlt)
              obtain ⟨u, d0, hu⟩ := k m _ hp
              have HCX := hide (HCB.out b u (HM.out b (List.mem_of_getElem? hp)) hu)
              obtain ⟨Ax, cx, rfl, _⟩ := hu
              have d0 := (HI.out.cell (p := ⟨g, og + m, none⟩) hbl).trans d0
              have mz : (m : Int) < (bs.length : Int) := by omega
              have HP := hide hp
              clear k hp
              obtain ⟨cb, hcb⟩ : ∃ x, checkF b = x := ⟨_, rfl⟩
              rw [hcb] at HCX
              have HCB2 := hide hcb
              clear hcb
              go_wp2_with (fail)
              refine (HCX.out _ HI.out).mono ?_
              rintro e w4 ⟨rfl, hb⟩
              have HI2 := hide (HI.out.trans (hb.mono (by have := HI.out.size; rw [HN.out] at this; exact this)))
              clear hb HI HCX d0
              by_cases hz : cb = 0
              · subst hz
                have HJS : Hid (∀ j x, j < m + 1 → bs[j]? = some x → checkF x = 0) := hide (fun j x hj hx => by
                  rcases Nat.lt_or_ge j m with h | h
                  · exact HJ.out j x h hx
                  · obtain rfl : j = m := by omega
                    rw [HP.out] at hx
                    cases hx
                    exact HCB2.out)
                clear HJ
                go_wp2_with (fail)
                go_roundw
                case rel => exact ⟨m + 1, by omega, by go_num, HJS, HI2⟩
                case measure => simp [intOf]; omega
              · have hne : (cb != 0) = true := by simpa using hz
                clear hz
                go_wp2_with (fail)
                go_ret
                exact ⟨⟨false, rfl, fun h => by cases h⟩, HI2.out⟩
            · obtain rfl : m = bs.length := by omega
              have HALL : Hid (∀ b ∈ bs, checkF b = 0) := hide (fun b hb => by
                obtain ⟨j, hj⟩ := List.getElem?_of_mem hb
                exact HJ.out j b (List.getElem?_eq_some_iff.1 hj).1 hj)
              clear HJ
              go_wp2_with (fail)
              go_ret
              exact ⟨⟨true, rfl, fun _ => ⟨h6, HM.out, HS.out, HCS.out, HOK.out, HALL.out⟩⟩, HI.out⟩
        · have hz6 : (6 : Int) < (bs.length : Int) := by omega
          go_wp2_with (fail)
          go_ret
          exact ⟨⟨false, rfl, fun h => by cases h⟩, H3.out⟩
      · have hne : (okW p != 0) = true := by simpa using hok
        clear hok
        generalize okW p = ok at *
        go_wp2_with (fail)
        go_ret
        exact ⟨⟨false, rfl, fun h => by cases h⟩, H3.out⟩
    · have hne : (ck != 0) = true := by simpa using hc
      have HB := hide H2.out.below
      clear hc H2
      go_wp2_with (fail)
      go_ret
      exact ⟨⟨false, rfl, fun h => by cases h⟩, HB.out⟩
/-- A lot in a box of the call's own. -/
structure BoxLK (n : Nat) (w : World) (l : Lot5) (wr : World) : Prop where
  c : BoxL5 n l wr
  below : Below n w wr
theorem BoxL5.keep {n : Nat} {l : Lot5} {wr w' : World} (h : BoxL5 n l wr) (hb : Below wr.heap.size wr w') : BoxL5 n l w' :=
  ⟨(hb.cell (p := ⟨n, 0, none⟩) h.lt).trans h.d0, (hb.cell (p := ⟨n, 1, none⟩) h.lt).trans h.d1, (hb.cell (p := ⟨n, 2, none⟩) h.lt).trans h.d2, (hb.cell (p := ⟨n, 3, none⟩) h.lt).trans h.d3, (hb.cell (p := ⟨n, 4, none⟩) h.lt).trans h.d4, Nat.lt_of_lt_of_le h.lt hb.size⟩
theorem BoxLK.keep {n : Nat} {w : World} {l : Lot5} {wr w' : World} (h : BoxLK n w l wr) (hb : Below wr.heap.size wr w') : BoxLK n w l w' :=
  ⟨h.c.keep hb, h.below.trans (hb.mono (by have := h.c.lt; omega))⟩
theorem boxLK_new (w : World) (l : Lot5) (t : TypeId) : BoxLK w.heap.size w l (w.alloc (.cells #[.int .i64 l.r.x0, .int .i64 l.r.y0, .int .i64 l.r.x1, .int .i64 l.r.y1, .int .u8 l.f] t)) :=
  ⟨⟨by simp [go_sem], by simp [go_sem], by simp [go_sem], by simp [go_sem], by simp [go_sem], by simp⟩, (Below.refl _ _).alloc (Nat.le_refl _) _⟩
theorem ok_mid {r : R4} (h : okR r) : midR r := by
  unfold okR inR at h
  unfold midR
  omega
set_option maxRecDepth 100000 in
set_option maxHeartbeats 4000000 in
theorem sides36_any (l : Lot5) (hr : okR l.r) (hf : 0 ≤ l.f ∧ l.f ≤ 15) (w : World) : Calls Tryz.prog 26 #[.agg (encL l).toArray] w fun e w' => e = .returned (.int .i64 (sidesF l)) ∧ Below w.heap.size w w' := by
  have HWI : Hid (∀ W : World, Calls Tryz.prog 46 #[.agg #[.int .i64 l.r.x0, .int .i64 l.r.y0, .int .i64 l.r.x1, .int .i64 l.r.y1]] W fun e w' => e = .returned (.int .i64 l.w) ∧ Below W.heap.size W w') := hide (fun W => rWidth_mid l.r (ok_mid hr) W)
  have HHE : Hid (∀ W : World, Calls Tryz.prog 47 #[.agg #[.int .i64 l.r.x0, .int .i64 l.r.y0, .int .i64 l.r.x1, .int .i64 l.r.y1]] W fun e w' => e = .returned (.int .i64 l.h) ∧ Below W.heap.size W w') := hide (fun W => rHeight_mid l.r (ok_mid hr) W)
  have HST : Hid (∀ m, sdP l (m + 1) = sdP l m + if hasS l.f (sideN m) = true then (if m < 2 then l.h else l.w) else 0) := hide (fun m => rfl)
  have HP0 : Hid (sdP l 0 = 0) := hide rfl
  have HP4 := hide (sdP_four l)
  have HBD : Hid (∀ m, 0 ≤ sdP l m ∧ sdP l m ≤ 2000000 * m) := hide (sdP_bd hr)
  have hwh : 0 ≤ l.h ∧ l.h ≤ 2000000 ∧ 0 ≤ l.w ∧ l.w ≤ 2000000 := by
    unfold okR inR at hr
    unfold Lot5.h Lot5.w
    omega
  obtain ⟨h1, h2, h3, h4⟩ := hwh
  obtain ⟨f1, f2⟩ := hf
  have f3 : l.f ≤ 255 := by omega
  generalize sdP l = P at *
  generalize l.w = Lw at *
  generalize l.h = Lh at *
  have HB := hide (boxLK_new w l 56)
  generalize hW : w.alloc (.cells #[.int .i64 l.r.x0, .int .i64 l.r.y0, .int .i64 l.r.x1, .int .i64 l.r.y1, .int .u8 l.f] 56) = W at *
  generalize hn : w.heap.size = n at *
  have HN := hide hn
  clear hr f2
  show Calls Tryz.prog _ #[.agg #[.int .i64 l.r.x0, .int .i64 l.r.y0, .int .i64 l.r.x1, .int .i64 l.r.y1, .int .u8 l.f]] w _
  go_enter Tryz.func26, Tryz.ntmps26
  go_wp2_with (fail)
  clear hW hn
  go_loopw [3, 4] (fun o i wr => ∃ m : Nat, m ≤ 4 ∧ i = .int .u8 (2 ^ m) ∧ o = .int .i64 (P m) ∧ Hid (BoxLK n w l wr)) (fun _ i _ => 16 - (intOf i).toNat)
  case atStart => exact ⟨0, Nat.zero_le _, rfl, by rw [HP0.out], HB⟩
  case round =>
    clear HB
    obtain ⟨m, hm, rfl, rfl, HB⟩ := hrel
    obtain ⟨d0, d1, d2, d3, d4, hlt⟩ := HB.out.c
    have hm5 : m = 0 ∨ m = 1 ∨ m = 2 ∨ m = 3 ∨ m = 4 := by omega
    rcases hm5 with rfl | rfl | rfl | rfl | rfl
    · have HSm : Hid (P 1 = P 0 + if hasS l.f 1 = true then Lh else 0) := hide (HST.out 0)
      obtain ⟨q1, q2⟩ := HBD.out 0
      have HH := hide (fun W => rHasS_any (f := l.f) (s := 1) ⟨f1, f3⟩ (by simp [isSide]) W)
      clear HST HBD
      cases hbm : hasS l.f 1 with
      | true =>
        rw [hbm] at HSm HH
        go_wp2_with (fail)
        refine (HH.out _).mono ?_
        rintro e w7 ⟨rfl, hb⟩
        obtain rfl := hb
        go_wp2_with (fail)
        refine (HHE.out _).mono ?_
        rintro e w3 ⟨rfl, hb⟩
        have HB3 := hide (HB.out.keep hb)
        clear hb d0 d1 d2 d3 d4 hlt HB
        go_wp2_with (fail)
        go_roundw
        case rel => exact ⟨1, by omega, rfl, by rw [HSm.out]; simp, HB3⟩
        case measure => simp [intOf]
      | false =>
        rw [hbm] at HSm HH
        go_wp2_with (fail)
        refine (HH.out _).mono ?_
        rintro e w7 ⟨rfl, hb⟩
        obtain rfl := hb
        go_wp2_with (fail)
        go_roundw
        case rel => exact ⟨1, by omega, rfl, by rw [HSm.out]; simp, HB⟩
        case measure => simp [intOf]
    · have HSm : Hid (P 2 = P 1 + if hasS l.f 2 = true then Lh else 0) := hide (HST.out 1)
      obtain ⟨q1, q2⟩ := HBD.out 1
      have HH := hide (fun W => rHasS_any (f := l.f) (s := 2) ⟨f1, f3⟩ (by simp [isSide]) W)
      clear HST HBD
      cases hbm : hasS l.f 2 with
      | true =>
        rw [hbm] at HSm HH
        go_wp2_with (fail)
        refine (HH.out _).mono ?_
        rintro e w7 ⟨rfl, hb⟩
        obtain rfl := hb
        go_wp2_with (fail)
        refine (HHE.out _).mono ?_
        rintro e w3 ⟨rfl, hb⟩
        have HB3 := hide (HB.out.keep hb)
        clear hb d0 d1 d2 d3 d4 hlt HB
        go_wp2_with (fail)
        go_roundw
        case rel => exact ⟨2, by omega, rfl, by rw [HSm.out]; simp, HB3⟩
        case measure => simp [intOf]
      | false =>
        rw [hbm] at HSm HH
        go_wp2_with (fail)
        refine (HH.out _).mono ?_
        rintro e w7 ⟨rfl, hb⟩
        obtain rfl := hb
        go_wp2_with (fail)
        go_roundw
        case rel => exact ⟨2, by omega, rfl, by rw [HSm.out]; simp, HB⟩
        case measure => simp [intOf]
    · have HSm : Hid (P 3 = P 2 + if hasS l.f 4 = true then Lw else 0) := hide (HST.out 2)
      obtain ⟨q1, q2⟩ := HBD.out 2
      have HH := hide (fun W => rHasS_any (f := l.f) (s := 4) ⟨f1, f3⟩ (by simp [isSide]) W)
      clear HST HBD
      cases hbm : hasS l.f 4 with
      | true =>
        rw [hbm] at HSm HH
        go_wp2_with (fail)
        refine (HH.out _).mono ?_
        rintro e w7 ⟨rfl, hb⟩
        obtain rfl := hb
        go_wp2_with (fail)
        refine (HWI.out _).mono ?_
        rintro e w3 ⟨rfl, hb⟩
        have HB3 := hide (HB.out.keep hb)
        clear hb d0 d1 d2 d3 d4 hlt HB
        go_wp2_with (fail)
        go_roundw
        case rel => exact ⟨3, by omega, rfl, by rw [HSm.out]; simp, HB3⟩
        case measure => simp [intOf]
      | false =>
        rw [hbm] at HSm HH
        go_wp2_with (fail)
        refine (HH.out _).mono ?_
        rintro e w7 ⟨rfl, hb⟩
        obtain rfl := hb
        go_wp2_with (fail)
        go_roundw
        case rel => exact ⟨3, by omega, rfl, by rw [HSm.out]; simp, HB⟩
        case measure => simp [intOf]
    · have HSm : Hid (P 4 = P 3 + if hasS l.f 8 = true then Lw else 0) := hide (HST.out 3)
      obtain ⟨q1, q2⟩ := HBD.out 3
      have HH := hide (fun W => rHasS_any (f := l.f) (s := 8) ⟨f1, f3⟩ (by simp [isSide]) W)
      clear HST HBD
      cases hbm : hasS l.f 8 with
      | true =>
        rw [hbm] at HSm HH
        go_wp2_with (fail)
        refine (HH.out _).mono ?_
        rintro e w7 ⟨rfl, hb⟩
        obtain rfl := hb
        go_wp2_with (fail)
        refine (HWI.out _).mono ?_
        rintro e w3 ⟨rfl, hb⟩
        have HB3 := hide (HB.out.keep hb)
        clear hb d0 d1 d2 d3 d4 hlt HB
        go_wp2_with (fail)
        go_roundw
        case rel => exact ⟨4, by omega, rfl, by rw [HSm.out]; simp, HB3⟩
        case measure => simp [intOf]
      | false =>
        rw [hbm] at HSm HH
        go_wp2_with (fail)
        refine (HH.out _).mono ?_
        rintro e w7 ⟨rfl, hb⟩
        obtain rfl := hb
        go_wp2_with (fail)
        go_roundw
        case rel => exact ⟨4, by omega, rfl, by rw [HSm.out]; simp, HB⟩
        case measure => simp [intOf]
    · have HBE := hide HB.out.below
      clear d0 d1 d2 d3 d4 hlt HB
      obtain ⟨q1, q2⟩ := HBD.out 4
      clear HBD HST
      go_wp2_with (fail)
      go_ret
      exact ⟨by rw [HP4.out]; rfl, HBE.out⟩
end Go.Proofs.YtabogapiecciiaaGreat

/- The capacities of the slices inside an argument that is a list of lists of rectangles. -/
namespace Go.Proofs.YtabogapiecciiaaGreat
open Go.ChangeShapes Go.WideShapes Go.ChangeAt Go.RowKit Go.Joins Go.Deep
set_option linter.unusedVariables false
set_option linter.unusedSimpArgs false

/-- The slices inside v end within their capacities. -/
def CapRR (w : World) (v : Value) : Prop := ∀ (b off n c : Nat), v = .slice (some ⟨b, off, none⟩) n c → ∀ j, j < n → ∀ A' n' c', w.cell? ⟨b, off + j, none⟩ = some (.slice A' n' c') → n' ≤ c' ∧ c' ≤ maxLen
section
variable {H : Type} {enc : TypeId × Value → H} {P : Program} {w : World} {base : Nat} {spare : Nat → Bool} {held : Bool}
theorem trod_caps {t e ee : TypeId} {v : Value} {d : DataW H} {p : List MemPlace} {r : Reach} {b0 : Nat} (ht : P.underlying t = some (.slice e)) (hE : P.underlying e = some (.slice ee)) (hC1 : P.cellsOf e = 1)
    (hv : Value.okWide P w r b0 t v) (h : DataW.Trod enc P w base spare held t v d p) : CapRR w v := by
  obtain ⟨A, n, c, rfl⟩ := okWide_slice ht hv
  obtain ⟨fuel, hf⟩ := h
  intro b off n0 c0 e0 j hj A' n' c' hc
  injection e0 with eA eN eC
  subst eA; subst eN; subst eC
  rcases open_slice1 ht hC1 hf with ⟨hcs, _⟩ | ⟨a, len, cap, m, nn, V, D, Pl, hcs, hb, hl, hm, hmm, hx, hi⟩
  · simp [Value.cells] at hcs
  · simp [Value.cells] at hcs
    obtain ⟨rfl, rfl, rfl⟩ := hcs
    have hlm : n ≤ m := by rw [hmm]; split <;> omega
    obtain ⟨h1, h2⟩ := hi j (by omega)
    have e1 : (⟨b, off, none⟩ : Addr).add j = ⟨b, off + j, none⟩ := by unfold Addr.add; split <;> simp_all
    rw [e1, hc] at h1
    injection h1 with h1
    rw [← h1] at h2
    rcases open_slice hE h2 with ⟨hcs, _⟩ | ⟨a2, len2, cap2, m2, nn2, D2, Pl2, hcs, hb2, hl2, hm2, _⟩
    · simp at hcs
      omega
    · simp at hcs
      omega
end
end Go.Proofs.YtabogapiecciiaaGreat
