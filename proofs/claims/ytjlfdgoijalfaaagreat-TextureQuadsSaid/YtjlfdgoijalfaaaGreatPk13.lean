/- Texts laid together: OpenU. Lemmas for the statements of this seat; no condition. -/
import Derived.Test.YtjlfdgoijalfaaaGreatPk12
import Derived.Deep.Strs

/- An argument that is a quad, read as such. -/
namespace Go.Proofs.YtjlfdgoijalfaaaGreat
open Go.ChangeShapes Go.WideShapes Go.ChangeAt Go.RowKit Go.Joins Go.Deep
set_option linter.unusedVariables false
set_option linter.unusedSimpArgs false

theorem u8q_bd {n : Int} (h : (Lit.int .u8 n).wf = true) : 0 ≤ n ∧ n ≤ 255 := by
  simp [Lit.wf, IntKind.min, IntKind.max, IntKind.signed, IntKind.bits] at h
  omega
theorem vec_fields : ∀ (j : Nat) (f : Field), (match Tryz.prog.underlying 23 with | some (.struct fs) => fs | _ => #[])[j]? = some f → Tryz.prog.underlying f.type = some (.int .i64) := by
  rw [Tryz.underlying23]
  intro j f hf
  match j, hf with
  | 0, hf => simp at hf; subst hf; exact Tryz.underlying3
  | 1, hf => simp at hf; subst hf; exact Tryz.underlying3
  | 2, hf => simp at hf; subst hf; exact Tryz.underlying3
  | j + 3, hf => simp at hf
theorem array7 {α : Type} {a : Array α} (h : a.size = 7) : ∃ x0 x1 x2 x3 x4 x5 x6, a = #[x0, x1, x2, x3, x4, x5, x6] := by
  obtain ⟨l⟩ := a
  match l, h with
  | [x0, x1, x2, x3, x4, x5, x6], _ => exact ⟨x0, x1, x2, x3, x4, x5, x6, rfl⟩
section
variable {H : Type} {enc : TypeId × Value → H} {w : World} {base : Nat} {spare : Nat → Bool} {held : Bool}
set_option maxRecDepth 100000 in
theorem open_quad {v : Value} {d : DataW H} {p : List MemPlace} {r : Reach} {b0 : Nat} (hv : Value.okWide Tryz.prog w r b0 25 v) (h : DataW.Trod enc Tryz.prog w base spare held 25 v d p) : ∃ q0 q1 q2 q3 q4 q5 q6 : Int, v = .agg #[.int .u8 q0, .int .i64 q1, .int .i64 q2, .int .i64 q3, .int .i64 q4, .int .i64 q5, .int .i64 q6] ∧ 0 ≤ q0 := by
  obtain ⟨cs, rfl, hsz⟩ := okWide_struct Tryz.underlying25 hv
  have h7 : Tryz.prog.cellsOf 25 = 7 := by kernel_rfl
  have h3 : Tryz.prog.cellsOf 23 = 3 := by kernel_rfl
  have h1c : Tryz.prog.cellsOf 5 = 1 := by kernel_rfl
  obtain ⟨v0, v1, v2, v3, v4, v5, v6, rfl⟩ := array7 (hsz.trans h7)
  obtain ⟨fuel, hf⟩ := h
  obtain ⟨y0, y1, y2, n, _, _, hy0, hy1, hy2⟩ := trod_struct3 Tryz.underlying25 hf
  simp only [h3, h1c, Value.cells] at hy0 hy1 hy2
  obtain ⟨f, e0, _, wf⟩ := DataW.trod_int Tryz.underlying5 hy0
  have hr := trod_int_fields Tryz.underlying23 (by kernel_rfl) vec_fields rfl hy1
  have hs := trod_int_fields Tryz.underlying23 (by kernel_rfl) vec_fields rfl hy2
  obtain ⟨z1, e1⟩ := hr 0 (by decide)
  obtain ⟨z2, e2⟩ := hr 1 (by decide)
  obtain ⟨z3, e3⟩ := hr 2 (by decide)
  obtain ⟨z4, e4⟩ := hs 0 (by decide)
  obtain ⟨z5, e5⟩ := hs 1 (by decide)
  obtain ⟨z6, e6⟩ := hs 2 (by decide)
  simp at e0 e1 e2 e3 e4 e5 e6
  subst e0 e1 e2 e3 e4 e5 e6
  exact ⟨f, z1, z2, z3, z4, z5, z6, rfl, (u8q_bd wf).1⟩
end
end Go.Proofs.YtjlfdgoijalfaaaGreat
