/- ParcelNames: the examples, cuts that leave a part without a street, odd lengths, and errors: the walk. -/
import Derived.Test.YtgdlbaabdebclaaPk8
namespace Go.Proofs.Ytgdlbaabdebclaa
open Go.RowKit
set_option linter.unusedVariables false
set_option linter.unusedSimpArgs false

theorem cells3 {W V : World} {n : Nat} {v0 v1 v2 : Value} (h : Box3 W n v0 v1 v2) (hb : Below W.heap.size W V) : V.cell? ⟨n, 0, none⟩ = some v0 ∧ V.cell? ⟨n, 1, none⟩ = some v1 ∧ V.cell? ⟨n, 2, none⟩ = some v2 := ⟨(h.below hb).c0, (h.below hb).c1, (h.below hb).c2⟩
theorem names_a : cutE ⟨⟨0, 0, 8, 4⟩, 0⟩ ⟨2, 2, 8⟩ = (⟨⟨0, 0, 0, 0⟩, 0⟩, ⟨⟨0, 0, 0, 0⟩, 0⟩, 8) := by kernel_rfl
theorem names_a_cut (W : World) : Calls Try.prog 23 #[.agg #[.int .i64 0, .int .i64 0, .int .i64 8, .int .i64 4, .int .u8 0], .agg #[.int .i64 2, .int .i64 2, .int .i64 8]] W fun e w' => e = .returned (.tuple #[.agg #[.int .i64 0, .int .i64 0, .int .i64 0, .int .i64 0, .int .u8 0], .agg #[.int .i64 0, .int .i64 0, .int .i64 0, .int .i64 0, .int .u8 0], .int .i64 8]) ∧ Below W.heap.size W w' := by
  have := pcut_any ⟨⟨0, 0, 8, 4⟩, 0⟩ ⟨2, 2, 8⟩ (by decide) W
  rw [names_a] at this
  exact this
theorem names_b : cutE ⟨⟨0, 0, 8, 4⟩, 16⟩ ⟨2, 2, 8⟩ = (⟨⟨0, 0, 0, 0⟩, 0⟩, ⟨⟨0, 0, 0, 0⟩, 0⟩, 8) := by kernel_rfl
theorem names_b_cut (W : World) : Calls Try.prog 23 #[.agg #[.int .i64 0, .int .i64 0, .int .i64 8, .int .i64 4, .int .u8 16], .agg #[.int .i64 2, .int .i64 2, .int .i64 8]] W fun e w' => e = .returned (.tuple #[.agg #[.int .i64 0, .int .i64 0, .int .i64 0, .int .i64 0, .int .u8 0], .agg #[.int .i64 0, .int .i64 0, .int .i64 0, .int .i64 0, .int .u8 0], .int .i64 8]) ∧ Below W.heap.size W w' := by
  have := pcut_any ⟨⟨0, 0, 8, 4⟩, 16⟩ ⟨2, 2, 8⟩ (by decide) W
  rw [names_b] at this
  exact this
theorem names_c : cutE ⟨⟨0, 0, 1, 0⟩, 1⟩ ⟨2, 2, 8⟩ = (⟨⟨0, 0, 0, 0⟩, 0⟩, ⟨⟨0, 0, 0, 0⟩, 0⟩, 8) := by kernel_rfl
theorem names_c_cut (W : World) : Calls Try.prog 23 #[.agg #[.int .i64 0, .int .i64 0, .int .i64 1, .int .i64 0, .int .u8 1], .agg #[.int .i64 2, .int .i64 2, .int .i64 8]] W fun e w' => e = .returned (.tuple #[.agg #[.int .i64 0, .int .i64 0, .int .i64 0, .int .i64 0, .int .u8 0], .agg #[.int .i64 0, .int .i64 0, .int .i64 0, .int .i64 0, .int .u8 0], .int .i64 8]) ∧ Below W.heap.size W w' := by
  have := pcut_any ⟨⟨0, 0, 1, 0⟩, 1⟩ ⟨2, 2, 8⟩ (by decide) W
  rw [names_c] at this
  exact this
theorem names_d : cutE ⟨⟨0, 0, 8, 4⟩, 1⟩ ⟨1, 1, 0⟩ = (⟨⟨0, 0, 0, 0⟩, 0⟩, ⟨⟨0, 0, 0, 0⟩, 0⟩, 2) := by kernel_rfl
theorem names_d_cut (W : World) : Calls Try.prog 23 #[.agg #[.int .i64 0, .int .i64 0, .int .i64 8, .int .i64 4, .int .u8 1], .agg #[.int .i64 1, .int .i64 1, .int .i64 0]] W fun e w' => e = .returned (.tuple #[.agg #[.int .i64 0, .int .i64 0, .int .i64 0, .int .i64 0, .int .u8 0], .agg #[.int .i64 0, .int .i64 0, .int .i64 0, .int .i64 0, .int .u8 0], .int .i64 2]) ∧ Below W.heap.size W w' := by
  have := pcut_any ⟨⟨0, 0, 8, 4⟩, 1⟩ ⟨1, 1, 0⟩ (by decide) W
  rw [names_d] at this
  exact this
theorem names_e : cutE ⟨⟨0, 0, 8, 4⟩, 1⟩ ⟨1000001, 1, 1⟩ = (⟨⟨0, 0, 0, 0⟩, 0⟩, ⟨⟨0, 0, 0, 0⟩, 0⟩, 2) := by kernel_rfl
theorem names_e_cut (W : World) : Calls Try.prog 23 #[.agg #[.int .i64 0, .int .i64 0, .int .i64 8, .int .i64 4, .int .u8 1], .agg #[.int .i64 1000001, .int .i64 1, .int .i64 1]] W fun e w' => e = .returned (.tuple #[.agg #[.int .i64 0, .int .i64 0, .int .i64 0, .int .i64 0, .int .u8 0], .agg #[.int .i64 0, .int .i64 0, .int .i64 0, .int .i64 0, .int .u8 0], .int .i64 2]) ∧ Below W.heap.size W w' := by
  have := pcut_any ⟨⟨0, 0, 8, 4⟩, 1⟩ ⟨1000001, 1, 1⟩ (by decide) W
  rw [names_e] at this
  exact this
theorem names_f : cutE ⟨⟨0, 0, 2, 4⟩, 4⟩ ⟨2, 2, 8⟩ = (⟨⟨0, 0, 0, 0⟩, 0⟩, ⟨⟨0, 0, 0, 0⟩, 0⟩, 6) := by kernel_rfl
theorem names_f_cut (W : World) : Calls Try.prog 23 #[.agg #[.int .i64 0, .int .i64 0, .int .i64 2, .int .i64 4, .int .u8 4], .agg #[.int .i64 2, .int .i64 2, .int .i64 8]] W fun e w' => e = .returned (.tuple #[.agg #[.int .i64 0, .int .i64 0, .int .i64 0, .int .i64 0, .int .u8 0], .agg #[.int .i64 0, .int .i64 0, .int .i64 0, .int .i64 0, .int .u8 0], .int .i64 6]) ∧ Below W.heap.size W w' := by
  have := pcut_any ⟨⟨0, 0, 2, 4⟩, 4⟩ ⟨2, 2, 8⟩ (by decide) W
  rw [names_f] at this
  exact this
theorem names_o : cutE ⟨⟨-3, 0, 4, 5⟩, 5⟩ ⟨2, 2, 8⟩ = (⟨⟨-3, 0, 0, 5⟩, 5⟩, ⟨⟨0, 0, 4, 5⟩, 4⟩, 0) := by kernel_rfl
theorem names_o_cut (W : World) : Calls Try.prog 23 #[.agg #[.int .i64 (-3), .int .i64 0, .int .i64 4, .int .i64 5, .int .u8 5], .agg #[.int .i64 2, .int .i64 2, .int .i64 8]] W fun e w' => e = .returned (.tuple #[.agg #[.int .i64 (-3), .int .i64 0, .int .i64 0, .int .i64 5, .int .u8 5], .agg #[.int .i64 0, .int .i64 0, .int .i64 4, .int .i64 5, .int .u8 4], .int .i64 0]) ∧ Below W.heap.size W w' := by
  have := pcut_any ⟨⟨-3, 0, 4, 5⟩, 5⟩ ⟨2, 2, 8⟩ (by decide) W
  rw [names_o] at this
  exact this
theorem names_g1 (W : World) : Calls Try.prog 19 #[.agg #[.int .i64 0, .int .i64 0, .int .i64 8, .int .i64 4, .int .u8 1], .agg #[.int .i64 5, .int .i64 1, .int .i64 1]] W fun e w' => e = .returned (.tuple #[.bool false, .int .i64 0]) ∧ Below W.heap.size W w' := by
  have := pgood_any ⟨⟨0, 0, 8, 4⟩, 1⟩ ⟨5, 1, 1⟩ (by decide) W
  rw [show goodR ⟨⟨0, 0, 8, 4⟩, 1⟩ ⟨5, 1, 1⟩ = (false, 0) from by kernel_rfl] at this
  exact this
theorem names_g2 (W : World) : Calls Try.prog 19 #[.agg #[.int .i64 0, .int .i64 0, .int .i64 8, .int .i64 4, .int .u8 4], .agg #[.int .i64 5, .int .i64 4, .int .i64 1]] W fun e w' => e = .returned (.tuple #[.bool true, .int .i64 0]) ∧ Below W.heap.size W w' := by
  have := pgood_any ⟨⟨0, 0, 8, 4⟩, 4⟩ ⟨5, 4, 1⟩ (by decide) W
  rw [show goodR ⟨⟨0, 0, 8, 4⟩, 4⟩ ⟨5, 4, 1⟩ = (true, 0) from by kernel_rfl] at this
  exact this
theorem names_fr (W : World) : Calls Try.prog 21 #[.agg #[.int .i64 0, .int .i64 0, .int .i64 8, .int .i64 4, .int .u8 9]] W fun e w' => e = .returned (.tuple #[.int .i64 8, .int .i64 0]) ∧ Below W.heap.size W w' := by
  have := pfront_any ⟨⟨0, 0, 8, 4⟩, 9⟩ (by decide) W
  rw [show frontR ⟨⟨0, 0, 8, 4⟩, 9⟩ = (8, 0) from by kernel_rfl] at this
  exact this
theorem names_s1_len : (splitR ⟨⟨0, 0, 401, 1⟩, 4⟩ ⟨1, 1, 1⟩).1.length = 0 := by kernel_rfl
theorem names_s1_code : (splitR ⟨⟨0, 0, 401, 1⟩, 4⟩ ⟨1, 1, 1⟩).2 = 4 := by kernel_rfl
theorem names_s1 (W : World) : Calls Try.prog 11 #[.agg #[.int .i64 0, .int .i64 0, .int .i64 401, .int .i64 1, .int .u8 4], .agg #[.int .i64 1, .int .i64 1, .int .i64 1]] W fun e w' => (∃ A cc, e = .returned (.tuple #[.slice A 0 cc, .int .i64 4])) ∧ Below W.heap.size W w' := by
  refine (psplit_any ⟨⟨0, 0, 401, 1⟩, 4⟩ ⟨1, 1, 1⟩ (by decide) W).mono ?_
  rintro e w' ⟨⟨A, cc, he, _⟩, hb⟩
  rw [names_s1_len, names_s1_code] at he
  exact ⟨⟨A, cc, he⟩, hb⟩
theorem names_s2_len : (splitR ⟨⟨0, 0, 400, 1⟩, 4⟩ ⟨1, 1, 1⟩).1.length = 400 := by kernel_rfl
theorem names_s2_code : (splitR ⟨⟨0, 0, 400, 1⟩, 4⟩ ⟨1, 1, 1⟩).2 = 0 := by kernel_rfl
theorem names_s2 (W : World) : Calls Try.prog 11 #[.agg #[.int .i64 0, .int .i64 0, .int .i64 400, .int .i64 1, .int .u8 4], .agg #[.int .i64 1, .int .i64 1, .int .i64 1]] W fun e w' => (∃ A cc, e = .returned (.tuple #[.slice A 400 cc, .int .i64 0])) ∧ Below W.heap.size W w' := by
  refine (psplit_any ⟨⟨0, 0, 400, 1⟩, 4⟩ ⟨1, 1, 1⟩ (by decide) W).mono ?_
  rintro e w' ⟨⟨A, cc, he, _⟩, hb⟩
  rw [names_s2_len, names_s2_code] at he
  exact ⟨⟨A, cc, he⟩, hb⟩
theorem names_s3_len : (splitR ⟨⟨0, 0, 8, 4⟩, 1⟩ ⟨5, 1, 1⟩).1.length = 1 := by kernel_rfl
theorem names_s3_code : (splitR ⟨⟨0, 0, 8, 4⟩, 1⟩ ⟨5, 1, 1⟩).2 = 0 := by kernel_rfl
theorem names_s3 (W : World) : Calls Try.prog 11 #[.agg #[.int .i64 0, .int .i64 0, .int .i64 8, .int .i64 4, .int .u8 1], .agg #[.int .i64 5, .int .i64 1, .int .i64 1]] W fun e w' => (∃ A cc, e = .returned (.tuple #[.slice A 1 cc, .int .i64 0])) ∧ Below W.heap.size W w' := by
  refine (psplit_any ⟨⟨0, 0, 8, 4⟩, 1⟩ ⟨5, 1, 1⟩ (by decide) W).mono ?_
  rintro e w' ⟨⟨A, cc, he, _⟩, hb⟩
  rw [names_s3_len, names_s3_code] at he
  exact ⟨⟨A, cc, he⟩, hb⟩
def findRegion (n : Nat) : Code → Option Code
  | .region i o d => if i = n then some (.region i o d) else none
  | .seq a b => match findRegion n a with
    | some c => some c
    | none => findRegion n b
  | .block _ c => findRegion n c
  | .scope c => findRegion n c
  | .loop c => findRegion n c
  | .cond _ a b => match findRegion n a with
    | some c => some c
    | none => findRegion n b
  | _ => none
noncomputable def names_code2 : Code := (Try.f10.body.bind (findRegion 2)).getD .skip
set_option maxRecDepth 1000000 in
set_option maxHeartbeats 32000000 in
theorem names_reg2 {v0 v2 v3 v4 v5 v6 v7 v8 v9 v10 v11 v12 v13 v14 v15 v16 v17 v18 v19 v20 v21 v22 v23 v24 v25 v26 v27 v28 v29 v30 v31 v32 v33 v34 v35 v36 v37 v38 v39 v40 v41 v42 v43 v44 v45 v46 v47 v48 v49 v50 v51 v52 v53 v54 v55 v56 v57 v58 v59 v60 v61 v62 v63 v64 v65 v66 v67 v68 v69 v70 v71 v72 v73 v74 v75 v76 v77 v78 v79 v80 v81 v82 v83 v84 v85 v86 v87 v88 v89 v90 v91 v92 v93 v94 v95 v96 v97 v98 v99 v100 v101 v102 v103 v104 v105 v106 v107 v108 v109 v110 v111 v112 v113 v114 v115 v116 v117 v118 v119 v120 v121 v122 v123 v124 v125 v126 v127 v128 v129 v130 v131 v132 v133 v134 v135 v136 v137 v138 v139 v140 v141 v142 v143 v144 v145 v146 v147 v148 v149 v150 v151 v152 v153 v154 v155 v156 v157 v158 v159 v160 v161 v162 v163 v164 v165 v166 v167 v168 v169 v170 v171 v172 v173 v174 v175 v176 v177 v178 v179 v180 v181 v182 v183 v184 v185 v186 v187 v188 v189 v190 v191 v192 v193 v194 v195 v196 v197 v198 v199 v200 v201 v202 v203 v204 v205 v206 v207 v208 v209 v210 v211 v212 v213 v214 v215 : Value} {n : Nat} {Z : World} {K : Act → World → Prop} {Q' : Exit → Act → World → Prop} (HP : Box3 Z n (.int .i64 2) (.int .i64 2) (.int .i64 8))
    (hrest : ∀ (x2 x3 x38 x39 x40 x41 x42 x43 x44 : Value) (w' : World), Below Z.heap.size Z w' → K ⟨List.toArray (v0 :: .pointer (some ⟨n, 0, none⟩) :: x2 :: x3 :: .int .i64 8 :: v5 :: v6 :: v7 :: v8 :: v9 :: v10 :: v11 :: v12 :: v13 :: v14 :: v15 :: v16 :: v17 :: v18 :: v19 :: v20 :: v21 :: v22 :: v23 :: v24 :: v25 :: v26 :: v27 :: v28 :: v29 :: v30 :: v31 :: v32 :: v33 :: v34 :: v35 :: v36 :: v37 :: x38 :: x39 :: x40 :: x41 :: x42 :: x43 :: x44 :: v45 :: v46 :: v47 :: v48 :: v49 :: v50 :: v51 :: v52 :: v53 :: v54 :: v55 :: v56 :: v57 :: v58 :: v59 :: v60 :: v61 :: v62 :: v63 :: v64 :: v65 :: v66 :: v67 :: v68 :: v69 :: v70 :: v71 :: v72 :: v73 :: v74 :: v75 :: v76 :: v77 :: v78 :: v79 :: v80 :: v81 :: v82 :: v83 :: v84 :: v85 :: v86 :: v87 :: v88 :: v89 :: v90 :: v91 :: v92 :: v93 :: v94 :: v95 :: v96 :: v97 :: v98 :: v99 :: v100 :: v101 :: v102 :: v103 :: v104 :: v105 :: v106 :: v107 :: v108 :: v109 :: v110 :: v111 :: v112 :: v113 :: v114 :: v115 :: v116 :: v117 :: v118 :: v119 :: v120 :: v121 :: v122 :: v123 :: v124 :: v125 :: v126 :: v127 :: v128 :: v129 :: v130 :: v131 :: v132 :: v133 :: v134 :: v135 :: v136 :: v137 :: v138 :: v139 :: v140 :: v141 :: v142 :: v143 :: v144 :: v145 :: v146 :: v147 :: v148 :: v149 :: v150 :: v151 :: v152 :: v153 :: v154 :: v155 :: v156 :: v157 :: v158 :: v159 :: v160 :: v161 :: v162 :: v163 :: v164 :: v165 :: v166 :: v167 :: v168 :: v169 :: v170 :: v171 :: v172 :: v173 :: v174 :: v175 :: v176 :: v177 :: v178 :: v179 :: v180 :: v181 :: v182 :: v183 :: v184 :: v185 :: v186 :: v187 :: v188 :: v189 :: v190 :: v191 :: v192 :: v193 :: v194 :: v195 :: v196 :: v197 :: v198 :: v199 :: v200 :: v201 :: v202 :: v203 :: v204 :: v205 :: v206 :: v207 :: v208 :: v209 :: v210 :: v211 :: v212 :: v213 :: v214 :: v215 :: []), []⟩ w') : Code.wp Try.prog names_code2 (Exit.then K Q') ⟨List.toArray (v0 :: .pointer (some ⟨n, 0, none⟩) :: v2 :: v3 :: v4 :: v5 :: v6 :: v7 :: v8 :: v9 :: v10 :: v11 :: v12 :: v13 :: v14 :: v15 :: v16 :: v17 :: v18 :: v19 :: v20 :: v21 :: v22 :: v23 :: v24 :: v25 :: v26 :: v27 :: v28 :: v29 :: v30 :: v31 :: v32 :: v33 :: v34 :: v35 :: v36 :: v37 :: v38 :: v39 :: v40 :: v41 :: v42 :: v43 :: v44 :: v45 :: v46 :: v47 :: v48 :: v49 :: v50 :: v51 :: v52 :: v53 :: v54 :: v55 :: v56 :: v57 :: v58 :: v59 :: v60 :: v61 :: v62 :: v63 :: v64 :: v65 :: v66 :: v67 :: v68 :: v69 :: v70 :: v71 :: v72 :: v73 :: v74 :: v75 :: v76 :: v77 :: v78 :: v79 :: v80 :: v81 :: v82 :: v83 :: v84 :: v85 :: v86 :: v87 :: v88 :: v89 :: v90 :: v91 :: v92 :: v93 :: v94 :: v95 :: v96 :: v97 :: v98 :: v99 :: v100 :: v101 :: v102 :: v103 :: v104 :: v105 :: v106 :: v107 :: v108 :: v109 :: v110 :: v111 :: v112 :: v113 :: v114 :: v115 :: v116 :: v117 :: v118 :: v119 :: v120 :: v121 :: v122 :: v123 :: v124 :: v125 :: v126 :: v127 :: v128 :: v129 :: v130 :: v131 :: v132 :: v133 :: v134 :: v135 :: v136 :: v137 :: v138 :: v139 :: v140 :: v141 :: v142 :: v143 :: v144 :: v145 :: v146 :: v147 :: v148 :: v149 :: v150 :: v151 :: v152 :: v153 :: v154 :: v155 :: v156 :: v157 :: v158 :: v159 :: v160 :: v161 :: v162 :: v163 :: v164 :: v165 :: v166 :: v167 :: v168 :: v169 :: v170 :: v171 :: v172 :: v173 :: v174 :: v175 :: v176 :: v177 :: v178 :: v179 :: v180 :: v181 :: v182 :: v183 :: v184 :: v185 :: v186 :: v187 :: v188 :: v189 :: v190 :: v191 :: v192 :: v193 :: v194 :: v195 :: v196 :: v197 :: v198 :: v199 :: v200 :: v201 :: v202 :: v203 :: v204 :: v205 :: v206 :: v207 :: v208 :: v209 :: v210 :: v211 :: v212 :: v213 :: v214 :: v215 :: []), []⟩ Z := by
  conv => arg 2; whnf
  have HR := hide hrest
  clear hrest
  have q0 : n < Z.heap.size := lt_of_cell HP.c0
  obtain ⟨p0, p1, p2⟩ := id HP
  have HPH := hide HP
  go_cut [4] from 44 to 44 (fun sc wx => sc = .int .i64 8 ∧ Below Z.heap.size Z wx)
  case first =>
    clear HR
    go_region_held3 (fun w' => w'.cell? ⟨n, 0, none⟩ = some (.int .i64 2) ∧ w'.cell? ⟨n, 1, none⟩ = some (.int .i64 2) ∧ w'.cell? ⟨n, 2, none⟩ = some (.int .i64 8)) ((refine cells3 HPH.out ?_; repeat (first | with_reducible exact Below.refl _ _ | with_reducible exact hbK | with_reducible exact hbJ | with_reducible refine Below.setCell ?_ (by first | omega | (simp; done) | (simp; omega)) _ | with_reducible refine Below.alloc ?_ (by first | omega | (simp; omega) | simp) _ | with_reducible refine Below.drew ?_)))
      (first
        | (go_at_call 33; refine (block_any 0 _).mono ?_; rintro e w91 ⟨rfl, hbX⟩; have hbK : Below Z.heap.size Z w91 := Below.trans (by repeat (first | with_reducible exact Below.refl _ _ | with_reducible refine Below.setCell ?_ (by first | omega | (simp; done) | (simp; omega)) _ | with_reducible refine Below.alloc ?_ (by first | omega | (simp; omega) | simp) _ | with_reducible refine Below.drew ?_)) (hbX.mono (by first | omega | (simp; omega) | simp)); have hshbK := hbK.size; obtain ⟨hchbK, hfhbK⟩ := bcell hbX; (try have z0 : Z.heap.size < w91.heap.size := by have := hbX.size; first | omega | (simp at this; omega)); (try have z1 : Z.heap.size + 1 < w91.heap.size := by have := hbX.size; first | omega | (simp at this; omega)); (try have y0 : ¬ Z.heap.size = w91.heap.size := by omega); (try have y1 : ¬ w91.heap.size = Z.heap.size := by omega); clear hbX)
        | (go_at_call 23; refine (names_a_cut _).mono ?_; rintro e w92 ⟨rfl, hbX⟩; have hbJ : Below Z.heap.size Z w92 := Below.trans (by repeat (first | with_reducible exact Below.refl _ _ | with_reducible exact hbK | with_reducible refine Below.setCell ?_ (by first | omega | (simp; done) | (simp; omega)) _ | with_reducible refine Below.alloc ?_ (by first | omega | (simp; omega) | simp) _ | with_reducible refine Below.drew ?_)) (hbX.mono (by first | omega | (simp; omega) | simp)); have hshbJ := hbJ.size; obtain ⟨hchbJ, hfhbJ⟩ := bcell hbX; (try have z2 : Z.heap.size < w92.heap.size := by have := hbX.size; first | omega | (simp at this; omega)); (try have z3 : Z.heap.size + 1 < w92.heap.size := by have := hbX.size; first | omega | (simp at this; omega)); (try have z4 : w91.heap.size < w92.heap.size := by have := hbX.size; first | omega | (simp at this; omega)); (try have z5 : w91.heap.size + 1 < w92.heap.size := by have := hbX.size; first | omega | (simp at this; omega)); (try have y2 : ¬ Z.heap.size = w92.heap.size := by omega); (try have y3 : ¬ w92.heap.size = Z.heap.size := by omega); (try have y4 : ¬ w91.heap.size = w92.heap.size := by omega); (try have y5 : ¬ w92.heap.size = w91.heap.size := by omega); clear hbX))
    all_goals (go_wp2_with (fail); go_meet)
    all_goals
      refine ⟨rfl, ?_⟩
      repeat (first | with_reducible exact Below.refl _ _ | with_reducible exact hbK | with_reducible exact hbJ | with_reducible refine Below.setCell ?_ (by first | omega | (simp; done) | (simp; omega)) _ | with_reducible refine Below.alloc ?_ (by first | omega | (simp; omega) | simp) _ | with_reducible refine Below.drew ?_)
  case rest =>
    obtain ⟨rfl, hb⟩ := hcut
    refine HR.out _ _ _ _ _ _ _ _ _ _ hb
noncomputable def names_code3 : Code := (Try.f10.body.bind (findRegion 3)).getD .skip
set_option maxRecDepth 1000000 in
set_option maxHeartbeats 32000000 in
theorem names_reg3 {v0 v2 v3 v4 v5 v6 v7 v8 v9 v10 v11 v12 v13 v14 v15 v16 v17 v18 v19 v20 v21 v22 v23 v24 v25 v26 v27 v28 v29 v30 v31 v32 v33 v34 v35 v36 v37 v38 v39 v40 v41 v42 v43 v44 v45 v46 v47 v48 v49 v50 v51 v52 v53 v54 v55 v56 v57 v58 v59 v60 v61 v62 v63 v64 v65 v66 v67 v68 v69 v70 v71 v72 v73 v74 v75 v76 v77 v78 v79 v80 v81 v82 v83 v84 v85 v86 v87 v88 v89 v90 v91 v92 v93 v94 v95 v96 v97 v98 v99 v100 v101 v102 v103 v104 v105 v106 v107 v108 v109 v110 v111 v112 v113 v114 v115 v116 v117 v118 v119 v120 v121 v122 v123 v124 v125 v126 v127 v128 v129 v130 v131 v132 v133 v134 v135 v136 v137 v138 v139 v140 v141 v142 v143 v144 v145 v146 v147 v148 v149 v150 v151 v152 v153 v154 v155 v156 v157 v158 v159 v160 v161 v162 v163 v164 v165 v166 v167 v168 v169 v170 v171 v172 v173 v174 v175 v176 v177 v178 v179 v180 v181 v182 v183 v184 v185 v186 v187 v188 v189 v190 v191 v192 v193 v194 v195 v196 v197 v198 v199 v200 v201 v202 v203 v204 v205 v206 v207 v208 v209 v210 v211 v212 v213 v214 v215 : Value} {n : Nat} {Z : World} {K : Act → World → Prop} {Q' : Exit → Act → World → Prop} (HP : Box3 Z n (.int .i64 2) (.int .i64 2) (.int .i64 8))
    (hrest : ∀ (x5 x6 x45 x46 x47 x48 x49 x50 x51 : Value) (w' : World), Below Z.heap.size Z w' → K ⟨List.toArray (v0 :: .pointer (some ⟨n, 0, none⟩) :: v2 :: v3 :: v4 :: x5 :: x6 :: .int .i64 8 :: v8 :: v9 :: v10 :: v11 :: v12 :: v13 :: v14 :: v15 :: v16 :: v17 :: v18 :: v19 :: v20 :: v21 :: v22 :: v23 :: v24 :: v25 :: v26 :: v27 :: v28 :: v29 :: v30 :: v31 :: v32 :: v33 :: v34 :: v35 :: v36 :: v37 :: v38 :: v39 :: v40 :: v41 :: v42 :: v43 :: v44 :: x45 :: x46 :: x47 :: x48 :: x49 :: x50 :: x51 :: v52 :: v53 :: v54 :: v55 :: v56 :: v57 :: v58 :: v59 :: v60 :: v61 :: v62 :: v63 :: v64 :: v65 :: v66 :: v67 :: v68 :: v69 :: v70 :: v71 :: v72 :: v73 :: v74 :: v75 :: v76 :: v77 :: v78 :: v79 :: v80 :: v81 :: v82 :: v83 :: v84 :: v85 :: v86 :: v87 :: v88 :: v89 :: v90 :: v91 :: v92 :: v93 :: v94 :: v95 :: v96 :: v97 :: v98 :: v99 :: v100 :: v101 :: v102 :: v103 :: v104 :: v105 :: v106 :: v107 :: v108 :: v109 :: v110 :: v111 :: v112 :: v113 :: v114 :: v115 :: v116 :: v117 :: v118 :: v119 :: v120 :: v121 :: v122 :: v123 :: v124 :: v125 :: v126 :: v127 :: v128 :: v129 :: v130 :: v131 :: v132 :: v133 :: v134 :: v135 :: v136 :: v137 :: v138 :: v139 :: v140 :: v141 :: v142 :: v143 :: v144 :: v145 :: v146 :: v147 :: v148 :: v149 :: v150 :: v151 :: v152 :: v153 :: v154 :: v155 :: v156 :: v157 :: v158 :: v159 :: v160 :: v161 :: v162 :: v163 :: v164 :: v165 :: v166 :: v167 :: v168 :: v169 :: v170 :: v171 :: v172 :: v173 :: v174 :: v175 :: v176 :: v177 :: v178 :: v179 :: v180 :: v181 :: v182 :: v183 :: v184 :: v185 :: v186 :: v187 :: v188 :: v189 :: v190 :: v191 :: v192 :: v193 :: v194 :: v195 :: v196 :: v197 :: v198 :: v199 :: v200 :: v201 :: v202 :: v203 :: v204 :: v205 :: v206 :: v207 :: v208 :: v209 :: v210 :: v211 :: v212 :: v213 :: v214 :: v215 :: []), []⟩ w') : Code.wp Try.prog names_code3 (Exit.then K Q') ⟨List.toArray (v0 :: .pointer (some ⟨n, 0, none⟩) :: v2 :: v3 :: v4 :: v5 :: v6 :: v7 :: v8 :: v9 :: v10 :: v11 :: v12 :: v13 :: v14 :: v15 :: v16 :: v17 :: v18 :: v19 :: v20 :: v21 :: v22 :: v23 :: v24 :: v25 :: v26 :: v27 :: v28 :: v29 :: v30 :: v31 :: v32 :: v33 :: v34 :: v35 :: v36 :: v37 :: v38 :: v39 :: v40 :: v41 :: v42 :: v43 :: v44 :: v45 :: v46 :: v47 :: v48 :: v49 :: v50 :: v51 :: v52 :: v53 :: v54 :: v55 :: v56 :: v57 :: v58 :: v59 :: v60 :: v61 :: v62 :: v63 :: v64 :: v65 :: v66 :: v67 :: v68 :: v69 :: v70 :: v71 :: v72 :: v73 :: v74 :: v75 :: v76 :: v77 :: v78 :: v79 :: v80 :: v81 :: v82 :: v83 :: v84 :: v85 :: v86 :: v87 :: v88 :: v89 :: v90 :: v91 :: v92 :: v93 :: v94 :: v95 :: v96 :: v97 :: v98 :: v99 :: v100 :: v101 :: v102 :: v103 :: v104 :: v105 :: v106 :: v107 :: v108 :: v109 :: v110 :: v111 :: v112 :: v113 :: v114 :: v115 :: v116 :: v117 :: v118 :: v119 :: v120 :: v121 :: v122 :: v123 :: v124 :: v125 :: v126 :: v127 :: v128 :: v129 :: v130 :: v131 :: v132 :: v133 :: v134 :: v135 :: v136 :: v137 :: v138 :: v139 :: v140 :: v141 :: v142 :: v143 :: v144 :: v145 :: v146 :: v147 :: v148 :: v149 :: v150 :: v151 :: v152 :: v153 :: v154 :: v155 :: v156 :: v157 :: v158 :: v159 :: v160 :: v161 :: v162 :: v163 :: v164 :: v165 :: v166 :: v167 :: v168 :: v169 :: v170 :: v171 :: v172 :: v173 :: v174 :: v175 :: v176 :: v177 :: v178 :: v179 :: v180 :: v181 :: v182 :: v183 :: v184 :: v185 :: v186 :: v187 :: v188 :: v189 :: v190 :: v191 :: v192 :: v193 :: v194 :: v195 :: v196 :: v197 :: v198 :: v199 :: v200 :: v201 :: v202 :: v203 :: v204 :: v205 :: v206 :: v207 :: v208 :: v209 :: v210 :: v211 :: v212 :: v213 :: v214 :: v215 :: []), []⟩ Z := by
  conv => arg 2; whnf
  have HR := hide hrest
  clear hrest
  have q0 : n < Z.heap.size := lt_of_cell HP.c0
  obtain ⟨p0, p1, p2⟩ := id HP
  have HPH := hide HP
  go_cut [7] from 51 to 51 (fun sc wx => sc = .int .i64 8 ∧ Below Z.heap.size Z wx)
  case first =>
    clear HR
    go_region_held3 (fun w' => w'.cell? ⟨n, 0, none⟩ = some (.int .i64 2) ∧ w'.cell? ⟨n, 1, none⟩ = some (.int .i64 2) ∧ w'.cell? ⟨n, 2, none⟩ = some (.int .i64 8)) ((refine cells3 HPH.out ?_; repeat (first | with_reducible exact Below.refl _ _ | with_reducible exact hbK | with_reducible exact hbJ | with_reducible refine Below.setCell ?_ (by first | omega | (simp; done) | (simp; omega)) _ | with_reducible refine Below.alloc ?_ (by first | omega | (simp; omega) | simp) _ | with_reducible refine Below.drew ?_)))
      (first
        | (go_at_call 33; refine (block_any 16 _).mono ?_; rintro e w91 ⟨rfl, hbX⟩; have hbK : Below Z.heap.size Z w91 := Below.trans (by repeat (first | with_reducible exact Below.refl _ _ | with_reducible refine Below.setCell ?_ (by first | omega | (simp; done) | (simp; omega)) _ | with_reducible refine Below.alloc ?_ (by first | omega | (simp; omega) | simp) _ | with_reducible refine Below.drew ?_)) (hbX.mono (by first | omega | (simp; omega) | simp)); have hshbK := hbK.size; obtain ⟨hchbK, hfhbK⟩ := bcell hbX; (try have z0 : Z.heap.size < w91.heap.size := by have := hbX.size; first | omega | (simp at this; omega)); (try have z1 : Z.heap.size + 1 < w91.heap.size := by have := hbX.size; first | omega | (simp at this; omega)); (try have y0 : ¬ Z.heap.size = w91.heap.size := by omega); (try have y1 : ¬ w91.heap.size = Z.heap.size := by omega); clear hbX)
        | (go_at_call 23; refine (names_b_cut _).mono ?_; rintro e w92 ⟨rfl, hbX⟩; have hbJ : Below Z.heap.size Z w92 := Below.trans (by repeat (first | with_reducible exact Below.refl _ _ | with_reducible exact hbK | with_reducible refine Below.setCell ?_ (by first | omega | (simp; done) | (simp; omega)) _ | with_reducible refine Below.alloc ?_ (by first | omega | (simp; omega) | simp) _ | with_reducible refine Below.drew ?_)) (hbX.mono (by first | omega | (simp; omega) | simp)); have hshbJ := hbJ.size; obtain ⟨hchbJ, hfhbJ⟩ := bcell hbX; (try have z2 : Z.heap.size < w92.heap.size := by have := hbX.size; first | omega | (simp at this; omega)); (try have z3 : Z.heap.size + 1 < w92.heap.size := by have := hbX.size; first | omega | (simp at this; omega)); (try have z4 : w91.heap.size < w92.heap.size := by have := hbX.size; first | omega | (simp at this; omega)); (try have z5 : w91.heap.size + 1 < w92.heap.size := by have := hbX.size; first | omega | (simp at this; omega)); (try have y2 : ¬ Z.heap.size = w92.heap.size := by omega); (try have y3 : ¬ w92.heap.size = Z.heap.size := by omega); (try have y4 : ¬ w91.heap.size = w92.heap.size := by omega); (try have y5 : ¬ w92.heap.size = w91.heap.size := by omega); clear hbX))
    all_goals (go_wp2_with (fail); go_meet)
    all_goals
      refine ⟨rfl, ?_⟩
      repeat (first | with_reducible exact Below.refl _ _ | with_reducible exact hbK | with_reducible exact hbJ | with_reducible refine Below.setCell ?_ (by first | omega | (simp; done) | (simp; omega)) _ | with_reducible refine Below.alloc ?_ (by first | omega | (simp; omega) | simp) _ | with_reducible refine Below.drew ?_)
  case rest =>
    obtain ⟨rfl, hb⟩ := hcut
    refine HR.out _ _ _ _ _ _ _ _ _ _ hb
noncomputable def names_code7 : Code := (Try.f10.body.bind (findRegion 7)).getD .skip
set_option maxRecDepth 1000000 in
set_option maxHeartbeats 32000000 in
theorem names_reg7 {v0 v2 v3 v4 v5 v6 v7 v8 v9 v10 v11 v12 v13 v14 v15 v16 v17 v18 v19 v20 v21 v22 v23 v24 v25 v26 v27 v28 v29 v30 v31 v32 v33 v34 v35 v36 v37 v38 v39 v40 v41 v42 v43 v44 v45 v46 v47 v48 v49 v50 v51 v52 v53 v54 v55 v56 v57 v58 v59 v60 v61 v62 v63 v64 v65 v66 v67 v68 v69 v70 v71 v72 v73 v74 v75 v76 v77 v78 v79 v80 v81 v82 v83 v84 v85 v86 v87 v88 v89 v90 v91 v92 v93 v94 v95 v96 v97 v98 v99 v100 v101 v102 v103 v104 v105 v106 v107 v108 v109 v110 v111 v112 v113 v114 v115 v116 v117 v118 v119 v120 v121 v122 v123 v124 v125 v126 v127 v128 v129 v130 v131 v132 v133 v134 v135 v136 v137 v138 v139 v140 v141 v142 v143 v144 v145 v146 v147 v148 v149 v150 v151 v152 v153 v154 v155 v156 v157 v158 v159 v160 v161 v162 v163 v164 v165 v166 v167 v168 v169 v170 v171 v172 v173 v174 v175 v176 v177 v178 v179 v180 v181 v182 v183 v184 v185 v186 v187 v188 v189 v190 v191 v192 v193 v194 v195 v196 v197 v198 v199 v200 v201 v202 v203 v204 v205 v206 v207 v208 v209 v210 v211 v212 v213 v214 v215 : Value} {n : Nat} {Z : World} {K : Act → World → Prop} {Q' : Exit → Act → World → Prop} (HP : Box3 Z n (.int .i64 2) (.int .i64 2) (.int .i64 8))
    (hrest : ∀ (x17 x18 x74 x75 x76 x77 x78 x79 x80 : Value) (w' : World), Below Z.heap.size Z w' → K ⟨List.toArray (v0 :: .pointer (some ⟨n, 0, none⟩) :: v2 :: v3 :: v4 :: v5 :: v6 :: v7 :: v8 :: v9 :: v10 :: v11 :: v12 :: v13 :: v14 :: v15 :: v16 :: x17 :: x18 :: .int .i64 6 :: v20 :: v21 :: v22 :: v23 :: v24 :: v25 :: v26 :: v27 :: v28 :: v29 :: v30 :: v31 :: v32 :: v33 :: v34 :: v35 :: v36 :: v37 :: v38 :: v39 :: v40 :: v41 :: v42 :: v43 :: v44 :: v45 :: v46 :: v47 :: v48 :: v49 :: v50 :: v51 :: v52 :: v53 :: v54 :: v55 :: v56 :: v57 :: v58 :: v59 :: v60 :: v61 :: v62 :: v63 :: v64 :: v65 :: v66 :: v67 :: v68 :: v69 :: v70 :: v71 :: v72 :: v73 :: x74 :: x75 :: x76 :: x77 :: x78 :: x79 :: x80 :: v81 :: v82 :: v83 :: v84 :: v85 :: v86 :: v87 :: v88 :: v89 :: v90 :: v91 :: v92 :: v93 :: v94 :: v95 :: v96 :: v97 :: v98 :: v99 :: v100 :: v101 :: v102 :: v103 :: v104 :: v105 :: v106 :: v107 :: v108 :: v109 :: v110 :: v111 :: v112 :: v113 :: v114 :: v115 :: v116 :: v117 :: v118 :: v119 :: v120 :: v121 :: v122 :: v123 :: v124 :: v125 :: v126 :: v127 :: v128 :: v129 :: v130 :: v131 :: v132 :: v133 :: v134 :: v135 :: v136 :: v137 :: v138 :: v139 :: v140 :: v141 :: v142 :: v143 :: v144 :: v145 :: v146 :: v147 :: v148 :: v149 :: v150 :: v151 :: v152 :: v153 :: v154 :: v155 :: v156 :: v157 :: v158 :: v159 :: v160 :: v161 :: v162 :: v163 :: v164 :: v165 :: v166 :: v167 :: v168 :: v169 :: v170 :: v171 :: v172 :: v173 :: v174 :: v175 :: v176 :: v177 :: v178 :: v179 :: v180 :: v181 :: v182 :: v183 :: v184 :: v185 :: v186 :: v187 :: v188 :: v189 :: v190 :: v191 :: v192 :: v193 :: v194 :: v195 :: v196 :: v197 :: v198 :: v199 :: v200 :: v201 :: v202 :: v203 :: v204 :: v205 :: v206 :: v207 :: v208 :: v209 :: v210 :: v211 :: v212 :: v213 :: v214 :: v215 :: []), []⟩ w') : Code.wp Try.prog names_code7 (Exit.then K Q') ⟨List.toArray (v0 :: .pointer (some ⟨n, 0, none⟩) :: v2 :: v3 :: v4 :: v5 :: v6 :: v7 :: v8 :: v9 :: v10 :: v11 :: v12 :: v13 :: v14 :: v15 :: v16 :: v17 :: v18 :: v19 :: v20 :: v21 :: v22 :: v23 :: v24 :: v25 :: v26 :: v27 :: v28 :: v29 :: v30 :: v31 :: v32 :: v33 :: v34 :: v35 :: v36 :: v37 :: v38 :: v39 :: v40 :: v41 :: v42 :: v43 :: v44 :: v45 :: v46 :: v47 :: v48 :: v49 :: v50 :: v51 :: v52 :: v53 :: v54 :: v55 :: v56 :: v57 :: v58 :: v59 :: v60 :: v61 :: v62 :: v63 :: v64 :: v65 :: v66 :: v67 :: v68 :: v69 :: v70 :: v71 :: v72 :: v73 :: v74 :: v75 :: v76 :: v77 :: v78 :: v79 :: v80 :: v81 :: v82 :: v83 :: v84 :: v85 :: v86 :: v87 :: v88 :: v89 :: v90 :: v91 :: v92 :: v93 :: v94 :: v95 :: v96 :: v97 :: v98 :: v99 :: v100 :: v101 :: v102 :: v103 :: v104 :: v105 :: v106 :: v107 :: v108 :: v109 :: v110 :: v111 :: v112 :: v113 :: v114 :: v115 :: v116 :: v117 :: v118 :: v119 :: v120 :: v121 :: v122 :: v123 :: v124 :: v125 :: v126 :: v127 :: v128 :: v129 :: v130 :: v131 :: v132 :: v133 :: v134 :: v135 :: v136 :: v137 :: v138 :: v139 :: v140 :: v141 :: v142 :: v143 :: v144 :: v145 :: v146 :: v147 :: v148 :: v149 :: v150 :: v151 :: v152 :: v153 :: v154 :: v155 :: v156 :: v157 :: v158 :: v159 :: v160 :: v161 :: v162 :: v163 :: v164 :: v165 :: v166 :: v167 :: v168 :: v169 :: v170 :: v171 :: v172 :: v173 :: v174 :: v175 :: v176 :: v177 :: v178 :: v179 :: v180 :: v181 :: v182 :: v183 :: v184 :: v185 :: v186 :: v187 :: v188 :: v189 :: v190 :: v191 :: v192 :: v193 :: v194 :: v195 :: v196 :: v197 :: v198 :: v199 :: v200 :: v201 :: v202 :: v203 :: v204 :: v205 :: v206 :: v207 :: v208 :: v209 :: v210 :: v211 :: v212 :: v213 :: v214 :: v215 :: []), []⟩ Z := by
  conv => arg 2; whnf
  have HR := hide hrest
  clear hrest
  have q0 : n < Z.heap.size := lt_of_cell HP.c0
  obtain ⟨p0, p1, p2⟩ := id HP
  have HPH := hide HP
  go_cut [19] from 80 to 80 (fun sc wx => sc = .int .i64 6 ∧ Below Z.heap.size Z wx)
  case first =>
    clear HR
    go_region_held3 (fun w' => w'.cell? ⟨n, 0, none⟩ = some (.int .i64 2) ∧ w'.cell? ⟨n, 1, none⟩ = some (.int .i64 2) ∧ w'.cell? ⟨n, 2, none⟩ = some (.int .i64 8)) ((refine cells3 HPH.out ?_; repeat (first | with_reducible exact Below.refl _ _ | with_reducible exact hbK | with_reducible exact hbJ | with_reducible refine Below.setCell ?_ (by first | omega | (simp; done) | (simp; omega)) _ | with_reducible refine Below.alloc ?_ (by first | omega | (simp; omega) | simp) _ | with_reducible refine Below.drew ?_)))
      (first
        | (go_at_call 34; refine (strip_any 0 4 (by omega) (by omega) _).mono ?_; rintro e w91 ⟨rfl, hbX⟩; have hbK : Below Z.heap.size Z w91 := Below.trans (by repeat (first | with_reducible exact Below.refl _ _ | with_reducible refine Below.setCell ?_ (by first | omega | (simp; done) | (simp; omega)) _ | with_reducible refine Below.alloc ?_ (by first | omega | (simp; omega) | simp) _ | with_reducible refine Below.drew ?_)) (hbX.mono (by first | omega | (simp; omega) | simp)); have hshbK := hbK.size; obtain ⟨hchbK, hfhbK⟩ := bcell hbX; (try have z0 : Z.heap.size < w91.heap.size := by have := hbX.size; first | omega | (simp at this; omega)); (try have z1 : Z.heap.size + 1 < w91.heap.size := by have := hbX.size; first | omega | (simp at this; omega)); (try have y0 : ¬ Z.heap.size = w91.heap.size := by omega); (try have y1 : ¬ w91.heap.size = Z.heap.size := by omega); clear hbX)
        | (go_at_call 23; refine (names_f_cut _).mono ?_; rintro e w92 ⟨rfl, hbX⟩; have hbJ : Below Z.heap.size Z w92 := Below.trans (by repeat (first | with_reducible exact Below.refl _ _ | with_reducible exact hbK | with_reducible refine Below.setCell ?_ (by first | omega | (simp; done) | (simp; omega)) _ | with_reducible refine Below.alloc ?_ (by first | omega | (simp; omega) | simp) _ | with_reducible refine Below.drew ?_)) (hbX.mono (by first | omega | (simp; omega) | simp)); have hshbJ := hbJ.size; obtain ⟨hchbJ, hfhbJ⟩ := bcell hbX; (try have z2 : Z.heap.size < w92.heap.size := by have := hbX.size; first | omega | (simp at this; omega)); (try have z3 : Z.heap.size + 1 < w92.heap.size := by have := hbX.size; first | omega | (simp at this; omega)); (try have z4 : w91.heap.size < w92.heap.size := by have := hbX.size; first | omega | (simp at this; omega)); (try have z5 : w91.heap.size + 1 < w92.heap.size := by have := hbX.size; first | omega | (simp at this; omega)); (try have y2 : ¬ Z.heap.size = w92.heap.size := by omega); (try have y3 : ¬ w92.heap.size = Z.heap.size := by omega); (try have y4 : ¬ w91.heap.size = w92.heap.size := by omega); (try have y5 : ¬ w92.heap.size = w91.heap.size := by omega); clear hbX))
    all_goals (go_wp2_with (fail); go_meet)
    all_goals
      refine ⟨rfl, ?_⟩
      repeat (first | with_reducible exact Below.refl _ _ | with_reducible exact hbK | with_reducible exact hbJ | with_reducible refine Below.setCell ?_ (by first | omega | (simp; done) | (simp; omega)) _ | with_reducible refine Below.alloc ?_ (by first | omega | (simp; omega) | simp) _ | with_reducible refine Below.drew ?_)
  case rest =>
    obtain ⟨rfl, hb⟩ := hcut
    refine HR.out _ _ _ _ _ _ _ _ _ _ hb
set_option maxRecDepth 1000000 in
set_option maxHeartbeats 32000000 in
theorem names_walk (w : World) : Calls Try.prog 10 #[] w fun e w' => e = .returned (.bool true) ∧ Below w.heap.size w w' := by
  have gq : Try.prog.eqGuardType Try.prog.depth 25 = false := by kernel_rfl
  have K0 := hide (Below.refl w.heap.size w)
  go_enter Try.func10, Try.ntmps10
  go_wp2_with (fail)
  refine calls_name fun Z hZ => ?_
  have hbz : Below w.heap.size w Z := by
    rw [hZ]
    repeat (first | with_reducible exact Below.refl _ _ | with_reducible exact hbK | with_reducible exact hbJ | with_reducible refine Below.setCell ?_ (by first | omega | (simp; done) | (simp; omega)) _ | with_reducible refine Below.alloc ?_ (by first | omega | (simp; omega) | simp) _ | with_reducible refine Below.drew ?_)
  have KZ := hide (K0.out.trans (hbz.mono K0.out.size))
  clear hZ hbz K0
  refine (wishes_any _).mono ?_
  rintro e w1 ⟨rfl, hb⟩
  have K1 := hide (KZ.out.trans (hb.mono KZ.out.size))
  clear hb KZ
  go_upto_region 2 with fail
  refine wp_name5 fun Z hZ => ?_
  have hbz : Below w1.heap.size w1 Z := by
    rw [hZ]
    repeat (first | with_reducible exact Below.refl _ _ | with_reducible exact hbK | with_reducible exact hbJ | with_reducible refine Below.setCell ?_ (by first | omega | (simp; done) | (simp; omega)) _ | with_reducible refine Below.alloc ?_ (by first | omega | (simp; omega) | simp) _ | with_reducible refine Below.drew ?_)
  have KZ := hide (K1.out.trans (hbz.mono K1.out.size))
  have HP : Box3 Z w1.heap.size (.int .i64 2) (.int .i64 2) (.int .i64 8) := by rw [hZ]; refine ⟨?_, ?_, ?_⟩ <;> simp [go_sem]
  obtain ⟨n, hn⟩ : ∃ n, w1.heap.size = n := ⟨_, rfl⟩
  rw [hn] at HP ⊢
  clear hn
  clear hZ hbz K1
  try clear p0 p1 p2
  refine names_reg2 HP ?_
  intro y2_2 y2_3 y2_38 y2_39 y2_40 y2_41 y2_42 y2_43 y2_44 w2 hb
  have K2 := hide (KZ.out.trans (hb.mono KZ.out.size))
  replace HP := HP.below hb
  clear hb KZ
  obtain ⟨p0, p1, p2⟩ := id HP
  go_upto_region 3 with fail
  refine wp_name5 fun Z hZ => ?_
  have hbz : Below w2.heap.size w2 Z := by
    rw [hZ]
    repeat (first | with_reducible exact Below.refl _ _ | with_reducible exact hbK | with_reducible exact hbJ | with_reducible refine Below.setCell ?_ (by first | omega | (simp; done) | (simp; omega)) _ | with_reducible refine Below.alloc ?_ (by first | omega | (simp; omega) | simp) _ | with_reducible refine Below.drew ?_)
  have KZ := hide (K2.out.trans (hbz.mono K2.out.size))
  replace HP := HP.below hbz
  clear hZ hbz K2
  try clear p0 p1 p2
  refine names_reg3 HP ?_
  intro y3_5 y3_6 y3_45 y3_46 y3_47 y3_48 y3_49 y3_50 y3_51 w3 hb
  have K3 := hide (KZ.out.trans (hb.mono KZ.out.size))
  replace HP := HP.below hb
  clear hb KZ
  obtain ⟨p0, p1, p2⟩ := id HP
  go_wp2_with (fail)
  refine calls_name fun Z hZ => ?_
  have hbz : Below w3.heap.size w3 Z := by
    rw [hZ]
    repeat (first | with_reducible exact Below.refl _ _ | with_reducible exact hbK | with_reducible exact hbJ | with_reducible refine Below.setCell ?_ (by first | omega | (simp; done) | (simp; omega)) _ | with_reducible refine Below.alloc ?_ (by first | omega | (simp; omega) | simp) _ | with_reducible refine Below.drew ?_)
  have KZ := hide (K3.out.trans (hbz.mono K3.out.size))
  replace HP := HP.below hbz
  try clear p0 p1 p2
  clear hZ hbz K3
  refine (names_c_cut _).mono ?_
  rintro e w4 ⟨rfl, hb⟩
  have K4 := hide (KZ.out.trans (hb.mono KZ.out.size))
  replace HP := HP.below hb
  obtain ⟨p0, p1, p2⟩ := id HP
  clear hb KZ
  go_wp2_with (fail)
  refine calls_name fun Z hZ => ?_
  have hbz : Below w4.heap.size w4 Z := by
    rw [hZ]
    repeat (first | with_reducible exact Below.refl _ _ | with_reducible exact hbK | with_reducible exact hbJ | with_reducible refine Below.setCell ?_ (by first | omega | (simp; done) | (simp; omega)) _ | with_reducible refine Below.alloc ?_ (by first | omega | (simp; omega) | simp) _ | with_reducible refine Below.drew ?_)
  have KZ := hide (K4.out.trans (hbz.mono K4.out.size))
  replace HP := HP.below hbz
  try clear p0 p1 p2
  clear hZ hbz K4
  refine (block_any 1 _).mono ?_
  rintro e w5 ⟨rfl, hb⟩
  have K5 := hide (KZ.out.trans (hb.mono KZ.out.size))
  replace HP := HP.below hb
  obtain ⟨p0, p1, p2⟩ := id HP
  clear hb KZ
  go_wp2_with (fail)
  refine calls_name fun Z hZ => ?_
  have hbz : Below w5.heap.size w5 Z := by
    rw [hZ]
    repeat (first | with_reducible exact Below.refl _ _ | with_reducible exact hbK | with_reducible exact hbJ | with_reducible refine Below.setCell ?_ (by first | omega | (simp; done) | (simp; omega)) _ | with_reducible refine Below.alloc ?_ (by first | omega | (simp; omega) | simp) _ | with_reducible refine Below.drew ?_)
  have KZ := hide (K5.out.trans (hbz.mono K5.out.size))
  replace HP := HP.below hbz
  try clear p0 p1 p2
  clear hZ hbz K5
  refine (names_d_cut _).mono ?_
  rintro e w6 ⟨rfl, hb⟩
  have K6 := hide (KZ.out.trans (hb.mono KZ.out.size))
  replace HP := HP.below hb
  obtain ⟨p0, p1, p2⟩ := id HP
  clear hb KZ
  go_wp2_with (fail)
  refine calls_name fun Z hZ => ?_
  have hbz : Below w6.heap.size w6 Z := by
    rw [hZ]
    repeat (first | with_reducible exact Below.refl _ _ | with_reducible exact hbK | with_reducible exact hbJ | with_reducible refine Below.setCell ?_ (by first | omega | (simp; done) | (simp; omega)) _ | with_reducible refine Below.alloc ?_ (by first | omega | (simp; omega) | simp) _ | with_reducible refine Below.drew ?_)
  have KZ := hide (K6.out.trans (hbz.mono K6.out.size))
  replace HP := HP.below hbz
  try clear p0 p1 p2
  clear hZ hbz K6
  refine (block_any 1 _).mono ?_
  rintro e w7 ⟨rfl, hb⟩
  have K7 := hide (KZ.out.trans (hb.mono KZ.out.size))
  replace HP := HP.below hb
  obtain ⟨p0, p1, p2⟩ := id HP
  clear hb KZ
  go_wp2_with (fail)
  refine calls_name fun Z hZ => ?_
  have hbz : Below w7.heap.size w7 Z := by
    rw [hZ]
    repeat (first | with_reducible exact Below.refl _ _ | with_reducible exact hbK | with_reducible exact hbJ | with_reducible refine Below.setCell ?_ (by first | omega | (simp; done) | (simp; omega)) _ | with_reducible refine Below.alloc ?_ (by first | omega | (simp; omega) | simp) _ | with_reducible refine Below.drew ?_)
  have KZ := hide (K7.out.trans (hbz.mono K7.out.size))
  replace HP := HP.below hbz
  try clear p0 p1 p2
  clear hZ hbz K7
  refine (names_e_cut _).mono ?_
  rintro e w8 ⟨rfl, hb⟩
  have K8 := hide (KZ.out.trans (hb.mono KZ.out.size))
  replace HP := HP.below hb
  obtain ⟨p0, p1, p2⟩ := id HP
  clear hb KZ
  go_upto_region 7 with fail
  refine wp_name5 fun Z hZ => ?_
  have hbz : Below w8.heap.size w8 Z := by
    rw [hZ]
    repeat (first | with_reducible exact Below.refl _ _ | with_reducible exact hbK | with_reducible exact hbJ | with_reducible refine Below.setCell ?_ (by first | omega | (simp; done) | (simp; omega)) _ | with_reducible refine Below.alloc ?_ (by first | omega | (simp; omega) | simp) _ | with_reducible refine Below.drew ?_)
  have KZ := hide (K8.out.trans (hbz.mono K8.out.size))
  replace HP := HP.below hbz
  clear hZ hbz K8
  try clear p0 p1 p2
  refine names_reg7 HP ?_
  intro y7_17 y7_18 y7_74 y7_75 y7_76 y7_77 y7_78 y7_79 y7_80 w9 hb
  have K9 := hide (KZ.out.trans (hb.mono KZ.out.size))
  replace HP := HP.below hb
  clear hb KZ
  obtain ⟨p0, p1, p2⟩ := id HP
  go_wp2_with (fail)
  refine calls_name fun Z hZ => ?_
  have hbz : Below w9.heap.size w9 Z := by
    rw [hZ]
    repeat (first | with_reducible exact Below.refl _ _ | with_reducible exact hbK | with_reducible exact hbJ | with_reducible refine Below.setCell ?_ (by first | omega | (simp; done) | (simp; omega)) _ | with_reducible refine Below.alloc ?_ (by first | omega | (simp; omega) | simp) _ | with_reducible refine Below.drew ?_)
  have KZ := hide (K9.out.trans (hbz.mono K9.out.size))
  replace HP := HP.below hbz
  try clear p0 p1 p2
  clear hZ hbz K9
  refine (names_o_cut _).mono ?_
  rintro e w10 ⟨rfl, hb⟩
  have K10 := hide (KZ.out.trans (hb.mono KZ.out.size))
  replace HP := HP.below hb
  obtain ⟨p0, p1, p2⟩ := id HP
  clear hb KZ
  go_wp2_with (fail)
  refine calls_name fun Z hZ => ?_
  have hbz : Below w10.heap.size w10 Z := by
    rw [hZ]
    repeat (first | with_reducible exact Below.refl _ _ | with_reducible exact hbK | with_reducible exact hbJ | with_reducible refine Below.setCell ?_ (by first | omega | (simp; done) | (simp; omega)) _ | with_reducible refine Below.alloc ?_ (by first | omega | (simp; omega) | simp) _ | with_reducible refine Below.drew ?_)
  have KZ := hide (K10.out.trans (hbz.mono K10.out.size))
  replace HP := HP.below hbz
  try clear p0 p1 p2
  clear hZ hbz K10
  refine (block_any 1 _).mono ?_
  rintro e w11 ⟨rfl, hb⟩
  have K11 := hide (KZ.out.trans (hb.mono KZ.out.size))
  replace HP := HP.below hb
  obtain ⟨p0, p1, p2⟩ := id HP
  clear hb KZ
  go_wp2_with (fail)
  refine calls_name fun Z hZ => ?_
  have hbz : Below w11.heap.size w11 Z := by
    rw [hZ]
    repeat (first | with_reducible exact Below.refl _ _ | with_reducible exact hbK | with_reducible exact hbJ | with_reducible refine Below.setCell ?_ (by first | omega | (simp; done) | (simp; omega)) _ | with_reducible refine Below.alloc ?_ (by first | omega | (simp; omega) | simp) _ | with_reducible refine Below.drew ?_)
  have KZ := hide (K11.out.trans (hbz.mono K11.out.size))
  replace HP := HP.below hbz
  try clear p0 p1 p2
  clear hZ hbz K11
  refine (names_g1 _).mono ?_
  rintro e w12 ⟨rfl, hb⟩
  have K12 := hide (KZ.out.trans (hb.mono KZ.out.size))
  replace HP := HP.below hb
  obtain ⟨p0, p1, p2⟩ := id HP
  clear hb KZ
  go_wp2_with (fail)
  refine calls_name fun Z hZ => ?_
  have hbz : Below w12.heap.size w12 Z := by
    rw [hZ]
    repeat (first | with_reducible exact Below.refl _ _ | with_reducible exact hbK | with_reducible exact hbJ | with_reducible refine Below.setCell ?_ (by first | omega | (simp; done) | (simp; omega)) _ | with_reducible refine Below.alloc ?_ (by first | omega | (simp; omega) | simp) _ | with_reducible refine Below.drew ?_)
  have KZ := hide (K12.out.trans (hbz.mono K12.out.size))
  replace HP := HP.below hbz
  try clear p0 p1 p2
  clear hZ hbz K12
  refine (block_any 4 _).mono ?_
  rintro e w13 ⟨rfl, hb⟩
  have K13 := hide (KZ.out.trans (hb.mono KZ.out.size))
  replace HP := HP.below hb
  obtain ⟨p0, p1, p2⟩ := id HP
  clear hb KZ
  go_wp2_with (fail)
  refine calls_name fun Z hZ => ?_
  have hbz : Below w13.heap.size w13 Z := by
    rw [hZ]
    repeat (first | with_reducible exact Below.refl _ _ | with_reducible exact hbK | with_reducible exact hbJ | with_reducible refine Below.setCell ?_ (by first | omega | (simp; done) | (simp; omega)) _ | with_reducible refine Below.alloc ?_ (by first | omega | (simp; omega) | simp) _ | with_reducible refine Below.drew ?_)
  have KZ := hide (K13.out.trans (hbz.mono K13.out.size))
  replace HP := HP.below hbz
  try clear p0 p1 p2
  clear hZ hbz K13
  refine (names_g2 _).mono ?_
  rintro e w14 ⟨rfl, hb⟩
  have K14 := hide (KZ.out.trans (hb.mono KZ.out.size))
  replace HP := HP.below hb
  obtain ⟨p0, p1, p2⟩ := id HP
  clear hb KZ
  go_wp2_with (fail)
  refine calls_name fun Z hZ => ?_
  have hbz : Below w14.heap.size w14 Z := by
    rw [hZ]
    repeat (first | with_reducible exact Below.refl _ _ | with_reducible exact hbK | with_reducible exact hbJ | with_reducible refine Below.setCell ?_ (by first | omega | (simp; done) | (simp; omega)) _ | with_reducible refine Below.alloc ?_ (by first | omega | (simp; omega) | simp) _ | with_reducible refine Below.drew ?_)
  have KZ := hide (K14.out.trans (hbz.mono K14.out.size))
  replace HP := HP.below hbz
  try clear p0 p1 p2
  clear hZ hbz K14
  refine (block_any 9 _).mono ?_
  rintro e w15 ⟨rfl, hb⟩
  have K15 := hide (KZ.out.trans (hb.mono KZ.out.size))
  replace HP := HP.below hb
  obtain ⟨p0, p1, p2⟩ := id HP
  clear hb KZ
  go_wp2_with (fail)
  refine calls_name fun Z hZ => ?_
  have hbz : Below w15.heap.size w15 Z := by
    rw [hZ]
    repeat (first | with_reducible exact Below.refl _ _ | with_reducible exact hbK | with_reducible exact hbJ | with_reducible refine Below.setCell ?_ (by first | omega | (simp; done) | (simp; omega)) _ | with_reducible refine Below.alloc ?_ (by first | omega | (simp; omega) | simp) _ | with_reducible refine Below.drew ?_)
  have KZ := hide (K15.out.trans (hbz.mono K15.out.size))
  replace HP := HP.below hbz
  try clear p0 p1 p2
  clear hZ hbz K15
  refine (names_fr _).mono ?_
  rintro e w16 ⟨rfl, hb⟩
  have K16 := hide (KZ.out.trans (hb.mono KZ.out.size))
  replace HP := HP.below hb
  obtain ⟨p0, p1, p2⟩ := id HP
  clear hb KZ
  go_wp2_with (fail)
  refine calls_name fun Z hZ => ?_
  have hbz : Below w16.heap.size w16 Z := by
    rw [hZ]
    repeat (first | with_reducible exact Below.refl _ _ | with_reducible exact hbK | with_reducible exact hbJ | with_reducible refine Below.setCell ?_ (by first | omega | (simp; done) | (simp; omega)) _ | with_reducible refine Below.alloc ?_ (by first | omega | (simp; omega) | simp) _ | with_reducible refine Below.drew ?_)
  have KZ := hide (K16.out.trans (hbz.mono K16.out.size))
  replace HP := HP.below hbz
  try clear p0 p1 p2
  clear hZ hbz K16
  refine (names_s1 _).mono ?_
  rintro e w17 ⟨⟨A1, c1, rfl⟩, hb⟩
  have K17 := hide (KZ.out.trans (hb.mono KZ.out.size))
  replace HP := HP.below hb
  obtain ⟨p0, p1, p2⟩ := id HP
  clear hb KZ
  go_wp2_with (fail)
  refine calls_name fun Z hZ => ?_
  have hbz : Below w17.heap.size w17 Z := by
    rw [hZ]
    repeat (first | with_reducible exact Below.refl _ _ | with_reducible exact hbK | with_reducible exact hbJ | with_reducible refine Below.setCell ?_ (by first | omega | (simp; done) | (simp; omega)) _ | with_reducible refine Below.alloc ?_ (by first | omega | (simp; omega) | simp) _ | with_reducible refine Below.drew ?_)
  have KZ := hide (K17.out.trans (hbz.mono K17.out.size))
  replace HP := HP.below hbz
  try clear p0 p1 p2
  clear hZ hbz K17
  refine (names_s2 _).mono ?_
  rintro e w18 ⟨⟨A2, c2, rfl⟩, hb⟩
  have K18 := hide (KZ.out.trans (hb.mono KZ.out.size))
  replace HP := HP.below hb
  obtain ⟨p0, p1, p2⟩ := id HP
  clear hb KZ
  go_wp2_with (fail)
  refine calls_name fun Z hZ => ?_
  have hbz : Below w18.heap.size w18 Z := by
    rw [hZ]
    repeat (first | with_reducible exact Below.refl _ _ | with_reducible exact hbK | with_reducible exact hbJ | with_reducible refine Below.setCell ?_ (by first | omega | (simp; done) | (simp; omega)) _ | with_reducible refine Below.alloc ?_ (by first | omega | (simp; omega) | simp) _ | with_reducible refine Below.drew ?_)
  have KZ := hide (K18.out.trans (hbz.mono K18.out.size))
  replace HP := HP.below hbz
  try clear p0 p1 p2
  clear hZ hbz K18
  refine (block_any 1 _).mono ?_
  rintro e w19 ⟨rfl, hb⟩
  have K19 := hide (KZ.out.trans (hb.mono KZ.out.size))
  replace HP := HP.below hb
  obtain ⟨p0, p1, p2⟩ := id HP
  clear hb KZ
  go_wp2_with (fail)
  refine calls_name fun Z hZ => ?_
  have hbz : Below w19.heap.size w19 Z := by
    rw [hZ]
    repeat (first | with_reducible exact Below.refl _ _ | with_reducible exact hbK | with_reducible exact hbJ | with_reducible refine Below.setCell ?_ (by first | omega | (simp; done) | (simp; omega)) _ | with_reducible refine Below.alloc ?_ (by first | omega | (simp; omega) | simp) _ | with_reducible refine Below.drew ?_)
  have KZ := hide (K19.out.trans (hbz.mono K19.out.size))
  replace HP := HP.below hbz
  try clear p0 p1 p2
  clear hZ hbz K19
  refine (names_s3 _).mono ?_
  rintro e w20 ⟨⟨A3, c3, rfl⟩, hb⟩
  have K20 := hide (KZ.out.trans (hb.mono KZ.out.size))
  replace HP := HP.below hb
  obtain ⟨p0, p1, p2⟩ := id HP
  clear hb KZ
  go_wp2_with (fail)
  refine calls_name fun Z hZ => ?_
  have hbz : Below w20.heap.size w20 Z := by
    rw [hZ]
    repeat (first | with_reducible exact Below.refl _ _ | with_reducible exact hbK | with_reducible exact hbJ | with_reducible refine Below.setCell ?_ (by first | omega | (simp; done) | (simp; omega)) _ | with_reducible refine Below.alloc ?_ (by first | omega | (simp; omega) | simp) _ | with_reducible refine Below.drew ?_)
  have KZ := hide (K20.out.trans (hbz.mono K20.out.size))
  replace HP := HP.below hbz
  try clear p0 p1 p2
  clear hZ hbz K20
  refine (alive24_any _).mono ?_
  rintro e w21 ⟨rfl, hb⟩
  have K21 := hide (KZ.out.trans (hb.mono KZ.out.size))
  replace HP := HP.below hb
  obtain ⟨p0, p1, p2⟩ := id HP
  clear hb KZ
  go_wp2_with (fail)
  go_ret
  exact ⟨rfl, K21.out⟩
end Go.Proofs.Ytgdlbaabdebclaa
