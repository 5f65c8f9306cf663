import Derived.Test.YtjhaakollekjeaaDoorO7
namespace Go.Proofs.YtjhaakollekjeaaDoor
open Go Go.RowKit
set_option maxRecDepth 100000
set_option linter.unusedSimpArgs false
set_option linter.unusedVariables false

theorem tyz_of {P : Program} {T m k : Nat} {z : Value} (h : (P.info? T).map (fun i => (i.zero, i.size, i.bytes)) = some (some z, m, k)) (hc : z.cells.size = m) : TyZ P T m k z := by
 cases hi : P.info? T with
 | none => simp [hi] at h
 | some i =>
  simp only [hi, Option.map_some, Option.some.injEq, Prod.mk.injEq] at h
  exact ⟨⟨i, hi, h.1, h.2.1, h.2.2⟩, hc⟩
theorem ty1_int64 : Ty1 Tryd.prog 2 := ⟨⟨_, Tryd.underlying2, rfl⟩, by kernel_rfl⟩
theorem tyz_int64 : TyZ Tryd.prog 2 1 8 (.int .i64 0) := tyz_of (by kernel_rfl) rfl
theorem ty1_int : Ty1 Tryd.prog 3 := ⟨⟨_, Tryd.underlying3, rfl⟩, by kernel_rfl⟩
theorem tyz_int : TyZ Tryd.prog 3 1 8 (.int .i64 0) := tyz_of (by kernel_rfl) rfl
theorem ty1_bool : Ty1 Tryd.prog 4 := ⟨⟨_, Tryd.underlying4, rfl⟩, by kernel_rfl⟩
theorem tyz_bool : TyZ Tryd.prog 4 1 1 (.bool false) := tyz_of (by kernel_rfl) rfl
theorem ty1_uint8 : Ty1 Tryd.prog 5 := ⟨⟨_, Tryd.underlying5, rfl⟩, by kernel_rfl⟩
theorem tyz_uint8 : TyZ Tryd.prog 5 1 1 (.int .u8 0) := tyz_of (by kernel_rfl) rfl
theorem ty1_string : Ty1 Tryd.prog 9 := ⟨⟨_, Tryd.underlying9, rfl⟩, by kernel_rfl⟩
theorem tyz_string : TyZ Tryd.prog 9 1 16 (.string ⟨#[]⟩) := tyz_of (by kernel_rfl) rfl
theorem ty1_sl_impl_Ring : Ty1 Tryd.prog 22 := ⟨⟨_, Tryd.underlying22, rfl⟩, by kernel_rfl⟩
theorem tyl_sl_impl_Ring : TyL Tryd.prog 22 66 1 := ⟨Tryd.underlying22, by kernel_rfl⟩
theorem tyz_sl_impl_Ring : TyZ Tryd.prog 22 1 24 (.slice none 0 0) := tyz_of (by kernel_rfl) rfl
theorem tys_impl_Region : TyS Tryd.prog 24 1 := ⟨⟨_, Tryd.underlying24, rfl⟩, by kernel_rfl⟩
theorem tyf_impl_Region_0 : TyF Tryd.prog 24 0 0 := ⟨_, _, Tryd.underlying24, rfl, rfl, 0, by kernel_rfl⟩
theorem tyz_impl_Region : TyZ Tryd.prog 24 1 24 (.agg #[.slice none 0 0]) := tyz_of (by kernel_rfl) rfl
theorem ty1_sl_uint8 : Ty1 Tryd.prog 30 := ⟨⟨_, Tryd.underlying30, rfl⟩, by kernel_rfl⟩
theorem tyl_sl_uint8 : TyL Tryd.prog 30 5 1 := ⟨Tryd.underlying30, by kernel_rfl⟩
theorem ty1_sl_impl_Loop : Ty1 Tryd.prog 32 := ⟨⟨_, Tryd.underlying32, rfl⟩, by kernel_rfl⟩
theorem tyl_sl_impl_Loop : TyL Tryd.prog 32 48 1 := ⟨Tryd.underlying32, by kernel_rfl⟩
theorem tyz_sl_impl_Loop : TyZ Tryd.prog 32 1 24 (.slice none 0 0) := tyz_of (by kernel_rfl) rfl
theorem tys_impl_Outline : TyS Tryd.prog 34 1 := ⟨⟨_, Tryd.underlying34, rfl⟩, by kernel_rfl⟩
theorem tyf_impl_Outline_0 : TyF Tryd.prog 34 0 0 := ⟨_, _, Tryd.underlying34, rfl, rfl, 0, by kernel_rfl⟩
theorem tyz_impl_Outline : TyZ Tryd.prog 34 1 24 (.agg #[.slice none 0 0]) := tyz_of (by kernel_rfl) rfl
theorem tyl_sl_impl_Quad : TyL Tryd.prog 43 52 6 := ⟨Tryd.underlying43, by kernel_rfl⟩
theorem ty1_sl_impl_Knot : Ty1 Tryd.prog 46 := ⟨⟨_, Tryd.underlying46, rfl⟩, by kernel_rfl⟩
theorem tyl_sl_impl_Knot : TyL Tryd.prog 46 54 3 := ⟨Tryd.underlying46, by kernel_rfl⟩
theorem tyz_sl_impl_Knot : TyZ Tryd.prog 46 1 24 (.slice none 0 0) := tyz_of (by kernel_rfl) rfl
theorem tys_impl_Loop : TyS Tryd.prog 48 1 := ⟨⟨_, Tryd.underlying48, rfl⟩, by kernel_rfl⟩
theorem tyf_impl_Loop_0 : TyF Tryd.prog 48 0 0 := ⟨_, _, Tryd.underlying48, rfl, rfl, 0, by kernel_rfl⟩
theorem tyz_impl_Loop : TyZ Tryd.prog 48 1 24 (.agg #[.slice none 0 0]) := tyz_of (by kernel_rfl) rfl
theorem tys_impl_Pt : TyS Tryd.prog 50 2 := ⟨⟨_, Tryd.underlying50, rfl⟩, by kernel_rfl⟩
theorem tyf_impl_Pt_0 : TyF Tryd.prog 50 0 0 := ⟨_, _, Tryd.underlying50, rfl, rfl, 0, by kernel_rfl⟩
theorem tyf_impl_Pt_1 : TyF Tryd.prog 50 1 1 := ⟨_, _, Tryd.underlying50, rfl, rfl, 0, by kernel_rfl⟩
theorem tyz_impl_Pt : TyZ Tryd.prog 50 2 16 (.agg #[.int .i64 0, .int .i64 0]) := tyz_of (by kernel_rfl) rfl
theorem tys_impl_Quad : TyS Tryd.prog 52 6 := ⟨⟨_, Tryd.underlying52, rfl⟩, by kernel_rfl⟩
theorem tyf_impl_Quad_0 : TyF Tryd.prog 52 0 0 := ⟨_, _, Tryd.underlying52, rfl, rfl, 1, by kernel_rfl⟩
theorem tyf_impl_Quad_1 : TyF Tryd.prog 52 1 2 := ⟨_, _, Tryd.underlying52, rfl, rfl, 1, by kernel_rfl⟩
theorem tyf_impl_Quad_2 : TyF Tryd.prog 52 2 4 := ⟨_, _, Tryd.underlying52, rfl, rfl, 1, by kernel_rfl⟩
theorem tyz_impl_Quad : TyZ Tryd.prog 52 6 48 (.agg #[.int .i64 0, .int .i64 0, .int .i64 0, .int .i64 0, .int .i64 0, .int .i64 0]) := tyz_of (by kernel_rfl) rfl
theorem tys_impl_Knot : TyS Tryd.prog 54 3 := ⟨⟨_, Tryd.underlying54, rfl⟩, by kernel_rfl⟩
theorem tyf_impl_Knot_0 : TyF Tryd.prog 54 0 0 := ⟨_, _, Tryd.underlying54, rfl, rfl, 1, by kernel_rfl⟩
theorem tyf_impl_Knot_1 : TyF Tryd.prog 54 1 2 := ⟨_, _, Tryd.underlying54, rfl, rfl, 0, by kernel_rfl⟩
theorem tyz_impl_Knot : TyZ Tryd.prog 54 3 24 (.agg #[.int .i64 0, .int .i64 0, .bool false]) := tyz_of (by kernel_rfl) rfl
theorem tyl_sl_string : TyL Tryd.prog 60 9 1 := ⟨Tryd.underlying60, by kernel_rfl⟩
theorem ty1_sl_impl_Pt : Ty1 Tryd.prog 62 := ⟨⟨_, Tryd.underlying62, rfl⟩, by kernel_rfl⟩
theorem tyl_sl_impl_Pt : TyL Tryd.prog 62 50 2 := ⟨Tryd.underlying62, by kernel_rfl⟩
theorem tyz_sl_impl_Pt : TyZ Tryd.prog 62 1 24 (.slice none 0 0) := tyz_of (by kernel_rfl) rfl
theorem tys_impl_Ring : TyS Tryd.prog 66 1 := ⟨⟨_, Tryd.underlying66, rfl⟩, by kernel_rfl⟩
theorem tyf_impl_Ring_0 : TyF Tryd.prog 66 0 0 := ⟨_, _, Tryd.underlying66, rfl, rfl, 0, by kernel_rfl⟩
theorem tyz_impl_Ring : TyZ Tryd.prog 66 1 24 (.agg #[.slice none 0 0]) := tyz_of (by kernel_rfl) rfl
theorem tyz_strings_Builder : TyZ Tryd.prog 83 2 32 (.agg #[.pointer none, .slice none 0 0]) := tyz_of (by kernel_rfl) rfl
theorem tyl_sl_impl_loopSegment : TyL Tryd.prog 93 96 7 := ⟨Tryd.underlying93, by kernel_rfl⟩
theorem tys_impl_loopSegment : TyS Tryd.prog 96 7 := ⟨⟨_, Tryd.underlying96, rfl⟩, by kernel_rfl⟩
theorem tyf_impl_loopSegment_0 : TyF Tryd.prog 96 0 0 := ⟨_, _, Tryd.underlying96, rfl, rfl, 5, by kernel_rfl⟩
theorem tyf_impl_loopSegment_1 : TyF Tryd.prog 96 1 6 := ⟨_, _, Tryd.underlying96, rfl, rfl, 0, by kernel_rfl⟩
theorem tyz_impl_loopSegment : TyZ Tryd.prog 96 7 56 (.agg #[.int .i64 0, .int .i64 0, .int .i64 0, .int .i64 0, .int .i64 0, .int .i64 0, .bool false]) := tyz_of (by kernel_rfl) rfl
theorem ty1_uint64 : Ty1 Tryd.prog 113 := ⟨⟨_, Tryd.underlying113, rfl⟩, by kernel_rfl⟩
theorem tyz_uint64 : TyZ Tryd.prog 113 1 8 (.int .u64 0) := tyz_of (by kernel_rfl) rfl
theorem tyf_spec_l00Src_0 : TyF Tryd.prog 115 0 0 := ⟨_, _, Tryd.underlying115, rfl, rfl, 0, by kernel_rfl⟩
theorem tyf_spec_l00Src_1 : TyF Tryd.prog 115 1 1 := ⟨_, _, Tryd.underlying115, rfl, rfl, 0, by kernel_rfl⟩
theorem tyf_spec_l00Src_2 : TyF Tryd.prog 115 2 2 := ⟨_, _, Tryd.underlying115, rfl, rfl, 0, by kernel_rfl⟩
theorem tyl_sl_int64 : TyL Tryd.prog 117 2 1 := ⟨Tryd.underlying117, by kernel_rfl⟩
theorem tya_20_uint8 : Tryd.prog.underlying 168 = some (.array 20 5) := Tryd.underlying168
theorem tyz_20_uint8 : TyZ Tryd.prog 168 20 20 (.agg #[.int .u8 0, .int .u8 0, .int .u8 0, .int .u8 0, .int .u8 0, .int .u8 0, .int .u8 0, .int .u8 0, .int .u8 0, .int .u8 0, .int .u8 0, .int .u8 0, .int .u8 0, .int .u8 0, .int .u8 0, .int .u8 0, .int .u8 0, .int .u8 0, .int .u8 0, .int .u8 0]) := tyz_of (by kernel_rfl) rfl
theorem ok_laws_e8Long : FnOk Tryd.prog 10 := ⟨_, Tryd.func10, by kernel_rfl, rfl⟩
theorem ok_spec_E8Outline : FnOk Tryd.prog 11 := ⟨_, Tryd.func11, by kernel_rfl, rfl⟩
theorem ok_laws_e8At : FnOk Tryd.prog 12 := ⟨_, Tryd.func12, by kernel_rfl, rfl⟩
theorem ok_impl_ReverseOutline : FnOk Tryd.prog 13 := ⟨_, Tryd.func13, by kernel_rfl, rfl⟩
theorem ok_impl_ReadOutline : FnOk Tryd.prog 14 := ⟨_, Tryd.func14, by kernel_rfl, rfl⟩
theorem ok_impl_OutlineText : FnOk Tryd.prog 15 := ⟨_, Tryd.func15, by kernel_rfl, rfl⟩
theorem ok_spec_SameOutline : FnOk Tryd.prog 16 := ⟨_, Tryd.func16, by kernel_rfl, rfl⟩
theorem ok_impl_QuadsOfLoop : FnOk Tryd.prog 17 := ⟨_, Tryd.func17, by kernel_rfl, rfl⟩
theorem ok_impl_FlattenOutline : FnOk Tryd.prog 18 := ⟨_, Tryd.func18, by kernel_rfl, rfl⟩
theorem ok_spec_AreaTwice : FnOk Tryd.prog 19 := ⟨_, Tryd.func19, by kernel_rfl, rfl⟩
theorem ok_spec_ValidRegion : FnOk Tryd.prog 20 := ⟨_, Tryd.func20, by kernel_rfl, rfl⟩
theorem ok_spec_l13Ok : FnOk Tryd.prog 23 := ⟨_, Tryd.func23, by kernel_rfl, rfl⟩
theorem ok_impl_textLines : FnOk Tryd.prog 24 := ⟨_, Tryd.func24, by kernel_rfl, rfl⟩
theorem ok_impl_ValidRegion : FnOk Tryd.prog 26 := ⟨_, Tryd.func26, by kernel_rfl, rfl⟩
theorem ok_spec_l00From : FnOk Tryd.prog 30 := ⟨_, Tryd.func30, by kernel_rfl, rfl⟩
theorem ok_spec_l10Draw : FnOk Tryd.prog 31 := ⟨_, Tryd.func31, by kernel_rfl, rfl⟩
theorem ok_impl_ValidOutline : FnOk Tryd.prog 32 := ⟨_, Tryd.func32, by kernel_rfl, rfl⟩
theorem ok_impl_copyOutline : FnOk Tryd.prog 33 := ⟨_, Tryd.func33, by kernel_rfl, rfl⟩
theorem ok_slices_Reverse_sl_impl_Knot_impl_Knot : FnOk Tryd.prog 34 := ⟨_, Tryd.func34, by kernel_rfl, rfl⟩
theorem ok_impl_readLoop : FnOk Tryd.prog 35 := ⟨_, Tryd.func35, by kernel_rfl, rfl⟩
theorem ok_p_strings_Builder_WriteString : FnOk Tryd.prog 36 := ⟨_, Tryd.func36, by kernel_rfl, rfl⟩
theorem ok_impl_loopText : FnOk Tryd.prog 37 := ⟨_, Tryd.func37, by kernel_rfl, rfl⟩
theorem ok_p_strings_Builder_String : FnOk Tryd.prog 38 := ⟨_, Tryd.func38, by kernel_rfl, rfl⟩
theorem ok_spec_l10Same : FnOk Tryd.prog 39 := ⟨_, Tryd.func39, by kernel_rfl, rfl⟩
theorem ok_impl_ValidLoop : FnOk Tryd.prog 40 := ⟨_, Tryd.func40, by kernel_rfl, rfl⟩
theorem ok_impl_segmentsOf : FnOk Tryd.prog 41 := ⟨_, Tryd.func41, by kernel_rfl, rfl⟩
theorem ok_impl_isTolerance : FnOk Tryd.prog 42 := ⟨_, Tryd.func42, by kernel_rfl, rfl⟩
theorem ok_impl_flattenLoop : FnOk Tryd.prog 43 := ⟨_, Tryd.func43, by kernel_rfl, rfl⟩
theorem ok_spec_l14Twice : FnOk Tryd.prog 44 := ⟨_, Tryd.func44, by kernel_rfl, rfl⟩
theorem ok_strings_Split : FnOk Tryd.prog 48 := ⟨_, Tryd.func48, by kernel_rfl, rfl⟩
theorem ok_impl_ReadPt : FnOk Tryd.prog 49 := ⟨_, Tryd.func49, by kernel_rfl, rfl⟩
theorem ok_p_spec_l00Src_among : FnOk Tryd.prog 55 := ⟨_, Tryd.func55, by kernel_rfl, rfl⟩
theorem ok_p_spec_l00Src_pick : FnOk Tryd.prog 56 := ⟨_, Tryd.func56, by kernel_rfl, rfl⟩
theorem ok_spec_l10DrawLoop : FnOk Tryd.prog 57 := ⟨_, Tryd.func57, by kernel_rfl, rfl⟩
theorem ok_slices_ContainsFunc_sl_impl_Loop_impl_Loop : FnOk Tryd.prog 58 := ⟨_, Tryd.func58, by kernel_rfl, rfl⟩
theorem ok_impl_ValidOutline_1 : FnOk Tryd.prog 59 := ⟨_, Tryd.func59, by kernel_rfl, rfl⟩
theorem ok_slices_Clone_sl_impl_Knot_impl_Knot : FnOk Tryd.prog 60 := ⟨_, Tryd.func60, by kernel_rfl, rfl⟩
theorem ok_strings_CutPrefix : FnOk Tryd.prog 61 := ⟨_, Tryd.func61, by kernel_rfl, rfl⟩
theorem ok_impl_PtText : FnOk Tryd.prog 63 := ⟨_, Tryd.func63, by kernel_rfl, rfl⟩
theorem ok_strings_Join : FnOk Tryd.prog 64 := ⟨_, Tryd.func64, by kernel_rfl, rfl⟩
theorem ok_slices_ContainsFunc_sl_impl_Knot_impl_Knot : FnOk Tryd.prog 65 := ⟨_, Tryd.func65, by kernel_rfl, rfl⟩
theorem ok_impl_ValidLoop_1 : FnOk Tryd.prog 66 := ⟨_, Tryd.func66, by kernel_rfl, rfl⟩
theorem ok_impl_ValidPt : FnOk Tryd.prog 67 := ⟨_, Tryd.func67, by kernel_rfl, rfl⟩
theorem ok_impl_midPt : FnOk Tryd.prog 68 := ⟨_, Tryd.func68, by kernel_rfl, rfl⟩
theorem ok_impl_flattenQuad : FnOk Tryd.prog 69 := ⟨_, Tryd.func69, by kernel_rfl, rfl⟩
theorem ok_strings_Cut : FnOk Tryd.prog 76 := ⟨_, Tryd.func76, by kernel_rfl, rfl⟩
theorem ok_impl_ReadDecimal : FnOk Tryd.prog 77 := ⟨_, Tryd.func77, by kernel_rfl, rfl⟩
theorem ok_p_spec_l00Src_next : FnOk Tryd.prog 80 := ⟨_, Tryd.func80, by kernel_rfl, rfl⟩
theorem ok_spec_l03Draw : FnOk Tryd.prog 81 := ⟨_, Tryd.func81, by kernel_rfl, rfl⟩
theorem ok_slices_IndexFunc_sl_impl_Loop_impl_Loop : FnOk Tryd.prog 82 := ⟨_, Tryd.func82, by kernel_rfl, rfl⟩
theorem ok_impl_Decimal : FnOk Tryd.prog 85 := ⟨_, Tryd.func85, by kernel_rfl, rfl⟩
theorem ok_slices_IndexFunc_sl_impl_Knot_impl_Knot : FnOk Tryd.prog 87 := ⟨_, Tryd.func87, by kernel_rfl, rfl⟩
theorem ok_impl_DivRound : FnOk Tryd.prog 88 := ⟨_, Tryd.func88, by kernel_rfl, rfl⟩
theorem ok_impl_levelFor : FnOk Tryd.prog 89 := ⟨_, Tryd.func89, by kernel_rfl, rfl⟩
theorem ok_impl_sizeOf : FnOk Tryd.prog 90 := ⟨_, Tryd.func90, by kernel_rfl, rfl⟩
theorem ok_impl_combine : FnOk Tryd.prog 91 := ⟨_, Tryd.func91, by kernel_rfl, rfl⟩
theorem ok_impl_Quad_points : FnOk Tryd.prog 92 := ⟨_, Tryd.func92, by kernel_rfl, rfl⟩
theorem ok_impl_quadAt : FnOk Tryd.prog 93 := ⟨_, Tryd.func93, by kernel_rfl, rfl⟩
theorem ok_impl_isDigit : FnOk Tryd.prog 99 := ⟨_, Tryd.func99, by kernel_rfl, rfl⟩
theorem ok_spec_l03Coord : FnOk Tryd.prog 102 := ⟨_, Tryd.func102, by kernel_rfl, rfl⟩
theorem ok_impl_divPt : FnOk Tryd.prog 106 := ⟨_, Tryd.func106, by kernel_rfl, rfl⟩
theorem ok_p_spec_l00Src_one : FnOk Tryd.prog 113 := ⟨_, Tryd.func113, by kernel_rfl, rfl⟩
theorem bld_impl_Region_ (w : World) : (Instr.build 24 #[]).run Tryd.prog w = .ok (.agg #[.slice none 0 0]) w := by
 rw [build_agg]
 simp only [List.map_toArray, List.map_cons, List.map_nil]
 simp [Instr.build, Instr.fill, go_sem]
theorem bld_impl_Outline_ (w : World) : (Instr.build 34 #[]).run Tryd.prog w = .ok (.agg #[.slice none 0 0]) w := by
 rw [build_agg]
 simp only [List.map_toArray, List.map_cons, List.map_nil]
 simp [Instr.build, Instr.fill, go_sem]
theorem bld_impl_Loop_ (w : World) : (Instr.build 48 #[]).run Tryd.prog w = .ok (.agg #[.slice none 0 0]) w := by
 rw [build_agg]
 simp only [List.map_toArray, List.map_cons, List.map_nil]
 simp [Instr.build, Instr.fill, go_sem]
theorem bld_impl_Loop_0 {v0 a0_0 : Value} (h0 : v0.cells = #[a0_0]) (w : World) : (Instr.build 48 #[(0, v0)]).run Tryd.prog w = .ok (.agg #[a0_0]) w := by
 rw [build_agg]
 simp only [List.map_toArray, List.map_cons, List.map_nil, h0]
 simp [Instr.build, Instr.fill, go_sem]
theorem bld_impl_Pt_ (w : World) : (Instr.build 50 #[]).run Tryd.prog w = .ok (.agg #[.int .i64 0, .int .i64 0]) w := by
 rw [build_agg]
 simp only [List.map_toArray, List.map_cons, List.map_nil]
 simp [Instr.build, Instr.fill, go_sem]
theorem bld_impl_Pt_0_1 {v0 a0_0 : Value} (h0 : v0.cells = #[a0_0]) {v1 a1_0 : Value} (h1 : v1.cells = #[a1_0]) (w : World) : (Instr.build 50 #[(0, v0), (1, v1)]).run Tryd.prog w = .ok (.agg #[a0_0, a1_0]) w := by
 rw [build_agg]
 simp only [List.map_toArray, List.map_cons, List.map_nil, h0, h1]
 simp [Instr.build, Instr.fill, go_sem]
theorem bld_impl_Quad_0_1_2 {v0 a0_0 a0_1 : Value} (h0 : v0.cells = #[a0_0, a0_1]) {v1 a1_0 a1_1 : Value} (h1 : v1.cells = #[a1_0, a1_1]) {v2 a2_0 a2_1 : Value} (h2 : v2.cells = #[a2_0, a2_1]) (w : World) : (Instr.build 52 #[(0, v0), (1, v1), (2, v2)]).run Tryd.prog w = .ok (.agg #[a0_0, a0_1, a1_0, a1_1, a2_0, a2_1]) w := by
 rw [build_agg]
 simp only [List.map_toArray, List.map_cons, List.map_nil, h0, h1, h2]
 simp [Instr.build, Instr.fill, go_sem]
theorem bld_impl_Knot_0_1 {v0 a0_0 a0_1 : Value} (h0 : v0.cells = #[a0_0, a0_1]) {v1 a1_0 : Value} (h1 : v1.cells = #[a1_0]) (w : World) : (Instr.build 54 #[(0, v0), (1, v1)]).run Tryd.prog w = .ok (.agg #[a0_0, a0_1, a1_0]) w := by
 rw [build_agg]
 simp only [List.map_toArray, List.map_cons, List.map_nil, h0, h1]
 simp [Instr.build, Instr.fill, go_sem]
theorem bld_impl_Ring_ (w : World) : (Instr.build 66 #[]).run Tryd.prog w = .ok (.agg #[.slice none 0 0]) w := by
 rw [build_agg]
 simp only [List.map_toArray, List.map_cons, List.map_nil]
 simp [Instr.build, Instr.fill, go_sem]
theorem bld_impl_loopSegment_0_1 {v0 a0_0 a0_1 a0_2 a0_3 a0_4 a0_5 : Value} (h0 : v0.cells = #[a0_0, a0_1, a0_2, a0_3, a0_4, a0_5]) {v1 a1_0 : Value} (h1 : v1.cells = #[a1_0]) (w : World) : (Instr.build 96 #[(0, v0), (1, v1)]).run Tryd.prog w = .ok (.agg #[a0_0, a0_1, a0_2, a0_3, a0_4, a0_5, a1_0]) w := by
 rw [build_agg]
 simp only [List.map_toArray, List.map_cons, List.map_nil, h0, h1]
 simp [Instr.build, Instr.fill, go_sem]
theorem bld_spec_l00Src_0 {v0 a0_0 : Value} (h0 : v0.cells = #[a0_0]) (w : World) : (Instr.build 115 #[(0, v0)]).run Tryd.prog w = .ok (.agg #[a0_0, .int .i64 0, .int .u64 0]) w := by
 rw [build_agg]
 simp only [List.map_toArray, List.map_cons, List.map_nil, h0]
 simp [Instr.build, Instr.fill, go_sem]
theorem bsl_sl_impl_Ring_1_0 {v0 a0_0 : Value} (h0 : v0.cells = #[a0_0]) (w : World) : (Instr.buildSlice 22 1 #[(0, v0)]).run Tryd.prog w = .ok (.slice (some ⟨w.heap.size, 0, none⟩) 1 1) (w.alloc (.cells [a0_0].toArray 66)) := by
 rw [buildSlice_agg]
 simp only [List.map_toArray, List.map_cons, List.map_nil, h0]
 simp [Instr.buildSlice, Instr.fill, go_sem]
theorem bsl_sl_impl_Loop_1_0 {v0 a0_0 : Value} (h0 : v0.cells = #[a0_0]) (w : World) : (Instr.buildSlice 32 1 #[(0, v0)]).run Tryd.prog w = .ok (.slice (some ⟨w.heap.size, 0, none⟩) 1 1) (w.alloc (.cells [a0_0].toArray 48)) := by
 rw [buildSlice_agg]
 simp only [List.map_toArray, List.map_cons, List.map_nil, h0]
 simp [Instr.buildSlice, Instr.fill, go_sem]
theorem bsl_sl_impl_Quad_1_0 {v0 a0_0 a0_1 a0_2 a0_3 a0_4 a0_5 : Value} (h0 : v0.cells = #[a0_0, a0_1, a0_2, a0_3, a0_4, a0_5]) (w : World) : (Instr.buildSlice 43 1 #[(0, v0)]).run Tryd.prog w = .ok (.slice (some ⟨w.heap.size, 0, none⟩) 1 1) (w.alloc (.cells [a0_0, a0_1, a0_2, a0_3, a0_4, a0_5].toArray 52)) := by
 rw [buildSlice_agg]
 simp only [List.map_toArray, List.map_cons, List.map_nil, h0]
 simp [Instr.buildSlice, Instr.fill, go_sem]
theorem bsl_sl_impl_Knot_0 (w : World) : (Instr.buildSlice 46 0 #[]).run Tryd.prog w = .ok (.slice (some ⟨w.heap.size, 0, none⟩) 0 0) (w.alloc (.cells [].toArray 54)) := by
 rw [buildSlice_agg]
 simp only [List.map_toArray, List.map_cons, List.map_nil]
 simp [Instr.buildSlice, Instr.fill, go_sem]
theorem bsl_sl_impl_Knot_1_0 {v0 a0_0 a0_1 a0_2 : Value} (h0 : v0.cells = #[a0_0, a0_1, a0_2]) (w : World) : (Instr.buildSlice 46 1 #[(0, v0)]).run Tryd.prog w = .ok (.slice (some ⟨w.heap.size, 0, none⟩) 1 1) (w.alloc (.cells [a0_0, a0_1, a0_2].toArray 54)) := by
 rw [buildSlice_agg]
 simp only [List.map_toArray, List.map_cons, List.map_nil, h0]
 simp [Instr.buildSlice, Instr.fill, go_sem]
theorem bsl_sl_string_1_0 {v0 a0_0 : Value} (h0 : v0.cells = #[a0_0]) (w : World) : (Instr.buildSlice 60 1 #[(0, v0)]).run Tryd.prog w = .ok (.slice (some ⟨w.heap.size, 0, none⟩) 1 1) (w.alloc (.cells [a0_0].toArray 9)) := by
 rw [buildSlice_agg]
 simp only [List.map_toArray, List.map_cons, List.map_nil, h0]
 simp [Instr.buildSlice, Instr.fill, go_sem]
theorem bsl_sl_impl_Pt_1_0 {v0 a0_0 a0_1 : Value} (h0 : v0.cells = #[a0_0, a0_1]) (w : World) : (Instr.buildSlice 62 1 #[(0, v0)]).run Tryd.prog w = .ok (.slice (some ⟨w.heap.size, 0, none⟩) 1 1) (w.alloc (.cells [a0_0, a0_1].toArray 50)) := by
 rw [buildSlice_agg]
 simp only [List.map_toArray, List.map_cons, List.map_nil, h0]
 simp [Instr.buildSlice, Instr.fill, go_sem]
theorem bsl_sl_impl_Pt_3_0_1_2 {v0 a0_0 a0_1 : Value} (h0 : v0.cells = #[a0_0, a0_1]) {v1 a1_0 a1_1 : Value} (h1 : v1.cells = #[a1_0, a1_1]) {v2 a2_0 a2_1 : Value} (h2 : v2.cells = #[a2_0, a2_1]) (w : World) : (Instr.buildSlice 62 3 #[(0, v0), (1, v1), (2, v2)]).run Tryd.prog w = .ok (.slice (some ⟨w.heap.size, 0, none⟩) 3 3) (w.alloc (.cells [a0_0, a0_1, a1_0, a1_1, a2_0, a2_1].toArray 50)) := by
 rw [buildSlice_agg]
 simp only [List.map_toArray, List.map_cons, List.map_nil, h0, h1, h2]
 simp [Instr.buildSlice, Instr.fill, go_sem]
theorem bsl_sl_impl_loopSegment_1_0 {v0 a0_0 a0_1 a0_2 a0_3 a0_4 a0_5 a0_6 : Value} (h0 : v0.cells = #[a0_0, a0_1, a0_2, a0_3, a0_4, a0_5, a0_6]) (w : World) : (Instr.buildSlice 93 1 #[(0, v0)]).run Tryd.prog w = .ok (.slice (some ⟨w.heap.size, 0, none⟩) 1 1) (w.alloc (.cells [a0_0, a0_1, a0_2, a0_3, a0_4, a0_5, a0_6].toArray 96)) := by
 rw [buildSlice_agg]
 simp only [List.map_toArray, List.map_cons, List.map_nil, h0]
 simp [Instr.buildSlice, Instr.fill, go_sem]
theorem bsl_sl_int64_3_0_1_2 {v0 a0_0 : Value} (h0 : v0.cells = #[a0_0]) {v1 a1_0 : Value} (h1 : v1.cells = #[a1_0]) {v2 a2_0 : Value} (h2 : v2.cells = #[a2_0]) (w : World) : (Instr.buildSlice 117 3 #[(0, v0), (1, v1), (2, v2)]).run Tryd.prog w = .ok (.slice (some ⟨w.heap.size, 0, none⟩) 3 3) (w.alloc (.cells [a0_0, a1_0, a2_0].toArray 2)) := by
 rw [buildSlice_agg]
 simp only [List.map_toArray, List.map_cons, List.map_nil, h0, h1, h2]
 simp [Instr.buildSlice, Instr.fill, go_sem]
theorem bsl_sl_int64_4_0_1_2_3 {v0 a0_0 : Value} (h0 : v0.cells = #[a0_0]) {v1 a1_0 : Value} (h1 : v1.cells = #[a1_0]) {v2 a2_0 : Value} (h2 : v2.cells = #[a2_0]) {v3 a3_0 : Value} (h3 : v3.cells = #[a3_0]) (w : World) : (Instr.buildSlice 117 4 #[(0, v0), (1, v1), (2, v2), (3, v3)]).run Tryd.prog w = .ok (.slice (some ⟨w.heap.size, 0, none⟩) 4 4) (w.alloc (.cells [a0_0, a1_0, a2_0, a3_0].toArray 2)) := by
 rw [buildSlice_agg]
 simp only [List.map_toArray, List.map_cons, List.map_nil, h0, h1, h2, h3]
 simp [Instr.buildSlice, Instr.fill, go_sem]
theorem qt_neqS_impl_Pt {o : Oper} {n : Nat} {env : List (Nat × Value)} {w0 : Bs} {Rs : List Res} {x y : Operand} {T' : TypeId} {a0 a1 b0 b1 : Int} (ho : o.op = .binOp .neq 50 x y T') (hx : ev env x = some (.agg #[.int .i64 a0, .int .i64 a1])) (hy : ev env y = some (.agg #[.int .i64 b0, .int .i64 b1])) : Qt Tryd.prog o n env w0 Rs (.bool (!((a0 == b0) && (a1 == b1)))) :=
 qt_of fun a w hF _ => by
  unfold execOp; simp only [ho, hF.ev hx, hF.ev hy]
  cases h0 : (a0 == b0); all_goals cases h1 : (a1 == b1)
  all_goals simp [go_sem, *]
theorem mixed : Tryd.prog.follows .mixedOrders = true := by kernel_rfl
end Go.Proofs.YtjhaakollekjeaaDoor
