/- Facts on the types and the functions of this program. -/
import Derived.Test.YtakdjgldcpompaaGreatSv
namespace Go.Proofs.YtakdjgldcpompaaGreat
open Go Go.RowKit
set_option maxRecDepth 100000
set_option linter.unusedSimpArgs false
set_option linter.unusedVariables false

theorem tyz_of {P : Program} {T m k : Nat} {z : Value} (h : (P.info? T).map (fun i => (i.zero, i.size, i.bytes)) = some (some z, m, k)) (hc : z.cells.size = m) : TyZ P T m k z := by
 cases hi : P.info? T with
 | none => simp [hi] at h
 | some i =>
  simp only [hi, Option.map_some, Option.some.injEq, Prod.mk.injEq] at h
  exact ⟨⟨i, hi, h.1, h.2.1, h.2.2⟩, hc⟩
theorem ty1_int64 : Ty1 Tryz.prog 2 := ⟨⟨_, Tryz.underlying2, rfl⟩, by kernel_rfl⟩
theorem tyz_int64 : TyZ Tryz.prog 2 1 8 (.int .i64 0) := tyz_of (by kernel_rfl) rfl
theorem ty1_bool : Ty1 Tryz.prog 4 := ⟨⟨_, Tryz.underlying4, rfl⟩, by kernel_rfl⟩
theorem tyz_bool : TyZ Tryz.prog 4 1 1 (.bool false) := tyz_of (by kernel_rfl) rfl
theorem ty1_sl_laws_Ring : Ty1 Tryz.prog 22 := ⟨⟨_, Tryz.underlying22, rfl⟩, by kernel_rfl⟩
theorem tyl_sl_laws_Ring : TyL Tryz.prog 22 57 1 := ⟨Tryz.underlying22, by kernel_rfl⟩
theorem tys_laws_Region : TyS Tryz.prog 24 1 := ⟨⟨_, Tryz.underlying24, rfl⟩, by kernel_rfl⟩
theorem tyf_laws_Region_0 : TyF Tryz.prog 24 0 0 := ⟨_, _, Tryz.underlying24, rfl, rfl, 0, by kernel_rfl⟩
theorem ty1_sl_impl_Ring : Ty1 Tryz.prog 26 := ⟨⟨_, Tryz.underlying26, rfl⟩, by kernel_rfl⟩
theorem tyl_sl_impl_Ring : TyL Tryz.prog 26 61 1 := ⟨Tryz.underlying26, by kernel_rfl⟩
theorem tyz_sl_impl_Ring : TyZ Tryz.prog 26 1 24 (.slice none 0 0) := tyz_of (by kernel_rfl) rfl
theorem tys_impl_Region : TyS Tryz.prog 28 1 := ⟨⟨_, Tryz.underlying28, rfl⟩, by kernel_rfl⟩
theorem tyf_impl_Region_0 : TyF Tryz.prog 28 0 0 := ⟨_, _, Tryz.underlying28, rfl, rfl, 0, by kernel_rfl⟩
theorem tyz_impl_Region : TyZ Tryz.prog 28 1 24 (.agg #[.slice none 0 0]) := tyz_of (by kernel_rfl) rfl
theorem ty1_sl_impl_Pt : Ty1 Tryz.prog 41 := ⟨⟨_, Tryz.underlying41, rfl⟩, by kernel_rfl⟩
theorem tyl_sl_impl_Pt : TyL Tryz.prog 41 64 2 := ⟨Tryz.underlying41, by kernel_rfl⟩
theorem tyz_sl_impl_Pt : TyZ Tryz.prog 41 1 24 (.slice none 0 0) := tyz_of (by kernel_rfl) rfl
theorem tyl_sl_spec_l13Edge : TyL Tryz.prog 43 66 4 := ⟨Tryz.underlying43, by kernel_rfl⟩
theorem tyl_sl_impl_leg : TyL Tryz.prog 50 77 4 := ⟨Tryz.underlying50, by kernel_rfl⟩
theorem tys_laws_Ring : TyS Tryz.prog 57 1 := ⟨⟨_, Tryz.underlying57, rfl⟩, by kernel_rfl⟩
theorem tys_impl_Ring : TyS Tryz.prog 61 1 := ⟨⟨_, Tryz.underlying61, rfl⟩, by kernel_rfl⟩
theorem tyf_impl_Ring_0 : TyF Tryz.prog 61 0 0 := ⟨_, _, Tryz.underlying61, rfl, rfl, 0, by kernel_rfl⟩
theorem tyz_impl_Ring : TyZ Tryz.prog 61 1 24 (.agg #[.slice none 0 0]) := tyz_of (by kernel_rfl) rfl
theorem tys_impl_Pt : TyS Tryz.prog 64 2 := ⟨⟨_, Tryz.underlying64, rfl⟩, by kernel_rfl⟩
theorem tyf_impl_Pt_0 : TyF Tryz.prog 64 0 0 := ⟨_, _, Tryz.underlying64, rfl, rfl, 0, by kernel_rfl⟩
theorem tyf_impl_Pt_1 : TyF Tryz.prog 64 1 1 := ⟨_, _, Tryz.underlying64, rfl, rfl, 0, by kernel_rfl⟩
theorem tyz_impl_Pt : TyZ Tryz.prog 64 2 16 (.agg #[.int .i64 0, .int .i64 0]) := tyz_of (by kernel_rfl) rfl
theorem tyf_spec_l13Edge_0 : TyF Tryz.prog 66 0 0 := ⟨_, _, Tryz.underlying66, rfl, rfl, 1, by kernel_rfl⟩
theorem tyf_spec_l13Edge_1 : TyF Tryz.prog 66 1 2 := ⟨_, _, Tryz.underlying66, rfl, rfl, 1, by kernel_rfl⟩
theorem tys_impl_leg : TyS Tryz.prog 77 4 := ⟨⟨_, Tryz.underlying77, rfl⟩, by kernel_rfl⟩
theorem tyf_impl_leg_0 : TyF Tryz.prog 77 0 0 := ⟨_, _, Tryz.underlying77, rfl, rfl, 1, by kernel_rfl⟩
theorem tyf_impl_leg_1 : TyF Tryz.prog 77 1 2 := ⟨_, _, Tryz.underlying77, rfl, rfl, 1, by kernel_rfl⟩
theorem tyz_impl_leg : TyZ Tryz.prog 77 4 32 (.agg #[.int .i64 0, .int .i64 0, .int .i64 0, .int .i64 0]) := tyz_of (by kernel_rfl) rfl
theorem tyl_sl_impl_wayPoint : TyL Tryz.prog 103 111 5 := ⟨Tryz.underlying103, by kernel_rfl⟩
theorem tys_impl_bound : TyS Tryz.prog 105 3 := ⟨⟨_, Tryz.underlying105, rfl⟩, by kernel_rfl⟩
theorem tyf_impl_bound_0 : TyF Tryz.prog 105 0 0 := ⟨_, _, Tryz.underlying105, rfl, rfl, 0, by kernel_rfl⟩
theorem tyf_impl_bound_1 : TyF Tryz.prog 105 1 1 := ⟨_, _, Tryz.underlying105, rfl, rfl, 0, by kernel_rfl⟩
theorem tyf_impl_bound_2 : TyF Tryz.prog 105 2 2 := ⟨_, _, Tryz.underlying105, rfl, rfl, 0, by kernel_rfl⟩
theorem tyz_impl_bound : TyZ Tryz.prog 105 3 24 (.agg #[.int .i64 0, .int .i64 0, .bool false]) := tyz_of (by kernel_rfl) rfl
theorem tys_impl_pixelWalk : TyS Tryz.prog 107 6 := ⟨⟨_, Tryz.underlying107, rfl⟩, by kernel_rfl⟩
theorem tyf_impl_pixelWalk_0 : TyF Tryz.prog 107 0 0 := ⟨_, _, Tryz.underlying107, rfl, rfl, 2, by kernel_rfl⟩
theorem tyf_impl_pixelWalk_1 : TyF Tryz.prog 107 1 3 := ⟨_, _, Tryz.underlying107, rfl, rfl, 2, by kernel_rfl⟩
theorem tyz_impl_pixelWalk : TyZ Tryz.prog 107 6 48 (.agg #[.int .i64 0, .int .i64 0, .bool false, .int .i64 0, .int .i64 0, .bool false]) := tyz_of (by kernel_rfl) rfl
theorem tys_impl_wayPoint : TyS Tryz.prog 111 5 := ⟨⟨_, Tryz.underlying111, rfl⟩, by kernel_rfl⟩
theorem tyf_impl_wayPoint_0 : TyF Tryz.prog 111 0 0 := ⟨_, _, Tryz.underlying111, rfl, rfl, 1, by kernel_rfl⟩
theorem tyf_impl_wayPoint_1 : TyF Tryz.prog 111 1 2 := ⟨_, _, Tryz.underlying111, rfl, rfl, 2, by kernel_rfl⟩
theorem tyz_impl_wayPoint : TyZ Tryz.prog 111 5 40 (.agg #[.int .i64 0, .int .i64 0, .int .i64 0, .int .i64 0, .bool false]) := tyz_of (by kernel_rfl) rfl
theorem tyl_sl_spec_l13Stop : TyL Tryz.prog 138 146 8 := ⟨Tryz.underlying138, by kernel_rfl⟩
theorem tys_spec_l13Span : TyS Tryz.prog 140 6 := ⟨⟨_, Tryz.underlying140, rfl⟩, by kernel_rfl⟩
theorem tyf_spec_l13Span_0 : TyF Tryz.prog 140 0 0 := ⟨_, _, Tryz.underlying140, rfl, rfl, 0, by kernel_rfl⟩
theorem tyf_spec_l13Span_1 : TyF Tryz.prog 140 1 1 := ⟨_, _, Tryz.underlying140, rfl, rfl, 0, by kernel_rfl⟩
theorem tyf_spec_l13Span_2 : TyF Tryz.prog 140 2 2 := ⟨_, _, Tryz.underlying140, rfl, rfl, 0, by kernel_rfl⟩
theorem tyf_spec_l13Span_3 : TyF Tryz.prog 140 3 3 := ⟨_, _, Tryz.underlying140, rfl, rfl, 0, by kernel_rfl⟩
theorem tyf_spec_l13Span_4 : TyF Tryz.prog 140 4 4 := ⟨_, _, Tryz.underlying140, rfl, rfl, 0, by kernel_rfl⟩
theorem tyf_spec_l13Span_5 : TyF Tryz.prog 140 5 5 := ⟨_, _, Tryz.underlying140, rfl, rfl, 0, by kernel_rfl⟩
theorem tyz_spec_l13Span : TyZ Tryz.prog 140 6 40 (.agg #[.int .i64 0, .int .i64 0, .int .i64 0, .int .i64 0, .bool false, .bool false]) := tyz_of (by kernel_rfl) rfl
theorem tyf_spec_l13Stop_0 : TyF Tryz.prog 146 0 0 := ⟨_, _, Tryz.underlying146, rfl, rfl, 1, by kernel_rfl⟩
theorem tyf_spec_l13Stop_1 : TyF Tryz.prog 146 1 2 := ⟨_, _, Tryz.underlying146, rfl, rfl, 5, by kernel_rfl⟩
theorem tyz_spec_l13Stop : TyZ Tryz.prog 146 8 56 (.agg #[.int .i64 0, .int .i64 0, .int .i64 0, .int .i64 0, .int .i64 0, .int .i64 0, .bool false, .bool false]) := tyz_of (by kernel_rfl) rfl
theorem ok_laws_szRegion : FnOk Tryz.prog 4 := ⟨_, Tryz.func4, by kernel_rfl, rfl⟩
theorem ok_spec_SnapRegion : FnOk Tryz.prog 5 := ⟨_, Tryz.func5, by kernel_rfl, rfl⟩
theorem ok_laws_toRegion : FnOk Tryz.prog 6 := ⟨_, Tryz.func6, by kernel_rfl, rfl⟩
theorem ok_impl_SnapRegion : FnOk Tryz.prog 7 := ⟨_, Tryz.func7, by kernel_rfl, rfl⟩
theorem ok_laws_eqRegion : FnOk Tryz.prog 8 := ⟨_, Tryz.func8, by kernel_rfl, rfl⟩
theorem ok_laws_markRegion : FnOk Tryz.prog 9 := ⟨_, Tryz.func9, by kernel_rfl, rfl⟩
theorem ok_laws_heldRegion : FnOk Tryz.prog 10 := ⟨_, Tryz.func10, by kernel_rfl, rfl⟩
theorem ok_spec_l13Ok : FnOk Tryz.prog 12 := ⟨_, Tryz.func12, by kernel_rfl, rfl⟩
theorem ok_spec_l13Bare : FnOk Tryz.prog 13 := ⟨_, Tryz.func13, by kernel_rfl, rfl⟩
theorem ok_spec_l13Stable : FnOk Tryz.prog 14 := ⟨_, Tryz.func14, by kernel_rfl, rfl⟩
theorem ok_spec_l13Hot : FnOk Tryz.prog 15 := ⟨_, Tryz.func15, by kernel_rfl, rfl⟩
theorem ok_spec_l13All : FnOk Tryz.prog 16 := ⟨_, Tryz.func16, by kernel_rfl, rfl⟩
theorem ok_laws_toRingS : FnOk Tryz.prog 17 := ⟨_, Tryz.func17, by kernel_rfl, rfl⟩
theorem ok_impl_ValidRegion : FnOk Tryz.prog 18 := ⟨_, Tryz.func18, by kernel_rfl, rfl⟩
theorem ok_impl_dropRepeats : FnOk Tryz.prog 19 := ⟨_, Tryz.func19, by kernel_rfl, rfl⟩
theorem ok_impl_snapRounds : FnOk Tryz.prog 20 := ⟨_, Tryz.func20, by kernel_rfl, rfl⟩
theorem ok_impl_hotPoints : FnOk Tryz.prog 21 := ⟨_, Tryz.func21, by kernel_rfl, rfl⟩
theorem ok_impl_edgesOf : FnOk Tryz.prog 22 := ⟨_, Tryz.func22, by kernel_rfl, rfl⟩
theorem ok_laws_markRingS : FnOk Tryz.prog 24 := ⟨_, Tryz.func24, by kernel_rfl, rfl⟩
theorem ok_laws_heldRingS : FnOk Tryz.prog 25 := ⟨_, Tryz.func25, by kernel_rfl, rfl⟩
theorem ok_spec_l13Ring : FnOk Tryz.prog 27 := ⟨_, Tryz.func27, by kernel_rfl, rfl⟩
theorem ok_spec_l13Edges : FnOk Tryz.prog 28 := ⟨_, Tryz.func28, by kernel_rfl, rfl⟩
theorem ok_spec_l13Snapped : FnOk Tryz.prog 29 := ⟨_, Tryz.func29, by kernel_rfl, rfl⟩
theorem ok_spec_SameRegion : FnOk Tryz.prog 30 := ⟨_, Tryz.func30, by kernel_rfl, rfl⟩
theorem ok_spec_l13Put : FnOk Tryz.prog 31 := ⟨_, Tryz.func31, by kernel_rfl, rfl⟩
theorem ok_spec_l13Apart : FnOk Tryz.prog 32 := ⟨_, Tryz.func32, by kernel_rfl, rfl⟩
theorem ok_spec_l03Meeting : FnOk Tryz.prog 33 := ⟨_, Tryz.func33, by kernel_rfl, rfl⟩
theorem ok_spec_l03Crossing : FnOk Tryz.prog 34 := ⟨_, Tryz.func34, by kernel_rfl, rfl⟩
theorem ok_laws_toRing : FnOk Tryz.prog 35 := ⟨_, Tryz.func35, by kernel_rfl, rfl⟩
theorem ok_impl_ValidRing : FnOk Tryz.prog 36 := ⟨_, Tryz.func36, by kernel_rfl, rfl⟩
theorem ok_impl_edgesOfRing : FnOk Tryz.prog 37 := ⟨_, Tryz.func37, by kernel_rfl, rfl⟩
theorem ok_impl_snapEdge : FnOk Tryz.prog 38 := ⟨_, Tryz.func38, by kernel_rfl, rfl⟩
theorem ok_impl_SameRegion : FnOk Tryz.prog 39 := ⟨_, Tryz.func39, by kernel_rfl, rfl⟩
theorem ok_impl_meeting : FnOk Tryz.prog 40 := ⟨_, Tryz.func40, by kernel_rfl, rfl⟩
theorem ok_impl_crossing : FnOk Tryz.prog 41 := ⟨_, Tryz.func41, by kernel_rfl, rfl⟩
theorem ok_slices_SortFunc_sl_impl_Pt_impl_Pt : FnOk Tryz.prog 42 := ⟨_, Tryz.func42, by kernel_rfl, rfl⟩
theorem ok_slices_Compact_sl_impl_Pt_impl_Pt : FnOk Tryz.prog 44 := ⟨_, Tryz.func44, by kernel_rfl, rfl⟩
theorem ok_laws_markPtS : FnOk Tryz.prog 46 := ⟨_, Tryz.func46, by kernel_rfl, rfl⟩
theorem ok_laws_heldPtS : FnOk Tryz.prog 47 := ⟨_, Tryz.func47, by kernel_rfl, rfl⟩
theorem ok_spec_l00In : FnOk Tryz.prog 49 := ⟨_, Tryz.func49, by kernel_rfl, rfl⟩
theorem ok_spec_l13Points : FnOk Tryz.prog 50 := ⟨_, Tryz.func50, by kernel_rfl, rfl⟩
theorem ok_spec_l13Snap : FnOk Tryz.prog 51 := ⟨_, Tryz.func51, by kernel_rfl, rfl⟩
theorem ok_spec_l13Before : FnOk Tryz.prog 53 := ⟨_, Tryz.func53, by kernel_rfl, rfl⟩
theorem ok_spec_l00Max : FnOk Tryz.prog 54 := ⟨_, Tryz.func54, by kernel_rfl, rfl⟩
theorem ok_spec_l00Min : FnOk Tryz.prog 55 := ⟨_, Tryz.func55, by kernel_rfl, rfl⟩
theorem ok_spec_l03Ends : FnOk Tryz.prog 56 := ⟨_, Tryz.func56, by kernel_rfl, rfl⟩
theorem ok_spec_l03Sign : FnOk Tryz.prog 57 := ⟨_, Tryz.func57, by kernel_rfl, rfl⟩
theorem ok_spec_l03Turn : FnOk Tryz.prog 58 := ⟨_, Tryz.func58, by kernel_rfl, rfl⟩
theorem ok_spec_l03Round : FnOk Tryz.prog 59 := ⟨_, Tryz.func59, by kernel_rfl, rfl⟩
theorem ok_impl_isPath : FnOk Tryz.prog 61 := ⟨_, Tryz.func61, by kernel_rfl, rfl⟩
theorem ok_impl_boundsOf : FnOk Tryz.prog 62 := ⟨_, Tryz.func62, by kernel_rfl, rfl⟩
theorem ok_slices_BinarySearchFunc_sl_impl_Pt_impl_Pt_int64 : FnOk Tryz.prog 63 := ⟨_, Tryz.func63, by kernel_rfl, rfl⟩
theorem ok_impl_snapEdge_1 : FnOk Tryz.prog 64 := ⟨_, Tryz.func64, by kernel_rfl, rfl⟩
theorem ok_impl_sign64 : FnOk Tryz.prog 65 := ⟨_, Tryz.func65, by kernel_rfl, rfl⟩
theorem ok_impl_walkPixel : FnOk Tryz.prog 66 := ⟨_, Tryz.func66, by kernel_rfl, rfl⟩
theorem ok_slices_SortStableFunc_sl_impl_wayPoint_impl_wayPoint : FnOk Tryz.prog 67 := ⟨_, Tryz.func67, by kernel_rfl, rfl⟩
theorem ok_impl_snapEdge_2 : FnOk Tryz.prog 68 := ⟨_, Tryz.func68, by kernel_rfl, rfl⟩
theorem ok_impl_compareBound : FnOk Tryz.prog 69 := ⟨_, Tryz.func69, by kernel_rfl, rfl⟩
theorem ok_slices_EqualFunc_sl_impl_Ring_sl_impl_Ring_impl_Ring_impl_Ring : FnOk Tryz.prog 70 := ⟨_, Tryz.func70, by kernel_rfl, rfl⟩
theorem ok_impl_SameRegion_1 : FnOk Tryz.prog 71 := ⟨_, Tryz.func71, by kernel_rfl, rfl⟩
theorem ok_slices_Equal_sl_impl_Pt_impl_Pt : FnOk Tryz.prog 72 := ⟨_, Tryz.func72, by kernel_rfl, rfl⟩
theorem ok_impl_turn : FnOk Tryz.prog 73 := ⟨_, Tryz.func73, by kernel_rfl, rfl⟩
theorem ok_impl_greaterPt : FnOk Tryz.prog 74 := ⟨_, Tryz.func74, by kernel_rfl, rfl⟩
theorem ok_impl_lesserPt : FnOk Tryz.prog 75 := ⟨_, Tryz.func75, by kernel_rfl, rfl⟩
theorem ok_impl_comparePt : FnOk Tryz.prog 76 := ⟨_, Tryz.func76, by kernel_rfl, rfl⟩
theorem ok_impl_onSegment : FnOk Tryz.prog 77 := ⟨_, Tryz.func77, by kernel_rfl, rfl⟩
theorem ok_spec_l13Path : FnOk Tryz.prog 83 := ⟨_, Tryz.func83, by kernel_rfl, rfl⟩
theorem ok_spec_l03On : FnOk Tryz.prog 84 := ⟨_, Tryz.func84, by kernel_rfl, rfl⟩
theorem ok_impl_validPts : FnOk Tryz.prog 86 := ⟨_, Tryz.func86, by kernel_rfl, rfl⟩
theorem ok_p_impl_pixelWalk_clip : FnOk Tryz.prog 87 := ⟨_, Tryz.func87, by kernel_rfl, rfl⟩
theorem ok_slices_stableCmpFunc_impl_wayPoint : FnOk Tryz.prog 88 := ⟨_, Tryz.func88, by kernel_rfl, rfl⟩
theorem ok_slices_insertionSortCmpFunc_impl_Pt : FnOk Tryz.prog 90 := ⟨_, Tryz.func90, by kernel_rfl, rfl⟩
theorem ok_spec_l09Corners : FnOk Tryz.prog 101 := ⟨_, Tryz.func101, by kernel_rfl, rfl⟩
theorem ok_spec_l13Inside : FnOk Tryz.prog 102 := ⟨_, Tryz.func102, by kernel_rfl, rfl⟩
theorem ok_spec_l13Sooner : FnOk Tryz.prog 103 := ⟨_, Tryz.func103, by kernel_rfl, rfl⟩
theorem ok_spec_l03Box : FnOk Tryz.prog 104 := ⟨_, Tryz.func104, by kernel_rfl, rfl⟩
theorem ok_slices_insertionSortCmpFunc_impl_wayPoint : FnOk Tryz.prog 106 := ⟨_, Tryz.func106, by kernel_rfl, rfl⟩
theorem ok_slices_symMergeCmpFunc_impl_wayPoint : FnOk Tryz.prog 107 := ⟨_, Tryz.func107, by kernel_rfl, rfl⟩
theorem ok_spec_l13Clip : FnOk Tryz.prog 113 := ⟨_, Tryz.func113, by kernel_rfl, rfl⟩
theorem ok_spec_l13Meet : FnOk Tryz.prog 114 := ⟨_, Tryz.func114, by kernel_rfl, rfl⟩
theorem ok_slices_rotateCmpFunc_impl_wayPoint : FnOk Tryz.prog 115 := ⟨_, Tryz.func115, by kernel_rfl, rfl⟩
theorem ok_slices_swapRangeCmpFunc_impl_wayPoint : FnOk Tryz.prog 117 := ⟨_, Tryz.func117, by kernel_rfl, rfl⟩
theorem bld_impl_Region_ (w : World) : (Instr.build 28 #[]).run Tryz.prog w = .ok (.agg #[.slice none 0 0]) w := by
 rw [build_agg]
 simp only [List.map_toArray, List.map_cons, List.map_nil]
 simp [Instr.build, Instr.fill, go_sem]
theorem bld_impl_Ring_ (w : World) : (Instr.build 61 #[]).run Tryz.prog w = .ok (.agg #[.slice none 0 0]) w := by
 rw [build_agg]
 simp only [List.map_toArray, List.map_cons, List.map_nil]
 simp [Instr.build, Instr.fill, go_sem]
theorem bld_impl_Ring_0 {v0 a0_0 : Value} (h0 : v0.cells = #[a0_0]) (w : World) : (Instr.build 61 #[(0, v0)]).run Tryz.prog w = .ok (.agg #[a0_0]) w := by
 rw [build_agg]
 simp only [List.map_toArray, List.map_cons, List.map_nil, h0]
 simp [Instr.build, Instr.fill, go_sem]
theorem bld_impl_Pt_ (w : World) : (Instr.build 64 #[]).run Tryz.prog w = .ok (.agg #[.int .i64 0, .int .i64 0]) w := by
 rw [build_agg]
 simp only [List.map_toArray, List.map_cons, List.map_nil]
 simp [Instr.build, Instr.fill, go_sem]
theorem bld_impl_Pt_0_1 {v0 a0_0 : Value} (h0 : v0.cells = #[a0_0]) {v1 a1_0 : Value} (h1 : v1.cells = #[a1_0]) (w : World) : (Instr.build 64 #[(0, v0), (1, v1)]).run Tryz.prog w = .ok (.agg #[a0_0, a1_0]) w := by
 rw [build_agg]
 simp only [List.map_toArray, List.map_cons, List.map_nil, h0, h1]
 simp [Instr.build, Instr.fill, go_sem]
theorem bld_impl_bound_0_1_2 {v0 a0_0 : Value} (h0 : v0.cells = #[a0_0]) {v1 a1_0 : Value} (h1 : v1.cells = #[a1_0]) {v2 a2_0 : Value} (h2 : v2.cells = #[a2_0]) (w : World) : (Instr.build 105 #[(0, v0), (1, v1), (2, v2)]).run Tryz.prog w = .ok (.agg #[a0_0, a1_0, a2_0]) w := by
 rw [build_agg]
 simp only [List.map_toArray, List.map_cons, List.map_nil, h0, h1, h2]
 simp [Instr.build, Instr.fill, go_sem]
theorem bld_impl_pixelWalk_0_1 {v0 a0_0 a0_1 a0_2 : Value} (h0 : v0.cells = #[a0_0, a0_1, a0_2]) {v1 a1_0 a1_1 a1_2 : Value} (h1 : v1.cells = #[a1_0, a1_1, a1_2]) (w : World) : (Instr.build 107 #[(0, v0), (1, v1)]).run Tryz.prog w = .ok (.agg #[a0_0, a0_1, a0_2, a1_0, a1_1, a1_2]) w := by
 rw [build_agg]
 simp only [List.map_toArray, List.map_cons, List.map_nil, h0, h1]
 simp [Instr.build, Instr.fill, go_sem]
theorem bld_impl_wayPoint_0_1 {v0 a0_0 a0_1 : Value} (h0 : v0.cells = #[a0_0, a0_1]) {v1 a1_0 a1_1 a1_2 : Value} (h1 : v1.cells = #[a1_0, a1_1, a1_2]) (w : World) : (Instr.build 111 #[(0, v0), (1, v1)]).run Tryz.prog w = .ok (.agg #[a0_0, a0_1, a1_0, a1_1, a1_2]) w := by
 rw [build_agg]
 simp only [List.map_toArray, List.map_cons, List.map_nil, h0, h1]
 simp [Instr.build, Instr.fill, go_sem]
theorem bld_spec_l13Span_0_1_2_3_4 {v0 a0_0 : Value} (h0 : v0.cells = #[a0_0]) {v1 a1_0 : Value} (h1 : v1.cells = #[a1_0]) {v2 a2_0 : Value} (h2 : v2.cells = #[a2_0]) {v3 a3_0 : Value} (h3 : v3.cells = #[a3_0]) {v4 a4_0 : Value} (h4 : v4.cells = #[a4_0]) (w : World) : (Instr.build 140 #[(0, v0), (1, v1), (2, v2), (3, v3), (4, v4)]).run Tryz.prog w = .ok (.agg #[a0_0, a1_0, a2_0, a3_0, a4_0, .bool false]) w := by
 rw [build_agg]
 simp only [List.map_toArray, List.map_cons, List.map_nil, h0, h1, h2, h3, h4]
 simp [Instr.build, Instr.fill, go_sem]
theorem bld_spec_l13Span_0_1_2_3_4_5 {v0 a0_0 : Value} (h0 : v0.cells = #[a0_0]) {v1 a1_0 : Value} (h1 : v1.cells = #[a1_0]) {v2 a2_0 : Value} (h2 : v2.cells = #[a2_0]) {v3 a3_0 : Value} (h3 : v3.cells = #[a3_0]) {v4 a4_0 : Value} (h4 : v4.cells = #[a4_0]) {v5 a5_0 : Value} (h5 : v5.cells = #[a5_0]) (w : World) : (Instr.build 140 #[(0, v0), (1, v1), (2, v2), (3, v3), (4, v4), (5, v5)]).run Tryz.prog w = .ok (.agg #[a0_0, a1_0, a2_0, a3_0, a4_0, a5_0]) w := by
 rw [build_agg]
 simp only [List.map_toArray, List.map_cons, List.map_nil, h0, h1, h2, h3, h4, h5]
 simp [Instr.build, Instr.fill, go_sem]
theorem bld_spec_l13Span_0_1_2_3_5 {v0 a0_0 : Value} (h0 : v0.cells = #[a0_0]) {v1 a1_0 : Value} (h1 : v1.cells = #[a1_0]) {v2 a2_0 : Value} (h2 : v2.cells = #[a2_0]) {v3 a3_0 : Value} (h3 : v3.cells = #[a3_0]) {v4 a4_0 : Value} (h4 : v4.cells = #[a4_0]) (w : World) : (Instr.build 140 #[(0, v0), (1, v1), (2, v2), (3, v3), (5, v4)]).run Tryz.prog w = .ok (.agg #[a0_0, a1_0, a2_0, a3_0, .bool false, a4_0]) w := by
 rw [build_agg]
 simp only [List.map_toArray, List.map_cons, List.map_nil, h0, h1, h2, h3, h4]
 simp [Instr.build, Instr.fill, go_sem]
theorem bld_spec_l13Stop_0_1 {v0 a0_0 a0_1 : Value} (h0 : v0.cells = #[a0_0, a0_1]) {v1 a1_0 a1_1 a1_2 a1_3 a1_4 a1_5 : Value} (h1 : v1.cells = #[a1_0, a1_1, a1_2, a1_3, a1_4, a1_5]) (w : World) : (Instr.build 146 #[(0, v0), (1, v1)]).run Tryz.prog w = .ok (.agg #[a0_0, a0_1, a1_0, a1_1, a1_2, a1_3, a1_4, a1_5]) w := by
 rw [build_agg]
 simp only [List.map_toArray, List.map_cons, List.map_nil, h0, h1]
 simp [Instr.build, Instr.fill, go_sem]
theorem bsl_sl_impl_Ring_1_0 {v0 a0_0 : Value} (h0 : v0.cells = #[a0_0]) (w : World) : (Instr.buildSlice 26 1 #[(0, v0)]).run Tryz.prog w = .ok (.slice (some ⟨w.heap.size, 0, none⟩) 1 1) (w.alloc (.cells [a0_0].toArray 61)) := by
 rw [buildSlice_agg]
 simp only [List.map_toArray, List.map_cons, List.map_nil, h0]
 simp [Instr.buildSlice, Instr.fill, go_sem]
theorem bsl_sl_impl_Pt_0 (w : World) : (Instr.buildSlice 41 0 #[]).run Tryz.prog w = .ok (.slice (some ⟨w.heap.size, 0, none⟩) 0 0) (w.alloc (.cells [].toArray 64)) := by
 rw [buildSlice_agg]
 simp only [List.map_toArray, List.map_cons, List.map_nil]
 simp [Instr.buildSlice, Instr.fill, go_sem]
theorem bsl_sl_impl_Pt_1_0 {v0 a0_0 a0_1 : Value} (h0 : v0.cells = #[a0_0, a0_1]) (w : World) : (Instr.buildSlice 41 1 #[(0, v0)]).run Tryz.prog w = .ok (.slice (some ⟨w.heap.size, 0, none⟩) 1 1) (w.alloc (.cells [a0_0, a0_1].toArray 64)) := by
 rw [buildSlice_agg]
 simp only [List.map_toArray, List.map_cons, List.map_nil, h0]
 simp [Instr.buildSlice, Instr.fill, go_sem]
theorem bsl_sl_impl_Pt_2_0_1 {v0 a0_0 a0_1 : Value} (h0 : v0.cells = #[a0_0, a0_1]) {v1 a1_0 a1_1 : Value} (h1 : v1.cells = #[a1_0, a1_1]) (w : World) : (Instr.buildSlice 41 2 #[(0, v0), (1, v1)]).run Tryz.prog w = .ok (.slice (some ⟨w.heap.size, 0, none⟩) 2 2) (w.alloc (.cells [a0_0, a0_1, a1_0, a1_1].toArray 64)) := by
 rw [buildSlice_agg]
 simp only [List.map_toArray, List.map_cons, List.map_nil, h0, h1]
 simp [Instr.buildSlice, Instr.fill, go_sem]
theorem bsl_sl_impl_Pt_4_0_1_2_3 {v0 a0_0 a0_1 : Value} (h0 : v0.cells = #[a0_0, a0_1]) {v1 a1_0 a1_1 : Value} (h1 : v1.cells = #[a1_0, a1_1]) {v2 a2_0 a2_1 : Value} (h2 : v2.cells = #[a2_0, a2_1]) {v3 a3_0 a3_1 : Value} (h3 : v3.cells = #[a3_0, a3_1]) (w : World) : (Instr.buildSlice 41 4 #[(0, v0), (1, v1), (2, v2), (3, v3)]).run Tryz.prog w = .ok (.slice (some ⟨w.heap.size, 0, none⟩) 4 4) (w.alloc (.cells [a0_0, a0_1, a1_0, a1_1, a2_0, a2_1, a3_0, a3_1].toArray 64)) := by
 rw [buildSlice_agg]
 simp only [List.map_toArray, List.map_cons, List.map_nil, h0, h1, h2, h3]
 simp [Instr.buildSlice, Instr.fill, go_sem]
theorem bsl_sl_impl_wayPoint_1_0 {v0 a0_0 a0_1 a0_2 a0_3 a0_4 : Value} (h0 : v0.cells = #[a0_0, a0_1, a0_2, a0_3, a0_4]) (w : World) : (Instr.buildSlice 103 1 #[(0, v0)]).run Tryz.prog w = .ok (.slice (some ⟨w.heap.size, 0, none⟩) 1 1) (w.alloc (.cells [a0_0, a0_1, a0_2, a0_3, a0_4].toArray 111)) := by
 rw [buildSlice_agg]
 simp only [List.map_toArray, List.map_cons, List.map_nil, h0]
 simp [Instr.buildSlice, Instr.fill, go_sem]
theorem bsl_sl_spec_l13Stop_0 (w : World) : (Instr.buildSlice 138 0 #[]).run Tryz.prog w = .ok (.slice (some ⟨w.heap.size, 0, none⟩) 0 0) (w.alloc (.cells [].toArray 146)) := by
 rw [buildSlice_agg]
 simp only [List.map_toArray, List.map_cons, List.map_nil]
 simp [Instr.buildSlice, Instr.fill, go_sem]
theorem bsl_sl_spec_l13Stop_1_0 {v0 a0_0 a0_1 a0_2 a0_3 a0_4 a0_5 a0_6 a0_7 : Value} (h0 : v0.cells = #[a0_0, a0_1, a0_2, a0_3, a0_4, a0_5, a0_6, a0_7]) (w : World) : (Instr.buildSlice 138 1 #[(0, v0)]).run Tryz.prog w = .ok (.slice (some ⟨w.heap.size, 0, none⟩) 1 1) (w.alloc (.cells [a0_0, a0_1, a0_2, a0_3, a0_4, a0_5, a0_6, a0_7].toArray 146)) := by
 rw [buildSlice_agg]
 simp only [List.map_toArray, List.map_cons, List.map_nil, h0]
 simp [Instr.buildSlice, Instr.fill, go_sem]
theorem qt_eqlS_impl_Pt {o : Oper} {n : Nat} {env : List (Nat × Value)} {w0 : Bs} {Rs : List Res} {x y : Operand} {T' : TypeId} {a0 a1 b0 b1 : Int} (ho : o.op = .binOp .eql 64 x y T') (hx : ev env x = some (.agg #[.int .i64 a0, .int .i64 a1])) (hy : ev env y = some (.agg #[.int .i64 b0, .int .i64 b1])) : Qt Tryz.prog o n env w0 Rs (.bool ((a0 == b0) && (a1 == b1))) :=
 qt_of fun a w hF _ => by
  unfold execOp; simp only [ho, hF.ev hx, hF.ev hy]
  cases h0 : (a0 == b0); all_goals cases h1 : (a1 == b1)
  all_goals simp [go_sem, *]
theorem qt_neqS_impl_Pt {o : Oper} {n : Nat} {env : List (Nat × Value)} {w0 : Bs} {Rs : List Res} {x y : Operand} {T' : TypeId} {a0 a1 b0 b1 : Int} (ho : o.op = .binOp .neq 64 x y T') (hx : ev env x = some (.agg #[.int .i64 a0, .int .i64 a1])) (hy : ev env y = some (.agg #[.int .i64 b0, .int .i64 b1])) : Qt Tryz.prog o n env w0 Rs (.bool (!((a0 == b0) && (a1 == b1)))) :=
 qt_of fun a w hF _ => by
  unfold execOp; simp only [ho, hF.ev hx, hF.ev hy]
  cases h0 : (a0 == b0); all_goals cases h1 : (a1 == b1)
  all_goals simp [go_sem, *]
theorem mixed : Tryz.prog.follows .mixedOrders = true := by kernel_rfl
end Go.Proofs.YtakdjgldcpompaaGreat
