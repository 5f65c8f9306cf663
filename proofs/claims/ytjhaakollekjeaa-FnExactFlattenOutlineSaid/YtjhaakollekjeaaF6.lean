import Derived.Test.YtjhaakollekjeaaF5
import Derived.Test.YtjhaakollekjeaaF2
import Derived.Test.YtjhaakollekjeaaF3
import Derived.Test.YtjhaakollekjeaaF1
namespace Go.Proofs.Ytjhaakollekjeaa
open Go Go.RowKit
set_option maxRecDepth 100000
set_option linter.unusedSimpArgs false
set_option linter.unusedVariables false

theorem tyz_of {P : Program} {T m k : Nat} {z : Value} (h : (P.info? T).map (fun i => (i.zero, i.size, i.bytes)) = some (some z, m, k)) (hc : z.cells.size = m) : TyZ P T m k z := by
 cases hi : P.info? T with
 | none => simp [hi] at h
 | some i =>
  simp only [hi, Option.map_some, Option.some.injEq, Prod.mk.injEq] at h
  exact ⟨⟨i, hi, h.1, h.2.1, h.2.2⟩, hc⟩
theorem ty1_int64 : Ty1 Try.prog 2 := ⟨⟨_, Try.underlying2, rfl⟩, by kernel_rfl⟩
theorem tyz_int64 : TyZ Try.prog 2 1 8 (.int .i64 0) := tyz_of (by kernel_rfl) rfl
theorem ty1_bool : Ty1 Try.prog 4 := ⟨⟨_, Try.underlying4, rfl⟩, by kernel_rfl⟩
theorem tyb_bool : Try.prog.underlying 4 = some .bool := Try.underlying4
theorem tyz_bool : TyZ Try.prog 4 1 1 (.bool false) := tyz_of (by kernel_rfl) rfl
theorem ty1_sl_impl_Ring : Ty1 Try.prog 27 := ⟨⟨_, Try.underlying27, rfl⟩, by kernel_rfl⟩
theorem tyl_sl_impl_Ring : TyL Try.prog 27 75 1 := ⟨Try.underlying27, by kernel_rfl⟩
theorem tyz_sl_impl_Ring : TyZ Try.prog 27 1 24 (.slice none 0 0) := tyz_of (by kernel_rfl) rfl
theorem tys_impl_Region : TyS Try.prog 29 1 := ⟨⟨_, Try.underlying29, rfl⟩, by kernel_rfl⟩
theorem tyf_impl_Region_0 : TyF Try.prog 29 0 0 := ⟨_, _, Try.underlying29, rfl, rfl, 0, by kernel_rfl⟩
theorem tyz_impl_Region : TyZ Try.prog 29 1 24 (.agg #[.slice none 0 0]) := tyz_of (by kernel_rfl) rfl
theorem ty1_sl_laws_Loop : Ty1 Try.prog 33 := ⟨⟨_, Try.underlying33, rfl⟩, by kernel_rfl⟩
theorem tyl_sl_laws_Loop : TyL Try.prog 33 133 1 := ⟨Try.underlying33, by kernel_rfl⟩
theorem tys_laws_Outline : TyS Try.prog 35 1 := ⟨⟨_, Try.underlying35, rfl⟩, by kernel_rfl⟩
theorem tyf_laws_Outline_0 : TyF Try.prog 35 0 0 := ⟨_, _, Try.underlying35, rfl, rfl, 0, by kernel_rfl⟩
theorem ty1_sl_impl_Loop : Ty1 Try.prog 39 := ⟨⟨_, Try.underlying39, rfl⟩, by kernel_rfl⟩
theorem tyl_sl_impl_Loop : TyL Try.prog 39 93 1 := ⟨Try.underlying39, by kernel_rfl⟩
theorem tyz_sl_impl_Loop : TyZ Try.prog 39 1 24 (.slice none 0 0) := tyz_of (by kernel_rfl) rfl
theorem tys_impl_Outline : TyS Try.prog 41 1 := ⟨⟨_, Try.underlying41, rfl⟩, by kernel_rfl⟩
theorem tyf_impl_Outline_0 : TyF Try.prog 41 0 0 := ⟨_, _, Try.underlying41, rfl, rfl, 0, by kernel_rfl⟩
theorem tyz_impl_Outline : TyZ Try.prog 41 1 24 (.agg #[.slice none 0 0]) := tyz_of (by kernel_rfl) rfl
theorem ty1_sl_impl_Pt : Ty1 Try.prog 53 := ⟨⟨_, Try.underlying53, rfl⟩, by kernel_rfl⟩
theorem tyl_sl_impl_Pt : TyL Try.prog 53 103 2 := ⟨Try.underlying53, by kernel_rfl⟩
theorem tyz_sl_impl_Pt : TyZ Try.prog 53 1 24 (.slice none 0 0) := tyz_of (by kernel_rfl) rfl
theorem tys_impl_Ring : TyS Try.prog 75 1 := ⟨⟨_, Try.underlying75, rfl⟩, by kernel_rfl⟩
theorem tyf_impl_Ring_0 : TyF Try.prog 75 0 0 := ⟨_, _, Try.underlying75, rfl, rfl, 0, by kernel_rfl⟩
theorem tyz_impl_Ring : TyZ Try.prog 75 1 24 (.agg #[.slice none 0 0]) := tyz_of (by kernel_rfl) rfl
theorem ty1_sl_impl_Knot : Ty1 Try.prog 91 := ⟨⟨_, Try.underlying91, rfl⟩, by kernel_rfl⟩
theorem tyl_sl_impl_Knot : TyL Try.prog 91 182 3 := ⟨Try.underlying91, by kernel_rfl⟩
theorem tyz_sl_impl_Knot : TyZ Try.prog 91 1 24 (.slice none 0 0) := tyz_of (by kernel_rfl) rfl
theorem tys_impl_Loop : TyS Try.prog 93 1 := ⟨⟨_, Try.underlying93, rfl⟩, by kernel_rfl⟩
theorem tyf_impl_Loop_0 : TyF Try.prog 93 0 0 := ⟨_, _, Try.underlying93, rfl, rfl, 0, by kernel_rfl⟩
theorem tyz_impl_Loop : TyZ Try.prog 93 1 24 (.agg #[.slice none 0 0]) := tyz_of (by kernel_rfl) rfl
theorem tys_impl_Pt : TyS Try.prog 103 2 := ⟨⟨_, Try.underlying103, rfl⟩, by kernel_rfl⟩
theorem tyf_impl_Pt_0 : TyF Try.prog 103 0 0 := ⟨_, _, Try.underlying103, rfl, rfl, 0, by kernel_rfl⟩
theorem tyf_impl_Pt_1 : TyF Try.prog 103 1 1 := ⟨_, _, Try.underlying103, rfl, rfl, 0, by kernel_rfl⟩
theorem tyz_impl_Pt : TyZ Try.prog 103 2 16 (.agg #[.int .i64 0, .int .i64 0]) := tyz_of (by kernel_rfl) rfl
theorem tys_laws_Pt : TyS Try.prog 109 2 := ⟨⟨_, Try.underlying109, rfl⟩, by kernel_rfl⟩
theorem ty1_sl_laws_Knot : Ty1 Try.prog 131 := ⟨⟨_, Try.underlying131, rfl⟩, by kernel_rfl⟩
theorem tyl_sl_laws_Knot : TyL Try.prog 131 218 3 := ⟨Try.underlying131, by kernel_rfl⟩
theorem tys_laws_Loop : TyS Try.prog 133 1 := ⟨⟨_, Try.underlying133, rfl⟩, by kernel_rfl⟩
theorem tyf_laws_Loop_0 : TyF Try.prog 133 0 0 := ⟨_, _, Try.underlying133, rfl, rfl, 0, by kernel_rfl⟩
theorem tyl_sl_impl_loopSegment : TyL Try.prog 142 147 7 := ⟨Try.underlying142, by kernel_rfl⟩
theorem tys_impl_Quad : TyS Try.prog 145 6 := ⟨⟨_, Try.underlying145, rfl⟩, by kernel_rfl⟩
theorem tyf_impl_Quad_0 : TyF Try.prog 145 0 0 := ⟨_, _, Try.underlying145, rfl, rfl, 1, by kernel_rfl⟩
theorem tyf_impl_Quad_1 : TyF Try.prog 145 1 2 := ⟨_, _, Try.underlying145, rfl, rfl, 1, by kernel_rfl⟩
theorem tyf_impl_Quad_2 : TyF Try.prog 145 2 4 := ⟨_, _, Try.underlying145, rfl, rfl, 1, by kernel_rfl⟩
theorem tys_impl_loopSegment : TyS Try.prog 147 7 := ⟨⟨_, Try.underlying147, rfl⟩, by kernel_rfl⟩
theorem tyf_impl_loopSegment_0 : TyF Try.prog 147 0 0 := ⟨_, _, Try.underlying147, rfl, rfl, 5, by kernel_rfl⟩
theorem tyf_impl_loopSegment_1 : TyF Try.prog 147 1 6 := ⟨_, _, Try.underlying147, rfl, rfl, 0, by kernel_rfl⟩
theorem tyz_impl_loopSegment : TyZ Try.prog 147 7 56 (.agg #[.int .i64 0, .int .i64 0, .int .i64 0, .int .i64 0, .int .i64 0, .int .i64 0, .bool false]) := tyz_of (by kernel_rfl) rfl
theorem tys_impl_Knot : TyS Try.prog 182 3 := ⟨⟨_, Try.underlying182, rfl⟩, by kernel_rfl⟩
theorem tyf_impl_Knot_0 : TyF Try.prog 182 0 0 := ⟨_, _, Try.underlying182, rfl, rfl, 1, by kernel_rfl⟩
theorem tyf_impl_Knot_1 : TyF Try.prog 182 1 2 := ⟨_, _, Try.underlying182, rfl, rfl, 0, by kernel_rfl⟩
theorem tyz_impl_Knot : TyZ Try.prog 182 3 24 (.agg #[.int .i64 0, .int .i64 0, .bool false]) := tyz_of (by kernel_rfl) rfl
theorem tys_laws_Knot : TyS Try.prog 218 3 := ⟨⟨_, Try.underlying218, rfl⟩, by kernel_rfl⟩
theorem tyf_laws_Knot_0 : TyF Try.prog 218 0 0 := ⟨_, _, Try.underlying218, rfl, rfl, 1, by kernel_rfl⟩
theorem tyf_laws_Knot_1 : TyF Try.prog 218 1 2 := ⟨_, _, Try.underlying218, rfl, rfl, 0, by kernel_rfl⟩
theorem tyl_sl_int64 : TyL Try.prog 220 2 1 := ⟨Try.underlying220, by kernel_rfl⟩
theorem ok_laws_eqRegion : FnOk Try.prog 10 := ⟨_, Try.func10, by kernel_rfl, rfl⟩
theorem ok_laws_szOutline : FnOk Try.prog 11 := ⟨_, Try.func11, by kernel_rfl, rfl⟩
theorem ok_spec_FlattenOutline : FnOk Try.prog 12 := ⟨_, Try.func12, by kernel_rfl, rfl⟩
theorem ok_laws_toOutline : FnOk Try.prog 13 := ⟨_, Try.func13, by kernel_rfl, rfl⟩
theorem ok_impl_FlattenOutline : FnOk Try.prog 14 := ⟨_, Try.func14, by kernel_rfl, rfl⟩
theorem ok_laws_eqOutline : FnOk Try.prog 15 := ⟨_, Try.func15, by kernel_rfl, rfl⟩
theorem ok_laws_markOutline : FnOk Try.prog 16 := ⟨_, Try.func16, by kernel_rfl, rfl⟩
theorem ok_laws_markRegion : FnOk Try.prog 17 := ⟨_, Try.func17, by kernel_rfl, rfl⟩
theorem ok_laws_heldRegion : FnOk Try.prog 18 := ⟨_, Try.func18, by kernel_rfl, rfl⟩
theorem ok_laws_markPtS : FnOk Try.prog 25 := ⟨_, Try.func25, by kernel_rfl, rfl⟩
theorem ok_laws_heldPtS : FnOk Try.prog 26 := ⟨_, Try.func26, by kernel_rfl, rfl⟩
theorem ok_spec_l13Ok : FnOk Try.prog 28 := ⟨_, Try.func28, by kernel_rfl, rfl⟩
theorem ok_impl_ValidRegion : FnOk Try.prog 31 := ⟨_, Try.func31, by kernel_rfl, rfl⟩
theorem ok_laws_szLoopS : FnOk Try.prog 36 := ⟨_, Try.func36, by kernel_rfl, rfl⟩
theorem ok_spec_l10Ok : FnOk Try.prog 37 := ⟨_, Try.func37, by kernel_rfl, rfl⟩
theorem ok_spec_l09Tolerance : FnOk Try.prog 38 := ⟨_, Try.func38, by kernel_rfl, rfl⟩
theorem ok_spec_l10Region : FnOk Try.prog 39 := ⟨_, Try.func39, by kernel_rfl, rfl⟩
theorem ok_laws_toLoopS : FnOk Try.prog 40 := ⟨_, Try.func40, by kernel_rfl, rfl⟩
theorem ok_impl_ValidOutline : FnOk Try.prog 41 := ⟨_, Try.func41, by kernel_rfl, rfl⟩
theorem ok_impl_isTolerance : FnOk Try.prog 42 := ⟨_, Try.func42, by kernel_rfl, rfl⟩
theorem ok_impl_flattenLoop : FnOk Try.prog 43 := ⟨_, Try.func43, by kernel_rfl, rfl⟩
theorem ok_laws_eqLoopS : FnOk Try.prog 44 := ⟨_, Try.func44, by kernel_rfl, rfl⟩
theorem ok_laws_markLoopS : FnOk Try.prog 45 := ⟨_, Try.func45, by kernel_rfl, rfl⟩
theorem ok_laws_markRingS : FnOk Try.prog 46 := ⟨_, Try.func46, by kernel_rfl, rfl⟩
theorem ok_laws_heldRingS : FnOk Try.prog 47 := ⟨_, Try.func47, by kernel_rfl, rfl⟩
theorem ok_laws_toPt : FnOk Try.prog 53 := ⟨_, Try.func53, by kernel_rfl, rfl⟩
theorem ok_laws_eqPt : FnOk Try.prog 58 := ⟨_, Try.func58, by kernel_rfl, rfl⟩
theorem ok_laws_szLoop : FnOk Try.prog 70 := ⟨_, Try.func70, by kernel_rfl, rfl⟩
theorem ok_spec_l10Loop : FnOk Try.prog 71 := ⟨_, Try.func71, by kernel_rfl, rfl⟩
theorem ok_spec_l00In : FnOk Try.prog 72 := ⟨_, Try.func72, by kernel_rfl, rfl⟩
theorem ok_spec_l10Ring : FnOk Try.prog 73 := ⟨_, Try.func73, by kernel_rfl, rfl⟩
theorem ok_laws_toLoop : FnOk Try.prog 74 := ⟨_, Try.func74, by kernel_rfl, rfl⟩
theorem ok_slices_ContainsFunc_sl_impl_Loop_impl_Loop : FnOk Try.prog 75 := ⟨_, Try.func75, by kernel_rfl, rfl⟩
theorem ok_impl_ValidOutline_1 : FnOk Try.prog 76 := ⟨_, Try.func76, by kernel_rfl, rfl⟩
theorem ok_impl_ValidLoop : FnOk Try.prog 77 := ⟨_, Try.func77, by kernel_rfl, rfl⟩
theorem ok_impl_segmentsOf : FnOk Try.prog 78 := ⟨_, Try.func78, by kernel_rfl, rfl⟩
theorem ok_impl_flattenQuad : FnOk Try.prog 79 := ⟨_, Try.func79, by kernel_rfl, rfl⟩
theorem ok_laws_eqLoop : FnOk Try.prog 80 := ⟨_, Try.func80, by kernel_rfl, rfl⟩
theorem ok_laws_markKnotS : FnOk Try.prog 81 := ⟨_, Try.func81, by kernel_rfl, rfl⟩
theorem ok_spec_l03Ok : FnOk Try.prog 87 := ⟨_, Try.func87, by kernel_rfl, rfl⟩
theorem ok_impl_ValidPt : FnOk Try.prog 94 := ⟨_, Try.func94, by kernel_rfl, rfl⟩
theorem ok_laws_szKnotS : FnOk Try.prog 113 := ⟨_, Try.func113, by kernel_rfl, rfl⟩
theorem ok_spec_l10Full : FnOk Try.prog 114 := ⟨_, Try.func114, by kernel_rfl, rfl⟩
theorem ok_spec_l10Flat : FnOk Try.prog 115 := ⟨_, Try.func115, by kernel_rfl, rfl⟩
theorem ok_laws_toKnotS : FnOk Try.prog 116 := ⟨_, Try.func116, by kernel_rfl, rfl⟩
theorem ok_slices_IndexFunc_sl_impl_Loop_impl_Loop : FnOk Try.prog 117 := ⟨_, Try.func117, by kernel_rfl, rfl⟩
theorem ok_slices_ContainsFunc_sl_impl_Knot_impl_Knot : FnOk Try.prog 118 := ⟨_, Try.func118, by kernel_rfl, rfl⟩
theorem ok_impl_ValidLoop_1 : FnOk Try.prog 119 := ⟨_, Try.func119, by kernel_rfl, rfl⟩
theorem ok_impl_midPt : FnOk Try.prog 120 := ⟨_, Try.func120, by kernel_rfl, rfl⟩
theorem ok_impl_levelFor : FnOk Try.prog 121 := ⟨_, Try.func121, by kernel_rfl, rfl⟩
theorem ok_impl_sizeOf : FnOk Try.prog 122 := ⟨_, Try.func122, by kernel_rfl, rfl⟩
theorem ok_impl_combine : FnOk Try.prog 123 := ⟨_, Try.func123, by kernel_rfl, rfl⟩
theorem ok_impl_Quad_points : FnOk Try.prog 124 := ⟨_, Try.func124, by kernel_rfl, rfl⟩
theorem ok_impl_quadAt : FnOk Try.prog 125 := ⟨_, Try.func125, by kernel_rfl, rfl⟩
theorem ok_laws_eqKnotS : FnOk Try.prog 126 := ⟨_, Try.func126, by kernel_rfl, rfl⟩
theorem ok_impl_DivRound : FnOk Try.prog 139 := ⟨_, Try.func139, by kernel_rfl, rfl⟩
theorem ok_spec_l03Mid : FnOk Try.prog 145 := ⟨_, Try.func145, by kernel_rfl, rfl⟩
theorem ok_spec_l10Level : FnOk Try.prog 146 := ⟨_, Try.func146, by kernel_rfl, rfl⟩
theorem ok_spec_l10At : FnOk Try.prog 147 := ⟨_, Try.func147, by kernel_rfl, rfl⟩
theorem ok_laws_toKnot : FnOk Try.prog 148 := ⟨_, Try.func148, by kernel_rfl, rfl⟩
theorem ok_slices_IndexFunc_sl_impl_Knot_impl_Knot : FnOk Try.prog 149 := ⟨_, Try.func149, by kernel_rfl, rfl⟩
theorem ok_impl_divPt : FnOk Try.prog 150 := ⟨_, Try.func150, by kernel_rfl, rfl⟩
theorem ok_laws_eqKnot : FnOk Try.prog 151 := ⟨_, Try.func151, by kernel_rfl, rfl⟩
theorem ok_spec_l03Round : FnOk Try.prog 167 := ⟨_, Try.func167, by kernel_rfl, rfl⟩
theorem ok_spec_l09Size : FnOk Try.prog 168 := ⟨_, Try.func168, by kernel_rfl, rfl⟩
theorem ok_spec_l09Second : FnOk Try.prog 169 := ⟨_, Try.func169, by kernel_rfl, rfl⟩
theorem ok_spec_l10Mix : FnOk Try.prog 170 := ⟨_, Try.func170, by kernel_rfl, rfl⟩
theorem ok_spec_l00Max : FnOk Try.prog 177 := ⟨_, Try.func177, by kernel_rfl, rfl⟩
theorem bld_impl_Region_ (w : World) : (Instr.build 29 #[]).run Try.prog w = .ok (.agg #[.slice none 0 0]) w := by
 rw [build_agg]
 simp only [List.map_toArray, List.map_cons, List.map_nil]
 simp [Instr.build, Instr.fill, go_sem]
theorem bld_impl_Ring_ (w : World) : (Instr.build 75 #[]).run Try.prog w = .ok (.agg #[.slice none 0 0]) w := by
 rw [build_agg]
 simp only [List.map_toArray, List.map_cons, List.map_nil]
 simp [Instr.build, Instr.fill, go_sem]
theorem bld_impl_Pt_0_1 {v0 a0_0 : Value} (h0 : v0.cells = #[a0_0]) {v1 a1_0 : Value} (h1 : v1.cells = #[a1_0]) (w : World) : (Instr.build 103 #[(0, v0), (1, v1)]).run Try.prog w = .ok (.agg #[a0_0, a1_0]) w := by
 rw [build_agg]
 simp only [List.map_toArray, List.map_cons, List.map_nil, h0, h1]
 simp [Instr.build, Instr.fill, go_sem]
theorem bld_impl_Quad_0_1_2 {v0 a0_0 a0_1 : Value} (h0 : v0.cells = #[a0_0, a0_1]) {v1 a1_0 a1_1 : Value} (h1 : v1.cells = #[a1_0, a1_1]) {v2 a2_0 a2_1 : Value} (h2 : v2.cells = #[a2_0, a2_1]) (w : World) : (Instr.build 145 #[(0, v0), (1, v1), (2, v2)]).run Try.prog w = .ok (.agg #[a0_0, a0_1, a1_0, a1_1, a2_0, a2_1]) w := by
 rw [build_agg]
 simp only [List.map_toArray, List.map_cons, List.map_nil, h0, h1, h2]
 simp [Instr.build, Instr.fill, go_sem]
theorem bld_impl_loopSegment_0_1 {v0 a0_0 a0_1 a0_2 a0_3 a0_4 a0_5 : Value} (h0 : v0.cells = #[a0_0, a0_1, a0_2, a0_3, a0_4, a0_5]) {v1 a1_0 : Value} (h1 : v1.cells = #[a1_0]) (w : World) : (Instr.build 147 #[(0, v0), (1, v1)]).run Try.prog w = .ok (.agg #[a0_0, a0_1, a0_2, a0_3, a0_4, a0_5, a1_0]) w := by
 rw [build_agg]
 simp only [List.map_toArray, List.map_cons, List.map_nil, h0, h1]
 simp [Instr.build, Instr.fill, go_sem]
theorem bld_impl_Knot_0_1 {v0 a0_0 a0_1 : Value} (h0 : v0.cells = #[a0_0, a0_1]) {v1 a1_0 : Value} (h1 : v1.cells = #[a1_0]) (w : World) : (Instr.build 182 #[(0, v0), (1, v1)]).run Try.prog w = .ok (.agg #[a0_0, a0_1, a1_0]) w := by
 rw [build_agg]
 simp only [List.map_toArray, List.map_cons, List.map_nil, h0, h1]
 simp [Instr.build, Instr.fill, go_sem]
theorem bsl_sl_impl_Ring_1_0 {v0 a0_0 : Value} (h0 : v0.cells = #[a0_0]) (w : World) : (Instr.buildSlice 27 1 #[(0, v0)]).run Try.prog w = .ok (.slice (some ⟨w.heap.size, 0, none⟩) 1 1) (w.alloc (.cells [a0_0].toArray 75)) := by
 rw [buildSlice_agg]
 simp only [List.map_toArray, List.map_cons, List.map_nil, h0]
 simp [Instr.buildSlice, Instr.fill, go_sem]
theorem bsl_sl_impl_Pt_0 (w : World) : (Instr.buildSlice 53 0 #[]).run Try.prog w = .ok (.slice (some ⟨w.heap.size, 0, none⟩) 0 0) (w.alloc (.cells [].toArray 103)) := by
 rw [buildSlice_agg]
 simp only [List.map_toArray, List.map_cons, List.map_nil]
 simp [Instr.buildSlice, Instr.fill, go_sem]
theorem bsl_sl_impl_Pt_1_0 {v0 a0_0 a0_1 : Value} (h0 : v0.cells = #[a0_0, a0_1]) (w : World) : (Instr.buildSlice 53 1 #[(0, v0)]).run Try.prog w = .ok (.slice (some ⟨w.heap.size, 0, none⟩) 1 1) (w.alloc (.cells [a0_0, a0_1].toArray 103)) := by
 rw [buildSlice_agg]
 simp only [List.map_toArray, List.map_cons, List.map_nil, h0]
 simp [Instr.buildSlice, Instr.fill, go_sem]
theorem bsl_sl_impl_Pt_3_0_1_2 {v0 a0_0 a0_1 : Value} (h0 : v0.cells = #[a0_0, a0_1]) {v1 a1_0 a1_1 : Value} (h1 : v1.cells = #[a1_0, a1_1]) {v2 a2_0 a2_1 : Value} (h2 : v2.cells = #[a2_0, a2_1]) (w : World) : (Instr.buildSlice 53 3 #[(0, v0), (1, v1), (2, v2)]).run Try.prog w = .ok (.slice (some ⟨w.heap.size, 0, none⟩) 3 3) (w.alloc (.cells [a0_0, a0_1, a1_0, a1_1, a2_0, a2_1].toArray 103)) := by
 rw [buildSlice_agg]
 simp only [List.map_toArray, List.map_cons, List.map_nil, h0, h1, h2]
 simp [Instr.buildSlice, Instr.fill, go_sem]
theorem bsl_sl_impl_Knot_0 (w : World) : (Instr.buildSlice 91 0 #[]).run Try.prog w = .ok (.slice (some ⟨w.heap.size, 0, none⟩) 0 0) (w.alloc (.cells [].toArray 182)) := by
 rw [buildSlice_agg]
 simp only [List.map_toArray, List.map_cons, List.map_nil]
 simp [Instr.buildSlice, Instr.fill, go_sem]
theorem bsl_sl_impl_Knot_1_0 {v0 a0_0 a0_1 a0_2 : Value} (h0 : v0.cells = #[a0_0, a0_1, a0_2]) (w : World) : (Instr.buildSlice 91 1 #[(0, v0)]).run Try.prog w = .ok (.slice (some ⟨w.heap.size, 0, none⟩) 1 1) (w.alloc (.cells [a0_0, a0_1, a0_2].toArray 182)) := by
 rw [buildSlice_agg]
 simp only [List.map_toArray, List.map_cons, List.map_nil, h0]
 simp [Instr.buildSlice, Instr.fill, go_sem]
theorem bsl_sl_impl_loopSegment_1_0 {v0 a0_0 a0_1 a0_2 a0_3 a0_4 a0_5 a0_6 : Value} (h0 : v0.cells = #[a0_0, a0_1, a0_2, a0_3, a0_4, a0_5, a0_6]) (w : World) : (Instr.buildSlice 142 1 #[(0, v0)]).run Try.prog w = .ok (.slice (some ⟨w.heap.size, 0, none⟩) 1 1) (w.alloc (.cells [a0_0, a0_1, a0_2, a0_3, a0_4, a0_5, a0_6].toArray 147)) := by
 rw [buildSlice_agg]
 simp only [List.map_toArray, List.map_cons, List.map_nil, h0]
 simp [Instr.buildSlice, Instr.fill, go_sem]
theorem bsl_sl_int64_3_0_1_2 {v0 a0_0 : Value} (h0 : v0.cells = #[a0_0]) {v1 a1_0 : Value} (h1 : v1.cells = #[a1_0]) {v2 a2_0 : Value} (h2 : v2.cells = #[a2_0]) (w : World) : (Instr.buildSlice 220 3 #[(0, v0), (1, v1), (2, v2)]).run Try.prog w = .ok (.slice (some ⟨w.heap.size, 0, none⟩) 3 3) (w.alloc (.cells [a0_0, a1_0, a2_0].toArray 2)) := by
 rw [buildSlice_agg]
 simp only [List.map_toArray, List.map_cons, List.map_nil, h0, h1, h2]
 simp [Instr.buildSlice, Instr.fill, go_sem]
theorem mixed : Try.prog.follows .mixedOrders = true := by kernel_rfl
end Go.Proofs.Ytjhaakollekjeaa

namespace Go.Proofs.Ytjhaakollekjeaa
open Go Go.RowKit
set_option linter.unusedVariables false
set_option maxRecDepth 100000

theorem vi {a b : Int} (h : a = b) : some (Value.int .i64 a) = some (Value.int .i64 b) := by rw [h]
theorem retB {a b : Bool} (h : a = b) : Ending.returned (.bool a) = Ending.returned (.bool b) := by rw [h]
theorem retI {a b : Int} (h : a = b) : Ending.returned (.int .i64 a) = Ending.returned (.int .i64 b) := by rw [h]
/-- A contract that leaves the world alone. -/
theorem Calls.still {P : Program} {f : FuncId} {args : Array Value} {w : World} {v : Value} (h : Calls P f args w fun e w' => e = .returned v ∧ w = w') : Calls P f args w fun e w' => e = .returned v ∧ Over w w' := h.mono fun e w' ⟨he, hw⟩ => ⟨he, hw ▸ Over.refl _⟩

section
variable {w : World} {w0 : Bs} {Rs : List Res}
def ptCells (p : Int × Int) : List Value := [.int .i64 p.1, .int .i64 p.2]
/-- A slice made of a literal, as points. -/
theorem ptsCel {k b T m : Nat} (xs : List (Int × Int)) (hk : Rs[k]? = some (.cel b T (xs.flatMap ptCells))) (hm : xs.length = m) : ∀ w, St w0 Rs w → Pts w (some ⟨b, 0, none⟩) m xs := fun w hs => by
 have hh := hs.cel hk
 refine ⟨hm, fun _ => ⟨b, 0, rfl, lt_of_some hh, fun j hj => ?_⟩⟩
 have hj' : j < xs.length := by omega
 have hat := fun q hq => flat2 xs j q hj' hq
 rw [Nat.zero_add, cell_of_row w b _ _ T (0, 0) hh, cell_of_row w b _ _ T (0, 0) hh]
 have h0 := hat 0 (by omega)
 have h1 := hat 1 (by omega)
 rw [at_p hj'] at h0 h1
 simp only [List.getElem?_toArray]
 exact ⟨by simpa [ptCells] using h0, by simpa [ptCells] using h1⟩
where
 flat2 : ∀ (xs : List (Int × Int)) (k j : Nat) (hk : k < xs.length), j < 2 → (xs.flatMap ptCells)[k * 2 + j]? = (ptCells xs[k])[j]?
 | [], _, _, h, _ => absurd h (by simp)
 | a :: r, 0, j, _, hj => by
  rw [List.flatMap_cons, Nat.zero_mul, Nat.zero_add, List.getElem?_append_left (by simpa [ptCells] using hj)]
  rfl
 | a :: r, k + 1, j, h, hj => by
  have hl : (ptCells a).length = 2 := rfl
  rw [List.flatMap_cons, List.getElem?_append_right (by rw [hl]; omega), hl]
  have := flat2 r k j (by simpa using h) hj
  rw [show (k + 1) * 2 + j - 2 = k * 2 + j by omega, this]
  rfl
/-- A point of a slice that came in. -/
theorem rdPts {b o m j : Nat} {xs : List (Int × Int)} (h : Pts w (some ⟨b, o, none⟩) m xs) (hj : j < m) : ∀ w', St ⟨w, []⟩ Rs w' → ∀ q v, [Value.int .i64 (px xs j), Value.int .i64 (py xs j)][q]? = some v → w'.cell? ⟨b, o + j * 2 + q, none⟩ = some v := fun w' hs q v hv => by
 obtain ⟨b', o', e, _, h1, h2⟩ := (h.over hs.fin).at_ hj
 injection e with e
 injection e with e1 e2 _
 subst e1 e2
 match q, hv with
 | 0, hv => simp at hv; subst hv; exact h1
 | 1, hv => simp at hv; subst hv; exact h2
end

/-! ### A drawn region: what an operation has made may be leaned on from here -/
theorem wpAnyG_base {P : Program} {md : Region.Mode} {ops : Array Oper} {Q : Exit → Act → World → Prop} {B B' : Base} (hB : ∀ w, B'.holds w → B.holds w) {f : Nat} :
  ∀ (fuel : Nat) (listed : Array Bool) (a : Act) (W : World), wpAnyG P md ops Q B' f fuel listed a W → wpAnyG P md ops Q B f fuel listed a W
 | 0, _, _, _, h => h
 | fuel + 1, listed, a, W, h => ⟨h.1, fun i hi w hw => ⟨fun hf => wpOp_mono (fun a' w' h' => ⟨hB _ h'.1, wpAnyG_base hB fuel _ a' w' h'.2⟩) ((h.2 i hi w hw).1 hf), (h.2 i hi w hw).2⟩⟩
theorem dr_more {P : Program} {n f fuel : Nat} {env : List (Nat × Value)} {w0 : Bs} {Rs Rs0 : List Res} {ops : Array Oper} {listed : Array Bool} {Q : Exit → Act → World → Prop} (hsub : ∀ w, St w0 Rs w → St w0 Rs0 w)
  (h : At n env w0 Rs (fun a w => wpAnyG P .any ops Q (stB w0 Rs) f fuel listed a w)) : At n env w0 Rs (fun a w => St w0 Rs0 w ∧ wpAnyG P .any ops Q (stB w0 Rs0) f fuel listed a w) :=
 fun a w hf hs => ⟨hsub w hs, wpAnyG_base (B := stB w0 Rs0) (B' := stB w0 Rs) hsub fuel listed a w (h a w hf hs)⟩
end Go.Proofs.Ytjhaakollekjeaa

namespace Go.Proofs.Ytjhaakollekjeaa
open Go Go.RowKit
set_option linter.unusedVariables false

set_option maxHeartbeats 400000 in
set_option maxRecDepth 100000 in
theorem eqRingS_same (A B : Option Addr) (n c d : Nat) (rs : List Ring_) (w : World) (h : Rings w A n rs) (h' : Rings w B n rs) (ht : (total rs : Int) ≤ 1048576) :
  Calls Try.prog 35 #[.slice A n c, .slice B n d] w fun e w' => e = .returned (.bool true) ∧ Over w w' := by
 have hlen := Lib.hid h.1
 have hn : (n : Int) ≤ 1048576 := by have := hlen.out; unfold total at ht; omega
 have hq : ((n : Int) != (n : Int)) = false := by simp
 have Ht := Lib.hid ht
 clear ht
 go_enter Try.func35, Try.ntmps35
 go_wp2
 go_loopw [5] (fun i wr => ∃ k : Nat, k ≤ n ∧ i = .int .i64 k ∧ Over w wr) (fun i _ => n - (intOf i).toNat)
 case atStart => exact ⟨0, Nat.zero_le _, rfl, Over.refl _⟩
 case round =>
  rename_i wr
  obtain ⟨k, hk, rfl, hb⟩ := hrel
  by_cases hlt : k < n
  ·obtain ⟨b, o, Ak, ck, rfl, hbB, hcell, hpts, hmax⟩ := (h.over hb).at_ hlt
   obtain ⟨b', o', Ak', ck', rfl, hbB', hcell', hpts', _⟩ := (h'.over hb).at_ hlt
   have hr : ((rg rs k).length : Int) ≤ 1048576 := by have := Ht.out; have := rg_le_total rs (k := k) (by rw [hlen.out]; exact hlt); omega
   have HP := Lib.hid (And.intro hpts hpts')
   clear h h' hmax hpts hpts'
   go_wp2
   refine wp_region_O (B := ob _) (Over.refl _) (by kernel_rfl) (by simp only [List.size_toArray, List.length_cons, List.length_nil, Nat.reduceAdd]; rfl) (fun hBW => ?_)
   refine wpAnyO_take (i := 0) (v := _) (by assumption) (by simp only [xa,xb]; rfl) (by kernel_rfl) (by kernel_rfl) (by kernel_rfl) (by exact fun _ _ _ h => h) (by kernel_rfl) (fun wx hS => by (obtain ⟨hc, hf⟩ := ocell hS; clear hS; go_simp; (try go_bits); exact ⟨rfl, Over.refl _⟩)) ?_
   simp only [Act.put,xd,yc,yd]
   refine wpAnyO_take (i := 1) (v := _) (by assumption) (by simp only [xa,xb,xc]; rfl) (by kernel_rfl) (by kernel_rfl) (by kernel_rfl) (by exact fun _ _ _ h => h) (by kernel_rfl) (fun wx hS => by (obtain ⟨hc, hf⟩ := ocell hS; clear hS; go_simp; (try go_bits); exact ⟨rfl, Over.refl _⟩)) ?_
   simp only [Act.put,xd,yc,yd]
   refine wpAnyO_take (i := 2) (v := _) (by assumption) (by simp only [xa,xb,xc]; rfl) (by kernel_rfl) (by kernel_rfl) (by kernel_rfl) (by exact fun _ _ _ h => h) (by kernel_rfl) (fun wx hS => by (obtain ⟨hc, hf⟩ := ocell hS; clear hS; go_simp; (try go_bits); exact ⟨rfl, Over.refl _⟩)) ?_
   simp only [Act.put,xd,yc,yd]
   refine wpAnyO_take (i := 3) (v := _) (by assumption) (by simp only [xa,xb,xc]; rfl) (by kernel_rfl) (by kernel_rfl) (by kernel_rfl) (by exact fun _ _ _ h => h) (by kernel_rfl) (fun wx hS => by (obtain ⟨hc, hf⟩ := ocell hS; clear hS; go_simp; (try go_bits); exact ⟨rfl, Over.refl _⟩)) ?_
   simp only [Act.put,xd,yc,yd]
   refine wpAnyO_take (i := 4) (v := _) (by assumption) (by simp only [xa,xb,xc]; rfl) (by kernel_rfl) (by kernel_rfl) (by kernel_rfl) (by exact fun _ _ _ h => h) (by kernel_rfl) (fun wx hS => by (obtain ⟨hc, hf⟩ := ocell hS; clear hS; go_simp; (try go_bits); exact ⟨rfl, Over.refl _⟩)) ?_
   simp only [Act.put,xd,yc,yd]
   refine wpAnyO_take (i := 5) (v := _) (by assumption) (by simp only [xa,xb,xc]; rfl) (by kernel_rfl) (by kernel_rfl) (by kernel_rfl) (by exact fun _ _ _ h => h) (by kernel_rfl) (fun wx hS => by (obtain ⟨hc, hf⟩ := ocell hS; clear hS; go_simp; (try go_bits); exact ⟨rfl, Over.refl _⟩)) ?_
   simp only [Act.put,xd,yc,yd]
   refine wpAnyO_take (i := 6) (v := _) (by assumption) (by simp only [xa,xb,xc]; rfl) (by kernel_rfl) (by kernel_rfl) (by kernel_rfl) (by exact fun _ _ _ h => h) (by kernel_rfl) (fun wx hS => by (obtain ⟨hc, hf⟩ := ocell hS; clear hS; go_simp; (try go_bits); exact ⟨rfl, Over.refl _⟩)) ?_
   simp only [Act.put,xd,yc,yd]
   refine wpAnyO_take (i := 7) (v := _) (by assumption) (by simp only [xa,xb,xc]; rfl) (by kernel_rfl) (by kernel_rfl) (by kernel_rfl) (by exact fun _ _ _ h => h) (by kernel_rfl) (fun wx hS => by (obtain ⟨hc, hf⟩ := ocell hS; clear hS; go_simp; (try go_bits); exact ⟨rfl, Over.refl _⟩)) ?_
   simp only [Act.put,xd,yc,yd]
   refine wpAnyO_take (i := 8) (v := _) (by assumption) (by simp only [xa,xb,xc]; rfl) (by kernel_rfl) (by kernel_rfl) (by kernel_rfl) (by exact fun _ _ _ h => h) (by kernel_rfl) (fun wx hS => by (go_simp; refine (eqRing_same _ _ _ _ _ _ _ (HP.out.1.over (by first | exact hS | exact Over.trans hS (Over.refl _))) (HP.out.2.over hS) hr).mono ?_; rintro e w1 ⟨rfl, hb1⟩; exact ⟨rfl, hb1⟩)) ?_
   simp only [Act.put,xd,yc,yd]
   refine wpAnyO_take (i := 9) (v := _) (by assumption) (by simp only [xa,xb,xc]; rfl) (by kernel_rfl) (by kernel_rfl) (by kernel_rfl) (by exact fun _ _ _ h => h) (by kernel_rfl) (fun wx hS => by (obtain ⟨hc, hf⟩ := ocell hS; clear hS; go_simp; (try go_bits); exact ⟨rfl, Over.refl _⟩)) ?_
   simp only [Act.put,xd,yc,yd]
   refine wpAnyO_done (by kernel_rfl) (fun w2 h2 => ?_) _
   try clear hBW
   go_wp2
   go_roundw
   case rel => exact ⟨k + 1, by omega, by go_num, (by repeat (first | exact Over.refl _ | (with_reducible assumption) | refine Over.alloc_ ?_ _ | refine Over.trans ?_ (by with_reducible assumption) | refine Over.drew_ ?_ | refine Over.set_ ?_ (by simp; try omega) _))⟩
   case measure => simp [intOf]; omega
  ·clear h h'
   go_wp2
   go_ret
   exact ⟨rfl, (by repeat (first | exact Over.refl _ | (with_reducible assumption) | refine Over.alloc_ ?_ _ | refine Over.trans ?_ (by with_reducible assumption) | refine Over.drew_ ?_ | refine Over.set_ ?_ (by simp; try omega) _))⟩

set_option maxHeartbeats 400000 in
theorem eqRegion_same (A B : Option Addr) (n c d : Nat) (rs : List Ring_) (w : World) (h : Rings w A n rs) (h' : Rings w B n rs) (ht : (total rs : Int) ≤ 1048576) :
  Calls Try.prog 10 #[regV A n c, regV B n d] w fun e w' => e = .returned (.bool true) ∧ Over w w' := by
 go_enter Try.func10, Try.ntmps10
 go_wp2_with (go_at_call 35; refine (eqRingS_same _ _ _ _ _ rs _ (h.over (by repeat (first | exact Over.refl _ | (with_reducible assumption) | refine Over.alloc_ ?_ _ | refine Over.trans ?_ (by with_reducible assumption) | refine Over.drew_ ?_ | refine Over.set_ ?_ (by simp; try omega) _))) (h'.over (by repeat (first | exact Over.refl _ | (with_reducible assumption) | refine Over.alloc_ ?_ _ | refine Over.trans ?_ (by with_reducible assumption) | refine Over.drew_ ?_ | refine Over.set_ ?_ (by simp; try omega) _))) ht).mono ?_; rintro e w1 ⟨rfl, hb1⟩)
 go_ret
 exact ⟨rfl, (by repeat (first | exact Over.refl _ | (with_reducible assumption) | refine Over.alloc_ ?_ _ | refine Over.trans ?_ (by with_reducible assumption) | refine Over.drew_ ?_ | refine Over.set_ ?_ (by simp; try omega) _))⟩

theorem cell_congr {w w' : World} {b o : Nat} (h : w'.heap[b]? = w.heap[b]?) : w'.cell? ⟨b, o, none⟩ = w.cell? ⟨b, o, none⟩ := by
 simp only [World.cell?, h]
theorem Pts.agree {w w' : World} {A : Option Addr} {n : Nat} {xs : List (Int × Int)} (h : Pts w A n xs) (hz : w.heap.size ≤ w'.heap.size) (ha : ∀ p, A = some p → w'.heap[p.block]? = w.heap[p.block]?) : Pts w' A n xs := by
 refine ⟨h.1, fun hn => ?_⟩
 obtain ⟨b, o, rfl, hlt, hc⟩ := h.2 hn
 have hb := ha _ rfl
 refine ⟨b, o, rfl, by omega, fun k hk => ?_⟩
 rw [cell_congr hb, cell_congr hb]
 exact hc k hk
theorem OwnR.agree {B : Nat} {w w' : World} {g n : Nat} {rs : List Ring_} (h : OwnR B w g n rs) (hz : w.heap.size ≤ w'.heap.size) (ha : ∀ b, B ≤ b → b < w.heap.size → w'.heap[b]? = w.heap[b]?) : OwnR B w' g n rs := by
 have hB := h.1
 have hg := ha g h.1 h.2.2.1.lt
 refine ⟨h.1, h.2.1, ?_, fun k hk => ?_⟩
 ·obtain ⟨cs, hs, hh⟩ := h.2.2.1
  exact ⟨cs, hs, hg.trans hh⟩
 ·obtain ⟨gk, h1, h2, h3, h4⟩ := h.2.2.2 k hk
  have hgk := ha gk h1 h4.1.lt
  refine ⟨gk, h1, h2, (cell_congr hg).trans h3, ?_, h4.2.agree hz fun p hp => ?_⟩
  ·obtain ⟨cs, hs, hh⟩ := h4.1
   exact ⟨cs, hs, hgk.trans hh⟩
  ·injection hp with hp
   subst hp
   exact hgk
/-- Something that lies in the blocks from lo up to hi. -/
def Res.clo (lo hi : Nat) (P0 : World → Prop) : Res where
 F b := lo ≤ b ∧ b < hi
 P w := hi ≤ w.heap.size ∧ ∀ w', hi ≤ w'.heap.size → (∀ b, lo ≤ b → b < hi → w'.heap[b]? = w.heap[b]?) → P0 w'
 low w h b hb := Nat.lt_of_lt_of_le hb.2 h.1
 B := 0
 dep w w' h hz hb := ⟨Nat.le_trans h.1 hz, fun w'' h2 h3 => h.2 w'' h2 fun b h4 h5 => (h3 b h4 h5).trans (hb b (Nat.lt_of_lt_of_le h5 h.1) (.inr ⟨h4, h5⟩))⟩
section
variable {w : World} {w0 : Bs} {Rs : List Res}
end
end Go.Proofs.Ytjhaakollekjeaa

namespace Go.Proofs.Ytjhaakollekjeaa
open Go.RowKit
set_option linter.unusedVariables false
set_option linter.unusedSimpArgs false

/-- The quotient rounded to the nearest, halves up. -/
def rnd (n d : Int) : Int := if d - n % d ≤ n % d then n / d + 1 else n / d

theorem tdiv_neg_ (n d : Int) (hn : n < 0) (hd : 0 < d) : n.tdiv d = (if n % d = 0 then n / d else n / d + 1) ∧ n.tmod d = (if n % d = 0 then 0 else n % d - d) := by
 have h1 := Int.tdiv_eq_ediv (a := n) (b := d)
 have h2 := Int.tmod_eq_emod (a := n) (b := d)
 have hs : Int.sign d = 1 := Int.sign_eq_one_of_pos hd
 rw [hs] at h1
 by_cases h : n % d = 0
 ·have hdv : d ∣ n := Int.dvd_of_emod_eq_zero h
  rw [if_pos (Or.inr hdv)] at h1 h2
  rw [if_pos h, if_pos h]
  omega
 ·have hdv : ¬ d ∣ n := fun hd' => h (Int.emod_eq_zero_of_dvd hd')
  have hnn : ¬ (0 ≤ n ∨ d ∣ n) := by omega
  rw [if_neg hnn] at h1 h2
  rw [if_neg h, if_neg h]
  omega

theorem div_bd (n d B : Int) (hd : 0 < d) (h1 : -B ≤ n) (h2 : n ≤ B) : -B ≤ n / d ∧ n / d ≤ B := by
 have e := Int.mul_ediv_add_emod n d
 have m0 := Int.emod_nonneg n (Int.ne_of_gt hd)
 have m1 := Int.emod_lt_of_pos n hd
 constructor
 ·rcases Int.lt_or_le (n / d) (-B) with h | h
  ·exfalso
   have h3 : d * (n / d) ≤ d * (-B - 1) := Int.mul_le_mul_of_nonneg_left (by omega) (by omega)
   have h4 : d * (-B - 1) = -(d * B) - d := by rw [Int.mul_sub, Int.mul_neg, Int.mul_one]
   have h5 : 1 * B ≤ d * B := Int.mul_le_mul_of_nonneg_right (by omega) (by omega)
   omega
  ·exact h
 ·rcases Int.lt_or_le B (n / d) with h | h
  ·exfalso
   have h3 : d * (B + 1) ≤ d * (n / d) := Int.mul_le_mul_of_nonneg_left (by omega) (by omega)
   have h4 : d * (B + 1) = d * B + d := by rw [Int.mul_add, Int.mul_one]
   have h5 : 1 * B ≤ d * B := Int.mul_le_mul_of_nonneg_right (by omega) (by omega)
   omega
  ·exact h

theorem floorDiv_any (n d : Int) (w : World) (hd : 1 ≤ d) (hd' : d ≤ 2305843009213693952) (h1 : -2305843009213693952 ≤ n) (h2 : n ≤ 2305843009213693952) :
  Calls Try.prog 155 #[.int .i64 n, .int .i64 d] w fun e w' => e = .returned (.int .i64 (n / d)) ∧ w = w' := by
 obtain ⟨b1, b2⟩ := div_bd n d 2305843009213693952 (by omega) h1 h2
 have m0 := Int.emod_nonneg n (show d ≠ 0 by omega)
 have m1 := Int.emod_lt_of_pos n (show 0 < d by omega)
 by_cases hn : 0 ≤ n
 ·go_enter Try.func155, Try.ntmps155
  go_wp2
  go_ret
  exact ⟨rfl, rfl⟩
 ·obtain ⟨e1, e2⟩ := tdiv_neg_ n d (by omega) (by omega)
  by_cases hm : n % d = 0
  ·rw [if_pos hm] at e1 e2
   have H := Lib.hid hm
   clear hm
   go_enter Try.func155, Try.ntmps155
   go_wp2
   go_ret
   exact ⟨rfl, rfl⟩
  ·rw [if_neg hm] at e1 e2
   go_enter Try.func155, Try.ntmps155
   go_wp2
   go_ret
   exact ⟨by simp, rfl⟩

theorem l03Round_any (n d : Int) (w : World) (hd : 1 ≤ d) (hd' : d ≤ 2305843009213693952) (h1 : -2305843009213693952 ≤ n) (h2 : n ≤ 2305843009213693952) :
  Calls Try.prog 167 #[.int .i64 n, .int .i64 d] w fun e w' => e = .returned (.int .i64 (rnd n d)) ∧ w = w' := by
 obtain ⟨b1, b2⟩ := div_bd n d 2305843009213693952 (by omega) h1 h2
 have m0 := Int.emod_nonneg n (show d ≠ 0 by omega)
 have m1 := Int.emod_lt_of_pos n (show 0 < d by omega)
 have hr : (d - n % d ≤ n % d → rnd n d = n / d + 1) ∧ (¬ d - n % d ≤ n % d → rnd n d = n / d) := by
  unfold rnd; exact ⟨fun h => if_pos h, fun h => if_neg h⟩
 have HR := Lib.hid hr
 clear hr
 by_cases hn : 0 ≤ n
 ·go_enter Try.func167, Try.ntmps167
  go_wp2
  all_goals
   go_ret
   first | exact ⟨by rw [HR.out.1 (by omega)]; rfl, rfl⟩ | exact ⟨by rw [HR.out.2 (by omega)]; rfl, rfl⟩
 ·obtain ⟨e1, e2⟩ := tdiv_neg_ n d (by omega) (by omega)
  by_cases hm : n % d = 0
  ·rw [if_pos hm] at e1 e2
   have H := Lib.hid hm
   clear hm
   go_enter Try.func167, Try.ntmps167
   go_wp2
   all_goals
    have := H.out
    go_ret
    first | exact ⟨by rw [HR.out.1 (by omega)]; rfl, rfl⟩ | exact ⟨by rw [HR.out.2 (by omega)]; rfl, rfl⟩
  ·rw [if_neg hm] at e1 e2
   go_enter Try.func167, Try.ntmps167
   go_wp2
   all_goals
    go_ret
    first | exact ⟨by rw [HR.out.1 (by omega)]; simp, rfl⟩ | exact ⟨by rw [HR.out.2 (by omega)]; simp, rfl⟩

theorem DivRound_any (n d : Int) (w : World) (hd : 1 ≤ d) (hd' : d ≤ 2305843009213693952) (h1 : -2305843009213693952 ≤ n) (h2 : n ≤ 2305843009213693952) :
  Calls Try.prog 139 #[.int .i64 n, .int .i64 d] w fun e w' => e = .returned (.int .i64 (rnd n d)) ∧ w = w' := by
 obtain ⟨b1, b2⟩ := div_bd n d 2305843009213693952 (by omega) h1 h2
 have m0 := Int.emod_nonneg n (show d ≠ 0 by omega)
 have m1 := Int.emod_lt_of_pos n (show 0 < d by omega)
 have hr : (d - n % d ≤ n % d → rnd n d = n / d + 1) ∧ (¬ d - n % d ≤ n % d → rnd n d = n / d) := by
  unfold rnd; exact ⟨fun h => if_pos h, fun h => if_neg h⟩
 have HR := Lib.hid hr
 clear hr
 have em := Int.mul_ediv_add_emod n d
 rw [Int.mul_comm] at em
 have c1 : -2305843009213693952 - d ≤ n / d * d := by omega
 have c2 : n / d * d ≤ 2305843009213693952 := by omega
 have EM := Lib.hid em
 clear em
 have e3 : n - n / d * d = n % d := by have := EM.out; omega
 by_cases hq : d - n % d ≤ n % d
 all_goals
  go_enter Try.func139, Try.ntmps139
  go_wp2_with (go_at_call 155; refine (floorDiv_any _ _ _ hd hd' h1 h2).mono ?_; rintro e w1 ⟨rfl, rfl⟩)
  all_goals
   go_ret
   first | exact ⟨by rw [HR.out.1 (by omega)]; rfl, rfl⟩ | exact ⟨by rw [HR.out.2 (by omega)]; rfl, rfl⟩
end Go.Proofs.Ytjhaakollekjeaa

namespace Go.Proofs.Ytjhaakollekjeaa
open Go.RowKit
set_option linter.unusedVariables false
set_option linter.unusedSimpArgs false

/-- Twice the signed area of a triangle. -/
def trn (ax ay bx b_y cx cy : Int) : Int := (bx - ax) * (cy - ay) - (b_y - ay) * (cx - ax)

end Go.Proofs.Ytjhaakollekjeaa

namespace Go.Proofs.Ytjhaakollekjeaa
open Go Go.RowKit
set_option linter.unusedVariables false
set_option linter.unusedSimpArgs false

section
variable {P : Program} {ops : Array Oper} {Q : Exit → Act → World → Prop} {md : Region.Mode} {B : Base}

end
end Go.Proofs.Ytjhaakollekjeaa
