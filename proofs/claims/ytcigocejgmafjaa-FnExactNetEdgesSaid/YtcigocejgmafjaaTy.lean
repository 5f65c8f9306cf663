/- Facts on the types and the functions of this program. -/
import Derived.Test.YtcigocejgmafjaaSv
namespace Go.Proofs.Ytcigocejgmafjaa
open Go Go.RowKit
set_option maxRecDepth 100000
set_option linter.unusedSimpArgs false
set_option linter.unusedVariables false

theorem tyz_of {P : Program} {T m k : Nat} {z : Value} (h : (P.info? T).map (fun i => (i.zero, i.size, i.bytes)) = some (some z, m, k)) (hc : z.cells.size = m) : TyZ P T m k z := by
 cases hi : P.info? T with
 | none => simp [hi] at h
 | some i =>
  simp only [hi, Option.map_some, Option.some.injEq, Prod.mk.injEq] at h
  exact ⟨⟨i, hi, h.1, h.2.1, h.2.2⟩, hc⟩
theorem ty1_int64 : Ty1 Try.prog 2 := ⟨⟨_, Try.underlying2, rfl⟩, by kernel_rfl⟩
theorem tyz_int64 : TyZ Try.prog 2 1 8 (.int .i64 0) := tyz_of (by kernel_rfl) rfl
theorem ty1_sl_laws_Ring : Ty1 Try.prog 22 := ⟨⟨_, Try.underlying22, rfl⟩, by kernel_rfl⟩
theorem tyl_sl_laws_Ring : TyL Try.prog 22 69 1 := ⟨Try.underlying22, by kernel_rfl⟩
theorem tys_laws_Region : TyS Try.prog 24 1 := ⟨⟨_, Try.underlying24, rfl⟩, by kernel_rfl⟩
theorem tyf_laws_Region_0 : TyF Try.prog 24 0 0 := ⟨_, _, Try.underlying24, rfl, rfl, 0, by kernel_rfl⟩
theorem tyl_sl_impl_NetEdge : TyL Try.prog 26 55 7 := ⟨Try.underlying26, by kernel_rfl⟩
theorem ty1_sl_impl_Ring : Ty1 Try.prog 29 := ⟨⟨_, Try.underlying29, rfl⟩, by kernel_rfl⟩
theorem tyl_sl_impl_Ring : TyL Try.prog 29 74 1 := ⟨Try.underlying29, by kernel_rfl⟩
theorem tyz_sl_impl_Ring : TyZ Try.prog 29 1 24 (.slice none 0 0) := tyz_of (by kernel_rfl) rfl
theorem tys_impl_Region : TyS Try.prog 31 1 := ⟨⟨_, Try.underlying31, rfl⟩, by kernel_rfl⟩
theorem tyf_impl_Region_0 : TyF Try.prog 31 0 0 := ⟨_, _, Try.underlying31, rfl, rfl, 0, by kernel_rfl⟩
theorem tyz_impl_Region : TyZ Try.prog 31 1 24 (.agg #[.slice none 0 0]) := tyz_of (by kernel_rfl) rfl
theorem tyl_sl_spec_l14Net : TyL Try.prog 42 53 8 := ⟨Try.underlying42, by kernel_rfl⟩
theorem tyl_sl_spec_l13Edge : TyL Try.prog 44 51 4 := ⟨Try.underlying44, by kernel_rfl⟩
theorem tys_impl_Pt : TyS Try.prog 49 2 := ⟨⟨_, Try.underlying49, rfl⟩, by kernel_rfl⟩
theorem tyf_impl_Pt_0 : TyF Try.prog 49 0 0 := ⟨_, _, Try.underlying49, rfl, rfl, 0, by kernel_rfl⟩
theorem tyf_impl_Pt_1 : TyF Try.prog 49 1 1 := ⟨_, _, Try.underlying49, rfl, rfl, 0, by kernel_rfl⟩
theorem tyz_impl_Pt : TyZ Try.prog 49 2 16 (.agg #[.int .i64 0, .int .i64 0]) := tyz_of (by kernel_rfl) rfl
theorem tys_spec_l13Edge : TyS Try.prog 51 4 := ⟨⟨_, Try.underlying51, rfl⟩, by kernel_rfl⟩
theorem tyf_spec_l13Edge_0 : TyF Try.prog 51 0 0 := ⟨_, _, Try.underlying51, rfl, rfl, 1, by kernel_rfl⟩
theorem tyf_spec_l13Edge_1 : TyF Try.prog 51 1 2 := ⟨_, _, Try.underlying51, rfl, rfl, 1, by kernel_rfl⟩
theorem tyz_spec_l13Edge : TyZ Try.prog 51 4 32 (.agg #[.int .i64 0, .int .i64 0, .int .i64 0, .int .i64 0]) := tyz_of (by kernel_rfl) rfl
theorem tyf_spec_l14Net_0 : TyF Try.prog 53 0 0 := ⟨_, _, Try.underlying53, rfl, rfl, 3, by kernel_rfl⟩
theorem tyf_spec_l14Net_1 : TyF Try.prog 53 1 4 := ⟨_, _, Try.underlying53, rfl, rfl, 0, by kernel_rfl⟩
theorem tyf_spec_l14Net_2 : TyF Try.prog 53 2 5 := ⟨_, _, Try.underlying53, rfl, rfl, 0, by kernel_rfl⟩
theorem tyf_spec_l14Net_3 : TyF Try.prog 53 3 6 := ⟨_, _, Try.underlying53, rfl, rfl, 0, by kernel_rfl⟩
theorem tyf_spec_l14Net_4 : TyF Try.prog 53 4 7 := ⟨_, _, Try.underlying53, rfl, rfl, 0, by kernel_rfl⟩
theorem tyz_spec_l14Net : TyZ Try.prog 53 8 64 (.agg #[.int .i64 0, .int .i64 0, .int .i64 0, .int .i64 0, .int .i64 0, .int .i64 0, .int .i64 0, .int .i64 0]) := tyz_of (by kernel_rfl) rfl
theorem tys_impl_NetEdge : TyS Try.prog 55 7 := ⟨⟨_, Try.underlying55, rfl⟩, by kernel_rfl⟩
theorem tyf_impl_NetEdge_0 : TyF Try.prog 55 0 0 := ⟨_, _, Try.underlying55, rfl, rfl, 1, by kernel_rfl⟩
theorem tyf_impl_NetEdge_1 : TyF Try.prog 55 1 2 := ⟨_, _, Try.underlying55, rfl, rfl, 1, by kernel_rfl⟩
theorem tyf_impl_NetEdge_2 : TyF Try.prog 55 2 4 := ⟨_, _, Try.underlying55, rfl, rfl, 0, by kernel_rfl⟩
theorem tyf_impl_NetEdge_3 : TyF Try.prog 55 3 5 := ⟨_, _, Try.underlying55, rfl, rfl, 0, by kernel_rfl⟩
theorem tyf_impl_NetEdge_4 : TyF Try.prog 55 4 6 := ⟨_, _, Try.underlying55, rfl, rfl, 0, by kernel_rfl⟩
theorem tyz_impl_NetEdge : TyZ Try.prog 55 7 56 (.agg #[.int .i64 0, .int .i64 0, .int .i64 0, .int .i64 0, .int .i64 0, .int .i64 0, .int .i64 0]) := tyz_of (by kernel_rfl) rfl
theorem tyl_sl_impl_leg : TyL Try.prog 57 61 4 := ⟨Try.underlying57, by kernel_rfl⟩
theorem tys_impl_leg : TyS Try.prog 61 4 := ⟨⟨_, Try.underlying61, rfl⟩, by kernel_rfl⟩
theorem tyf_impl_leg_0 : TyF Try.prog 61 0 0 := ⟨_, _, Try.underlying61, rfl, rfl, 1, by kernel_rfl⟩
theorem tyf_impl_leg_1 : TyF Try.prog 61 1 2 := ⟨_, _, Try.underlying61, rfl, rfl, 1, by kernel_rfl⟩
theorem tyz_impl_leg : TyZ Try.prog 61 4 32 (.agg #[.int .i64 0, .int .i64 0, .int .i64 0, .int .i64 0]) := tyz_of (by kernel_rfl) rfl
theorem tys_laws_Ring : TyS Try.prog 69 1 := ⟨⟨_, Try.underlying69, rfl⟩, by kernel_rfl⟩
theorem ty1_sl_impl_Pt : Ty1 Try.prog 72 := ⟨⟨_, Try.underlying72, rfl⟩, by kernel_rfl⟩
theorem tyl_sl_impl_Pt : TyL Try.prog 72 49 2 := ⟨Try.underlying72, by kernel_rfl⟩
theorem tyf_impl_Ring_0 : TyF Try.prog 74 0 0 := ⟨_, _, Try.underlying74, rfl, rfl, 0, by kernel_rfl⟩
theorem tyz_impl_Ring : TyZ Try.prog 74 1 24 (.agg #[.slice none 0 0]) := tyz_of (by kernel_rfl) rfl
theorem ok_laws_szRegion : FnOk Try.prog 4 := ⟨_, Try.func4, by kernel_rfl, rfl⟩
theorem ok_spec_NetEdges : FnOk Try.prog 5 := ⟨_, Try.func5, by kernel_rfl, rfl⟩
theorem ok_laws_toRegion : FnOk Try.prog 6 := ⟨_, Try.func6, by kernel_rfl, rfl⟩
theorem ok_impl_NetEdges : FnOk Try.prog 7 := ⟨_, Try.func7, by kernel_rfl, rfl⟩
theorem ok_laws_eqNetEdgeS : FnOk Try.prog 8 := ⟨_, Try.func8, by kernel_rfl, rfl⟩
theorem ok_laws_eqRegion : FnOk Try.prog 9 := ⟨_, Try.func9, by kernel_rfl, rfl⟩
theorem ok_laws_markRegion : FnOk Try.prog 10 := ⟨_, Try.func10, by kernel_rfl, rfl⟩
theorem ok_laws_markNetEdgeS : FnOk Try.prog 11 := ⟨_, Try.func11, by kernel_rfl, rfl⟩
theorem ok_laws_heldNetEdgeS : FnOk Try.prog 12 := ⟨_, Try.func12, by kernel_rfl, rfl⟩
theorem ok_spec_l13Ok : FnOk Try.prog 14 := ⟨_, Try.func14, by kernel_rfl, rfl⟩
theorem ok_spec_IsSnapped : FnOk Try.prog 15 := ⟨_, Try.func15, by kernel_rfl, rfl⟩
theorem ok_spec_l14Add : FnOk Try.prog 16 := ⟨_, Try.func16, by kernel_rfl, rfl⟩
theorem ok_spec_l13All : FnOk Try.prog 17 := ⟨_, Try.func17, by kernel_rfl, rfl⟩
theorem ok_spec_l14Sides : FnOk Try.prog 18 := ⟨_, Try.func18, by kernel_rfl, rfl⟩
theorem ok_laws_toRingS : FnOk Try.prog 19 := ⟨_, Try.func19, by kernel_rfl, rfl⟩
theorem ok_impl_ValidRegion : FnOk Try.prog 20 := ⟨_, Try.func20, by kernel_rfl, rfl⟩
theorem ok_impl_IsSnapped : FnOk Try.prog 21 := ⟨_, Try.func21, by kernel_rfl, rfl⟩
theorem ok_impl_edgesOf : FnOk Try.prog 22 := ⟨_, Try.func22, by kernel_rfl, rfl⟩
theorem ok_impl_pairsOf : FnOk Try.prog 23 := ⟨_, Try.func23, by kernel_rfl, rfl⟩
theorem ok_impl_netEdge : FnOk Try.prog 24 := ⟨_, Try.func24, by kernel_rfl, rfl⟩
theorem ok_laws_eqNetEdge : FnOk Try.prog 25 := ⟨_, Try.func25, by kernel_rfl, rfl⟩
theorem ok_laws_markRingS : FnOk Try.prog 27 := ⟨_, Try.func27, by kernel_rfl, rfl⟩
theorem ok_spec_l13Apart : FnOk Try.prog 30 := ⟨_, Try.func30, by kernel_rfl, rfl⟩
theorem ok_spec_l03Meeting : FnOk Try.prog 31 := ⟨_, Try.func31, by kernel_rfl, rfl⟩
theorem ok_spec_l13Before : FnOk Try.prog 32 := ⟨_, Try.func32, by kernel_rfl, rfl⟩
theorem ok_spec_l14Beside : FnOk Try.prog 34 := ⟨_, Try.func34, by kernel_rfl, rfl⟩
theorem ok_laws_toRing : FnOk Try.prog 35 := ⟨_, Try.func35, by kernel_rfl, rfl⟩
theorem ok_impl_snappedPair : FnOk Try.prog 38 := ⟨_, Try.func38, by kernel_rfl, rfl⟩
theorem ok_impl_compareYX : FnOk Try.prog 39 := ⟨_, Try.func39, by kernel_rfl, rfl⟩
theorem ok_slices_SortFunc_sl_impl_leg_impl_leg : FnOk Try.prog 40 := ⟨_, Try.func40, by kernel_rfl, rfl⟩
theorem ok_slices_Compact_sl_impl_leg_impl_leg : FnOk Try.prog 42 := ⟨_, Try.func42, by kernel_rfl, rfl⟩
theorem ok_impl_windingOf : FnOk Try.prog 43 := ⟨_, Try.func43, by kernel_rfl, rfl⟩
theorem ok_laws_eqPt : FnOk Try.prog 44 := ⟨_, Try.func44, by kernel_rfl, rfl⟩
theorem ok_laws_markPtS : FnOk Try.prog 46 := ⟨_, Try.func46, by kernel_rfl, rfl⟩
theorem ok_spec_l00Max : FnOk Try.prog 50 := ⟨_, Try.func50, by kernel_rfl, rfl⟩
theorem ok_spec_l00Min : FnOk Try.prog 51 := ⟨_, Try.func51, by kernel_rfl, rfl⟩
theorem ok_spec_l03Ends : FnOk Try.prog 52 := ⟨_, Try.func52, by kernel_rfl, rfl⟩
theorem ok_spec_l03Sign : FnOk Try.prog 53 := ⟨_, Try.func53, by kernel_rfl, rfl⟩
theorem ok_spec_l03Turn : FnOk Try.prog 54 := ⟨_, Try.func54, by kernel_rfl, rfl⟩
theorem ok_spec_l09Sum : FnOk Try.prog 55 := ⟨_, Try.func55, by kernel_rfl, rfl⟩
theorem ok_spec_l14Rotate : FnOk Try.prog 56 := ⟨_, Try.func56, by kernel_rfl, rfl⟩
theorem ok_spec_l09Times : FnOk Try.prog 57 := ⟨_, Try.func57, by kernel_rfl, rfl⟩
theorem ok_impl_meeting : FnOk Try.prog 60 := ⟨_, Try.func60, by kernel_rfl, rfl⟩
theorem ok_impl_sign64 : FnOk Try.prog 61 := ⟨_, Try.func61, by kernel_rfl, rfl⟩
theorem ok_impl_double : FnOk Try.prog 64 := ⟨_, Try.func64, by kernel_rfl, rfl⟩
theorem ok_impl_turn : FnOk Try.prog 65 := ⟨_, Try.func65, by kernel_rfl, rfl⟩
theorem ok_spec_l03On : FnOk Try.prog 68 := ⟨_, Try.func68, by kernel_rfl, rfl⟩
theorem ok_impl_greaterPt : FnOk Try.prog 71 := ⟨_, Try.func71, by kernel_rfl, rfl⟩
theorem ok_impl_lesserPt : FnOk Try.prog 72 := ⟨_, Try.func72, by kernel_rfl, rfl⟩
theorem ok_impl_comparePt : FnOk Try.prog 73 := ⟨_, Try.func73, by kernel_rfl, rfl⟩
theorem ok_impl_onSegment : FnOk Try.prog 74 := ⟨_, Try.func74, by kernel_rfl, rfl⟩
theorem ok_slices_insertionSortCmpFunc_impl_leg : FnOk Try.prog 75 := ⟨_, Try.func75, by kernel_rfl, rfl⟩
theorem ok_spec_l03Box : FnOk Try.prog 85 := ⟨_, Try.func85, by kernel_rfl, rfl⟩
theorem bld_impl_Pt_ (w : World) : (Instr.build 49 #[]).run Try.prog w = .ok (.agg #[.int .i64 0, .int .i64 0]) w := by
 rw [build_agg]
 simp only [List.map_toArray, List.map_cons, List.map_nil]
 simp [Instr.build, Instr.fill, go_sem]
theorem bld_impl_Pt_0_1 {v0 a0_0 : Value} (h0 : v0.cells = #[a0_0]) {v1 a1_0 : Value} (h1 : v1.cells = #[a1_0]) (w : World) : (Instr.build 49 #[(0, v0), (1, v1)]).run Try.prog w = .ok (.agg #[a0_0, a1_0]) w := by
 rw [build_agg]
 simp only [List.map_toArray, List.map_cons, List.map_nil, h0, h1]
 simp [Instr.build, Instr.fill, go_sem]
theorem bld_spec_l13Edge_0_1 {v0 a0_0 a0_1 : Value} (h0 : v0.cells = #[a0_0, a0_1]) {v1 a1_0 a1_1 : Value} (h1 : v1.cells = #[a1_0, a1_1]) (w : World) : (Instr.build 51 #[(0, v0), (1, v1)]).run Try.prog w = .ok (.agg #[a0_0, a0_1, a1_0, a1_1]) w := by
 rw [build_agg]
 simp only [List.map_toArray, List.map_cons, List.map_nil, h0, h1]
 simp [Instr.build, Instr.fill, go_sem]
theorem bld_spec_l14Net_0 {v0 a0_0 a0_1 a0_2 a0_3 : Value} (h0 : v0.cells = #[a0_0, a0_1, a0_2, a0_3]) (w : World) : (Instr.build 53 #[(0, v0)]).run Try.prog w = .ok (.agg #[a0_0, a0_1, a0_2, a0_3, .int .i64 0, .int .i64 0, .int .i64 0, .int .i64 0]) w := by
 rw [build_agg]
 simp only [List.map_toArray, List.map_cons, List.map_nil, h0]
 simp [Instr.build, Instr.fill, go_sem]
theorem bld_impl_NetEdge_0_1 {v0 a0_0 a0_1 : Value} (h0 : v0.cells = #[a0_0, a0_1]) {v1 a1_0 a1_1 : Value} (h1 : v1.cells = #[a1_0, a1_1]) (w : World) : (Instr.build 55 #[(0, v0), (1, v1)]).run Try.prog w = .ok (.agg #[a0_0, a0_1, a1_0, a1_1, .int .i64 0, .int .i64 0, .int .i64 0]) w := by
 rw [build_agg]
 simp only [List.map_toArray, List.map_cons, List.map_nil, h0, h1]
 simp [Instr.build, Instr.fill, go_sem]
theorem bld_impl_NetEdge_0_1_2_3_4 {v0 a0_0 a0_1 : Value} (h0 : v0.cells = #[a0_0, a0_1]) {v1 a1_0 a1_1 : Value} (h1 : v1.cells = #[a1_0, a1_1]) {v2 a2_0 : Value} (h2 : v2.cells = #[a2_0]) {v3 a3_0 : Value} (h3 : v3.cells = #[a3_0]) {v4 a4_0 : Value} (h4 : v4.cells = #[a4_0]) (w : World) : (Instr.build 55 #[(0, v0), (1, v1), (2, v2), (3, v3), (4, v4)]).run Try.prog w = .ok (.agg #[a0_0, a0_1, a1_0, a1_1, a2_0, a3_0, a4_0]) w := by
 rw [build_agg]
 simp only [List.map_toArray, List.map_cons, List.map_nil, h0, h1, h2, h3, h4]
 simp [Instr.build, Instr.fill, go_sem]
theorem bld_impl_leg_0_1 {v0 a0_0 a0_1 : Value} (h0 : v0.cells = #[a0_0, a0_1]) {v1 a1_0 a1_1 : Value} (h1 : v1.cells = #[a1_0, a1_1]) (w : World) : (Instr.build 61 #[(0, v0), (1, v1)]).run Try.prog w = .ok (.agg #[a0_0, a0_1, a1_0, a1_1]) w := by
 rw [build_agg]
 simp only [List.map_toArray, List.map_cons, List.map_nil, h0, h1]
 simp [Instr.build, Instr.fill, go_sem]
theorem bsl_sl_impl_NetEdge_0 (w : World) : (Instr.buildSlice 26 0 #[]).run Try.prog w = .ok (.slice (some ⟨w.heap.size, 0, none⟩) 0 0) (w.alloc (.cells [].toArray 55)) := by
 rw [buildSlice_agg]
 simp only [List.map_toArray, List.map_cons, List.map_nil]
 simp [Instr.buildSlice, Instr.fill, go_sem]
theorem bsl_sl_impl_NetEdge_1_0 {v0 a0_0 a0_1 a0_2 a0_3 a0_4 a0_5 a0_6 : Value} (h0 : v0.cells = #[a0_0, a0_1, a0_2, a0_3, a0_4, a0_5, a0_6]) (w : World) : (Instr.buildSlice 26 1 #[(0, v0)]).run Try.prog w = .ok (.slice (some ⟨w.heap.size, 0, none⟩) 1 1) (w.alloc (.cells [a0_0, a0_1, a0_2, a0_3, a0_4, a0_5, a0_6].toArray 55)) := by
 rw [buildSlice_agg]
 simp only [List.map_toArray, List.map_cons, List.map_nil, h0]
 simp [Instr.buildSlice, Instr.fill, go_sem]
theorem bsl_sl_spec_l14Net_0 (w : World) : (Instr.buildSlice 42 0 #[]).run Try.prog w = .ok (.slice (some ⟨w.heap.size, 0, none⟩) 0 0) (w.alloc (.cells [].toArray 53)) := by
 rw [buildSlice_agg]
 simp only [List.map_toArray, List.map_cons, List.map_nil]
 simp [Instr.buildSlice, Instr.fill, go_sem]
theorem bsl_sl_spec_l14Net_1_0 {v0 a0_0 a0_1 a0_2 a0_3 a0_4 a0_5 a0_6 a0_7 : Value} (h0 : v0.cells = #[a0_0, a0_1, a0_2, a0_3, a0_4, a0_5, a0_6, a0_7]) (w : World) : (Instr.buildSlice 42 1 #[(0, v0)]).run Try.prog w = .ok (.slice (some ⟨w.heap.size, 0, none⟩) 1 1) (w.alloc (.cells [a0_0, a0_1, a0_2, a0_3, a0_4, a0_5, a0_6, a0_7].toArray 53)) := by
 rw [buildSlice_agg]
 simp only [List.map_toArray, List.map_cons, List.map_nil, h0]
 simp [Instr.buildSlice, Instr.fill, go_sem]
theorem bsl_sl_impl_leg_1_0 {v0 a0_0 a0_1 a0_2 a0_3 : Value} (h0 : v0.cells = #[a0_0, a0_1, a0_2, a0_3]) (w : World) : (Instr.buildSlice 57 1 #[(0, v0)]).run Try.prog w = .ok (.slice (some ⟨w.heap.size, 0, none⟩) 1 1) (w.alloc (.cells [a0_0, a0_1, a0_2, a0_3].toArray 61)) := by
 rw [buildSlice_agg]
 simp only [List.map_toArray, List.map_cons, List.map_nil, h0]
 simp [Instr.buildSlice, Instr.fill, go_sem]
theorem bsl_sl_impl_Pt_0 (w : World) : (Instr.buildSlice 72 0 #[]).run Try.prog w = .ok (.slice (some ⟨w.heap.size, 0, none⟩) 0 0) (w.alloc (.cells [].toArray 49)) := by
 rw [buildSlice_agg]
 simp only [List.map_toArray, List.map_cons, List.map_nil]
 simp [Instr.buildSlice, Instr.fill, go_sem]
theorem bsl_sl_impl_Pt_1_0 {v0 a0_0 a0_1 : Value} (h0 : v0.cells = #[a0_0, a0_1]) (w : World) : (Instr.buildSlice 72 1 #[(0, v0)]).run Try.prog w = .ok (.slice (some ⟨w.heap.size, 0, none⟩) 1 1) (w.alloc (.cells [a0_0, a0_1].toArray 49)) := by
 rw [buildSlice_agg]
 simp only [List.map_toArray, List.map_cons, List.map_nil, h0]
 simp [Instr.buildSlice, Instr.fill, go_sem]
theorem bsl_sl_impl_Pt_4_0_1_2_3 {v0 a0_0 a0_1 : Value} (h0 : v0.cells = #[a0_0, a0_1]) {v1 a1_0 a1_1 : Value} (h1 : v1.cells = #[a1_0, a1_1]) {v2 a2_0 a2_1 : Value} (h2 : v2.cells = #[a2_0, a2_1]) {v3 a3_0 a3_1 : Value} (h3 : v3.cells = #[a3_0, a3_1]) (w : World) : (Instr.buildSlice 72 4 #[(0, v0), (1, v1), (2, v2), (3, v3)]).run Try.prog w = .ok (.slice (some ⟨w.heap.size, 0, none⟩) 4 4) (w.alloc (.cells [a0_0, a0_1, a1_0, a1_1, a2_0, a2_1, a3_0, a3_1].toArray 49)) := by
 rw [buildSlice_agg]
 simp only [List.map_toArray, List.map_cons, List.map_nil, h0, h1, h2, h3]
 simp [Instr.buildSlice, Instr.fill, go_sem]
theorem qt_eqlS_impl_Pt {o : Oper} {n : Nat} {env : List (Nat × Value)} {w0 : Bs} {Rs : List Res} {x y : Operand} {T' : TypeId} {a0 a1 b0 b1 : Int} (ho : o.op = .binOp .eql 49 x y T') (hx : ev env x = some (.agg #[.int .i64 a0, .int .i64 a1])) (hy : ev env y = some (.agg #[.int .i64 b0, .int .i64 b1])) : Qt Try.prog o n env w0 Rs (.bool ((a0 == b0) && (a1 == b1))) :=
 qt_of fun a w hF _ => by
  unfold execOp; simp only [ho, hF.ev hx, hF.ev hy]
  cases h0 : (a0 == b0); all_goals cases h1 : (a1 == b1)
  all_goals simp [go_sem, *]
theorem qt_neqS_impl_Pt {o : Oper} {n : Nat} {env : List (Nat × Value)} {w0 : Bs} {Rs : List Res} {x y : Operand} {T' : TypeId} {a0 a1 b0 b1 : Int} (ho : o.op = .binOp .neq 49 x y T') (hx : ev env x = some (.agg #[.int .i64 a0, .int .i64 a1])) (hy : ev env y = some (.agg #[.int .i64 b0, .int .i64 b1])) : Qt Try.prog o n env w0 Rs (.bool (!((a0 == b0) && (a1 == b1)))) :=
 qt_of fun a w hF _ => by
  unfold execOp; simp only [ho, hF.ev hx, hF.ev hy]
  cases h0 : (a0 == b0); all_goals cases h1 : (a1 == b1)
  all_goals simp [go_sem, *]
theorem qt_neqS_spec_l13Edge {o : Oper} {n : Nat} {env : List (Nat × Value)} {w0 : Bs} {Rs : List Res} {x y : Operand} {T' : TypeId} {a0 a1 a2 a3 b0 b1 b2 b3 : Int} (ho : o.op = .binOp .neq 51 x y T') (hx : ev env x = some (.agg #[.int .i64 a0, .int .i64 a1, .int .i64 a2, .int .i64 a3])) (hy : ev env y = some (.agg #[.int .i64 b0, .int .i64 b1, .int .i64 b2, .int .i64 b3])) : Qt Try.prog o n env w0 Rs (.bool (!((a0 == b0) && (a1 == b1) && (a2 == b2) && (a3 == b3)))) :=
 qt_of fun a w hF _ => by
  unfold execOp; simp only [ho, hF.ev hx, hF.ev hy]
  cases h0 : (a0 == b0); all_goals cases h1 : (a1 == b1); all_goals cases h2 : (a2 == b2); all_goals cases h3 : (a3 == b3)
  all_goals simp [go_sem, *]
theorem qt_eqlS_impl_leg {o : Oper} {n : Nat} {env : List (Nat × Value)} {w0 : Bs} {Rs : List Res} {x y : Operand} {T' : TypeId} {a0 a1 a2 a3 b0 b1 b2 b3 : Int} (ho : o.op = .binOp .eql 61 x y T') (hx : ev env x = some (.agg #[.int .i64 a0, .int .i64 a1, .int .i64 a2, .int .i64 a3])) (hy : ev env y = some (.agg #[.int .i64 b0, .int .i64 b1, .int .i64 b2, .int .i64 b3])) : Qt Try.prog o n env w0 Rs (.bool ((a0 == b0) && (a1 == b1) && (a2 == b2) && (a3 == b3))) :=
 qt_of fun a w hF _ => by
  unfold execOp; simp only [ho, hF.ev hx, hF.ev hy]
  cases h0 : (a0 == b0); all_goals cases h1 : (a1 == b1); all_goals cases h2 : (a2 == b2); all_goals cases h3 : (a3 == b3)
  all_goals simp [go_sem, *]
theorem qt_neqS_impl_leg {o : Oper} {n : Nat} {env : List (Nat × Value)} {w0 : Bs} {Rs : List Res} {x y : Operand} {T' : TypeId} {a0 a1 a2 a3 b0 b1 b2 b3 : Int} (ho : o.op = .binOp .neq 61 x y T') (hx : ev env x = some (.agg #[.int .i64 a0, .int .i64 a1, .int .i64 a2, .int .i64 a3])) (hy : ev env y = some (.agg #[.int .i64 b0, .int .i64 b1, .int .i64 b2, .int .i64 b3])) : Qt Try.prog o n env w0 Rs (.bool (!((a0 == b0) && (a1 == b1) && (a2 == b2) && (a3 == b3)))) :=
 qt_of fun a w hF _ => by
  unfold execOp; simp only [ho, hF.ev hx, hF.ev hy]
  cases h0 : (a0 == b0); all_goals cases h1 : (a1 == b1); all_goals cases h2 : (a2 == b2); all_goals cases h3 : (a3 == b3)
  all_goals simp [go_sem, *]
theorem mixed : Try.prog.follows .mixedOrders = true := by kernel_rfl
end Go.Proofs.Ytcigocejgmafjaa
