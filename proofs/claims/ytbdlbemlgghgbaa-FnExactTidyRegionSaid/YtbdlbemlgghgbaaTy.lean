/- Facts on the types and the functions of this program. -/
import Derived.Test.YtbdlbemlgghgbaaSv
namespace Go.Proofs.Ytbdlbemlgghgbaa
open Go Go.RowKit
set_option maxRecDepth 100000
set_option linter.unusedSimpArgs false
set_option linter.unusedVariables false

theorem tyz_of {P : Program} {T m k : Nat} {z : Value} (h : (P.info? T).map (fun i => (i.zero, i.size, i.bytes)) = some (some z, m, k)) (hc : z.cells.size = m) : TyZ P T m k z := by
  cases hi : P.info? T with
  | none => simp [hi] at h
  | some i =>
    simp only [hi, Option.map_some, Option.some.injEq, Prod.mk.injEq] at h
    exact ⟨⟨i, hi, h.1, h.2.1, h.2.2⟩, hc⟩
theorem ty1_int64 : Ty1 Try.prog 2 := ⟨⟨_, Try.underlying2, rfl⟩, by kernel_rfl⟩
theorem tyz_int64 : TyZ Try.prog 2 1 8 (.int .i64 0) := tyz_of (by kernel_rfl) rfl
theorem ty1_int : Ty1 Try.prog 3 := ⟨⟨_, Try.underlying3, rfl⟩, by kernel_rfl⟩
theorem tyz_int : TyZ Try.prog 3 1 8 (.int .i64 0) := tyz_of (by kernel_rfl) rfl
theorem ty1_bool : Ty1 Try.prog 4 := ⟨⟨_, Try.underlying4, rfl⟩, by kernel_rfl⟩
theorem tyb_bool : Try.prog.underlying 4 = some .bool := Try.underlying4
theorem tyz_bool : TyZ Try.prog 4 1 1 (.bool false) := tyz_of (by kernel_rfl) rfl
theorem ty1_uint8 : Ty1 Try.prog 5 := ⟨⟨_, Try.underlying5, rfl⟩, by kernel_rfl⟩
theorem tyz_uint8 : TyZ Try.prog 5 1 1 (.int .u8 0) := tyz_of (by kernel_rfl) rfl
theorem ty1_string : Ty1 Try.prog 9 := ⟨⟨_, Try.underlying9, rfl⟩, by kernel_rfl⟩
theorem tyz_string : TyZ Try.prog 9 1 16 (.string ⟨#[]⟩) := tyz_of (by kernel_rfl) rfl
theorem ty1_int32 : Ty1 Try.prog 21 := ⟨⟨_, Try.underlying21, rfl⟩, by kernel_rfl⟩
theorem tyz_int32 : TyZ Try.prog 21 1 4 (.int .i32 0) := tyz_of (by kernel_rfl) rfl
theorem ty1_sl_uint8 : Ty1 Try.prog 22 := ⟨⟨_, Try.underlying22, rfl⟩, by kernel_rfl⟩
theorem tyl_sl_uint8 : TyL Try.prog 22 5 1 := ⟨Try.underlying22, by kernel_rfl⟩
theorem tyz_sl_uint8 : TyZ Try.prog 22 1 24 (.slice none 0 0) := tyz_of (by kernel_rfl) rfl
theorem tys_impl_Pt : TyS Try.prog 24 2 := ⟨⟨_, Try.underlying24, rfl⟩, by kernel_rfl⟩
theorem tyf_impl_Pt_0 : TyF Try.prog 24 0 0 := ⟨_, _, Try.underlying24, rfl, rfl, 0, by kernel_rfl⟩
theorem tyg_impl_Pt_0 : TyG Try.prog 24 0 0 := ⟨_, _, Try.underlying24, rfl, rfl, ⟨_, Try.underlying2, rfl⟩, by kernel_rfl⟩
theorem tyf_impl_Pt_1 : TyF Try.prog 24 1 1 := ⟨_, _, Try.underlying24, rfl, rfl, 0, by kernel_rfl⟩
theorem tyg_impl_Pt_1 : TyG Try.prog 24 1 1 := ⟨_, _, Try.underlying24, rfl, rfl, ⟨_, Try.underlying2, rfl⟩, by kernel_rfl⟩
theorem tyz_impl_Pt : TyZ Try.prog 24 2 16 (.agg #[.int .i64 0, .int .i64 0]) := tyz_of (by kernel_rfl) rfl
theorem ty1_sl_laws_Ring : Ty1 Try.prog 32 := ⟨⟨_, Try.underlying32, rfl⟩, by kernel_rfl⟩
theorem tyl_sl_laws_Ring : TyL Try.prog 32 84 1 := ⟨Try.underlying32, by kernel_rfl⟩
theorem tyz_sl_laws_Ring : TyZ Try.prog 32 1 24 (.slice none 0 0) := tyz_of (by kernel_rfl) rfl
theorem tys_laws_Region : TyS Try.prog 34 1 := ⟨⟨_, Try.underlying34, rfl⟩, by kernel_rfl⟩
theorem tyf_laws_Region_0 : TyF Try.prog 34 0 0 := ⟨_, _, Try.underlying34, rfl, rfl, 0, by kernel_rfl⟩
theorem tyg_laws_Region_0 : TyG Try.prog 34 0 0 := ⟨_, _, Try.underlying34, rfl, rfl, ⟨_, Try.underlying32, rfl⟩, by kernel_rfl⟩
theorem tyz_laws_Region : TyZ Try.prog 34 1 24 (.agg #[.slice none 0 0]) := tyz_of (by kernel_rfl) rfl
theorem ty1_sl_impl_Ring : Ty1 Try.prog 36 := ⟨⟨_, Try.underlying36, rfl⟩, by kernel_rfl⟩
theorem tyl_sl_impl_Ring : TyL Try.prog 36 88 1 := ⟨Try.underlying36, by kernel_rfl⟩
theorem tyz_sl_impl_Ring : TyZ Try.prog 36 1 24 (.slice none 0 0) := tyz_of (by kernel_rfl) rfl
theorem tys_impl_Region : TyS Try.prog 38 1 := ⟨⟨_, Try.underlying38, rfl⟩, by kernel_rfl⟩
theorem tyf_impl_Region_0 : TyF Try.prog 38 0 0 := ⟨_, _, Try.underlying38, rfl, rfl, 0, by kernel_rfl⟩
theorem tyg_impl_Region_0 : TyG Try.prog 38 0 0 := ⟨_, _, Try.underlying38, rfl, rfl, ⟨_, Try.underlying36, rfl⟩, by kernel_rfl⟩
theorem tyz_impl_Region : TyZ Try.prog 38 1 24 (.agg #[.slice none 0 0]) := tyz_of (by kernel_rfl) rfl
theorem ty1_p_spec_l00Src : Ty1 Try.prog 45 := ⟨⟨_, Try.underlying45, rfl⟩, by kernel_rfl⟩
theorem tyz_p_spec_l00Src : TyZ Try.prog 45 1 8 (.pointer none) := tyz_of (by kernel_rfl) rfl
theorem ty1_sl_int64 : Ty1 Try.prog 48 := ⟨⟨_, Try.underlying48, rfl⟩, by kernel_rfl⟩
theorem tyl_sl_int64 : TyL Try.prog 48 2 1 := ⟨Try.underlying48, by kernel_rfl⟩
theorem tyz_sl_int64 : TyZ Try.prog 48 1 24 (.slice none 0 0) := tyz_of (by kernel_rfl) rfl
theorem tys_spec_l13Span : TyS Try.prog 56 6 := ⟨⟨_, Try.underlying56, rfl⟩, by kernel_rfl⟩
theorem tyf_spec_l13Span_0 : TyF Try.prog 56 0 0 := ⟨_, _, Try.underlying56, rfl, rfl, 0, by kernel_rfl⟩
theorem tyg_spec_l13Span_0 : TyG Try.prog 56 0 0 := ⟨_, _, Try.underlying56, rfl, rfl, ⟨_, Try.underlying2, rfl⟩, by kernel_rfl⟩
theorem tyf_spec_l13Span_1 : TyF Try.prog 56 1 1 := ⟨_, _, Try.underlying56, rfl, rfl, 0, by kernel_rfl⟩
theorem tyg_spec_l13Span_1 : TyG Try.prog 56 1 1 := ⟨_, _, Try.underlying56, rfl, rfl, ⟨_, Try.underlying2, rfl⟩, by kernel_rfl⟩
theorem tyf_spec_l13Span_2 : TyF Try.prog 56 2 2 := ⟨_, _, Try.underlying56, rfl, rfl, 0, by kernel_rfl⟩
theorem tyg_spec_l13Span_2 : TyG Try.prog 56 2 2 := ⟨_, _, Try.underlying56, rfl, rfl, ⟨_, Try.underlying2, rfl⟩, by kernel_rfl⟩
theorem tyf_spec_l13Span_3 : TyF Try.prog 56 3 3 := ⟨_, _, Try.underlying56, rfl, rfl, 0, by kernel_rfl⟩
theorem tyg_spec_l13Span_3 : TyG Try.prog 56 3 3 := ⟨_, _, Try.underlying56, rfl, rfl, ⟨_, Try.underlying2, rfl⟩, by kernel_rfl⟩
theorem tyf_spec_l13Span_4 : TyF Try.prog 56 4 4 := ⟨_, _, Try.underlying56, rfl, rfl, 0, by kernel_rfl⟩
theorem tyg_spec_l13Span_4 : TyG Try.prog 56 4 4 := ⟨_, _, Try.underlying56, rfl, rfl, ⟨_, Try.underlying4, rfl⟩, by kernel_rfl⟩
theorem tyf_spec_l13Span_5 : TyF Try.prog 56 5 5 := ⟨_, _, Try.underlying56, rfl, rfl, 0, by kernel_rfl⟩
theorem tyg_spec_l13Span_5 : TyG Try.prog 56 5 5 := ⟨_, _, Try.underlying56, rfl, rfl, ⟨_, Try.underlying4, rfl⟩, by kernel_rfl⟩
theorem tyz_spec_l13Span : TyZ Try.prog 56 6 40 (.agg #[.int .i64 0, .int .i64 0, .int .i64 0, .int .i64 0, .bool false, .bool false]) := tyz_of (by kernel_rfl) rfl
theorem ty1_p_impl_Region : Ty1 Try.prog 61 := ⟨⟨_, Try.underlying61, rfl⟩, by kernel_rfl⟩
theorem tyz_p_impl_Region : TyZ Try.prog 61 1 8 (.pointer none) := tyz_of (by kernel_rfl) rfl
theorem ty1_uint64 : Ty1 Try.prog 68 := ⟨⟨_, Try.underlying68, rfl⟩, by kernel_rfl⟩
theorem tyz_uint64 : TyZ Try.prog 68 1 8 (.int .u64 0) := tyz_of (by kernel_rfl) rfl
theorem tys_spec_l00Src : TyS Try.prog 70 3 := ⟨⟨_, Try.underlying70, rfl⟩, by kernel_rfl⟩
theorem tyf_spec_l00Src_0 : TyF Try.prog 70 0 0 := ⟨_, _, Try.underlying70, rfl, rfl, 0, by kernel_rfl⟩
theorem tyg_spec_l00Src_0 : TyG Try.prog 70 0 0 := ⟨_, _, Try.underlying70, rfl, rfl, ⟨_, Try.underlying22, rfl⟩, by kernel_rfl⟩
theorem tyf_spec_l00Src_1 : TyF Try.prog 70 1 1 := ⟨_, _, Try.underlying70, rfl, rfl, 0, by kernel_rfl⟩
theorem tyg_spec_l00Src_1 : TyG Try.prog 70 1 1 := ⟨_, _, Try.underlying70, rfl, rfl, ⟨_, Try.underlying3, rfl⟩, by kernel_rfl⟩
theorem tyf_spec_l00Src_2 : TyF Try.prog 70 2 2 := ⟨_, _, Try.underlying70, rfl, rfl, 0, by kernel_rfl⟩
theorem tyg_spec_l00Src_2 : TyG Try.prog 70 2 2 := ⟨_, _, Try.underlying70, rfl, rfl, ⟨_, Try.underlying68, rfl⟩, by kernel_rfl⟩
theorem tyz_spec_l00Src : TyZ Try.prog 70 3 40 (.agg #[.slice none 0 0, .int .i64 0, .int .u64 0]) := tyz_of (by kernel_rfl) rfl
theorem ty1_sl_impl_Pt : Ty1 Try.prog 73 := ⟨⟨_, Try.underlying73, rfl⟩, by kernel_rfl⟩
theorem tyl_sl_impl_Pt : TyL Try.prog 73 24 2 := ⟨Try.underlying73, by kernel_rfl⟩
theorem tyz_sl_impl_Pt : TyZ Try.prog 73 1 24 (.slice none 0 0) := tyz_of (by kernel_rfl) rfl
theorem ty1_sl_laws_Pt : Ty1 Try.prog 82 := ⟨⟨_, Try.underlying82, rfl⟩, by kernel_rfl⟩
theorem tyl_sl_laws_Pt : TyL Try.prog 82 122 2 := ⟨Try.underlying82, by kernel_rfl⟩
theorem tyz_sl_laws_Pt : TyZ Try.prog 82 1 24 (.slice none 0 0) := tyz_of (by kernel_rfl) rfl
theorem tys_laws_Ring : TyS Try.prog 84 1 := ⟨⟨_, Try.underlying84, rfl⟩, by kernel_rfl⟩
theorem tyf_laws_Ring_0 : TyF Try.prog 84 0 0 := ⟨_, _, Try.underlying84, rfl, rfl, 0, by kernel_rfl⟩
theorem tyg_laws_Ring_0 : TyG Try.prog 84 0 0 := ⟨_, _, Try.underlying84, rfl, rfl, ⟨_, Try.underlying82, rfl⟩, by kernel_rfl⟩
theorem tyz_laws_Ring : TyZ Try.prog 84 1 24 (.agg #[.slice none 0 0]) := tyz_of (by kernel_rfl) rfl
theorem ty1_p_impl_Ring : Ty1 Try.prog 86 := ⟨⟨_, Try.underlying86, rfl⟩, by kernel_rfl⟩
theorem tyz_p_impl_Ring : TyZ Try.prog 86 1 8 (.pointer none) := tyz_of (by kernel_rfl) rfl
theorem tys_impl_Ring : TyS Try.prog 88 1 := ⟨⟨_, Try.underlying88, rfl⟩, by kernel_rfl⟩
theorem tyf_impl_Ring_0 : TyF Try.prog 88 0 0 := ⟨_, _, Try.underlying88, rfl, rfl, 0, by kernel_rfl⟩
theorem tyg_impl_Ring_0 : TyG Try.prog 88 0 0 := ⟨_, _, Try.underlying88, rfl, rfl, ⟨_, Try.underlying73, rfl⟩, by kernel_rfl⟩
theorem tyz_impl_Ring : TyZ Try.prog 88 1 24 (.agg #[.slice none 0 0]) := tyz_of (by kernel_rfl) rfl
theorem ty1_sl_spec_l13Edge : Ty1 Try.prog 89 := ⟨⟨_, Try.underlying89, rfl⟩, by kernel_rfl⟩
theorem tyl_sl_spec_l13Edge : TyL Try.prog 89 118 4 := ⟨Try.underlying89, by kernel_rfl⟩
theorem tyz_sl_spec_l13Edge : TyZ Try.prog 89 1 24 (.slice none 0 0) := tyz_of (by kernel_rfl) rfl
theorem ty1_sl_impl_leg : Ty1 Try.prog 95 := ⟨⟨_, Try.underlying95, rfl⟩, by kernel_rfl⟩
theorem tyl_sl_impl_leg : TyL Try.prog 95 109 4 := ⟨Try.underlying95, by kernel_rfl⟩
theorem tyz_sl_impl_leg : TyZ Try.prog 95 1 24 (.slice none 0 0) := tyz_of (by kernel_rfl) rfl
theorem tys_impl_leg : TyS Try.prog 109 4 := ⟨⟨_, Try.underlying109, rfl⟩, by kernel_rfl⟩
theorem tyf_impl_leg_0 : TyF Try.prog 109 0 0 := ⟨_, _, Try.underlying109, rfl, rfl, 1, by kernel_rfl⟩
theorem tyf_impl_leg_1 : TyF Try.prog 109 1 2 := ⟨_, _, Try.underlying109, rfl, rfl, 1, by kernel_rfl⟩
theorem tyz_impl_leg : TyZ Try.prog 109 4 32 (.agg #[.int .i64 0, .int .i64 0, .int .i64 0, .int .i64 0]) := tyz_of (by kernel_rfl) rfl
theorem ty1_uint : Ty1 Try.prog 116 := ⟨⟨_, Try.underlying116, rfl⟩, by kernel_rfl⟩
theorem tyz_uint : TyZ Try.prog 116 1 8 (.int .u64 0) := tyz_of (by kernel_rfl) rfl
theorem tys_spec_l13Edge : TyS Try.prog 118 4 := ⟨⟨_, Try.underlying118, rfl⟩, by kernel_rfl⟩
theorem tyf_spec_l13Edge_0 : TyF Try.prog 118 0 0 := ⟨_, _, Try.underlying118, rfl, rfl, 1, by kernel_rfl⟩
theorem tyf_spec_l13Edge_1 : TyF Try.prog 118 1 2 := ⟨_, _, Try.underlying118, rfl, rfl, 1, by kernel_rfl⟩
theorem tyz_spec_l13Edge : TyZ Try.prog 118 4 32 (.agg #[.int .i64 0, .int .i64 0, .int .i64 0, .int .i64 0]) := tyz_of (by kernel_rfl) rfl
theorem tys_laws_Pt : TyS Try.prog 122 2 := ⟨⟨_, Try.underlying122, rfl⟩, by kernel_rfl⟩
theorem tyf_laws_Pt_0 : TyF Try.prog 122 0 0 := ⟨_, _, Try.underlying122, rfl, rfl, 0, by kernel_rfl⟩
theorem tyg_laws_Pt_0 : TyG Try.prog 122 0 0 := ⟨_, _, Try.underlying122, rfl, rfl, ⟨_, Try.underlying2, rfl⟩, by kernel_rfl⟩
theorem tyf_laws_Pt_1 : TyF Try.prog 122 1 1 := ⟨_, _, Try.underlying122, rfl, rfl, 0, by kernel_rfl⟩
theorem tyg_laws_Pt_1 : TyG Try.prog 122 1 1 := ⟨_, _, Try.underlying122, rfl, rfl, ⟨_, Try.underlying2, rfl⟩, by kernel_rfl⟩
theorem tyz_laws_Pt : TyZ Try.prog 122 2 16 (.agg #[.int .i64 0, .int .i64 0]) := tyz_of (by kernel_rfl) rfl
theorem ty1_sl_sl_impl_Pt : Ty1 Try.prog 127 := ⟨⟨_, Try.underlying127, rfl⟩, by kernel_rfl⟩
theorem tyl_sl_sl_impl_Pt : TyL Try.prog 127 73 1 := ⟨Try.underlying127, by kernel_rfl⟩
theorem tyz_sl_sl_impl_Pt : TyZ Try.prog 127 1 24 (.slice none 0 0) := tyz_of (by kernel_rfl) rfl
theorem ty1_uint32 : Ty1 Try.prog 138 := ⟨⟨_, Try.underlying138, rfl⟩, by kernel_rfl⟩
theorem tyz_uint32 : TyZ Try.prog 138 1 4 (.int .u32 0) := tyz_of (by kernel_rfl) rfl
theorem ty1_p_uint8 : Ty1 Try.prog 142 := ⟨⟨_, Try.underlying142, rfl⟩, by kernel_rfl⟩
theorem tyz_p_uint8 : TyZ Try.prog 142 1 8 (.pointer none) := tyz_of (by kernel_rfl) rfl
theorem ok_laws_FnCrossings : FnOk Try.prog 3 := ⟨_, Try.func3, by kernel_rfl, rfl⟩
theorem ok_laws_FnExactTidyRegion : FnOk Try.prog 4 := ⟨_, Try.func4, by kernel_rfl, rfl⟩
theorem ok_spec_E8Points : FnOk Try.prog 5 := ⟨_, Try.func5, by kernel_rfl, rfl⟩
theorem ok_impl_MeetingOf : FnOk Try.prog 6 := ⟨_, Try.func6, by kernel_rfl, rfl⟩
theorem ok_impl_CrossingOf : FnOk Try.prog 7 := ⟨_, Try.func7, by kernel_rfl, rfl⟩
theorem ok_spec_InPixel : FnOk Try.prog 8 := ⟨_, Try.func8, by kernel_rfl, rfl⟩
theorem ok_laws_szRegion : FnOk Try.prog 9 := ⟨_, Try.func9, by kernel_rfl, rfl⟩
theorem ok_spec_TidyRegion : FnOk Try.prog 10 := ⟨_, Try.func10, by kernel_rfl, rfl⟩
theorem ok_laws_toRegion : FnOk Try.prog 11 := ⟨_, Try.func11, by kernel_rfl, rfl⟩
theorem ok_impl_TidyRegion : FnOk Try.prog 12 := ⟨_, Try.func12, by kernel_rfl, rfl⟩
theorem ok_laws_eqRegion : FnOk Try.prog 13 := ⟨_, Try.func13, by kernel_rfl, rfl⟩
theorem ok_laws_markRegion : FnOk Try.prog 14 := ⟨_, Try.func14, by kernel_rfl, rfl⟩
theorem ok_laws_heldRegion : FnOk Try.prog 15 := ⟨_, Try.func15, by kernel_rfl, rfl⟩
theorem ok_spec_l00From : FnOk Try.prog 16 := ⟨_, Try.func16, by kernel_rfl, rfl⟩
theorem ok_p_spec_l00Src_among : FnOk Try.prog 17 := ⟨_, Try.func17, by kernel_rfl, rfl⟩
theorem ok_spec_l03Draw : FnOk Try.prog 18 := ⟨_, Try.func18, by kernel_rfl, rfl⟩
theorem ok_impl_validPts : FnOk Try.prog 19 := ⟨_, Try.func19, by kernel_rfl, rfl⟩
theorem ok_impl_meeting : FnOk Try.prog 20 := ⟨_, Try.func20, by kernel_rfl, rfl⟩
theorem ok_impl_crossing : FnOk Try.prog 21 := ⟨_, Try.func21, by kernel_rfl, rfl⟩
theorem ok_spec_l03Ok : FnOk Try.prog 22 := ⟨_, Try.func22, by kernel_rfl, rfl⟩
theorem ok_spec_l13Inside : FnOk Try.prog 23 := ⟨_, Try.func23, by kernel_rfl, rfl⟩
theorem ok_laws_szRingS : FnOk Try.prog 24 := ⟨_, Try.func24, by kernel_rfl, rfl⟩
theorem ok_spec_l13Ok : FnOk Try.prog 25 := ⟨_, Try.func25, by kernel_rfl, rfl⟩
theorem ok_spec_l15Tidy : FnOk Try.prog 26 := ⟨_, Try.func26, by kernel_rfl, rfl⟩
theorem ok_laws_toRingS : FnOk Try.prog 27 := ⟨_, Try.func27, by kernel_rfl, rfl⟩
theorem ok_impl_ValidRegion : FnOk Try.prog 28 := ⟨_, Try.func28, by kernel_rfl, rfl⟩
theorem ok_impl_tidyRegion : FnOk Try.prog 29 := ⟨_, Try.func29, by kernel_rfl, rfl⟩
theorem ok_laws_eqRingS : FnOk Try.prog 30 := ⟨_, Try.func30, by kernel_rfl, rfl⟩
theorem ok_laws_markRingS : FnOk Try.prog 31 := ⟨_, Try.func31, by kernel_rfl, rfl⟩
theorem ok_laws_heldRingS : FnOk Try.prog 32 := ⟨_, Try.func32, by kernel_rfl, rfl⟩
theorem ok_p_spec_l00Src_pick : FnOk Try.prog 33 := ⟨_, Try.func33, by kernel_rfl, rfl⟩
theorem ok_spec_l03Coord : FnOk Try.prog 34 := ⟨_, Try.func34, by kernel_rfl, rfl⟩
theorem ok_impl_ValidPt : FnOk Try.prog 35 := ⟨_, Try.func35, by kernel_rfl, rfl⟩
theorem ok_impl_sign64 : FnOk Try.prog 36 := ⟨_, Try.func36, by kernel_rfl, rfl⟩
theorem ok_impl_turn : FnOk Try.prog 37 := ⟨_, Try.func37, by kernel_rfl, rfl⟩
theorem ok_impl_greaterPt : FnOk Try.prog 38 := ⟨_, Try.func38, by kernel_rfl, rfl⟩
theorem ok_impl_lesserPt : FnOk Try.prog 39 := ⟨_, Try.func39, by kernel_rfl, rfl⟩
theorem ok_impl_comparePt : FnOk Try.prog 40 := ⟨_, Try.func40, by kernel_rfl, rfl⟩
theorem ok_impl_onSegment : FnOk Try.prog 41 := ⟨_, Try.func41, by kernel_rfl, rfl⟩
theorem ok_impl_DivRound : FnOk Try.prog 42 := ⟨_, Try.func42, by kernel_rfl, rfl⟩
theorem ok_spec_l00In : FnOk Try.prog 43 := ⟨_, Try.func43, by kernel_rfl, rfl⟩
theorem ok_spec_l13Clip : FnOk Try.prog 44 := ⟨_, Try.func44, by kernel_rfl, rfl⟩
theorem ok_spec_l13Meet : FnOk Try.prog 45 := ⟨_, Try.func45, by kernel_rfl, rfl⟩
theorem ok_laws_szRing : FnOk Try.prog 46 := ⟨_, Try.func46, by kernel_rfl, rfl⟩
theorem ok_spec_l13Ring : FnOk Try.prog 47 := ⟨_, Try.func47, by kernel_rfl, rfl⟩
theorem ok_spec_l13All : FnOk Try.prog 48 := ⟨_, Try.func48, by kernel_rfl, rfl⟩
theorem ok_spec_l15Simple : FnOk Try.prog 49 := ⟨_, Try.func49, by kernel_rfl, rfl⟩
theorem ok_spec_l14Order : FnOk Try.prog 50 := ⟨_, Try.func50, by kernel_rfl, rfl⟩
theorem ok_laws_toRing : FnOk Try.prog 51 := ⟨_, Try.func51, by kernel_rfl, rfl⟩
theorem ok_impl_ValidRing : FnOk Try.prog 52 := ⟨_, Try.func52, by kernel_rfl, rfl⟩
theorem ok_impl_edgesOfRing : FnOk Try.prog 53 := ⟨_, Try.func53, by kernel_rfl, rfl⟩
theorem ok_impl_simplifyRing : FnOk Try.prog 54 := ⟨_, Try.func54, by kernel_rfl, rfl⟩
theorem ok_impl_orderRings : FnOk Try.prog 55 := ⟨_, Try.func55, by kernel_rfl, rfl⟩
theorem ok_laws_eqRing : FnOk Try.prog 56 := ⟨_, Try.func56, by kernel_rfl, rfl⟩
theorem ok_laws_markPtS : FnOk Try.prog 57 := ⟨_, Try.func57, by kernel_rfl, rfl⟩
theorem ok_laws_heldPtS : FnOk Try.prog 58 := ⟨_, Try.func58, by kernel_rfl, rfl⟩
theorem ok_p_spec_l00Src_next : FnOk Try.prog 59 := ⟨_, Try.func59, by kernel_rfl, rfl⟩
theorem ok_p_spec_l00Src_one : FnOk Try.prog 60 := ⟨_, Try.func60, by kernel_rfl, rfl⟩
theorem ok_impl_floorDiv : FnOk Try.prog 61 := ⟨_, Try.func61, by kernel_rfl, rfl⟩
theorem ok_laws_szPtS : FnOk Try.prog 62 := ⟨_, Try.func62, by kernel_rfl, rfl⟩
theorem ok_spec_l13Points : FnOk Try.prog 63 := ⟨_, Try.func63, by kernel_rfl, rfl⟩
theorem ok_spec_l13Edges : FnOk Try.prog 64 := ⟨_, Try.func64, by kernel_rfl, rfl⟩
theorem ok_spec_l15Idle : FnOk Try.prog 65 := ⟨_, Try.func65, by kernel_rfl, rfl⟩
theorem ok_spec_l14Turned : FnOk Try.prog 66 := ⟨_, Try.func66, by kernel_rfl, rfl⟩
theorem ok_spec_l14Less : FnOk Try.prog 67 := ⟨_, Try.func67, by kernel_rfl, rfl⟩
theorem ok_laws_toPtS : FnOk Try.prog 68 := ⟨_, Try.func68, by kernel_rfl, rfl⟩
theorem ok_impl_isPath : FnOk Try.prog 69 := ⟨_, Try.func69, by kernel_rfl, rfl⟩
theorem ok_slices_Clone_sl_impl_Pt_impl_Pt : FnOk Try.prog 70 := ⟨_, Try.func70, by kernel_rfl, rfl⟩
theorem ok_slices_Delete_sl_impl_Pt_impl_Pt : FnOk Try.prog 71 := ⟨_, Try.func71, by kernel_rfl, rfl⟩
theorem ok_impl_turnRing : FnOk Try.prog 72 := ⟨_, Try.func72, by kernel_rfl, rfl⟩
theorem ok_slices_SortStableFunc_sl_impl_Ring_impl_Ring : FnOk Try.prog 73 := ⟨_, Try.func73, by kernel_rfl, rfl⟩
theorem ok_impl_orderRings_1 : FnOk Try.prog 74 := ⟨_, Try.func74, by kernel_rfl, rfl⟩
theorem ok_impl_comparePts : FnOk Try.prog 75 := ⟨_, Try.func75, by kernel_rfl, rfl⟩
theorem ok_laws_eqPtS : FnOk Try.prog 76 := ⟨_, Try.func76, by kernel_rfl, rfl⟩
theorem ok_spec_l03Turn : FnOk Try.prog 77 := ⟨_, Try.func77, by kernel_rfl, rfl⟩
theorem ok_spec_l14Earlier : FnOk Try.prog 78 := ⟨_, Try.func78, by kernel_rfl, rfl⟩
theorem ok_spec_l13Before : FnOk Try.prog 79 := ⟨_, Try.func79, by kernel_rfl, rfl⟩
theorem ok_laws_toPt : FnOk Try.prog 80 := ⟨_, Try.func80, by kernel_rfl, rfl⟩
theorem ok_impl_compareYX : FnOk Try.prog 81 := ⟨_, Try.func81, by kernel_rfl, rfl⟩
theorem ok_slices_Concat_sl_impl_Pt_impl_Pt : FnOk Try.prog 82 := ⟨_, Try.func82, by kernel_rfl, rfl⟩
theorem ok_slices_stableCmpFunc_impl_Ring : FnOk Try.prog 83 := ⟨_, Try.func83, by kernel_rfl, rfl⟩
theorem ok_slices_CompareFunc_sl_impl_Pt_sl_impl_Pt_impl_Pt_impl_Pt : FnOk Try.prog 84 := ⟨_, Try.func84, by kernel_rfl, rfl⟩
theorem ok_laws_eqPt : FnOk Try.prog 85 := ⟨_, Try.func85, by kernel_rfl, rfl⟩
theorem ok_slices_Grow_sl_impl_Pt_impl_Pt : FnOk Try.prog 86 := ⟨_, Try.func86, by kernel_rfl, rfl⟩
theorem ok_slices_insertionSortCmpFunc_impl_Ring : FnOk Try.prog 87 := ⟨_, Try.func87, by kernel_rfl, rfl⟩
theorem ok_slices_symMergeCmpFunc_impl_Ring : FnOk Try.prog 88 := ⟨_, Try.func88, by kernel_rfl, rfl⟩
theorem ok_slices_rotateCmpFunc_impl_Ring : FnOk Try.prog 89 := ⟨_, Try.func89, by kernel_rfl, rfl⟩
theorem ok_slices_swapRangeCmpFunc_impl_Ring : FnOk Try.prog 90 := ⟨_, Try.func90, by kernel_rfl, rfl⟩
theorem bld_impl_Pt_ (w : World) : (Instr.build 24 #[]).run Try.prog w = .ok (.agg #[.int .i64 0, .int .i64 0]) w := by
  rw [build_agg]
  simp only [List.map_toArray, List.map_cons, List.map_nil]
  simp [Instr.build, Instr.fill, go_sem]
theorem bld_impl_Pt_0_1 {v0 a0_0 : Value} (h0 : v0.cells = #[a0_0]) {v1 a1_0 : Value} (h1 : v1.cells = #[a1_0]) (w : World) : (Instr.build 24 #[(0, v0), (1, v1)]).run Try.prog w = .ok (.agg #[a0_0, a1_0]) w := by
  rw [build_agg]
  simp only [List.map_toArray, List.map_cons, List.map_nil, h0, h1]
  simp [Instr.build, Instr.fill, go_sem]
theorem bld_impl_Region_ (w : World) : (Instr.build 38 #[]).run Try.prog w = .ok (.agg #[.slice none 0 0]) w := by
  rw [build_agg]
  simp only [List.map_toArray, List.map_cons, List.map_nil]
  simp [Instr.build, Instr.fill, go_sem]
theorem bld_impl_Region_0 {v0 a0_0 : Value} (h0 : v0.cells = #[a0_0]) (w : World) : (Instr.build 38 #[(0, v0)]).run Try.prog w = .ok (.agg #[a0_0]) w := by
  rw [build_agg]
  simp only [List.map_toArray, List.map_cons, List.map_nil, h0]
  simp [Instr.build, Instr.fill, go_sem]
theorem bld_spec_l13Span_0_1_2_3_4 {v0 a0_0 : Value} (h0 : v0.cells = #[a0_0]) {v1 a1_0 : Value} (h1 : v1.cells = #[a1_0]) {v2 a2_0 : Value} (h2 : v2.cells = #[a2_0]) {v3 a3_0 : Value} (h3 : v3.cells = #[a3_0]) {v4 a4_0 : Value} (h4 : v4.cells = #[a4_0]) (w : World) : (Instr.build 56 #[(0, v0), (1, v1), (2, v2), (3, v3), (4, v4)]).run Try.prog w = .ok (.agg #[a0_0, a1_0, a2_0, a3_0, a4_0, .bool false]) w := by
  rw [build_agg]
  simp only [List.map_toArray, List.map_cons, List.map_nil, h0, h1, h2, h3, h4]
  simp [Instr.build, Instr.fill, go_sem]
theorem bld_spec_l13Span_0_1_2_3_4_5 {v0 a0_0 : Value} (h0 : v0.cells = #[a0_0]) {v1 a1_0 : Value} (h1 : v1.cells = #[a1_0]) {v2 a2_0 : Value} (h2 : v2.cells = #[a2_0]) {v3 a3_0 : Value} (h3 : v3.cells = #[a3_0]) {v4 a4_0 : Value} (h4 : v4.cells = #[a4_0]) {v5 a5_0 : Value} (h5 : v5.cells = #[a5_0]) (w : World) : (Instr.build 56 #[(0, v0), (1, v1), (2, v2), (3, v3), (4, v4), (5, v5)]).run Try.prog w = .ok (.agg #[a0_0, a1_0, a2_0, a3_0, a4_0, a5_0]) w := by
  rw [build_agg]
  simp only [List.map_toArray, List.map_cons, List.map_nil, h0, h1, h2, h3, h4, h5]
  simp [Instr.build, Instr.fill, go_sem]
theorem bld_spec_l13Span_0_1_2_3_5 {v0 a0_0 : Value} (h0 : v0.cells = #[a0_0]) {v1 a1_0 : Value} (h1 : v1.cells = #[a1_0]) {v2 a2_0 : Value} (h2 : v2.cells = #[a2_0]) {v3 a3_0 : Value} (h3 : v3.cells = #[a3_0]) {v4 a4_0 : Value} (h4 : v4.cells = #[a4_0]) (w : World) : (Instr.build 56 #[(0, v0), (1, v1), (2, v2), (3, v3), (5, v4)]).run Try.prog w = .ok (.agg #[a0_0, a1_0, a2_0, a3_0, .bool false, a4_0]) w := by
  rw [build_agg]
  simp only [List.map_toArray, List.map_cons, List.map_nil, h0, h1, h2, h3, h4]
  simp [Instr.build, Instr.fill, go_sem]
theorem bld_spec_l00Src_0 {v0 a0_0 : Value} (h0 : v0.cells = #[a0_0]) (w : World) : (Instr.build 70 #[(0, v0)]).run Try.prog w = .ok (.agg #[a0_0, .int .i64 0, .int .u64 0]) w := by
  rw [build_agg]
  simp only [List.map_toArray, List.map_cons, List.map_nil, h0]
  simp [Instr.build, Instr.fill, go_sem]
theorem bld_impl_Ring_ (w : World) : (Instr.build 88 #[]).run Try.prog w = .ok (.agg #[.slice none 0 0]) w := by
  rw [build_agg]
  simp only [List.map_toArray, List.map_cons, List.map_nil]
  simp [Instr.build, Instr.fill, go_sem]
theorem bld_impl_Ring_0 {v0 a0_0 : Value} (h0 : v0.cells = #[a0_0]) (w : World) : (Instr.build 88 #[(0, v0)]).run Try.prog w = .ok (.agg #[a0_0]) w := by
  rw [build_agg]
  simp only [List.map_toArray, List.map_cons, List.map_nil, h0]
  simp [Instr.build, Instr.fill, go_sem]
theorem bld_impl_leg_0_1 {v0 a0_0 a0_1 : Value} (h0 : v0.cells = #[a0_0, a0_1]) {v1 a1_0 a1_1 : Value} (h1 : v1.cells = #[a1_0, a1_1]) (w : World) : (Instr.build 109 #[(0, v0), (1, v1)]).run Try.prog w = .ok (.agg #[a0_0, a0_1, a1_0, a1_1]) w := by
  rw [build_agg]
  simp only [List.map_toArray, List.map_cons, List.map_nil, h0, h1]
  simp [Instr.build, Instr.fill, go_sem]
theorem bld_spec_l13Edge_0_1 {v0 a0_0 a0_1 : Value} (h0 : v0.cells = #[a0_0, a0_1]) {v1 a1_0 a1_1 : Value} (h1 : v1.cells = #[a1_0, a1_1]) (w : World) : (Instr.build 118 #[(0, v0), (1, v1)]).run Try.prog w = .ok (.agg #[a0_0, a0_1, a1_0, a1_1]) w := by
  rw [build_agg]
  simp only [List.map_toArray, List.map_cons, List.map_nil, h0, h1]
  simp [Instr.build, Instr.fill, go_sem]
theorem bsl_sl_impl_Ring_0 (w : World) : (Instr.buildSlice 36 0 #[]).run Try.prog w = .ok (.slice (some ⟨w.heap.size, 0, none⟩) 0 0) (w.alloc (.cells [].toArray 88)) := by
  rw [buildSlice_agg]
  simp only [List.map_toArray, List.map_cons, List.map_nil]
  simp [Instr.buildSlice, Instr.fill, go_sem]
theorem bsl_sl_impl_Ring_1_0 {v0 a0_0 : Value} (h0 : v0.cells = #[a0_0]) (w : World) : (Instr.buildSlice 36 1 #[(0, v0)]).run Try.prog w = .ok (.slice (some ⟨w.heap.size, 0, none⟩) 1 1) (w.alloc (.cells [a0_0].toArray 88)) := by
  rw [buildSlice_agg]
  simp only [List.map_toArray, List.map_cons, List.map_nil, h0]
  simp [Instr.buildSlice, Instr.fill, go_sem]
theorem bsl_sl_int64_5_0_1_2_3_4 {v0 a0_0 : Value} (h0 : v0.cells = #[a0_0]) {v1 a1_0 : Value} (h1 : v1.cells = #[a1_0]) {v2 a2_0 : Value} (h2 : v2.cells = #[a2_0]) {v3 a3_0 : Value} (h3 : v3.cells = #[a3_0]) {v4 a4_0 : Value} (h4 : v4.cells = #[a4_0]) (w : World) : (Instr.buildSlice 48 5 #[(0, v0), (1, v1), (2, v2), (3, v3), (4, v4)]).run Try.prog w = .ok (.slice (some ⟨w.heap.size, 0, none⟩) 5 5) (w.alloc (.cells [a0_0, a1_0, a2_0, a3_0, a4_0].toArray 2)) := by
  rw [buildSlice_agg]
  simp only [List.map_toArray, List.map_cons, List.map_nil, h0, h1, h2, h3, h4]
  simp [Instr.buildSlice, Instr.fill, go_sem]
theorem bsl_sl_impl_Pt_0 (w : World) : (Instr.buildSlice 73 0 #[]).run Try.prog w = .ok (.slice (some ⟨w.heap.size, 0, none⟩) 0 0) (w.alloc (.cells [].toArray 24)) := by
  rw [buildSlice_agg]
  simp only [List.map_toArray, List.map_cons, List.map_nil]
  simp [Instr.buildSlice, Instr.fill, go_sem]
theorem bsl_sl_impl_Pt_1_0 {v0 a0_0 a0_1 : Value} (h0 : v0.cells = #[a0_0, a0_1]) (w : World) : (Instr.buildSlice 73 1 #[(0, v0)]).run Try.prog w = .ok (.slice (some ⟨w.heap.size, 0, none⟩) 1 1) (w.alloc (.cells [a0_0, a0_1].toArray 24)) := by
  rw [buildSlice_agg]
  simp only [List.map_toArray, List.map_cons, List.map_nil, h0]
  simp [Instr.buildSlice, Instr.fill, go_sem]
theorem bsl_sl_impl_Pt_4_0_1_2_3 {v0 a0_0 a0_1 : Value} (h0 : v0.cells = #[a0_0, a0_1]) {v1 a1_0 a1_1 : Value} (h1 : v1.cells = #[a1_0, a1_1]) {v2 a2_0 a2_1 : Value} (h2 : v2.cells = #[a2_0, a2_1]) {v3 a3_0 a3_1 : Value} (h3 : v3.cells = #[a3_0, a3_1]) (w : World) : (Instr.buildSlice 73 4 #[(0, v0), (1, v1), (2, v2), (3, v3)]).run Try.prog w = .ok (.slice (some ⟨w.heap.size, 0, none⟩) 4 4) (w.alloc (.cells [a0_0, a0_1, a1_0, a1_1, a2_0, a2_1, a3_0, a3_1].toArray 24)) := by
  rw [buildSlice_agg]
  simp only [List.map_toArray, List.map_cons, List.map_nil, h0, h1, h2, h3]
  simp [Instr.buildSlice, Instr.fill, go_sem]
theorem bsl_sl_spec_l13Edge_0 (w : World) : (Instr.buildSlice 89 0 #[]).run Try.prog w = .ok (.slice (some ⟨w.heap.size, 0, none⟩) 0 0) (w.alloc (.cells [].toArray 118)) := by
  rw [buildSlice_agg]
  simp only [List.map_toArray, List.map_cons, List.map_nil]
  simp [Instr.buildSlice, Instr.fill, go_sem]
theorem bsl_sl_spec_l13Edge_1_0 {v0 a0_0 a0_1 a0_2 a0_3 : Value} (h0 : v0.cells = #[a0_0, a0_1, a0_2, a0_3]) (w : World) : (Instr.buildSlice 89 1 #[(0, v0)]).run Try.prog w = .ok (.slice (some ⟨w.heap.size, 0, none⟩) 1 1) (w.alloc (.cells [a0_0, a0_1, a0_2, a0_3].toArray 118)) := by
  rw [buildSlice_agg]
  simp only [List.map_toArray, List.map_cons, List.map_nil, h0]
  simp [Instr.buildSlice, Instr.fill, go_sem]
theorem bsl_sl_impl_leg_1_0 {v0 a0_0 a0_1 a0_2 a0_3 : Value} (h0 : v0.cells = #[a0_0, a0_1, a0_2, a0_3]) (w : World) : (Instr.buildSlice 95 1 #[(0, v0)]).run Try.prog w = .ok (.slice (some ⟨w.heap.size, 0, none⟩) 1 1) (w.alloc (.cells [a0_0, a0_1, a0_2, a0_3].toArray 109)) := by
  rw [buildSlice_agg]
  simp only [List.map_toArray, List.map_cons, List.map_nil, h0]
  simp [Instr.buildSlice, Instr.fill, go_sem]
theorem bsl_sl_sl_impl_Pt_2_0_1 {v0 a0_0 : Value} (h0 : v0.cells = #[a0_0]) {v1 a1_0 : Value} (h1 : v1.cells = #[a1_0]) (w : World) : (Instr.buildSlice 127 2 #[(0, v0), (1, v1)]).run Try.prog w = .ok (.slice (some ⟨w.heap.size, 0, none⟩) 2 2) (w.alloc (.cells [a0_0, a1_0].toArray 73)) := by
  rw [buildSlice_agg]
  simp only [List.map_toArray, List.map_cons, List.map_nil, h0, h1]
  simp [Instr.buildSlice, Instr.fill, go_sem]
theorem qt_eqlS_impl_Pt {o : Oper} {n : Nat} {env : List (Nat × Value)} {w0 : Bs} {Rs : List Res} {x y : Operand} {T' : TypeId} {a0 a1 b0 b1 : Int} (ho : o.op = .binOp .eql 24 x y T') (hx : ev env x = some (.agg #[.int .i64 a0, .int .i64 a1])) (hy : ev env y = some (.agg #[.int .i64 b0, .int .i64 b1])) : Qt Try.prog o n env w0 Rs (.bool ((a0 == b0) && (a1 == b1))) :=
  qt_of fun a w hF _ => by
    unfold execOp; simp only [ho, hF.ev hx, hF.ev hy]
    cases h0 : (a0 == b0); all_goals cases h1 : (a1 == b1)
    all_goals simp [go_sem, *]
theorem qt_neqS_impl_Pt {o : Oper} {n : Nat} {env : List (Nat × Value)} {w0 : Bs} {Rs : List Res} {x y : Operand} {T' : TypeId} {a0 a1 b0 b1 : Int} (ho : o.op = .binOp .neq 24 x y T') (hx : ev env x = some (.agg #[.int .i64 a0, .int .i64 a1])) (hy : ev env y = some (.agg #[.int .i64 b0, .int .i64 b1])) : Qt Try.prog o n env w0 Rs (.bool (!((a0 == b0) && (a1 == b1)))) :=
  qt_of fun a w hF _ => by
    unfold execOp; simp only [ho, hF.ev hx, hF.ev hy]
    cases h0 : (a0 == b0); all_goals cases h1 : (a1 == b1)
    all_goals simp [go_sem, *]
theorem mixed : Try.prog.follows .mixedOrders = true := by kernel_rfl
end Go.Proofs.Ytbdlbemlgghgbaa
