/- Facts on the types and the functions of this program. -/
import Derived.Test.YtadkfbkompamcaaSv
namespace Go.Proofs.Ytadkfbkompamcaa
open Go Go.RowKit
set_option maxRecDepth 100000
set_option linter.unusedSimpArgs false
set_option linter.unusedVariables false

theorem tyz_of {P : Program} {T m k : Nat} {z : Value} (h : (P.info? T).map (fun i => (i.zero, i.size, i.bytes)) = some (some z, m, k)) (hc : z.cells.size = m) : TyZ P T m k z := by
  cases hi : P.info? T with
  | none => simp [hi] at h
  | some i =>
    simp only [hi, Option.map_some, Option.some.injEq, Prod.mk.injEq] at h
    exact ⟨⟨i, hi, h.1, h.2.1, h.2.2⟩, hc⟩
theorem ty1_int64 : Ty1 Try.prog 2 := ⟨⟨_, Try.underlying2, rfl⟩, by kernel_rfl⟩
theorem tyz_int64 : TyZ Try.prog 2 1 8 (.int .i64 0) := tyz_of (by kernel_rfl) rfl
theorem ty1_int : Ty1 Try.prog 3 := ⟨⟨_, Try.underlying3, rfl⟩, by kernel_rfl⟩
theorem tyz_int : TyZ Try.prog 3 1 8 (.int .i64 0) := tyz_of (by kernel_rfl) rfl
theorem ty1_bool : Ty1 Try.prog 4 := ⟨⟨_, Try.underlying4, rfl⟩, by kernel_rfl⟩
theorem tyb_bool : Try.prog.underlying 4 = some .bool := Try.underlying4
theorem tyz_bool : TyZ Try.prog 4 1 1 (.bool false) := tyz_of (by kernel_rfl) rfl
theorem ty1_uint8 : Ty1 Try.prog 5 := ⟨⟨_, Try.underlying5, rfl⟩, by kernel_rfl⟩
theorem tyz_uint8 : TyZ Try.prog 5 1 1 (.int .u8 0) := tyz_of (by kernel_rfl) rfl
theorem ty1_string : Ty1 Try.prog 9 := ⟨⟨_, Try.underlying9, rfl⟩, by kernel_rfl⟩
theorem tyz_string : TyZ Try.prog 9 1 16 (.string ⟨#[]⟩) := tyz_of (by kernel_rfl) rfl
theorem ty1_int32 : Ty1 Try.prog 21 := ⟨⟨_, Try.underlying21, rfl⟩, by kernel_rfl⟩
theorem tyz_int32 : TyZ Try.prog 21 1 4 (.int .i32 0) := tyz_of (by kernel_rfl) rfl
theorem ty1_sl_laws_Ring : Ty1 Try.prog 22 := ⟨⟨_, Try.underlying22, rfl⟩, by kernel_rfl⟩
theorem tyl_sl_laws_Ring : TyL Try.prog 22 39 1 := ⟨Try.underlying22, by kernel_rfl⟩
theorem tyz_sl_laws_Ring : TyZ Try.prog 22 1 24 (.slice none 0 0) := tyz_of (by kernel_rfl) rfl
theorem tys_laws_Region : TyS Try.prog 24 1 := ⟨⟨_, Try.underlying24, rfl⟩, by kernel_rfl⟩
theorem tyf_laws_Region_0 : TyF Try.prog 24 0 0 := ⟨_, _, Try.underlying24, rfl, rfl, 0, by kernel_rfl⟩
theorem tyg_laws_Region_0 : TyG Try.prog 24 0 0 := ⟨_, _, Try.underlying24, rfl, rfl, ⟨_, Try.underlying22, rfl⟩, by kernel_rfl⟩
theorem tyz_laws_Region : TyZ Try.prog 24 1 24 (.agg #[.slice none 0 0]) := tyz_of (by kernel_rfl) rfl
theorem tys_impl_Pt : TyS Try.prog 27 2 := ⟨⟨_, Try.underlying27, rfl⟩, by kernel_rfl⟩
theorem tyf_impl_Pt_0 : TyF Try.prog 27 0 0 := ⟨_, _, Try.underlying27, rfl, rfl, 0, by kernel_rfl⟩
theorem tyg_impl_Pt_0 : TyG Try.prog 27 0 0 := ⟨_, _, Try.underlying27, rfl, rfl, ⟨_, Try.underlying2, rfl⟩, by kernel_rfl⟩
theorem tyf_impl_Pt_1 : TyF Try.prog 27 1 1 := ⟨_, _, Try.underlying27, rfl, rfl, 0, by kernel_rfl⟩
theorem tyg_impl_Pt_1 : TyG Try.prog 27 1 1 := ⟨_, _, Try.underlying27, rfl, rfl, ⟨_, Try.underlying2, rfl⟩, by kernel_rfl⟩
theorem tyz_impl_Pt : TyZ Try.prog 27 2 16 (.agg #[.int .i64 0, .int .i64 0]) := tyz_of (by kernel_rfl) rfl
theorem ty1_sl_impl_Ring : Ty1 Try.prog 30 := ⟨⟨_, Try.underlying30, rfl⟩, by kernel_rfl⟩
theorem tyl_sl_impl_Ring : TyL Try.prog 30 46 1 := ⟨Try.underlying30, by kernel_rfl⟩
theorem tyz_sl_impl_Ring : TyZ Try.prog 30 1 24 (.slice none 0 0) := tyz_of (by kernel_rfl) rfl
theorem tys_impl_Region : TyS Try.prog 32 1 := ⟨⟨_, Try.underlying32, rfl⟩, by kernel_rfl⟩
theorem tyf_impl_Region_0 : TyF Try.prog 32 0 0 := ⟨_, _, Try.underlying32, rfl, rfl, 0, by kernel_rfl⟩
theorem tyg_impl_Region_0 : TyG Try.prog 32 0 0 := ⟨_, _, Try.underlying32, rfl, rfl, ⟨_, Try.underlying30, rfl⟩, by kernel_rfl⟩
theorem tyz_impl_Region : TyZ Try.prog 32 1 24 (.agg #[.slice none 0 0]) := tyz_of (by kernel_rfl) rfl
theorem ty1_sl_laws_Pt : Ty1 Try.prog 37 := ⟨⟨_, Try.underlying37, rfl⟩, by kernel_rfl⟩
theorem tyl_sl_laws_Pt : TyL Try.prog 37 40 2 := ⟨Try.underlying37, by kernel_rfl⟩
theorem tyz_sl_laws_Pt : TyZ Try.prog 37 1 24 (.slice none 0 0) := tyz_of (by kernel_rfl) rfl
theorem tys_laws_Ring : TyS Try.prog 39 1 := ⟨⟨_, Try.underlying39, rfl⟩, by kernel_rfl⟩
theorem tyf_laws_Ring_0 : TyF Try.prog 39 0 0 := ⟨_, _, Try.underlying39, rfl, rfl, 0, by kernel_rfl⟩
theorem tyg_laws_Ring_0 : TyG Try.prog 39 0 0 := ⟨_, _, Try.underlying39, rfl, rfl, ⟨_, Try.underlying37, rfl⟩, by kernel_rfl⟩
theorem tyz_laws_Ring : TyZ Try.prog 39 1 24 (.agg #[.slice none 0 0]) := tyz_of (by kernel_rfl) rfl
theorem tys_laws_Pt : TyS Try.prog 40 2 := ⟨⟨_, Try.underlying40, rfl⟩, by kernel_rfl⟩
theorem tyf_laws_Pt_0 : TyF Try.prog 40 0 0 := ⟨_, _, Try.underlying40, rfl, rfl, 0, by kernel_rfl⟩
theorem tyg_laws_Pt_0 : TyG Try.prog 40 0 0 := ⟨_, _, Try.underlying40, rfl, rfl, ⟨_, Try.underlying2, rfl⟩, by kernel_rfl⟩
theorem tyf_laws_Pt_1 : TyF Try.prog 40 1 1 := ⟨_, _, Try.underlying40, rfl, rfl, 0, by kernel_rfl⟩
theorem tyg_laws_Pt_1 : TyG Try.prog 40 1 1 := ⟨_, _, Try.underlying40, rfl, rfl, ⟨_, Try.underlying2, rfl⟩, by kernel_rfl⟩
theorem tyz_laws_Pt : TyZ Try.prog 40 2 16 (.agg #[.int .i64 0, .int .i64 0]) := tyz_of (by kernel_rfl) rfl
theorem ty1_sl_impl_Pt : Ty1 Try.prog 44 := ⟨⟨_, Try.underlying44, rfl⟩, by kernel_rfl⟩
theorem tyl_sl_impl_Pt : TyL Try.prog 44 27 2 := ⟨Try.underlying44, by kernel_rfl⟩
theorem tyz_sl_impl_Pt : TyZ Try.prog 44 1 24 (.slice none 0 0) := tyz_of (by kernel_rfl) rfl
theorem tys_impl_Ring : TyS Try.prog 46 1 := ⟨⟨_, Try.underlying46, rfl⟩, by kernel_rfl⟩
theorem tyf_impl_Ring_0 : TyF Try.prog 46 0 0 := ⟨_, _, Try.underlying46, rfl, rfl, 0, by kernel_rfl⟩
theorem tyg_impl_Ring_0 : TyG Try.prog 46 0 0 := ⟨_, _, Try.underlying46, rfl, rfl, ⟨_, Try.underlying44, rfl⟩, by kernel_rfl⟩
theorem tyz_impl_Ring : TyZ Try.prog 46 1 24 (.agg #[.slice none 0 0]) := tyz_of (by kernel_rfl) rfl
theorem ty1_sl_laws_Loop : Ty1 Try.prog 73 := ⟨⟨_, Try.underlying73, rfl⟩, by kernel_rfl⟩
theorem tyl_sl_laws_Loop : TyL Try.prog 73 198 1 := ⟨Try.underlying73, by kernel_rfl⟩
theorem tyz_sl_laws_Loop : TyZ Try.prog 73 1 24 (.slice none 0 0) := tyz_of (by kernel_rfl) rfl
theorem tys_laws_Outline : TyS Try.prog 75 1 := ⟨⟨_, Try.underlying75, rfl⟩, by kernel_rfl⟩
theorem tyf_laws_Outline_0 : TyF Try.prog 75 0 0 := ⟨_, _, Try.underlying75, rfl, rfl, 0, by kernel_rfl⟩
theorem tyg_laws_Outline_0 : TyG Try.prog 75 0 0 := ⟨_, _, Try.underlying75, rfl, rfl, ⟨_, Try.underlying73, rfl⟩, by kernel_rfl⟩
theorem tyz_laws_Outline : TyZ Try.prog 75 1 24 (.agg #[.slice none 0 0]) := tyz_of (by kernel_rfl) rfl
theorem ty1_sl_impl_Loop : Ty1 Try.prog 78 := ⟨⟨_, Try.underlying78, rfl⟩, by kernel_rfl⟩
theorem tyl_sl_impl_Loop : TyL Try.prog 78 146 1 := ⟨Try.underlying78, by kernel_rfl⟩
theorem tyz_sl_impl_Loop : TyZ Try.prog 78 1 24 (.slice none 0 0) := tyz_of (by kernel_rfl) rfl
theorem tys_impl_Outline : TyS Try.prog 80 1 := ⟨⟨_, Try.underlying80, rfl⟩, by kernel_rfl⟩
theorem tyf_impl_Outline_0 : TyF Try.prog 80 0 0 := ⟨_, _, Try.underlying80, rfl, rfl, 0, by kernel_rfl⟩
theorem tyg_impl_Outline_0 : TyG Try.prog 80 0 0 := ⟨_, _, Try.underlying80, rfl, rfl, ⟨_, Try.underlying78, rfl⟩, by kernel_rfl⟩
theorem tyz_impl_Outline : TyZ Try.prog 80 1 24 (.agg #[.slice none 0 0]) := tyz_of (by kernel_rfl) rfl
theorem ty1_p_impl_Region : Ty1 Try.prog 89 := ⟨⟨_, Try.underlying89, rfl⟩, by kernel_rfl⟩
theorem tyz_p_impl_Region : TyZ Try.prog 89 1 8 (.pointer none) := tyz_of (by kernel_rfl) rfl
theorem ty1_p_impl_Ring : Ty1 Try.prog 96 := ⟨⟨_, Try.underlying96, rfl⟩, by kernel_rfl⟩
theorem tyz_p_impl_Ring : TyZ Try.prog 96 1 8 (.pointer none) := tyz_of (by kernel_rfl) rfl
theorem ty1_sl_spec_l13Edge : Ty1 Try.prog 105 := ⟨⟨_, Try.underlying105, rfl⟩, by kernel_rfl⟩
theorem tyl_sl_spec_l13Edge : TyL Try.prog 105 127 4 := ⟨Try.underlying105, by kernel_rfl⟩
theorem tyz_sl_spec_l13Edge : TyZ Try.prog 105 1 24 (.slice none 0 0) := tyz_of (by kernel_rfl) rfl
theorem ty1_sl_impl_leg : Ty1 Try.prog 110 := ⟨⟨_, Try.underlying110, rfl⟩, by kernel_rfl⟩
theorem tyl_sl_impl_leg : TyL Try.prog 110 131 4 := ⟨Try.underlying110, by kernel_rfl⟩
theorem tyz_sl_impl_leg : TyZ Try.prog 110 1 24 (.slice none 0 0) := tyz_of (by kernel_rfl) rfl
theorem ty1_p_strings_Builder : Ty1 Try.prog 115 := ⟨⟨_, Try.underlying115, rfl⟩, by kernel_rfl⟩
theorem tyz_p_strings_Builder : TyZ Try.prog 115 1 8 (.pointer none) := tyz_of (by kernel_rfl) rfl
theorem ty1_sl_uint8 : Ty1 Try.prog 116 := ⟨⟨_, Try.underlying116, rfl⟩, by kernel_rfl⟩
theorem tyl_sl_uint8 : TyL Try.prog 116 5 1 := ⟨Try.underlying116, by kernel_rfl⟩
theorem tyz_sl_uint8 : TyZ Try.prog 116 1 24 (.slice none 0 0) := tyz_of (by kernel_rfl) rfl
theorem tys_strings_Builder : TyS Try.prog 118 2 := ⟨⟨_, Try.underlying118, rfl⟩, by kernel_rfl⟩
theorem tyf_strings_Builder_0 : TyF Try.prog 118 0 0 := ⟨_, _, Try.underlying118, rfl, rfl, 0, by kernel_rfl⟩
theorem tyg_strings_Builder_0 : TyG Try.prog 118 0 0 := ⟨_, _, Try.underlying118, rfl, rfl, ⟨_, Try.underlying115, rfl⟩, by kernel_rfl⟩
theorem tyf_strings_Builder_1 : TyF Try.prog 118 1 1 := ⟨_, _, Try.underlying118, rfl, rfl, 0, by kernel_rfl⟩
theorem tyg_strings_Builder_1 : TyG Try.prog 118 1 1 := ⟨_, _, Try.underlying118, rfl, rfl, ⟨_, Try.underlying116, rfl⟩, by kernel_rfl⟩
theorem tyz_strings_Builder : TyZ Try.prog 118 2 32 (.agg #[.pointer none, .slice none 0 0]) := tyz_of (by kernel_rfl) rfl
theorem ty1_p_spec_l13Edge : Ty1 Try.prog 125 := ⟨⟨_, Try.underlying125, rfl⟩, by kernel_rfl⟩
theorem tyz_p_spec_l13Edge : TyZ Try.prog 125 1 8 (.pointer none) := tyz_of (by kernel_rfl) rfl
theorem tys_spec_l13Edge : TyS Try.prog 127 4 := ⟨⟨_, Try.underlying127, rfl⟩, by kernel_rfl⟩
theorem tyf_spec_l13Edge_0 : TyF Try.prog 127 0 0 := ⟨_, _, Try.underlying127, rfl, rfl, 1, by kernel_rfl⟩
theorem tyf_spec_l13Edge_1 : TyF Try.prog 127 1 2 := ⟨_, _, Try.underlying127, rfl, rfl, 1, by kernel_rfl⟩
theorem tyz_spec_l13Edge : TyZ Try.prog 127 4 32 (.agg #[.int .i64 0, .int .i64 0, .int .i64 0, .int .i64 0]) := tyz_of (by kernel_rfl) rfl
theorem tys_impl_leg : TyS Try.prog 131 4 := ⟨⟨_, Try.underlying131, rfl⟩, by kernel_rfl⟩
theorem tyf_impl_leg_0 : TyF Try.prog 131 0 0 := ⟨_, _, Try.underlying131, rfl, rfl, 1, by kernel_rfl⟩
theorem tyf_impl_leg_1 : TyF Try.prog 131 1 2 := ⟨_, _, Try.underlying131, rfl, rfl, 1, by kernel_rfl⟩
theorem tyz_impl_leg : TyZ Try.prog 131 4 32 (.agg #[.int .i64 0, .int .i64 0, .int .i64 0, .int .i64 0]) := tyz_of (by kernel_rfl) rfl
theorem ty1_p_impl_Outline : Ty1 Try.prog 139 := ⟨⟨_, Try.underlying139, rfl⟩, by kernel_rfl⟩
theorem tyz_p_impl_Outline : TyZ Try.prog 139 1 8 (.pointer none) := tyz_of (by kernel_rfl) rfl
theorem ty1_sl_impl_Knot : Ty1 Try.prog 144 := ⟨⟨_, Try.underlying144, rfl⟩, by kernel_rfl⟩
theorem tyl_sl_impl_Knot : TyL Try.prog 144 230 3 := ⟨Try.underlying144, by kernel_rfl⟩
theorem tyz_sl_impl_Knot : TyZ Try.prog 144 1 24 (.slice none 0 0) := tyz_of (by kernel_rfl) rfl
theorem tys_impl_Loop : TyS Try.prog 146 1 := ⟨⟨_, Try.underlying146, rfl⟩, by kernel_rfl⟩
theorem tyf_impl_Loop_0 : TyF Try.prog 146 0 0 := ⟨_, _, Try.underlying146, rfl, rfl, 0, by kernel_rfl⟩
theorem tyg_impl_Loop_0 : TyG Try.prog 146 0 0 := ⟨_, _, Try.underlying146, rfl, rfl, ⟨_, Try.underlying144, rfl⟩, by kernel_rfl⟩
theorem tyz_impl_Loop : TyZ Try.prog 146 1 24 (.agg #[.slice none 0 0]) := tyz_of (by kernel_rfl) rfl
theorem ty1_sl_string : Ty1 Try.prog 163 := ⟨⟨_, Try.underlying163, rfl⟩, by kernel_rfl⟩
theorem tyl_sl_string : TyL Try.prog 163 9 1 := ⟨Try.underlying163, by kernel_rfl⟩
theorem tyz_sl_string : TyZ Try.prog 163 1 24 (.slice none 0 0) := tyz_of (by kernel_rfl) rfl
theorem ty1_p_uint8 : Ty1 Try.prog 166 := ⟨⟨_, Try.underlying166, rfl⟩, by kernel_rfl⟩
theorem tyz_p_uint8 : TyZ Try.prog 166 1 8 (.pointer none) := tyz_of (by kernel_rfl) rfl
theorem ty1_sl_spec_l13Stop : Ty1 Try.prog 171 := ⟨⟨_, Try.underlying171, rfl⟩, by kernel_rfl⟩
theorem tyl_sl_spec_l13Stop : TyL Try.prog 171 179 8 := ⟨Try.underlying171, by kernel_rfl⟩
theorem tyz_sl_spec_l13Stop : TyZ Try.prog 171 1 24 (.slice none 0 0) := tyz_of (by kernel_rfl) rfl
theorem tys_spec_l13Span : TyS Try.prog 173 6 := ⟨⟨_, Try.underlying173, rfl⟩, by kernel_rfl⟩
theorem tyf_spec_l13Span_0 : TyF Try.prog 173 0 0 := ⟨_, _, Try.underlying173, rfl, rfl, 0, by kernel_rfl⟩
theorem tyg_spec_l13Span_0 : TyG Try.prog 173 0 0 := ⟨_, _, Try.underlying173, rfl, rfl, ⟨_, Try.underlying2, rfl⟩, by kernel_rfl⟩
theorem tyf_spec_l13Span_1 : TyF Try.prog 173 1 1 := ⟨_, _, Try.underlying173, rfl, rfl, 0, by kernel_rfl⟩
theorem tyg_spec_l13Span_1 : TyG Try.prog 173 1 1 := ⟨_, _, Try.underlying173, rfl, rfl, ⟨_, Try.underlying2, rfl⟩, by kernel_rfl⟩
theorem tyf_spec_l13Span_2 : TyF Try.prog 173 2 2 := ⟨_, _, Try.underlying173, rfl, rfl, 0, by kernel_rfl⟩
theorem tyg_spec_l13Span_2 : TyG Try.prog 173 2 2 := ⟨_, _, Try.underlying173, rfl, rfl, ⟨_, Try.underlying2, rfl⟩, by kernel_rfl⟩
theorem tyf_spec_l13Span_3 : TyF Try.prog 173 3 3 := ⟨_, _, Try.underlying173, rfl, rfl, 0, by kernel_rfl⟩
theorem tyg_spec_l13Span_3 : TyG Try.prog 173 3 3 := ⟨_, _, Try.underlying173, rfl, rfl, ⟨_, Try.underlying2, rfl⟩, by kernel_rfl⟩
theorem tyf_spec_l13Span_4 : TyF Try.prog 173 4 4 := ⟨_, _, Try.underlying173, rfl, rfl, 0, by kernel_rfl⟩
theorem tyg_spec_l13Span_4 : TyG Try.prog 173 4 4 := ⟨_, _, Try.underlying173, rfl, rfl, ⟨_, Try.underlying4, rfl⟩, by kernel_rfl⟩
theorem tyf_spec_l13Span_5 : TyF Try.prog 173 5 5 := ⟨_, _, Try.underlying173, rfl, rfl, 0, by kernel_rfl⟩
theorem tyg_spec_l13Span_5 : TyG Try.prog 173 5 5 := ⟨_, _, Try.underlying173, rfl, rfl, ⟨_, Try.underlying4, rfl⟩, by kernel_rfl⟩
theorem tyz_spec_l13Span : TyZ Try.prog 173 6 40 (.agg #[.int .i64 0, .int .i64 0, .int .i64 0, .int .i64 0, .bool false, .bool false]) := tyz_of (by kernel_rfl) rfl
theorem ty1_p_spec_l13Span : Ty1 Try.prog 177 := ⟨⟨_, Try.underlying177, rfl⟩, by kernel_rfl⟩
theorem tyz_p_spec_l13Span : TyZ Try.prog 177 1 8 (.pointer none) := tyz_of (by kernel_rfl) rfl
theorem tys_spec_l13Stop : TyS Try.prog 179 8 := ⟨⟨_, Try.underlying179, rfl⟩, by kernel_rfl⟩
theorem tyf_spec_l13Stop_0 : TyF Try.prog 179 0 0 := ⟨_, _, Try.underlying179, rfl, rfl, 1, by kernel_rfl⟩
theorem tyf_spec_l13Stop_1 : TyF Try.prog 179 1 2 := ⟨_, _, Try.underlying179, rfl, rfl, 5, by kernel_rfl⟩
theorem tyz_spec_l13Stop : TyZ Try.prog 179 8 56 (.agg #[.int .i64 0, .int .i64 0, .int .i64 0, .int .i64 0, .int .i64 0, .int .i64 0, .bool false, .bool false]) := tyz_of (by kernel_rfl) rfl
theorem ty1_sl_impl_wayPoint : Ty1 Try.prog 183 := ⟨⟨_, Try.underlying183, rfl⟩, by kernel_rfl⟩
theorem tyl_sl_impl_wayPoint : TyL Try.prog 183 191 5 := ⟨Try.underlying183, by kernel_rfl⟩
theorem tyz_sl_impl_wayPoint : TyZ Try.prog 183 1 24 (.slice none 0 0) := tyz_of (by kernel_rfl) rfl
theorem tys_impl_bound : TyS Try.prog 185 3 := ⟨⟨_, Try.underlying185, rfl⟩, by kernel_rfl⟩
theorem tyf_impl_bound_0 : TyF Try.prog 185 0 0 := ⟨_, _, Try.underlying185, rfl, rfl, 0, by kernel_rfl⟩
theorem tyg_impl_bound_0 : TyG Try.prog 185 0 0 := ⟨_, _, Try.underlying185, rfl, rfl, ⟨_, Try.underlying2, rfl⟩, by kernel_rfl⟩
theorem tyf_impl_bound_1 : TyF Try.prog 185 1 1 := ⟨_, _, Try.underlying185, rfl, rfl, 0, by kernel_rfl⟩
theorem tyg_impl_bound_1 : TyG Try.prog 185 1 1 := ⟨_, _, Try.underlying185, rfl, rfl, ⟨_, Try.underlying2, rfl⟩, by kernel_rfl⟩
theorem tyf_impl_bound_2 : TyF Try.prog 185 2 2 := ⟨_, _, Try.underlying185, rfl, rfl, 0, by kernel_rfl⟩
theorem tyg_impl_bound_2 : TyG Try.prog 185 2 2 := ⟨_, _, Try.underlying185, rfl, rfl, ⟨_, Try.underlying4, rfl⟩, by kernel_rfl⟩
theorem tyz_impl_bound : TyZ Try.prog 185 3 24 (.agg #[.int .i64 0, .int .i64 0, .bool false]) := tyz_of (by kernel_rfl) rfl
theorem tys_impl_pixelWalk : TyS Try.prog 187 6 := ⟨⟨_, Try.underlying187, rfl⟩, by kernel_rfl⟩
theorem tyf_impl_pixelWalk_0 : TyF Try.prog 187 0 0 := ⟨_, _, Try.underlying187, rfl, rfl, 2, by kernel_rfl⟩
theorem tyf_impl_pixelWalk_1 : TyF Try.prog 187 1 3 := ⟨_, _, Try.underlying187, rfl, rfl, 2, by kernel_rfl⟩
theorem tyz_impl_pixelWalk : TyZ Try.prog 187 6 48 (.agg #[.int .i64 0, .int .i64 0, .bool false, .int .i64 0, .int .i64 0, .bool false]) := tyz_of (by kernel_rfl) rfl
theorem tys_impl_wayPoint : TyS Try.prog 191 5 := ⟨⟨_, Try.underlying191, rfl⟩, by kernel_rfl⟩
theorem tyf_impl_wayPoint_0 : TyF Try.prog 191 0 0 := ⟨_, _, Try.underlying191, rfl, rfl, 1, by kernel_rfl⟩
theorem tyf_impl_wayPoint_1 : TyF Try.prog 191 1 2 := ⟨_, _, Try.underlying191, rfl, rfl, 2, by kernel_rfl⟩
theorem tyz_impl_wayPoint : TyZ Try.prog 191 5 40 (.agg #[.int .i64 0, .int .i64 0, .int .i64 0, .int .i64 0, .bool false]) := tyz_of (by kernel_rfl) rfl
theorem ty1_sl_laws_Knot : Ty1 Try.prog 196 := ⟨⟨_, Try.underlying196, rfl⟩, by kernel_rfl⟩
theorem tyl_sl_laws_Knot : TyL Try.prog 196 258 3 := ⟨Try.underlying196, by kernel_rfl⟩
theorem tyz_sl_laws_Knot : TyZ Try.prog 196 1 24 (.slice none 0 0) := tyz_of (by kernel_rfl) rfl
theorem tys_laws_Loop : TyS Try.prog 198 1 := ⟨⟨_, Try.underlying198, rfl⟩, by kernel_rfl⟩
theorem tyf_laws_Loop_0 : TyF Try.prog 198 0 0 := ⟨_, _, Try.underlying198, rfl, rfl, 0, by kernel_rfl⟩
theorem tyg_laws_Loop_0 : TyG Try.prog 198 0 0 := ⟨_, _, Try.underlying198, rfl, rfl, ⟨_, Try.underlying196, rfl⟩, by kernel_rfl⟩
theorem tyz_laws_Loop : TyZ Try.prog 198 1 24 (.agg #[.slice none 0 0]) := tyz_of (by kernel_rfl) rfl
theorem ty1_p_impl_Loop : Ty1 Try.prog 200 := ⟨⟨_, Try.underlying200, rfl⟩, by kernel_rfl⟩
theorem tyz_p_impl_Loop : TyZ Try.prog 200 1 8 (.pointer none) := tyz_of (by kernel_rfl) rfl
theorem ty1_sl_impl_loopSegment : Ty1 Try.prog 206 := ⟨⟨_, Try.underlying206, rfl⟩, by kernel_rfl⟩
theorem tyl_sl_impl_loopSegment : TyL Try.prog 206 211 7 := ⟨Try.underlying206, by kernel_rfl⟩
theorem tyz_sl_impl_loopSegment : TyZ Try.prog 206 1 24 (.slice none 0 0) := tyz_of (by kernel_rfl) rfl
theorem tys_impl_Quad : TyS Try.prog 209 6 := ⟨⟨_, Try.underlying209, rfl⟩, by kernel_rfl⟩
theorem tyf_impl_Quad_0 : TyF Try.prog 209 0 0 := ⟨_, _, Try.underlying209, rfl, rfl, 1, by kernel_rfl⟩
theorem tyf_impl_Quad_1 : TyF Try.prog 209 1 2 := ⟨_, _, Try.underlying209, rfl, rfl, 1, by kernel_rfl⟩
theorem tyf_impl_Quad_2 : TyF Try.prog 209 2 4 := ⟨_, _, Try.underlying209, rfl, rfl, 1, by kernel_rfl⟩
theorem tyz_impl_Quad : TyZ Try.prog 209 6 48 (.agg #[.int .i64 0, .int .i64 0, .int .i64 0, .int .i64 0, .int .i64 0, .int .i64 0]) := tyz_of (by kernel_rfl) rfl
theorem tys_impl_loopSegment : TyS Try.prog 211 7 := ⟨⟨_, Try.underlying211, rfl⟩, by kernel_rfl⟩
theorem tyf_impl_loopSegment_0 : TyF Try.prog 211 0 0 := ⟨_, _, Try.underlying211, rfl, rfl, 5, by kernel_rfl⟩
theorem tyf_impl_loopSegment_1 : TyF Try.prog 211 1 6 := ⟨_, _, Try.underlying211, rfl, rfl, 0, by kernel_rfl⟩
theorem tyg_impl_loopSegment_1 : TyG Try.prog 211 1 6 := ⟨_, _, Try.underlying211, rfl, rfl, ⟨_, Try.underlying4, rfl⟩, by kernel_rfl⟩
theorem tyz_impl_loopSegment : TyZ Try.prog 211 7 56 (.agg #[.int .i64 0, .int .i64 0, .int .i64 0, .int .i64 0, .int .i64 0, .int .i64 0, .bool false]) := tyz_of (by kernel_rfl) rfl
theorem ty1_uint : Ty1 Try.prog 226 := ⟨⟨_, Try.underlying226, rfl⟩, by kernel_rfl⟩
theorem tyz_uint : TyZ Try.prog 226 1 8 (.int .u64 0) := tyz_of (by kernel_rfl) rfl
theorem tys_impl_Knot : TyS Try.prog 230 3 := ⟨⟨_, Try.underlying230, rfl⟩, by kernel_rfl⟩
theorem tyf_impl_Knot_0 : TyF Try.prog 230 0 0 := ⟨_, _, Try.underlying230, rfl, rfl, 1, by kernel_rfl⟩
theorem tyf_impl_Knot_1 : TyF Try.prog 230 1 2 := ⟨_, _, Try.underlying230, rfl, rfl, 0, by kernel_rfl⟩
theorem tyg_impl_Knot_1 : TyG Try.prog 230 1 2 := ⟨_, _, Try.underlying230, rfl, rfl, ⟨_, Try.underlying4, rfl⟩, by kernel_rfl⟩
theorem tyz_impl_Knot : TyZ Try.prog 230 3 24 (.agg #[.int .i64 0, .int .i64 0, .bool false]) := tyz_of (by kernel_rfl) rfl
theorem ty1_p_impl_Quad : Ty1 Try.prog 234 := ⟨⟨_, Try.underlying234, rfl⟩, by kernel_rfl⟩
theorem tyz_p_impl_Quad : TyZ Try.prog 234 1 8 (.pointer none) := tyz_of (by kernel_rfl) rfl
theorem ty1_uint64 : Ty1 Try.prog 247 := ⟨⟨_, Try.underlying247, rfl⟩, by kernel_rfl⟩
theorem tyz_uint64 : TyZ Try.prog 247 1 8 (.int .u64 0) := tyz_of (by kernel_rfl) rfl
theorem ty1_p_impl_pixelWalk : Ty1 Try.prog 251 := ⟨⟨_, Try.underlying251, rfl⟩, by kernel_rfl⟩
theorem tyz_p_impl_pixelWalk : TyZ Try.prog 251 1 8 (.pointer none) := tyz_of (by kernel_rfl) rfl
theorem tys_laws_Knot : TyS Try.prog 258 3 := ⟨⟨_, Try.underlying258, rfl⟩, by kernel_rfl⟩
theorem tyf_laws_Knot_0 : TyF Try.prog 258 0 0 := ⟨_, _, Try.underlying258, rfl, rfl, 1, by kernel_rfl⟩
theorem tyf_laws_Knot_1 : TyF Try.prog 258 1 2 := ⟨_, _, Try.underlying258, rfl, rfl, 0, by kernel_rfl⟩
theorem tyg_laws_Knot_1 : TyG Try.prog 258 1 2 := ⟨_, _, Try.underlying258, rfl, rfl, ⟨_, Try.underlying4, rfl⟩, by kernel_rfl⟩
theorem tyz_laws_Knot : TyZ Try.prog 258 3 24 (.agg #[.int .i64 0, .int .i64 0, .bool false]) := tyz_of (by kernel_rfl) rfl
theorem ty1_sl_int64 : Ty1 Try.prog 260 := ⟨⟨_, Try.underlying260, rfl⟩, by kernel_rfl⟩
theorem tyl_sl_int64 : TyL Try.prog 260 2 1 := ⟨Try.underlying260, by kernel_rfl⟩
theorem tyz_sl_int64 : TyZ Try.prog 260 1 24 (.slice none 0 0) := tyz_of (by kernel_rfl) rfl
theorem ty1_slices_sortedHint : Ty1 Try.prog 263 := ⟨⟨_, Try.underlying263, rfl⟩, by kernel_rfl⟩
theorem tyz_slices_sortedHint : TyZ Try.prog 263 1 8 (.int .i64 0) := tyz_of (by kernel_rfl) rfl
theorem ty1_uint32 : Ty1 Try.prog 270 := ⟨⟨_, Try.underlying270, rfl⟩, by kernel_rfl⟩
theorem tyz_uint32 : TyZ Try.prog 270 1 4 (.int .u32 0) := tyz_of (by kernel_rfl) rfl
theorem ty1_slices_xorshift : Ty1 Try.prog 275 := ⟨⟨_, Try.underlying275, rfl⟩, by kernel_rfl⟩
theorem tyz_slices_xorshift : TyZ Try.prog 275 1 8 (.int .u64 0) := tyz_of (by kernel_rfl) rfl
theorem ty1_p_int : Ty1 Try.prog 279 := ⟨⟨_, Try.underlying279, rfl⟩, by kernel_rfl⟩
theorem tyz_p_int : TyZ Try.prog 279 1 8 (.pointer none) := tyz_of (by kernel_rfl) rfl
theorem ty1_p_slices_xorshift : Ty1 Try.prog 281 := ⟨⟨_, Try.underlying281, rfl⟩, by kernel_rfl⟩
theorem tyz_p_slices_xorshift : TyZ Try.prog 281 1 8 (.pointer none) := tyz_of (by kernel_rfl) rfl
theorem ok_laws_FnExactRegionBounds : FnOk Try.prog 3 := ⟨_, Try.func3, by kernel_rfl, rfl⟩
theorem ok_laws_FnExactPointInRing : FnOk Try.prog 4 := ⟨_, Try.func4, by kernel_rfl, rfl⟩
theorem ok_laws_FnExactThinRing : FnOk Try.prog 5 := ⟨_, Try.func5, by kernel_rfl, rfl⟩
theorem ok_laws_FnExactReverseRegion : FnOk Try.prog 6 := ⟨_, Try.func6, by kernel_rfl, rfl⟩
theorem ok_laws_FnExactJoinRegions : FnOk Try.prog 7 := ⟨_, Try.func7, by kernel_rfl, rfl⟩
theorem ok_laws_FnExactWindingOf : FnOk Try.prog 8 := ⟨_, Try.func8, by kernel_rfl, rfl⟩
theorem ok_laws_FnExactPointIn : FnOk Try.prog 9 := ⟨_, Try.func9, by kernel_rfl, rfl⟩
theorem ok_laws_FnExactRegionText : FnOk Try.prog 10 := ⟨_, Try.func10, by kernel_rfl, rfl⟩
theorem ok_laws_FnExactIsSnapped : FnOk Try.prog 11 := ⟨_, Try.func11, by kernel_rfl, rfl⟩
theorem ok_laws_FnExactSnapEdge : FnOk Try.prog 12 := ⟨_, Try.func12, by kernel_rfl, rfl⟩
theorem ok_laws_FnExactFlattenOutline : FnOk Try.prog 13 := ⟨_, Try.func13, by kernel_rfl, rfl⟩
theorem ok_laws_FnExactReflectPen : FnOk Try.prog 14 := ⟨_, Try.func14, by kernel_rfl, rfl⟩
theorem ok_laws_szRegion : FnOk Try.prog 15 := ⟨_, Try.func15, by kernel_rfl, rfl⟩
theorem ok_spec_RegionBounds : FnOk Try.prog 16 := ⟨_, Try.func16, by kernel_rfl, rfl⟩
theorem ok_laws_toRegion : FnOk Try.prog 17 := ⟨_, Try.func17, by kernel_rfl, rfl⟩
theorem ok_impl_RegionBounds : FnOk Try.prog 18 := ⟨_, Try.func18, by kernel_rfl, rfl⟩
theorem ok_laws_eqPt : FnOk Try.prog 19 := ⟨_, Try.func19, by kernel_rfl, rfl⟩
theorem ok_laws_eqRegion : FnOk Try.prog 20 := ⟨_, Try.func20, by kernel_rfl, rfl⟩
theorem ok_laws_szRing : FnOk Try.prog 21 := ⟨_, Try.func21, by kernel_rfl, rfl⟩
theorem ok_spec_PointInRing : FnOk Try.prog 22 := ⟨_, Try.func22, by kernel_rfl, rfl⟩
theorem ok_laws_toRing : FnOk Try.prog 23 := ⟨_, Try.func23, by kernel_rfl, rfl⟩
theorem ok_laws_toPt : FnOk Try.prog 24 := ⟨_, Try.func24, by kernel_rfl, rfl⟩
theorem ok_impl_PointInRing : FnOk Try.prog 25 := ⟨_, Try.func25, by kernel_rfl, rfl⟩
theorem ok_laws_eqRing : FnOk Try.prog 26 := ⟨_, Try.func26, by kernel_rfl, rfl⟩
theorem ok_spec_ThinRing : FnOk Try.prog 27 := ⟨_, Try.func27, by kernel_rfl, rfl⟩
theorem ok_impl_ThinRing : FnOk Try.prog 28 := ⟨_, Try.func28, by kernel_rfl, rfl⟩
theorem ok_laws_markRing : FnOk Try.prog 29 := ⟨_, Try.func29, by kernel_rfl, rfl⟩
theorem ok_laws_heldRing : FnOk Try.prog 30 := ⟨_, Try.func30, by kernel_rfl, rfl⟩
theorem ok_spec_ReverseRegion : FnOk Try.prog 31 := ⟨_, Try.func31, by kernel_rfl, rfl⟩
theorem ok_impl_ReverseRegion : FnOk Try.prog 32 := ⟨_, Try.func32, by kernel_rfl, rfl⟩
theorem ok_laws_markRegion : FnOk Try.prog 33 := ⟨_, Try.func33, by kernel_rfl, rfl⟩
theorem ok_laws_heldRegion : FnOk Try.prog 34 := ⟨_, Try.func34, by kernel_rfl, rfl⟩
theorem ok_spec_JoinRegions : FnOk Try.prog 35 := ⟨_, Try.func35, by kernel_rfl, rfl⟩
theorem ok_impl_JoinRegions : FnOk Try.prog 36 := ⟨_, Try.func36, by kernel_rfl, rfl⟩
theorem ok_spec_WindingOf : FnOk Try.prog 37 := ⟨_, Try.func37, by kernel_rfl, rfl⟩
theorem ok_impl_WindingOf : FnOk Try.prog 38 := ⟨_, Try.func38, by kernel_rfl, rfl⟩
theorem ok_spec_PointIn : FnOk Try.prog 39 := ⟨_, Try.func39, by kernel_rfl, rfl⟩
theorem ok_impl_PointIn : FnOk Try.prog 40 := ⟨_, Try.func40, by kernel_rfl, rfl⟩
theorem ok_spec_RegionText : FnOk Try.prog 41 := ⟨_, Try.func41, by kernel_rfl, rfl⟩
theorem ok_impl_RegionText : FnOk Try.prog 42 := ⟨_, Try.func42, by kernel_rfl, rfl⟩
theorem ok_spec_IsSnapped : FnOk Try.prog 43 := ⟨_, Try.func43, by kernel_rfl, rfl⟩
theorem ok_impl_IsSnapped : FnOk Try.prog 44 := ⟨_, Try.func44, by kernel_rfl, rfl⟩
theorem ok_laws_szPtS : FnOk Try.prog 45 := ⟨_, Try.func45, by kernel_rfl, rfl⟩
theorem ok_spec_SnapEdge : FnOk Try.prog 46 := ⟨_, Try.func46, by kernel_rfl, rfl⟩
theorem ok_laws_toPtS : FnOk Try.prog 47 := ⟨_, Try.func47, by kernel_rfl, rfl⟩
theorem ok_impl_SnapEdge : FnOk Try.prog 48 := ⟨_, Try.func48, by kernel_rfl, rfl⟩
theorem ok_laws_eqPtS : FnOk Try.prog 49 := ⟨_, Try.func49, by kernel_rfl, rfl⟩
theorem ok_laws_markPtS : FnOk Try.prog 50 := ⟨_, Try.func50, by kernel_rfl, rfl⟩
theorem ok_laws_heldPtS : FnOk Try.prog 51 := ⟨_, Try.func51, by kernel_rfl, rfl⟩
theorem ok_laws_szOutline : FnOk Try.prog 52 := ⟨_, Try.func52, by kernel_rfl, rfl⟩
theorem ok_spec_FlattenOutline : FnOk Try.prog 53 := ⟨_, Try.func53, by kernel_rfl, rfl⟩
theorem ok_laws_toOutline : FnOk Try.prog 54 := ⟨_, Try.func54, by kernel_rfl, rfl⟩
theorem ok_impl_FlattenOutline : FnOk Try.prog 55 := ⟨_, Try.func55, by kernel_rfl, rfl⟩
theorem ok_laws_eqOutline : FnOk Try.prog 56 := ⟨_, Try.func56, by kernel_rfl, rfl⟩
theorem ok_laws_markOutline : FnOk Try.prog 57 := ⟨_, Try.func57, by kernel_rfl, rfl⟩
theorem ok_spec_ReflectPen : FnOk Try.prog 58 := ⟨_, Try.func58, by kernel_rfl, rfl⟩
theorem ok_impl_ReflectPen : FnOk Try.prog 59 := ⟨_, Try.func59, by kernel_rfl, rfl⟩
theorem ok_laws_szRingS : FnOk Try.prog 60 := ⟨_, Try.func60, by kernel_rfl, rfl⟩
theorem ok_spec_l13Ok : FnOk Try.prog 61 := ⟨_, Try.func61, by kernel_rfl, rfl⟩
theorem ok_spec_l09Corners : FnOk Try.prog 62 := ⟨_, Try.func62, by kernel_rfl, rfl⟩
theorem ok_spec_l15All : FnOk Try.prog 63 := ⟨_, Try.func63, by kernel_rfl, rfl⟩
theorem ok_laws_toRingS : FnOk Try.prog 64 := ⟨_, Try.func64, by kernel_rfl, rfl⟩
theorem ok_impl_ValidRegion : FnOk Try.prog 65 := ⟨_, Try.func65, by kernel_rfl, rfl⟩
theorem ok_impl_boundsOf : FnOk Try.prog 66 := ⟨_, Try.func66, by kernel_rfl, rfl⟩
theorem ok_laws_eqRingS : FnOk Try.prog 67 := ⟨_, Try.func67, by kernel_rfl, rfl⟩
theorem ok_spec_l13Ring : FnOk Try.prog 68 := ⟨_, Try.func68, by kernel_rfl, rfl⟩
theorem ok_spec_l09Tolerance : FnOk Try.prog 69 := ⟨_, Try.func69, by kernel_rfl, rfl⟩
theorem ok_spec_l15Thin : FnOk Try.prog 70 := ⟨_, Try.func70, by kernel_rfl, rfl⟩
theorem ok_impl_ValidRing : FnOk Try.prog 71 := ⟨_, Try.func71, by kernel_rfl, rfl⟩
theorem ok_impl_isTolerance : FnOk Try.prog 72 := ⟨_, Try.func72, by kernel_rfl, rfl⟩
theorem ok_slices_Clone_sl_impl_Pt_impl_Pt : FnOk Try.prog 73 := ⟨_, Try.func73, by kernel_rfl, rfl⟩
theorem ok_impl_thinPath : FnOk Try.prog 74 := ⟨_, Try.func74, by kernel_rfl, rfl⟩
theorem ok_impl_copyRegion : FnOk Try.prog 75 := ⟨_, Try.func75, by kernel_rfl, rfl⟩
theorem ok_slices_Reverse_sl_impl_Pt_impl_Pt : FnOk Try.prog 76 := ⟨_, Try.func76, by kernel_rfl, rfl⟩
theorem ok_laws_markRingS : FnOk Try.prog 77 := ⟨_, Try.func77, by kernel_rfl, rfl⟩
theorem ok_laws_heldRingS : FnOk Try.prog 78 := ⟨_, Try.func78, by kernel_rfl, rfl⟩
theorem ok_spec_l13Fit : FnOk Try.prog 79 := ⟨_, Try.func79, by kernel_rfl, rfl⟩
theorem ok_spec_l13Join : FnOk Try.prog 80 := ⟨_, Try.func80, by kernel_rfl, rfl⟩
theorem ok_spec_l13All : FnOk Try.prog 81 := ⟨_, Try.func81, by kernel_rfl, rfl⟩
theorem ok_spec_l03Ok : FnOk Try.prog 82 := ⟨_, Try.func82, by kernel_rfl, rfl⟩
theorem ok_spec_l14OnAny : FnOk Try.prog 83 := ⟨_, Try.func83, by kernel_rfl, rfl⟩
theorem ok_spec_l14Winding : FnOk Try.prog 84 := ⟨_, Try.func84, by kernel_rfl, rfl⟩
theorem ok_impl_ValidPt : FnOk Try.prog 85 := ⟨_, Try.func85, by kernel_rfl, rfl⟩
theorem ok_impl_edgesOf : FnOk Try.prog 86 := ⟨_, Try.func86, by kernel_rfl, rfl⟩
theorem ok_impl_onEdges : FnOk Try.prog 87 := ⟨_, Try.func87, by kernel_rfl, rfl⟩
theorem ok_impl_windingOf : FnOk Try.prog 88 := ⟨_, Try.func88, by kernel_rfl, rfl⟩
theorem ok_spec_l13Text : FnOk Try.prog 89 := ⟨_, Try.func89, by kernel_rfl, rfl⟩
theorem ok_p_strings_Builder_WriteString : FnOk Try.prog 90 := ⟨_, Try.func90, by kernel_rfl, rfl⟩
theorem ok_impl_joinPts : FnOk Try.prog 91 := ⟨_, Try.func91, by kernel_rfl, rfl⟩
theorem ok_p_strings_Builder_String : FnOk Try.prog 92 := ⟨_, Try.func92, by kernel_rfl, rfl⟩
theorem ok_spec_l13Apart : FnOk Try.prog 93 := ⟨_, Try.func93, by kernel_rfl, rfl⟩
theorem ok_spec_l03Meeting : FnOk Try.prog 94 := ⟨_, Try.func94, by kernel_rfl, rfl⟩
theorem ok_impl_snappedPair : FnOk Try.prog 95 := ⟨_, Try.func95, by kernel_rfl, rfl⟩
theorem ok_spec_l13Points : FnOk Try.prog 96 := ⟨_, Try.func96, by kernel_rfl, rfl⟩
theorem ok_spec_l13Rises : FnOk Try.prog 97 := ⟨_, Try.func97, by kernel_rfl, rfl⟩
theorem ok_spec_l13Path : FnOk Try.prog 98 := ⟨_, Try.func98, by kernel_rfl, rfl⟩
theorem ok_impl_validPts : FnOk Try.prog 99 := ⟨_, Try.func99, by kernel_rfl, rfl⟩
theorem ok_impl_compareYX : FnOk Try.prog 100 := ⟨_, Try.func100, by kernel_rfl, rfl⟩
theorem ok_impl_snapEdge : FnOk Try.prog 101 := ⟨_, Try.func101, by kernel_rfl, rfl⟩
theorem ok_laws_szLoopS : FnOk Try.prog 102 := ⟨_, Try.func102, by kernel_rfl, rfl⟩
theorem ok_spec_l10Ok : FnOk Try.prog 103 := ⟨_, Try.func103, by kernel_rfl, rfl⟩
theorem ok_spec_l10Region : FnOk Try.prog 104 := ⟨_, Try.func104, by kernel_rfl, rfl⟩
theorem ok_laws_toLoopS : FnOk Try.prog 105 := ⟨_, Try.func105, by kernel_rfl, rfl⟩
theorem ok_impl_ValidOutline : FnOk Try.prog 106 := ⟨_, Try.func106, by kernel_rfl, rfl⟩
theorem ok_impl_flattenLoop : FnOk Try.prog 107 := ⟨_, Try.func107, by kernel_rfl, rfl⟩
theorem ok_laws_eqLoopS : FnOk Try.prog 108 := ⟨_, Try.func108, by kernel_rfl, rfl⟩
theorem ok_laws_markLoopS : FnOk Try.prog 109 := ⟨_, Try.func109, by kernel_rfl, rfl⟩
theorem ok_spec_l11Pen : FnOk Try.prog 110 := ⟨_, Try.func110, by kernel_rfl, rfl⟩
theorem ok_spec_l09Times : FnOk Try.prog 111 := ⟨_, Try.func111, by kernel_rfl, rfl⟩
theorem ok_spec_l11Hull : FnOk Try.prog 112 := ⟨_, Try.func112, by kernel_rfl, rfl⟩
theorem ok_impl_IsPen : FnOk Try.prog 113 := ⟨_, Try.func113, by kernel_rfl, rfl⟩
theorem ok_impl_hullOf : FnOk Try.prog 114 := ⟨_, Try.func114, by kernel_rfl, rfl⟩
theorem ok_spec_l00Min : FnOk Try.prog 115 := ⟨_, Try.func115, by kernel_rfl, rfl⟩
theorem ok_spec_l00Max : FnOk Try.prog 116 := ⟨_, Try.func116, by kernel_rfl, rfl⟩
theorem ok_impl_edgesOfRing : FnOk Try.prog 117 := ⟨_, Try.func117, by kernel_rfl, rfl⟩
theorem ok_spec_l00In : FnOk Try.prog 118 := ⟨_, Try.func118, by kernel_rfl, rfl⟩
theorem ok_spec_l03Near : FnOk Try.prog 119 := ⟨_, Try.func119, by kernel_rfl, rfl⟩
theorem ok_spec_l03Turn : FnOk Try.prog 120 := ⟨_, Try.func120, by kernel_rfl, rfl⟩
theorem ok_spec_l03Sq : FnOk Try.prog 121 := ⟨_, Try.func121, by kernel_rfl, rfl⟩
theorem ok_impl_isPath : FnOk Try.prog 122 := ⟨_, Try.func122, by kernel_rfl, rfl⟩
theorem ok_impl_nearSegment : FnOk Try.prog 123 := ⟨_, Try.func123, by kernel_rfl, rfl⟩
theorem ok_impl_distSq : FnOk Try.prog 124 := ⟨_, Try.func124, by kernel_rfl, rfl⟩
theorem ok_impl_turn : FnOk Try.prog 125 := ⟨_, Try.func125, by kernel_rfl, rfl⟩
theorem ok_spec_l13Own : FnOk Try.prog 126 := ⟨_, Try.func126, by kernel_rfl, rfl⟩
theorem ok_spec_l13Edges : FnOk Try.prog 127 := ⟨_, Try.func127, by kernel_rfl, rfl⟩
theorem ok_spec_l03On : FnOk Try.prog 128 := ⟨_, Try.func128, by kernel_rfl, rfl⟩
theorem ok_slices_ContainsFunc_sl_impl_leg_impl_leg : FnOk Try.prog 129 := ⟨_, Try.func129, by kernel_rfl, rfl⟩
theorem ok_impl_onEdges_1 : FnOk Try.prog 130 := ⟨_, Try.func130, by kernel_rfl, rfl⟩
theorem ok_impl_onSegment : FnOk Try.prog 131 := ⟨_, Try.func131, by kernel_rfl, rfl⟩
theorem ok_impl_double : FnOk Try.prog 132 := ⟨_, Try.func132, by kernel_rfl, rfl⟩
theorem ok_spec_l09Points : FnOk Try.prog 133 := ⟨_, Try.func133, by kernel_rfl, rfl⟩
theorem ok_p_strings_Builder_copyCheck : FnOk Try.prog 134 := ⟨_, Try.func134, by kernel_rfl, rfl⟩
theorem ok_impl_PtText : FnOk Try.prog 135 := ⟨_, Try.func135, by kernel_rfl, rfl⟩
theorem ok_strings_Join : FnOk Try.prog 136 := ⟨_, Try.func136, by kernel_rfl, rfl⟩
theorem ok_spec_l03Ends : FnOk Try.prog 137 := ⟨_, Try.func137, by kernel_rfl, rfl⟩
theorem ok_spec_l03Sign : FnOk Try.prog 138 := ⟨_, Try.func138, by kernel_rfl, rfl⟩
theorem ok_impl_meeting : FnOk Try.prog 139 := ⟨_, Try.func139, by kernel_rfl, rfl⟩
theorem ok_spec_l13Before : FnOk Try.prog 140 := ⟨_, Try.func140, by kernel_rfl, rfl⟩
theorem ok_spec_l13Inside : FnOk Try.prog 141 := ⟨_, Try.func141, by kernel_rfl, rfl⟩
theorem ok_spec_l13Sooner : FnOk Try.prog 142 := ⟨_, Try.func142, by kernel_rfl, rfl⟩
theorem ok_impl_sign64 : FnOk Try.prog 143 := ⟨_, Try.func143, by kernel_rfl, rfl⟩
theorem ok_slices_BinarySearchFunc_sl_impl_Pt_impl_Pt_int64 : FnOk Try.prog 144 := ⟨_, Try.func144, by kernel_rfl, rfl⟩
theorem ok_impl_snapEdge_1 : FnOk Try.prog 145 := ⟨_, Try.func145, by kernel_rfl, rfl⟩
theorem ok_impl_walkPixel : FnOk Try.prog 146 := ⟨_, Try.func146, by kernel_rfl, rfl⟩
theorem ok_slices_SortStableFunc_sl_impl_wayPoint_impl_wayPoint : FnOk Try.prog 147 := ⟨_, Try.func147, by kernel_rfl, rfl⟩
theorem ok_impl_snapEdge_2 : FnOk Try.prog 148 := ⟨_, Try.func148, by kernel_rfl, rfl⟩
theorem ok_impl_compareBound : FnOk Try.prog 149 := ⟨_, Try.func149, by kernel_rfl, rfl⟩
theorem ok_laws_szLoop : FnOk Try.prog 150 := ⟨_, Try.func150, by kernel_rfl, rfl⟩
theorem ok_spec_l10Loop : FnOk Try.prog 151 := ⟨_, Try.func151, by kernel_rfl, rfl⟩
theorem ok_spec_l10Ring : FnOk Try.prog 152 := ⟨_, Try.func152, by kernel_rfl, rfl⟩
theorem ok_laws_toLoop : FnOk Try.prog 153 := ⟨_, Try.func153, by kernel_rfl, rfl⟩
theorem ok_slices_ContainsFunc_sl_impl_Loop_impl_Loop : FnOk Try.prog 154 := ⟨_, Try.func154, by kernel_rfl, rfl⟩
theorem ok_impl_ValidOutline_1 : FnOk Try.prog 155 := ⟨_, Try.func155, by kernel_rfl, rfl⟩
theorem ok_impl_ValidLoop : FnOk Try.prog 156 := ⟨_, Try.func156, by kernel_rfl, rfl⟩
theorem ok_impl_segmentsOf : FnOk Try.prog 157 := ⟨_, Try.func157, by kernel_rfl, rfl⟩
theorem ok_impl_flattenQuad : FnOk Try.prog 158 := ⟨_, Try.func158, by kernel_rfl, rfl⟩
theorem ok_laws_eqLoop : FnOk Try.prog 159 := ⟨_, Try.func159, by kernel_rfl, rfl⟩
theorem ok_laws_markKnotS : FnOk Try.prog 160 := ⟨_, Try.func160, by kernel_rfl, rfl⟩
theorem ok_spec_l13Same : FnOk Try.prog 161 := ⟨_, Try.func161, by kernel_rfl, rfl⟩
theorem ok_spec_l13Put : FnOk Try.prog 162 := ⟨_, Try.func162, by kernel_rfl, rfl⟩
theorem ok_spec_l11Chain : FnOk Try.prog 163 := ⟨_, Try.func163, by kernel_rfl, rfl⟩
theorem ok_slices_Equal_sl_impl_Pt_impl_Pt : FnOk Try.prog 164 := ⟨_, Try.func164, by kernel_rfl, rfl⟩
theorem ok_slices_SortFunc_sl_impl_Pt_impl_Pt : FnOk Try.prog 165 := ⟨_, Try.func165, by kernel_rfl, rfl⟩
theorem ok_slices_Compact_sl_impl_Pt_impl_Pt : FnOk Try.prog 166 := ⟨_, Try.func166, by kernel_rfl, rfl⟩
theorem ok_impl_hullOf_1 : FnOk Try.prog 167 := ⟨_, Try.func167, by kernel_rfl, rfl⟩
theorem ok_spec_l03Less : FnOk Try.prog 168 := ⟨_, Try.func168, by kernel_rfl, rfl⟩
theorem ok_impl_productAtMost : FnOk Try.prog 169 := ⟨_, Try.func169, by kernel_rfl, rfl⟩
theorem ok_spec_l03Box : FnOk Try.prog 170 := ⟨_, Try.func170, by kernel_rfl, rfl⟩
theorem ok_slices_IndexFunc_sl_impl_leg_impl_leg : FnOk Try.prog 171 := ⟨_, Try.func171, by kernel_rfl, rfl⟩
theorem ok_spec_l03Text : FnOk Try.prog 172 := ⟨_, Try.func172, by kernel_rfl, rfl⟩
theorem ok_impl_Decimal : FnOk Try.prog 174 := ⟨_, Try.func174, by kernel_rfl, rfl⟩
theorem ok_p_strings_Builder_Grow : FnOk Try.prog 175 := ⟨_, Try.func175, by kernel_rfl, rfl⟩
theorem ok_impl_greaterPt : FnOk Try.prog 176 := ⟨_, Try.func176, by kernel_rfl, rfl⟩
theorem ok_impl_lesserPt : FnOk Try.prog 177 := ⟨_, Try.func177, by kernel_rfl, rfl⟩
theorem ok_impl_comparePt : FnOk Try.prog 178 := ⟨_, Try.func178, by kernel_rfl, rfl⟩
theorem ok_spec_l13Clip : FnOk Try.prog 179 := ⟨_, Try.func179, by kernel_rfl, rfl⟩
theorem ok_spec_l13Meet : FnOk Try.prog 180 := ⟨_, Try.func180, by kernel_rfl, rfl⟩
theorem ok_p_impl_pixelWalk_clip : FnOk Try.prog 181 := ⟨_, Try.func181, by kernel_rfl, rfl⟩
theorem ok_slices_stableCmpFunc_impl_wayPoint : FnOk Try.prog 182 := ⟨_, Try.func182, by kernel_rfl, rfl⟩
theorem ok_laws_szKnotS : FnOk Try.prog 183 := ⟨_, Try.func183, by kernel_rfl, rfl⟩
theorem ok_spec_l10Full : FnOk Try.prog 184 := ⟨_, Try.func184, by kernel_rfl, rfl⟩
theorem ok_spec_l10Flat : FnOk Try.prog 185 := ⟨_, Try.func185, by kernel_rfl, rfl⟩
theorem ok_laws_toKnotS : FnOk Try.prog 186 := ⟨_, Try.func186, by kernel_rfl, rfl⟩
theorem ok_slices_IndexFunc_sl_impl_Loop_impl_Loop : FnOk Try.prog 187 := ⟨_, Try.func187, by kernel_rfl, rfl⟩
theorem ok_slices_ContainsFunc_sl_impl_Knot_impl_Knot : FnOk Try.prog 188 := ⟨_, Try.func188, by kernel_rfl, rfl⟩
theorem ok_impl_ValidLoop_1 : FnOk Try.prog 189 := ⟨_, Try.func189, by kernel_rfl, rfl⟩
theorem ok_impl_midPt : FnOk Try.prog 190 := ⟨_, Try.func190, by kernel_rfl, rfl⟩
theorem ok_impl_levelFor : FnOk Try.prog 191 := ⟨_, Try.func191, by kernel_rfl, rfl⟩
theorem ok_impl_sizeOf : FnOk Try.prog 192 := ⟨_, Try.func192, by kernel_rfl, rfl⟩
theorem ok_impl_combine : FnOk Try.prog 193 := ⟨_, Try.func193, by kernel_rfl, rfl⟩
theorem ok_impl_Quad_points : FnOk Try.prog 194 := ⟨_, Try.func194, by kernel_rfl, rfl⟩
theorem ok_impl_quadAt : FnOk Try.prog 195 := ⟨_, Try.func195, by kernel_rfl, rfl⟩
theorem ok_laws_eqKnotS : FnOk Try.prog 196 := ⟨_, Try.func196, by kernel_rfl, rfl⟩
theorem ok_slices_pdqsortCmpFunc_impl_Pt : FnOk Try.prog 197 := ⟨_, Try.func197, by kernel_rfl, rfl⟩
theorem ok_math_bits_Len : FnOk Try.prog 198 := ⟨_, Try.func198, by kernel_rfl, rfl⟩
theorem ok_spec_l03Wide : FnOk Try.prog 199 := ⟨_, Try.func199, by kernel_rfl, rfl⟩
theorem ok_math_bits_Mul64 : FnOk Try.prog 200 := ⟨_, Try.func200, by kernel_rfl, rfl⟩
theorem ok_spec_l01Dec : FnOk Try.prog 201 := ⟨_, Try.func201, by kernel_rfl, rfl⟩
theorem ok_p_strings_Builder_grow : FnOk Try.prog 202 := ⟨_, Try.func202, by kernel_rfl, rfl⟩
theorem ok_slices_insertionSortCmpFunc_impl_wayPoint : FnOk Try.prog 203 := ⟨_, Try.func203, by kernel_rfl, rfl⟩
theorem ok_slices_symMergeCmpFunc_impl_wayPoint : FnOk Try.prog 204 := ⟨_, Try.func204, by kernel_rfl, rfl⟩
theorem ok_spec_l03Mid : FnOk Try.prog 205 := ⟨_, Try.func205, by kernel_rfl, rfl⟩
theorem ok_spec_l10Level : FnOk Try.prog 206 := ⟨_, Try.func206, by kernel_rfl, rfl⟩
theorem ok_spec_l10At : FnOk Try.prog 207 := ⟨_, Try.func207, by kernel_rfl, rfl⟩
theorem ok_laws_toKnot : FnOk Try.prog 208 := ⟨_, Try.func208, by kernel_rfl, rfl⟩
theorem ok_slices_IndexFunc_sl_impl_Knot_impl_Knot : FnOk Try.prog 209 := ⟨_, Try.func209, by kernel_rfl, rfl⟩
theorem ok_impl_DivRound : FnOk Try.prog 210 := ⟨_, Try.func210, by kernel_rfl, rfl⟩
theorem ok_impl_divPt : FnOk Try.prog 211 := ⟨_, Try.func211, by kernel_rfl, rfl⟩
theorem ok_laws_eqKnot : FnOk Try.prog 212 := ⟨_, Try.func212, by kernel_rfl, rfl⟩
theorem ok_slices_insertionSortCmpFunc_impl_Pt : FnOk Try.prog 213 := ⟨_, Try.func213, by kernel_rfl, rfl⟩
theorem ok_slices_heapSortCmpFunc_impl_Pt : FnOk Try.prog 214 := ⟨_, Try.func214, by kernel_rfl, rfl⟩
theorem ok_slices_breakPatternsCmpFunc_impl_Pt : FnOk Try.prog 215 := ⟨_, Try.func215, by kernel_rfl, rfl⟩
theorem ok_slices_choosePivotCmpFunc_impl_Pt : FnOk Try.prog 216 := ⟨_, Try.func216, by kernel_rfl, rfl⟩
theorem ok_slices_reverseRangeCmpFunc_impl_Pt : FnOk Try.prog 217 := ⟨_, Try.func217, by kernel_rfl, rfl⟩
theorem ok_slices_partialInsertionSortCmpFunc_impl_Pt : FnOk Try.prog 218 := ⟨_, Try.func218, by kernel_rfl, rfl⟩
theorem ok_slices_partitionEqualCmpFunc_impl_Pt : FnOk Try.prog 219 := ⟨_, Try.func219, by kernel_rfl, rfl⟩
theorem ok_slices_partitionCmpFunc_impl_Pt : FnOk Try.prog 220 := ⟨_, Try.func220, by kernel_rfl, rfl⟩
theorem ok_math_bits_Len32 : FnOk Try.prog 221 := ⟨_, Try.func221, by kernel_rfl, rfl⟩
theorem ok_math_bits_Len64 : FnOk Try.prog 222 := ⟨_, Try.func222, by kernel_rfl, rfl⟩
theorem ok_slices_rotateCmpFunc_impl_wayPoint : FnOk Try.prog 224 := ⟨_, Try.func224, by kernel_rfl, rfl⟩
theorem ok_spec_l03Round : FnOk Try.prog 225 := ⟨_, Try.func225, by kernel_rfl, rfl⟩
theorem ok_spec_l09Size : FnOk Try.prog 226 := ⟨_, Try.func226, by kernel_rfl, rfl⟩
theorem ok_spec_l09Second : FnOk Try.prog 227 := ⟨_, Try.func227, by kernel_rfl, rfl⟩
theorem ok_spec_l10Mix : FnOk Try.prog 228 := ⟨_, Try.func228, by kernel_rfl, rfl⟩
theorem ok_impl_floorDiv : FnOk Try.prog 229 := ⟨_, Try.func229, by kernel_rfl, rfl⟩
theorem ok_slices_siftDownCmpFunc_impl_Pt : FnOk Try.prog 230 := ⟨_, Try.func230, by kernel_rfl, rfl⟩
theorem ok_slices_nextPowerOfTwo : FnOk Try.prog 231 := ⟨_, Try.func231, by kernel_rfl, rfl⟩
theorem ok_p_slices_xorshift_Next : FnOk Try.prog 232 := ⟨_, Try.func232, by kernel_rfl, rfl⟩
theorem ok_slices_medianAdjacentCmpFunc_impl_Pt : FnOk Try.prog 233 := ⟨_, Try.func233, by kernel_rfl, rfl⟩
theorem ok_slices_medianCmpFunc_impl_Pt : FnOk Try.prog 234 := ⟨_, Try.func234, by kernel_rfl, rfl⟩
theorem ok_slices_swapRangeCmpFunc_impl_wayPoint : FnOk Try.prog 235 := ⟨_, Try.func235, by kernel_rfl, rfl⟩
theorem ok_slices_order2CmpFunc_impl_Pt : FnOk Try.prog 236 := ⟨_, Try.func236, by kernel_rfl, rfl⟩
theorem bld_impl_Pt_ (w : World) : (Instr.build 27 #[]).run Try.prog w = .ok (.agg #[.int .i64 0, .int .i64 0]) w := by
  rw [build_agg]
  simp only [List.map_toArray, List.map_cons, List.map_nil]
  simp [Instr.build, Instr.fill, go_sem]
theorem bld_impl_Pt_0_1 {v0 a0_0 : Value} (h0 : v0.cells = #[a0_0]) {v1 a1_0 : Value} (h1 : v1.cells = #[a1_0]) (w : World) : (Instr.build 27 #[(0, v0), (1, v1)]).run Try.prog w = .ok (.agg #[a0_0, a1_0]) w := by
  rw [build_agg]
  simp only [List.map_toArray, List.map_cons, List.map_nil, h0, h1]
  simp [Instr.build, Instr.fill, go_sem]
theorem bld_impl_Region_ (w : World) : (Instr.build 32 #[]).run Try.prog w = .ok (.agg #[.slice none 0 0]) w := by
  rw [build_agg]
  simp only [List.map_toArray, List.map_cons, List.map_nil]
  simp [Instr.build, Instr.fill, go_sem]
theorem bld_impl_Region_0 {v0 a0_0 : Value} (h0 : v0.cells = #[a0_0]) (w : World) : (Instr.build 32 #[(0, v0)]).run Try.prog w = .ok (.agg #[a0_0]) w := by
  rw [build_agg]
  simp only [List.map_toArray, List.map_cons, List.map_nil, h0]
  simp [Instr.build, Instr.fill, go_sem]
theorem bld_impl_Ring_ (w : World) : (Instr.build 46 #[]).run Try.prog w = .ok (.agg #[.slice none 0 0]) w := by
  rw [build_agg]
  simp only [List.map_toArray, List.map_cons, List.map_nil]
  simp [Instr.build, Instr.fill, go_sem]
theorem bld_impl_Ring_0 {v0 a0_0 : Value} (h0 : v0.cells = #[a0_0]) (w : World) : (Instr.build 46 #[(0, v0)]).run Try.prog w = .ok (.agg #[a0_0]) w := by
  rw [build_agg]
  simp only [List.map_toArray, List.map_cons, List.map_nil, h0]
  simp [Instr.build, Instr.fill, go_sem]
theorem bld_spec_l13Edge_0_1 {v0 a0_0 a0_1 : Value} (h0 : v0.cells = #[a0_0, a0_1]) {v1 a1_0 a1_1 : Value} (h1 : v1.cells = #[a1_0, a1_1]) (w : World) : (Instr.build 127 #[(0, v0), (1, v1)]).run Try.prog w = .ok (.agg #[a0_0, a0_1, a1_0, a1_1]) w := by
  rw [build_agg]
  simp only [List.map_toArray, List.map_cons, List.map_nil, h0, h1]
  simp [Instr.build, Instr.fill, go_sem]
theorem bld_impl_leg_0_1 {v0 a0_0 a0_1 : Value} (h0 : v0.cells = #[a0_0, a0_1]) {v1 a1_0 a1_1 : Value} (h1 : v1.cells = #[a1_0, a1_1]) (w : World) : (Instr.build 131 #[(0, v0), (1, v1)]).run Try.prog w = .ok (.agg #[a0_0, a0_1, a1_0, a1_1]) w := by
  rw [build_agg]
  simp only [List.map_toArray, List.map_cons, List.map_nil, h0, h1]
  simp [Instr.build, Instr.fill, go_sem]
theorem bld_spec_l13Span_0_1_2_3_4 {v0 a0_0 : Value} (h0 : v0.cells = #[a0_0]) {v1 a1_0 : Value} (h1 : v1.cells = #[a1_0]) {v2 a2_0 : Value} (h2 : v2.cells = #[a2_0]) {v3 a3_0 : Value} (h3 : v3.cells = #[a3_0]) {v4 a4_0 : Value} (h4 : v4.cells = #[a4_0]) (w : World) : (Instr.build 173 #[(0, v0), (1, v1), (2, v2), (3, v3), (4, v4)]).run Try.prog w = .ok (.agg #[a0_0, a1_0, a2_0, a3_0, a4_0, .bool false]) w := by
  rw [build_agg]
  simp only [List.map_toArray, List.map_cons, List.map_nil, h0, h1, h2, h3, h4]
  simp [Instr.build, Instr.fill, go_sem]
theorem bld_spec_l13Span_0_1_2_3_4_5 {v0 a0_0 : Value} (h0 : v0.cells = #[a0_0]) {v1 a1_0 : Value} (h1 : v1.cells = #[a1_0]) {v2 a2_0 : Value} (h2 : v2.cells = #[a2_0]) {v3 a3_0 : Value} (h3 : v3.cells = #[a3_0]) {v4 a4_0 : Value} (h4 : v4.cells = #[a4_0]) {v5 a5_0 : Value} (h5 : v5.cells = #[a5_0]) (w : World) : (Instr.build 173 #[(0, v0), (1, v1), (2, v2), (3, v3), (4, v4), (5, v5)]).run Try.prog w = .ok (.agg #[a0_0, a1_0, a2_0, a3_0, a4_0, a5_0]) w := by
  rw [build_agg]
  simp only [List.map_toArray, List.map_cons, List.map_nil, h0, h1, h2, h3, h4, h5]
  simp [Instr.build, Instr.fill, go_sem]
theorem bld_spec_l13Span_0_1_2_3_5 {v0 a0_0 : Value} (h0 : v0.cells = #[a0_0]) {v1 a1_0 : Value} (h1 : v1.cells = #[a1_0]) {v2 a2_0 : Value} (h2 : v2.cells = #[a2_0]) {v3 a3_0 : Value} (h3 : v3.cells = #[a3_0]) {v4 a4_0 : Value} (h4 : v4.cells = #[a4_0]) (w : World) : (Instr.build 173 #[(0, v0), (1, v1), (2, v2), (3, v3), (5, v4)]).run Try.prog w = .ok (.agg #[a0_0, a1_0, a2_0, a3_0, .bool false, a4_0]) w := by
  rw [build_agg]
  simp only [List.map_toArray, List.map_cons, List.map_nil, h0, h1, h2, h3, h4]
  simp [Instr.build, Instr.fill, go_sem]
theorem bld_spec_l13Stop_0_1 {v0 a0_0 a0_1 : Value} (h0 : v0.cells = #[a0_0, a0_1]) {v1 a1_0 a1_1 a1_2 a1_3 a1_4 a1_5 : Value} (h1 : v1.cells = #[a1_0, a1_1, a1_2, a1_3, a1_4, a1_5]) (w : World) : (Instr.build 179 #[(0, v0), (1, v1)]).run Try.prog w = .ok (.agg #[a0_0, a0_1, a1_0, a1_1, a1_2, a1_3, a1_4, a1_5]) w := by
  rw [build_agg]
  simp only [List.map_toArray, List.map_cons, List.map_nil, h0, h1]
  simp [Instr.build, Instr.fill, go_sem]
theorem bld_impl_bound_0_1_2 {v0 a0_0 : Value} (h0 : v0.cells = #[a0_0]) {v1 a1_0 : Value} (h1 : v1.cells = #[a1_0]) {v2 a2_0 : Value} (h2 : v2.cells = #[a2_0]) (w : World) : (Instr.build 185 #[(0, v0), (1, v1), (2, v2)]).run Try.prog w = .ok (.agg #[a0_0, a1_0, a2_0]) w := by
  rw [build_agg]
  simp only [List.map_toArray, List.map_cons, List.map_nil, h0, h1, h2]
  simp [Instr.build, Instr.fill, go_sem]
theorem bld_impl_pixelWalk_0_1 {v0 a0_0 a0_1 a0_2 : Value} (h0 : v0.cells = #[a0_0, a0_1, a0_2]) {v1 a1_0 a1_1 a1_2 : Value} (h1 : v1.cells = #[a1_0, a1_1, a1_2]) (w : World) : (Instr.build 187 #[(0, v0), (1, v1)]).run Try.prog w = .ok (.agg #[a0_0, a0_1, a0_2, a1_0, a1_1, a1_2]) w := by
  rw [build_agg]
  simp only [List.map_toArray, List.map_cons, List.map_nil, h0, h1]
  simp [Instr.build, Instr.fill, go_sem]
theorem bld_impl_wayPoint_0_1 {v0 a0_0 a0_1 : Value} (h0 : v0.cells = #[a0_0, a0_1]) {v1 a1_0 a1_1 a1_2 : Value} (h1 : v1.cells = #[a1_0, a1_1, a1_2]) (w : World) : (Instr.build 191 #[(0, v0), (1, v1)]).run Try.prog w = .ok (.agg #[a0_0, a0_1, a1_0, a1_1, a1_2]) w := by
  rw [build_agg]
  simp only [List.map_toArray, List.map_cons, List.map_nil, h0, h1]
  simp [Instr.build, Instr.fill, go_sem]
theorem bld_impl_Quad_0_1_2 {v0 a0_0 a0_1 : Value} (h0 : v0.cells = #[a0_0, a0_1]) {v1 a1_0 a1_1 : Value} (h1 : v1.cells = #[a1_0, a1_1]) {v2 a2_0 a2_1 : Value} (h2 : v2.cells = #[a2_0, a2_1]) (w : World) : (Instr.build 209 #[(0, v0), (1, v1), (2, v2)]).run Try.prog w = .ok (.agg #[a0_0, a0_1, a1_0, a1_1, a2_0, a2_1]) w := by
  rw [build_agg]
  simp only [List.map_toArray, List.map_cons, List.map_nil, h0, h1, h2]
  simp [Instr.build, Instr.fill, go_sem]
theorem bld_impl_loopSegment_0_1 {v0 a0_0 a0_1 a0_2 a0_3 a0_4 a0_5 : Value} (h0 : v0.cells = #[a0_0, a0_1, a0_2, a0_3, a0_4, a0_5]) {v1 a1_0 : Value} (h1 : v1.cells = #[a1_0]) (w : World) : (Instr.build 211 #[(0, v0), (1, v1)]).run Try.prog w = .ok (.agg #[a0_0, a0_1, a0_2, a0_3, a0_4, a0_5, a1_0]) w := by
  rw [build_agg]
  simp only [List.map_toArray, List.map_cons, List.map_nil, h0, h1]
  simp [Instr.build, Instr.fill, go_sem]
theorem bld_impl_Knot_0_1 {v0 a0_0 a0_1 : Value} (h0 : v0.cells = #[a0_0, a0_1]) {v1 a1_0 : Value} (h1 : v1.cells = #[a1_0]) (w : World) : (Instr.build 230 #[(0, v0), (1, v1)]).run Try.prog w = .ok (.agg #[a0_0, a0_1, a1_0]) w := by
  rw [build_agg]
  simp only [List.map_toArray, List.map_cons, List.map_nil, h0, h1]
  simp [Instr.build, Instr.fill, go_sem]
theorem bsl_sl_impl_Ring_1_0 {v0 a0_0 : Value} (h0 : v0.cells = #[a0_0]) (w : World) : (Instr.buildSlice 30 1 #[(0, v0)]).run Try.prog w = .ok (.slice (some ⟨w.heap.size, 0, none⟩) 1 1) (w.alloc (.cells [a0_0].toArray 46)) := by
  rw [buildSlice_agg]
  simp only [List.map_toArray, List.map_cons, List.map_nil, h0]
  simp [Instr.buildSlice, Instr.fill, go_sem]
theorem bsl_sl_impl_Pt_0 (w : World) : (Instr.buildSlice 44 0 #[]).run Try.prog w = .ok (.slice (some ⟨w.heap.size, 0, none⟩) 0 0) (w.alloc (.cells [].toArray 27)) := by
  rw [buildSlice_agg]
  simp only [List.map_toArray, List.map_cons, List.map_nil]
  simp [Instr.buildSlice, Instr.fill, go_sem]
theorem bsl_sl_impl_Pt_1_0 {v0 a0_0 a0_1 : Value} (h0 : v0.cells = #[a0_0, a0_1]) (w : World) : (Instr.buildSlice 44 1 #[(0, v0)]).run Try.prog w = .ok (.slice (some ⟨w.heap.size, 0, none⟩) 1 1) (w.alloc (.cells [a0_0, a0_1].toArray 27)) := by
  rw [buildSlice_agg]
  simp only [List.map_toArray, List.map_cons, List.map_nil, h0]
  simp [Instr.buildSlice, Instr.fill, go_sem]
theorem bsl_sl_impl_Pt_2_0_1 {v0 a0_0 a0_1 : Value} (h0 : v0.cells = #[a0_0, a0_1]) {v1 a1_0 a1_1 : Value} (h1 : v1.cells = #[a1_0, a1_1]) (w : World) : (Instr.buildSlice 44 2 #[(0, v0), (1, v1)]).run Try.prog w = .ok (.slice (some ⟨w.heap.size, 0, none⟩) 2 2) (w.alloc (.cells [a0_0, a0_1, a1_0, a1_1].toArray 27)) := by
  rw [buildSlice_agg]
  simp only [List.map_toArray, List.map_cons, List.map_nil, h0, h1]
  simp [Instr.buildSlice, Instr.fill, go_sem]
theorem bsl_sl_impl_Pt_3_0_1_2 {v0 a0_0 a0_1 : Value} (h0 : v0.cells = #[a0_0, a0_1]) {v1 a1_0 a1_1 : Value} (h1 : v1.cells = #[a1_0, a1_1]) {v2 a2_0 a2_1 : Value} (h2 : v2.cells = #[a2_0, a2_1]) (w : World) : (Instr.buildSlice 44 3 #[(0, v0), (1, v1), (2, v2)]).run Try.prog w = .ok (.slice (some ⟨w.heap.size, 0, none⟩) 3 3) (w.alloc (.cells [a0_0, a0_1, a1_0, a1_1, a2_0, a2_1].toArray 27)) := by
  rw [buildSlice_agg]
  simp only [List.map_toArray, List.map_cons, List.map_nil, h0, h1, h2]
  simp [Instr.buildSlice, Instr.fill, go_sem]
theorem bsl_sl_impl_Pt_4_0_1_2_3 {v0 a0_0 a0_1 : Value} (h0 : v0.cells = #[a0_0, a0_1]) {v1 a1_0 a1_1 : Value} (h1 : v1.cells = #[a1_0, a1_1]) {v2 a2_0 a2_1 : Value} (h2 : v2.cells = #[a2_0, a2_1]) {v3 a3_0 a3_1 : Value} (h3 : v3.cells = #[a3_0, a3_1]) (w : World) : (Instr.buildSlice 44 4 #[(0, v0), (1, v1), (2, v2), (3, v3)]).run Try.prog w = .ok (.slice (some ⟨w.heap.size, 0, none⟩) 4 4) (w.alloc (.cells [a0_0, a0_1, a1_0, a1_1, a2_0, a2_1, a3_0, a3_1].toArray 27)) := by
  rw [buildSlice_agg]
  simp only [List.map_toArray, List.map_cons, List.map_nil, h0, h1, h2, h3]
  simp [Instr.buildSlice, Instr.fill, go_sem]
theorem bsl_sl_spec_l13Edge_0 (w : World) : (Instr.buildSlice 105 0 #[]).run Try.prog w = .ok (.slice (some ⟨w.heap.size, 0, none⟩) 0 0) (w.alloc (.cells [].toArray 127)) := by
  rw [buildSlice_agg]
  simp only [List.map_toArray, List.map_cons, List.map_nil]
  simp [Instr.buildSlice, Instr.fill, go_sem]
theorem bsl_sl_spec_l13Edge_1_0 {v0 a0_0 a0_1 a0_2 a0_3 : Value} (h0 : v0.cells = #[a0_0, a0_1, a0_2, a0_3]) (w : World) : (Instr.buildSlice 105 1 #[(0, v0)]).run Try.prog w = .ok (.slice (some ⟨w.heap.size, 0, none⟩) 1 1) (w.alloc (.cells [a0_0, a0_1, a0_2, a0_3].toArray 127)) := by
  rw [buildSlice_agg]
  simp only [List.map_toArray, List.map_cons, List.map_nil, h0]
  simp [Instr.buildSlice, Instr.fill, go_sem]
theorem bsl_sl_impl_leg_1_0 {v0 a0_0 a0_1 a0_2 a0_3 : Value} (h0 : v0.cells = #[a0_0, a0_1, a0_2, a0_3]) (w : World) : (Instr.buildSlice 110 1 #[(0, v0)]).run Try.prog w = .ok (.slice (some ⟨w.heap.size, 0, none⟩) 1 1) (w.alloc (.cells [a0_0, a0_1, a0_2, a0_3].toArray 131)) := by
  rw [buildSlice_agg]
  simp only [List.map_toArray, List.map_cons, List.map_nil, h0]
  simp [Instr.buildSlice, Instr.fill, go_sem]
theorem bsl_sl_uint8_0 (w : World) : (Instr.buildSlice 116 0 #[]).run Try.prog w = .ok (.slice (some ⟨w.heap.size, 0, none⟩) 0 0) (w.alloc (.cells [].toArray 5)) := by
  rw [buildSlice_agg]
  simp only [List.map_toArray, List.map_cons, List.map_nil]
  simp [Instr.buildSlice, Instr.fill, go_sem]
theorem bsl_sl_uint8_1_0 {v0 a0_0 : Value} (h0 : v0.cells = #[a0_0]) (w : World) : (Instr.buildSlice 116 1 #[(0, v0)]).run Try.prog w = .ok (.slice (some ⟨w.heap.size, 0, none⟩) 1 1) (w.alloc (.cells [a0_0].toArray 5)) := by
  rw [buildSlice_agg]
  simp only [List.map_toArray, List.map_cons, List.map_nil, h0]
  simp [Instr.buildSlice, Instr.fill, go_sem]
theorem bsl_sl_impl_Knot_0 (w : World) : (Instr.buildSlice 144 0 #[]).run Try.prog w = .ok (.slice (some ⟨w.heap.size, 0, none⟩) 0 0) (w.alloc (.cells [].toArray 230)) := by
  rw [buildSlice_agg]
  simp only [List.map_toArray, List.map_cons, List.map_nil]
  simp [Instr.buildSlice, Instr.fill, go_sem]
theorem bsl_sl_impl_Knot_1_0 {v0 a0_0 a0_1 a0_2 : Value} (h0 : v0.cells = #[a0_0, a0_1, a0_2]) (w : World) : (Instr.buildSlice 144 1 #[(0, v0)]).run Try.prog w = .ok (.slice (some ⟨w.heap.size, 0, none⟩) 1 1) (w.alloc (.cells [a0_0, a0_1, a0_2].toArray 230)) := by
  rw [buildSlice_agg]
  simp only [List.map_toArray, List.map_cons, List.map_nil, h0]
  simp [Instr.buildSlice, Instr.fill, go_sem]
theorem bsl_sl_string_1_0 {v0 a0_0 : Value} (h0 : v0.cells = #[a0_0]) (w : World) : (Instr.buildSlice 163 1 #[(0, v0)]).run Try.prog w = .ok (.slice (some ⟨w.heap.size, 0, none⟩) 1 1) (w.alloc (.cells [a0_0].toArray 9)) := by
  rw [buildSlice_agg]
  simp only [List.map_toArray, List.map_cons, List.map_nil, h0]
  simp [Instr.buildSlice, Instr.fill, go_sem]
theorem bsl_sl_spec_l13Stop_0 (w : World) : (Instr.buildSlice 171 0 #[]).run Try.prog w = .ok (.slice (some ⟨w.heap.size, 0, none⟩) 0 0) (w.alloc (.cells [].toArray 179)) := by
  rw [buildSlice_agg]
  simp only [List.map_toArray, List.map_cons, List.map_nil]
  simp [Instr.buildSlice, Instr.fill, go_sem]
theorem bsl_sl_spec_l13Stop_1_0 {v0 a0_0 a0_1 a0_2 a0_3 a0_4 a0_5 a0_6 a0_7 : Value} (h0 : v0.cells = #[a0_0, a0_1, a0_2, a0_3, a0_4, a0_5, a0_6, a0_7]) (w : World) : (Instr.buildSlice 171 1 #[(0, v0)]).run Try.prog w = .ok (.slice (some ⟨w.heap.size, 0, none⟩) 1 1) (w.alloc (.cells [a0_0, a0_1, a0_2, a0_3, a0_4, a0_5, a0_6, a0_7].toArray 179)) := by
  rw [buildSlice_agg]
  simp only [List.map_toArray, List.map_cons, List.map_nil, h0]
  simp [Instr.buildSlice, Instr.fill, go_sem]
theorem bsl_sl_impl_wayPoint_1_0 {v0 a0_0 a0_1 a0_2 a0_3 a0_4 : Value} (h0 : v0.cells = #[a0_0, a0_1, a0_2, a0_3, a0_4]) (w : World) : (Instr.buildSlice 183 1 #[(0, v0)]).run Try.prog w = .ok (.slice (some ⟨w.heap.size, 0, none⟩) 1 1) (w.alloc (.cells [a0_0, a0_1, a0_2, a0_3, a0_4].toArray 191)) := by
  rw [buildSlice_agg]
  simp only [List.map_toArray, List.map_cons, List.map_nil, h0]
  simp [Instr.buildSlice, Instr.fill, go_sem]
theorem bsl_sl_impl_loopSegment_1_0 {v0 a0_0 a0_1 a0_2 a0_3 a0_4 a0_5 a0_6 : Value} (h0 : v0.cells = #[a0_0, a0_1, a0_2, a0_3, a0_4, a0_5, a0_6]) (w : World) : (Instr.buildSlice 206 1 #[(0, v0)]).run Try.prog w = .ok (.slice (some ⟨w.heap.size, 0, none⟩) 1 1) (w.alloc (.cells [a0_0, a0_1, a0_2, a0_3, a0_4, a0_5, a0_6].toArray 211)) := by
  rw [buildSlice_agg]
  simp only [List.map_toArray, List.map_cons, List.map_nil, h0]
  simp [Instr.buildSlice, Instr.fill, go_sem]
theorem bsl_sl_int64_3_0_1_2 {v0 a0_0 : Value} (h0 : v0.cells = #[a0_0]) {v1 a1_0 : Value} (h1 : v1.cells = #[a1_0]) {v2 a2_0 : Value} (h2 : v2.cells = #[a2_0]) (w : World) : (Instr.buildSlice 260 3 #[(0, v0), (1, v1), (2, v2)]).run Try.prog w = .ok (.slice (some ⟨w.heap.size, 0, none⟩) 3 3) (w.alloc (.cells [a0_0, a1_0, a2_0].toArray 2)) := by
  rw [buildSlice_agg]
  simp only [List.map_toArray, List.map_cons, List.map_nil, h0, h1, h2]
  simp [Instr.buildSlice, Instr.fill, go_sem]
theorem qt_eqlS_impl_Pt {o : Oper} {n : Nat} {env : List (Nat × Value)} {w0 : Bs} {Rs : List Res} {x y : Operand} {T' : TypeId} {a0 a1 b0 b1 : Int} (ho : o.op = .binOp .eql 27 x y T') (hx : ev env x = some (.agg #[.int .i64 a0, .int .i64 a1])) (hy : ev env y = some (.agg #[.int .i64 b0, .int .i64 b1])) : Qt Try.prog o n env w0 Rs (.bool ((a0 == b0) && (a1 == b1))) :=
  qt_of fun a w hF _ => by
    unfold execOp; simp only [ho, hF.ev hx, hF.ev hy]
    cases h0 : (a0 == b0); all_goals cases h1 : (a1 == b1)
    all_goals simp [go_sem, *]
theorem qt_neqS_impl_Pt {o : Oper} {n : Nat} {env : List (Nat × Value)} {w0 : Bs} {Rs : List Res} {x y : Operand} {T' : TypeId} {a0 a1 b0 b1 : Int} (ho : o.op = .binOp .neq 27 x y T') (hx : ev env x = some (.agg #[.int .i64 a0, .int .i64 a1])) (hy : ev env y = some (.agg #[.int .i64 b0, .int .i64 b1])) : Qt Try.prog o n env w0 Rs (.bool (!((a0 == b0) && (a1 == b1)))) :=
  qt_of fun a w hF _ => by
    unfold execOp; simp only [ho, hF.ev hx, hF.ev hy]
    cases h0 : (a0 == b0); all_goals cases h1 : (a1 == b1)
    all_goals simp [go_sem, *]
theorem qt_eqlS_impl_leg {o : Oper} {n : Nat} {env : List (Nat × Value)} {w0 : Bs} {Rs : List Res} {x y : Operand} {T' : TypeId} {a0 a1 a2 a3 b0 b1 b2 b3 : Int} (ho : o.op = .binOp .eql 131 x y T') (hx : ev env x = some (.agg #[.int .i64 a0, .int .i64 a1, .int .i64 a2, .int .i64 a3])) (hy : ev env y = some (.agg #[.int .i64 b0, .int .i64 b1, .int .i64 b2, .int .i64 b3])) : Qt Try.prog o n env w0 Rs (.bool ((a0 == b0) && (a1 == b1) && (a2 == b2) && (a3 == b3))) :=
  qt_of fun a w hF _ => by
    unfold execOp; simp only [ho, hF.ev hx, hF.ev hy]
    cases h0 : (a0 == b0); all_goals cases h1 : (a1 == b1); all_goals cases h2 : (a2 == b2); all_goals cases h3 : (a3 == b3)
    all_goals simp [go_sem, *]
theorem mixed : Try.prog.follows .mixedOrders = true := by kernel_rfl
end Go.Proofs.Ytadkfbkompamcaa
