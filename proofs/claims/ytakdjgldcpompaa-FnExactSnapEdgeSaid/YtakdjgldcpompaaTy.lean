/- Facts on the types and the functions of this program. -/
import Derived.Test.YtakdjgldcpompaaSv
namespace Go.Proofs.Ytakdjgldcpompaa
open Go Go.RowKit
set_option maxRecDepth 100000
set_option linter.unusedSimpArgs false
set_option linter.unusedVariables false

theorem tyz_of {P : Program} {T m k : Nat} {z : Value} (h : (P.info? T).map (fun i => (i.zero, i.size, i.bytes)) = some (some z, m, k)) (hc : z.cells.size = m) : TyZ P T m k z := by
  cases hi : P.info? T with
  | none => simp [hi] at h
  | some i =>
    simp only [hi, Option.map_some, Option.some.injEq, Prod.mk.injEq] at h
    exact ⟨⟨i, hi, h.1, h.2.1, h.2.2⟩, hc⟩
theorem ty1_int64 : Ty1 Try.prog 2 := ⟨⟨_, Try.underlying2, rfl⟩, by kernel_rfl⟩
theorem tyz_int64 : TyZ Try.prog 2 1 8 (.int .i64 0) := tyz_of (by kernel_rfl) rfl
theorem ty1_int : Ty1 Try.prog 3 := ⟨⟨_, Try.underlying3, rfl⟩, by kernel_rfl⟩
theorem tyz_int : TyZ Try.prog 3 1 8 (.int .i64 0) := tyz_of (by kernel_rfl) rfl
theorem ty1_bool : Ty1 Try.prog 4 := ⟨⟨_, Try.underlying4, rfl⟩, by kernel_rfl⟩
theorem tyb_bool : Try.prog.underlying 4 = some .bool := Try.underlying4
theorem tyz_bool : TyZ Try.prog 4 1 1 (.bool false) := tyz_of (by kernel_rfl) rfl
theorem ty1_uint8 : Ty1 Try.prog 5 := ⟨⟨_, Try.underlying5, rfl⟩, by kernel_rfl⟩
theorem tyz_uint8 : TyZ Try.prog 5 1 1 (.int .u8 0) := tyz_of (by kernel_rfl) rfl
theorem ty1_string : Ty1 Try.prog 9 := ⟨⟨_, Try.underlying9, rfl⟩, by kernel_rfl⟩
theorem tyz_string : TyZ Try.prog 9 1 16 (.string ⟨#[]⟩) := tyz_of (by kernel_rfl) rfl
theorem ty1_int32 : Ty1 Try.prog 21 := ⟨⟨_, Try.underlying21, rfl⟩, by kernel_rfl⟩
theorem tyz_int32 : TyZ Try.prog 21 1 4 (.int .i32 0) := tyz_of (by kernel_rfl) rfl
theorem tys_laws_Pt : TyS Try.prog 23 2 := ⟨⟨_, Try.underlying23, rfl⟩, by kernel_rfl⟩
theorem tyf_laws_Pt_0 : TyF Try.prog 23 0 0 := ⟨_, _, Try.underlying23, rfl, rfl, 0, by kernel_rfl⟩
theorem tyg_laws_Pt_0 : TyG Try.prog 23 0 0 := ⟨_, _, Try.underlying23, rfl, rfl, ⟨_, Try.underlying2, rfl⟩, by kernel_rfl⟩
theorem tyf_laws_Pt_1 : TyF Try.prog 23 1 1 := ⟨_, _, Try.underlying23, rfl, rfl, 0, by kernel_rfl⟩
theorem tyg_laws_Pt_1 : TyG Try.prog 23 1 1 := ⟨_, _, Try.underlying23, rfl, rfl, ⟨_, Try.underlying2, rfl⟩, by kernel_rfl⟩
theorem tyz_laws_Pt : TyZ Try.prog 23 2 16 (.agg #[.int .i64 0, .int .i64 0]) := tyz_of (by kernel_rfl) rfl
theorem ty1_sl_laws_Pt : Ty1 Try.prog 24 := ⟨⟨_, Try.underlying24, rfl⟩, by kernel_rfl⟩
theorem tyl_sl_laws_Pt : TyL Try.prog 24 23 2 := ⟨Try.underlying24, by kernel_rfl⟩
theorem tyz_sl_laws_Pt : TyZ Try.prog 24 1 24 (.slice none 0 0) := tyz_of (by kernel_rfl) rfl
theorem ty1_sl_impl_Pt : Ty1 Try.prog 26 := ⟨⟨_, Try.underlying26, rfl⟩, by kernel_rfl⟩
theorem tyl_sl_impl_Pt : TyL Try.prog 26 29 2 := ⟨Try.underlying26, by kernel_rfl⟩
theorem tyz_sl_impl_Pt : TyZ Try.prog 26 1 24 (.slice none 0 0) := tyz_of (by kernel_rfl) rfl
theorem tys_impl_Pt : TyS Try.prog 29 2 := ⟨⟨_, Try.underlying29, rfl⟩, by kernel_rfl⟩
theorem tyf_impl_Pt_0 : TyF Try.prog 29 0 0 := ⟨_, _, Try.underlying29, rfl, rfl, 0, by kernel_rfl⟩
theorem tyg_impl_Pt_0 : TyG Try.prog 29 0 0 := ⟨_, _, Try.underlying29, rfl, rfl, ⟨_, Try.underlying2, rfl⟩, by kernel_rfl⟩
theorem tyf_impl_Pt_1 : TyF Try.prog 29 1 1 := ⟨_, _, Try.underlying29, rfl, rfl, 0, by kernel_rfl⟩
theorem tyg_impl_Pt_1 : TyG Try.prog 29 1 1 := ⟨_, _, Try.underlying29, rfl, rfl, ⟨_, Try.underlying2, rfl⟩, by kernel_rfl⟩
theorem tyz_impl_Pt : TyZ Try.prog 29 2 16 (.agg #[.int .i64 0, .int .i64 0]) := tyz_of (by kernel_rfl) rfl
theorem ty1_sl_laws_Ring : Ty1 Try.prog 35 := ⟨⟨_, Try.underlying35, rfl⟩, by kernel_rfl⟩
theorem tyl_sl_laws_Ring : TyL Try.prog 35 113 1 := ⟨Try.underlying35, by kernel_rfl⟩
theorem tyz_sl_laws_Ring : TyZ Try.prog 35 1 24 (.slice none 0 0) := tyz_of (by kernel_rfl) rfl
theorem tys_laws_Region : TyS Try.prog 37 1 := ⟨⟨_, Try.underlying37, rfl⟩, by kernel_rfl⟩
theorem tyf_laws_Region_0 : TyF Try.prog 37 0 0 := ⟨_, _, Try.underlying37, rfl, rfl, 0, by kernel_rfl⟩
theorem tyg_laws_Region_0 : TyG Try.prog 37 0 0 := ⟨_, _, Try.underlying37, rfl, rfl, ⟨_, Try.underlying35, rfl⟩, by kernel_rfl⟩
theorem tyz_laws_Region : TyZ Try.prog 37 1 24 (.agg #[.slice none 0 0]) := tyz_of (by kernel_rfl) rfl
theorem ty1_sl_impl_NetEdge : Ty1 Try.prog 39 := ⟨⟨_, Try.underlying39, rfl⟩, by kernel_rfl⟩
theorem tyl_sl_impl_NetEdge : TyL Try.prog 39 72 7 := ⟨Try.underlying39, by kernel_rfl⟩
theorem tyz_sl_impl_NetEdge : TyZ Try.prog 39 1 24 (.slice none 0 0) := tyz_of (by kernel_rfl) rfl
theorem ty1_sl_impl_Ring : Ty1 Try.prog 42 := ⟨⟨_, Try.underlying42, rfl⟩, by kernel_rfl⟩
theorem tyl_sl_impl_Ring : TyL Try.prog 42 117 1 := ⟨Try.underlying42, by kernel_rfl⟩
theorem tyz_sl_impl_Ring : TyZ Try.prog 42 1 24 (.slice none 0 0) := tyz_of (by kernel_rfl) rfl
theorem tys_impl_Region : TyS Try.prog 44 1 := ⟨⟨_, Try.underlying44, rfl⟩, by kernel_rfl⟩
theorem tyf_impl_Region_0 : TyF Try.prog 44 0 0 := ⟨_, _, Try.underlying44, rfl, rfl, 0, by kernel_rfl⟩
theorem tyg_impl_Region_0 : TyG Try.prog 44 0 0 := ⟨_, _, Try.underlying44, rfl, rfl, ⟨_, Try.underlying42, rfl⟩, by kernel_rfl⟩
theorem tyz_impl_Region : TyZ Try.prog 44 1 24 (.agg #[.slice none 0 0]) := tyz_of (by kernel_rfl) rfl
theorem ty1_p_impl_Region : Ty1 Try.prog 59 := ⟨⟨_, Try.underlying59, rfl⟩, by kernel_rfl⟩
theorem tyz_p_impl_Region : TyZ Try.prog 59 1 8 (.pointer none) := tyz_of (by kernel_rfl) rfl
theorem ty1_sl_spec_l14Net : Ty1 Try.prog 61 := ⟨⟨_, Try.underlying61, rfl⟩, by kernel_rfl⟩
theorem tyl_sl_spec_l14Net : TyL Try.prog 61 70 8 := ⟨Try.underlying61, by kernel_rfl⟩
theorem tyz_sl_spec_l14Net : TyZ Try.prog 61 1 24 (.slice none 0 0) := tyz_of (by kernel_rfl) rfl
theorem ty1_sl_spec_l13Edge : Ty1 Try.prog 63 := ⟨⟨_, Try.underlying63, rfl⟩, by kernel_rfl⟩
theorem tyl_sl_spec_l13Edge : TyL Try.prog 63 68 4 := ⟨Try.underlying63, by kernel_rfl⟩
theorem tyz_sl_spec_l13Edge : TyZ Try.prog 63 1 24 (.slice none 0 0) := tyz_of (by kernel_rfl) rfl
theorem ty1_p_spec_l14Net : Ty1 Try.prog 66 := ⟨⟨_, Try.underlying66, rfl⟩, by kernel_rfl⟩
theorem tyz_p_spec_l14Net : TyZ Try.prog 66 1 8 (.pointer none) := tyz_of (by kernel_rfl) rfl
theorem tys_spec_l13Edge : TyS Try.prog 68 4 := ⟨⟨_, Try.underlying68, rfl⟩, by kernel_rfl⟩
theorem tyf_spec_l13Edge_0 : TyF Try.prog 68 0 0 := ⟨_, _, Try.underlying68, rfl, rfl, 1, by kernel_rfl⟩
theorem tyf_spec_l13Edge_1 : TyF Try.prog 68 1 2 := ⟨_, _, Try.underlying68, rfl, rfl, 1, by kernel_rfl⟩
theorem tyz_spec_l13Edge : TyZ Try.prog 68 4 32 (.agg #[.int .i64 0, .int .i64 0, .int .i64 0, .int .i64 0]) := tyz_of (by kernel_rfl) rfl
theorem tys_spec_l14Net : TyS Try.prog 70 8 := ⟨⟨_, Try.underlying70, rfl⟩, by kernel_rfl⟩
theorem tyf_spec_l14Net_0 : TyF Try.prog 70 0 0 := ⟨_, _, Try.underlying70, rfl, rfl, 3, by kernel_rfl⟩
theorem tyf_spec_l14Net_1 : TyF Try.prog 70 1 4 := ⟨_, _, Try.underlying70, rfl, rfl, 0, by kernel_rfl⟩
theorem tyg_spec_l14Net_1 : TyG Try.prog 70 1 4 := ⟨_, _, Try.underlying70, rfl, rfl, ⟨_, Try.underlying2, rfl⟩, by kernel_rfl⟩
theorem tyf_spec_l14Net_2 : TyF Try.prog 70 2 5 := ⟨_, _, Try.underlying70, rfl, rfl, 0, by kernel_rfl⟩
theorem tyg_spec_l14Net_2 : TyG Try.prog 70 2 5 := ⟨_, _, Try.underlying70, rfl, rfl, ⟨_, Try.underlying2, rfl⟩, by kernel_rfl⟩
theorem tyf_spec_l14Net_3 : TyF Try.prog 70 3 6 := ⟨_, _, Try.underlying70, rfl, rfl, 0, by kernel_rfl⟩
theorem tyg_spec_l14Net_3 : TyG Try.prog 70 3 6 := ⟨_, _, Try.underlying70, rfl, rfl, ⟨_, Try.underlying2, rfl⟩, by kernel_rfl⟩
theorem tyf_spec_l14Net_4 : TyF Try.prog 70 4 7 := ⟨_, _, Try.underlying70, rfl, rfl, 0, by kernel_rfl⟩
theorem tyg_spec_l14Net_4 : TyG Try.prog 70 4 7 := ⟨_, _, Try.underlying70, rfl, rfl, ⟨_, Try.underlying2, rfl⟩, by kernel_rfl⟩
theorem tyz_spec_l14Net : TyZ Try.prog 70 8 64 (.agg #[.int .i64 0, .int .i64 0, .int .i64 0, .int .i64 0, .int .i64 0, .int .i64 0, .int .i64 0, .int .i64 0]) := tyz_of (by kernel_rfl) rfl
theorem tys_impl_NetEdge : TyS Try.prog 72 7 := ⟨⟨_, Try.underlying72, rfl⟩, by kernel_rfl⟩
theorem tyf_impl_NetEdge_0 : TyF Try.prog 72 0 0 := ⟨_, _, Try.underlying72, rfl, rfl, 1, by kernel_rfl⟩
theorem tyf_impl_NetEdge_1 : TyF Try.prog 72 1 2 := ⟨_, _, Try.underlying72, rfl, rfl, 1, by kernel_rfl⟩
theorem tyf_impl_NetEdge_2 : TyF Try.prog 72 2 4 := ⟨_, _, Try.underlying72, rfl, rfl, 0, by kernel_rfl⟩
theorem tyg_impl_NetEdge_2 : TyG Try.prog 72 2 4 := ⟨_, _, Try.underlying72, rfl, rfl, ⟨_, Try.underlying2, rfl⟩, by kernel_rfl⟩
theorem tyf_impl_NetEdge_3 : TyF Try.prog 72 3 5 := ⟨_, _, Try.underlying72, rfl, rfl, 0, by kernel_rfl⟩
theorem tyg_impl_NetEdge_3 : TyG Try.prog 72 3 5 := ⟨_, _, Try.underlying72, rfl, rfl, ⟨_, Try.underlying2, rfl⟩, by kernel_rfl⟩
theorem tyf_impl_NetEdge_4 : TyF Try.prog 72 4 6 := ⟨_, _, Try.underlying72, rfl, rfl, 0, by kernel_rfl⟩
theorem tyg_impl_NetEdge_4 : TyG Try.prog 72 4 6 := ⟨_, _, Try.underlying72, rfl, rfl, ⟨_, Try.underlying2, rfl⟩, by kernel_rfl⟩
theorem tyz_impl_NetEdge : TyZ Try.prog 72 7 56 (.agg #[.int .i64 0, .int .i64 0, .int .i64 0, .int .i64 0, .int .i64 0, .int .i64 0, .int .i64 0]) := tyz_of (by kernel_rfl) rfl
theorem ty1_sl_impl_leg : Ty1 Try.prog 74 := ⟨⟨_, Try.underlying74, rfl⟩, by kernel_rfl⟩
theorem tyl_sl_impl_leg : TyL Try.prog 74 78 4 := ⟨Try.underlying74, by kernel_rfl⟩
theorem tyz_sl_impl_leg : TyZ Try.prog 74 1 24 (.slice none 0 0) := tyz_of (by kernel_rfl) rfl
theorem tys_impl_leg : TyS Try.prog 78 4 := ⟨⟨_, Try.underlying78, rfl⟩, by kernel_rfl⟩
theorem tyf_impl_leg_0 : TyF Try.prog 78 0 0 := ⟨_, _, Try.underlying78, rfl, rfl, 1, by kernel_rfl⟩
theorem tyf_impl_leg_1 : TyF Try.prog 78 1 2 := ⟨_, _, Try.underlying78, rfl, rfl, 1, by kernel_rfl⟩
theorem tyz_impl_leg : TyZ Try.prog 78 4 32 (.agg #[.int .i64 0, .int .i64 0, .int .i64 0, .int .i64 0]) := tyz_of (by kernel_rfl) rfl
theorem ty1_sl_spec_l13Stop : Ty1 Try.prog 84 := ⟨⟨_, Try.underlying84, rfl⟩, by kernel_rfl⟩
theorem tyl_sl_spec_l13Stop : TyL Try.prog 84 94 8 := ⟨Try.underlying84, by kernel_rfl⟩
theorem tyz_sl_spec_l13Stop : TyZ Try.prog 84 1 24 (.slice none 0 0) := tyz_of (by kernel_rfl) rfl
theorem tys_spec_l13Span : TyS Try.prog 88 6 := ⟨⟨_, Try.underlying88, rfl⟩, by kernel_rfl⟩
theorem tyf_spec_l13Span_0 : TyF Try.prog 88 0 0 := ⟨_, _, Try.underlying88, rfl, rfl, 0, by kernel_rfl⟩
theorem tyg_spec_l13Span_0 : TyG Try.prog 88 0 0 := ⟨_, _, Try.underlying88, rfl, rfl, ⟨_, Try.underlying2, rfl⟩, by kernel_rfl⟩
theorem tyf_spec_l13Span_1 : TyF Try.prog 88 1 1 := ⟨_, _, Try.underlying88, rfl, rfl, 0, by kernel_rfl⟩
theorem tyg_spec_l13Span_1 : TyG Try.prog 88 1 1 := ⟨_, _, Try.underlying88, rfl, rfl, ⟨_, Try.underlying2, rfl⟩, by kernel_rfl⟩
theorem tyf_spec_l13Span_2 : TyF Try.prog 88 2 2 := ⟨_, _, Try.underlying88, rfl, rfl, 0, by kernel_rfl⟩
theorem tyg_spec_l13Span_2 : TyG Try.prog 88 2 2 := ⟨_, _, Try.underlying88, rfl, rfl, ⟨_, Try.underlying2, rfl⟩, by kernel_rfl⟩
theorem tyf_spec_l13Span_3 : TyF Try.prog 88 3 3 := ⟨_, _, Try.underlying88, rfl, rfl, 0, by kernel_rfl⟩
theorem tyg_spec_l13Span_3 : TyG Try.prog 88 3 3 := ⟨_, _, Try.underlying88, rfl, rfl, ⟨_, Try.underlying2, rfl⟩, by kernel_rfl⟩
theorem tyf_spec_l13Span_4 : TyF Try.prog 88 4 4 := ⟨_, _, Try.underlying88, rfl, rfl, 0, by kernel_rfl⟩
theorem tyg_spec_l13Span_4 : TyG Try.prog 88 4 4 := ⟨_, _, Try.underlying88, rfl, rfl, ⟨_, Try.underlying4, rfl⟩, by kernel_rfl⟩
theorem tyf_spec_l13Span_5 : TyF Try.prog 88 5 5 := ⟨_, _, Try.underlying88, rfl, rfl, 0, by kernel_rfl⟩
theorem tyg_spec_l13Span_5 : TyG Try.prog 88 5 5 := ⟨_, _, Try.underlying88, rfl, rfl, ⟨_, Try.underlying4, rfl⟩, by kernel_rfl⟩
theorem tyz_spec_l13Span : TyZ Try.prog 88 6 40 (.agg #[.int .i64 0, .int .i64 0, .int .i64 0, .int .i64 0, .bool false, .bool false]) := tyz_of (by kernel_rfl) rfl
theorem ty1_p_spec_l13Span : Ty1 Try.prog 92 := ⟨⟨_, Try.underlying92, rfl⟩, by kernel_rfl⟩
theorem tyz_p_spec_l13Span : TyZ Try.prog 92 1 8 (.pointer none) := tyz_of (by kernel_rfl) rfl
theorem tys_spec_l13Stop : TyS Try.prog 94 8 := ⟨⟨_, Try.underlying94, rfl⟩, by kernel_rfl⟩
theorem tyf_spec_l13Stop_0 : TyF Try.prog 94 0 0 := ⟨_, _, Try.underlying94, rfl, rfl, 1, by kernel_rfl⟩
theorem tyf_spec_l13Stop_1 : TyF Try.prog 94 1 2 := ⟨_, _, Try.underlying94, rfl, rfl, 5, by kernel_rfl⟩
theorem tyz_spec_l13Stop : TyZ Try.prog 94 8 56 (.agg #[.int .i64 0, .int .i64 0, .int .i64 0, .int .i64 0, .int .i64 0, .int .i64 0, .bool false, .bool false]) := tyz_of (by kernel_rfl) rfl
theorem ty1_sl_impl_wayPoint : Ty1 Try.prog 99 := ⟨⟨_, Try.underlying99, rfl⟩, by kernel_rfl⟩
theorem tyl_sl_impl_wayPoint : TyL Try.prog 99 107 5 := ⟨Try.underlying99, by kernel_rfl⟩
theorem tyz_sl_impl_wayPoint : TyZ Try.prog 99 1 24 (.slice none 0 0) := tyz_of (by kernel_rfl) rfl
theorem tys_impl_bound : TyS Try.prog 101 3 := ⟨⟨_, Try.underlying101, rfl⟩, by kernel_rfl⟩
theorem tyf_impl_bound_0 : TyF Try.prog 101 0 0 := ⟨_, _, Try.underlying101, rfl, rfl, 0, by kernel_rfl⟩
theorem tyg_impl_bound_0 : TyG Try.prog 101 0 0 := ⟨_, _, Try.underlying101, rfl, rfl, ⟨_, Try.underlying2, rfl⟩, by kernel_rfl⟩
theorem tyf_impl_bound_1 : TyF Try.prog 101 1 1 := ⟨_, _, Try.underlying101, rfl, rfl, 0, by kernel_rfl⟩
theorem tyg_impl_bound_1 : TyG Try.prog 101 1 1 := ⟨_, _, Try.underlying101, rfl, rfl, ⟨_, Try.underlying2, rfl⟩, by kernel_rfl⟩
theorem tyf_impl_bound_2 : TyF Try.prog 101 2 2 := ⟨_, _, Try.underlying101, rfl, rfl, 0, by kernel_rfl⟩
theorem tyg_impl_bound_2 : TyG Try.prog 101 2 2 := ⟨_, _, Try.underlying101, rfl, rfl, ⟨_, Try.underlying4, rfl⟩, by kernel_rfl⟩
theorem tyz_impl_bound : TyZ Try.prog 101 3 24 (.agg #[.int .i64 0, .int .i64 0, .bool false]) := tyz_of (by kernel_rfl) rfl
theorem tys_impl_pixelWalk : TyS Try.prog 103 6 := ⟨⟨_, Try.underlying103, rfl⟩, by kernel_rfl⟩
theorem tyf_impl_pixelWalk_0 : TyF Try.prog 103 0 0 := ⟨_, _, Try.underlying103, rfl, rfl, 2, by kernel_rfl⟩
theorem tyf_impl_pixelWalk_1 : TyF Try.prog 103 1 3 := ⟨_, _, Try.underlying103, rfl, rfl, 2, by kernel_rfl⟩
theorem tyz_impl_pixelWalk : TyZ Try.prog 103 6 48 (.agg #[.int .i64 0, .int .i64 0, .bool false, .int .i64 0, .int .i64 0, .bool false]) := tyz_of (by kernel_rfl) rfl
theorem tys_impl_wayPoint : TyS Try.prog 107 5 := ⟨⟨_, Try.underlying107, rfl⟩, by kernel_rfl⟩
theorem tyf_impl_wayPoint_0 : TyF Try.prog 107 0 0 := ⟨_, _, Try.underlying107, rfl, rfl, 1, by kernel_rfl⟩
theorem tyf_impl_wayPoint_1 : TyF Try.prog 107 1 2 := ⟨_, _, Try.underlying107, rfl, rfl, 2, by kernel_rfl⟩
theorem tyz_impl_wayPoint : TyZ Try.prog 107 5 40 (.agg #[.int .i64 0, .int .i64 0, .int .i64 0, .int .i64 0, .bool false]) := tyz_of (by kernel_rfl) rfl
theorem tys_laws_Ring : TyS Try.prog 113 1 := ⟨⟨_, Try.underlying113, rfl⟩, by kernel_rfl⟩
theorem tyf_laws_Ring_0 : TyF Try.prog 113 0 0 := ⟨_, _, Try.underlying113, rfl, rfl, 0, by kernel_rfl⟩
theorem tyg_laws_Ring_0 : TyG Try.prog 113 0 0 := ⟨_, _, Try.underlying113, rfl, rfl, ⟨_, Try.underlying24, rfl⟩, by kernel_rfl⟩
theorem tyz_laws_Ring : TyZ Try.prog 113 1 24 (.agg #[.slice none 0 0]) := tyz_of (by kernel_rfl) rfl
theorem ty1_p_impl_Ring : Ty1 Try.prog 115 := ⟨⟨_, Try.underlying115, rfl⟩, by kernel_rfl⟩
theorem tyz_p_impl_Ring : TyZ Try.prog 115 1 8 (.pointer none) := tyz_of (by kernel_rfl) rfl
theorem tys_impl_Ring : TyS Try.prog 117 1 := ⟨⟨_, Try.underlying117, rfl⟩, by kernel_rfl⟩
theorem tyf_impl_Ring_0 : TyF Try.prog 117 0 0 := ⟨_, _, Try.underlying117, rfl, rfl, 0, by kernel_rfl⟩
theorem tyg_impl_Ring_0 : TyG Try.prog 117 0 0 := ⟨_, _, Try.underlying117, rfl, rfl, ⟨_, Try.underlying26, rfl⟩, by kernel_rfl⟩
theorem tyz_impl_Ring : TyZ Try.prog 117 1 24 (.agg #[.slice none 0 0]) := tyz_of (by kernel_rfl) rfl
theorem ty1_p_spec_l13Edge : Ty1 Try.prog 118 := ⟨⟨_, Try.underlying118, rfl⟩, by kernel_rfl⟩
theorem tyz_p_spec_l13Edge : TyZ Try.prog 118 1 8 (.pointer none) := tyz_of (by kernel_rfl) rfl
theorem ty1_uint : Ty1 Try.prog 135 := ⟨⟨_, Try.underlying135, rfl⟩, by kernel_rfl⟩
theorem tyz_uint : TyZ Try.prog 135 1 8 (.int .u64 0) := tyz_of (by kernel_rfl) rfl
theorem ty1_p_impl_pixelWalk : Ty1 Try.prog 146 := ⟨⟨_, Try.underlying146, rfl⟩, by kernel_rfl⟩
theorem tyz_p_impl_pixelWalk : TyZ Try.prog 146 1 8 (.pointer none) := tyz_of (by kernel_rfl) rfl
theorem ty1_slices_sortedHint : Ty1 Try.prog 152 := ⟨⟨_, Try.underlying152, rfl⟩, by kernel_rfl⟩
theorem tyz_slices_sortedHint : TyZ Try.prog 152 1 8 (.int .i64 0) := tyz_of (by kernel_rfl) rfl
theorem ty1_uint32 : Ty1 Try.prog 159 := ⟨⟨_, Try.underlying159, rfl⟩, by kernel_rfl⟩
theorem tyz_uint32 : TyZ Try.prog 159 1 4 (.int .u32 0) := tyz_of (by kernel_rfl) rfl
theorem ty1_uint64 : Ty1 Try.prog 161 := ⟨⟨_, Try.underlying161, rfl⟩, by kernel_rfl⟩
theorem tyz_uint64 : TyZ Try.prog 161 1 8 (.int .u64 0) := tyz_of (by kernel_rfl) rfl
theorem ty1_slices_xorshift : Ty1 Try.prog 162 := ⟨⟨_, Try.underlying162, rfl⟩, by kernel_rfl⟩
theorem tyz_slices_xorshift : TyZ Try.prog 162 1 8 (.int .u64 0) := tyz_of (by kernel_rfl) rfl
theorem ty1_p_int : Ty1 Try.prog 166 := ⟨⟨_, Try.underlying166, rfl⟩, by kernel_rfl⟩
theorem tyz_p_int : TyZ Try.prog 166 1 8 (.pointer none) := tyz_of (by kernel_rfl) rfl
theorem ty1_p_slices_xorshift : Ty1 Try.prog 168 := ⟨⟨_, Try.underlying168, rfl⟩, by kernel_rfl⟩
theorem tyz_p_slices_xorshift : TyZ Try.prog 168 1 8 (.pointer none) := tyz_of (by kernel_rfl) rfl
theorem ty1_p_uint8 : Ty1 Try.prog 181 := ⟨⟨_, Try.underlying181, rfl⟩, by kernel_rfl⟩
theorem tyz_p_uint8 : TyZ Try.prog 181 1 8 (.pointer none) := tyz_of (by kernel_rfl) rfl
theorem ok_laws_FnExactSnapEdge : FnOk Try.prog 3 := ⟨_, Try.func3, by kernel_rfl, rfl⟩
theorem ok_laws_FnExactNetEdges : FnOk Try.prog 4 := ⟨_, Try.func4, by kernel_rfl, rfl⟩
theorem ok_laws_szPtS : FnOk Try.prog 5 := ⟨_, Try.func5, by kernel_rfl, rfl⟩
theorem ok_spec_SnapEdge : FnOk Try.prog 6 := ⟨_, Try.func6, by kernel_rfl, rfl⟩
theorem ok_laws_toPt : FnOk Try.prog 7 := ⟨_, Try.func7, by kernel_rfl, rfl⟩
theorem ok_laws_toPtS : FnOk Try.prog 8 := ⟨_, Try.func8, by kernel_rfl, rfl⟩
theorem ok_impl_SnapEdge : FnOk Try.prog 9 := ⟨_, Try.func9, by kernel_rfl, rfl⟩
theorem ok_laws_eqPtS : FnOk Try.prog 10 := ⟨_, Try.func10, by kernel_rfl, rfl⟩
theorem ok_laws_markPtS : FnOk Try.prog 11 := ⟨_, Try.func11, by kernel_rfl, rfl⟩
theorem ok_laws_heldPtS : FnOk Try.prog 12 := ⟨_, Try.func12, by kernel_rfl, rfl⟩
theorem ok_laws_szRegion : FnOk Try.prog 13 := ⟨_, Try.func13, by kernel_rfl, rfl⟩
theorem ok_spec_NetEdges : FnOk Try.prog 14 := ⟨_, Try.func14, by kernel_rfl, rfl⟩
theorem ok_laws_toRegion : FnOk Try.prog 15 := ⟨_, Try.func15, by kernel_rfl, rfl⟩
theorem ok_impl_NetEdges : FnOk Try.prog 16 := ⟨_, Try.func16, by kernel_rfl, rfl⟩
theorem ok_laws_eqNetEdgeS : FnOk Try.prog 17 := ⟨_, Try.func17, by kernel_rfl, rfl⟩
theorem ok_laws_eqRegion : FnOk Try.prog 18 := ⟨_, Try.func18, by kernel_rfl, rfl⟩
theorem ok_laws_markRegion : FnOk Try.prog 19 := ⟨_, Try.func19, by kernel_rfl, rfl⟩
theorem ok_laws_markNetEdgeS : FnOk Try.prog 20 := ⟨_, Try.func20, by kernel_rfl, rfl⟩
theorem ok_laws_heldNetEdgeS : FnOk Try.prog 21 := ⟨_, Try.func21, by kernel_rfl, rfl⟩
theorem ok_spec_l03Ok : FnOk Try.prog 22 := ⟨_, Try.func22, by kernel_rfl, rfl⟩
theorem ok_spec_l13Points : FnOk Try.prog 23 := ⟨_, Try.func23, by kernel_rfl, rfl⟩
theorem ok_spec_l13Rises : FnOk Try.prog 24 := ⟨_, Try.func24, by kernel_rfl, rfl⟩
theorem ok_spec_l13Path : FnOk Try.prog 25 := ⟨_, Try.func25, by kernel_rfl, rfl⟩
theorem ok_impl_validPts : FnOk Try.prog 26 := ⟨_, Try.func26, by kernel_rfl, rfl⟩
theorem ok_impl_compareYX : FnOk Try.prog 27 := ⟨_, Try.func27, by kernel_rfl, rfl⟩
theorem ok_impl_snapEdge : FnOk Try.prog 28 := ⟨_, Try.func28, by kernel_rfl, rfl⟩
theorem ok_laws_eqPt : FnOk Try.prog 29 := ⟨_, Try.func29, by kernel_rfl, rfl⟩
theorem ok_laws_szRingS : FnOk Try.prog 30 := ⟨_, Try.func30, by kernel_rfl, rfl⟩
theorem ok_spec_l13Ok : FnOk Try.prog 31 := ⟨_, Try.func31, by kernel_rfl, rfl⟩
theorem ok_spec_IsSnapped : FnOk Try.prog 32 := ⟨_, Try.func32, by kernel_rfl, rfl⟩
theorem ok_spec_l14Add : FnOk Try.prog 33 := ⟨_, Try.func33, by kernel_rfl, rfl⟩
theorem ok_spec_l13All : FnOk Try.prog 34 := ⟨_, Try.func34, by kernel_rfl, rfl⟩
theorem ok_spec_l14Sides : FnOk Try.prog 35 := ⟨_, Try.func35, by kernel_rfl, rfl⟩
theorem ok_laws_toRingS : FnOk Try.prog 36 := ⟨_, Try.func36, by kernel_rfl, rfl⟩
theorem ok_impl_ValidRegion : FnOk Try.prog 37 := ⟨_, Try.func37, by kernel_rfl, rfl⟩
theorem ok_impl_IsSnapped : FnOk Try.prog 38 := ⟨_, Try.func38, by kernel_rfl, rfl⟩
theorem ok_impl_edgesOf : FnOk Try.prog 39 := ⟨_, Try.func39, by kernel_rfl, rfl⟩
theorem ok_impl_pairsOf : FnOk Try.prog 40 := ⟨_, Try.func40, by kernel_rfl, rfl⟩
theorem ok_impl_netEdge : FnOk Try.prog 41 := ⟨_, Try.func41, by kernel_rfl, rfl⟩
theorem ok_laws_eqNetEdge : FnOk Try.prog 42 := ⟨_, Try.func42, by kernel_rfl, rfl⟩
theorem ok_laws_eqRingS : FnOk Try.prog 43 := ⟨_, Try.func43, by kernel_rfl, rfl⟩
theorem ok_laws_markRingS : FnOk Try.prog 44 := ⟨_, Try.func44, by kernel_rfl, rfl⟩
theorem ok_spec_l00In : FnOk Try.prog 45 := ⟨_, Try.func45, by kernel_rfl, rfl⟩
theorem ok_spec_l13Before : FnOk Try.prog 46 := ⟨_, Try.func46, by kernel_rfl, rfl⟩
theorem ok_spec_l09Corners : FnOk Try.prog 47 := ⟨_, Try.func47, by kernel_rfl, rfl⟩
theorem ok_spec_l13Inside : FnOk Try.prog 48 := ⟨_, Try.func48, by kernel_rfl, rfl⟩
theorem ok_spec_l13Sooner : FnOk Try.prog 49 := ⟨_, Try.func49, by kernel_rfl, rfl⟩
theorem ok_impl_ValidPt : FnOk Try.prog 50 := ⟨_, Try.func50, by kernel_rfl, rfl⟩
theorem ok_impl_sign64 : FnOk Try.prog 51 := ⟨_, Try.func51, by kernel_rfl, rfl⟩
theorem ok_impl_boundsOf : FnOk Try.prog 52 := ⟨_, Try.func52, by kernel_rfl, rfl⟩
theorem ok_slices_BinarySearchFunc_sl_impl_Pt_impl_Pt_int64 : FnOk Try.prog 53 := ⟨_, Try.func53, by kernel_rfl, rfl⟩
theorem ok_impl_snapEdge_1 : FnOk Try.prog 54 := ⟨_, Try.func54, by kernel_rfl, rfl⟩
theorem ok_impl_walkPixel : FnOk Try.prog 55 := ⟨_, Try.func55, by kernel_rfl, rfl⟩
theorem ok_slices_SortStableFunc_sl_impl_wayPoint_impl_wayPoint : FnOk Try.prog 56 := ⟨_, Try.func56, by kernel_rfl, rfl⟩
theorem ok_impl_snapEdge_2 : FnOk Try.prog 57 := ⟨_, Try.func57, by kernel_rfl, rfl⟩
theorem ok_impl_compareBound : FnOk Try.prog 58 := ⟨_, Try.func58, by kernel_rfl, rfl⟩
theorem ok_laws_szRing : FnOk Try.prog 59 := ⟨_, Try.func59, by kernel_rfl, rfl⟩
theorem ok_spec_l13Ring : FnOk Try.prog 60 := ⟨_, Try.func60, by kernel_rfl, rfl⟩
theorem ok_spec_l13Apart : FnOk Try.prog 61 := ⟨_, Try.func61, by kernel_rfl, rfl⟩
theorem ok_spec_l03Meeting : FnOk Try.prog 62 := ⟨_, Try.func62, by kernel_rfl, rfl⟩
theorem ok_spec_l13Edges : FnOk Try.prog 63 := ⟨_, Try.func63, by kernel_rfl, rfl⟩
theorem ok_spec_l14Beside : FnOk Try.prog 64 := ⟨_, Try.func64, by kernel_rfl, rfl⟩
theorem ok_laws_toRing : FnOk Try.prog 65 := ⟨_, Try.func65, by kernel_rfl, rfl⟩
theorem ok_impl_ValidRing : FnOk Try.prog 66 := ⟨_, Try.func66, by kernel_rfl, rfl⟩
theorem ok_impl_edgesOfRing : FnOk Try.prog 67 := ⟨_, Try.func67, by kernel_rfl, rfl⟩
theorem ok_impl_snappedPair : FnOk Try.prog 68 := ⟨_, Try.func68, by kernel_rfl, rfl⟩
theorem ok_slices_SortFunc_sl_impl_leg_impl_leg : FnOk Try.prog 69 := ⟨_, Try.func69, by kernel_rfl, rfl⟩
theorem ok_impl_pairsOf_1 : FnOk Try.prog 70 := ⟨_, Try.func70, by kernel_rfl, rfl⟩
theorem ok_slices_Compact_sl_impl_leg_impl_leg : FnOk Try.prog 71 := ⟨_, Try.func71, by kernel_rfl, rfl⟩
theorem ok_impl_windingOf : FnOk Try.prog 72 := ⟨_, Try.func72, by kernel_rfl, rfl⟩
theorem ok_laws_eqRing : FnOk Try.prog 73 := ⟨_, Try.func73, by kernel_rfl, rfl⟩
theorem ok_spec_l00Min : FnOk Try.prog 74 := ⟨_, Try.func74, by kernel_rfl, rfl⟩
theorem ok_spec_l00Max : FnOk Try.prog 75 := ⟨_, Try.func75, by kernel_rfl, rfl⟩
theorem ok_spec_l13Clip : FnOk Try.prog 76 := ⟨_, Try.func76, by kernel_rfl, rfl⟩
theorem ok_spec_l13Meet : FnOk Try.prog 77 := ⟨_, Try.func77, by kernel_rfl, rfl⟩
theorem ok_p_impl_pixelWalk_clip : FnOk Try.prog 78 := ⟨_, Try.func78, by kernel_rfl, rfl⟩
theorem ok_slices_stableCmpFunc_impl_wayPoint : FnOk Try.prog 79 := ⟨_, Try.func79, by kernel_rfl, rfl⟩
theorem ok_spec_l03Ends : FnOk Try.prog 80 := ⟨_, Try.func80, by kernel_rfl, rfl⟩
theorem ok_spec_l03Sign : FnOk Try.prog 81 := ⟨_, Try.func81, by kernel_rfl, rfl⟩
theorem ok_spec_l03Turn : FnOk Try.prog 82 := ⟨_, Try.func82, by kernel_rfl, rfl⟩
theorem ok_spec_l09Sum : FnOk Try.prog 83 := ⟨_, Try.func83, by kernel_rfl, rfl⟩
theorem ok_spec_l14Rotate : FnOk Try.prog 84 := ⟨_, Try.func84, by kernel_rfl, rfl⟩
theorem ok_spec_l09Times : FnOk Try.prog 85 := ⟨_, Try.func85, by kernel_rfl, rfl⟩
theorem ok_impl_isPath : FnOk Try.prog 86 := ⟨_, Try.func86, by kernel_rfl, rfl⟩
theorem ok_impl_meeting : FnOk Try.prog 87 := ⟨_, Try.func87, by kernel_rfl, rfl⟩
theorem ok_slices_pdqsortCmpFunc_impl_leg : FnOk Try.prog 88 := ⟨_, Try.func88, by kernel_rfl, rfl⟩
theorem ok_math_bits_Len : FnOk Try.prog 89 := ⟨_, Try.func89, by kernel_rfl, rfl⟩
theorem ok_impl_double : FnOk Try.prog 90 := ⟨_, Try.func90, by kernel_rfl, rfl⟩
theorem ok_impl_turn : FnOk Try.prog 91 := ⟨_, Try.func91, by kernel_rfl, rfl⟩
theorem ok_slices_insertionSortCmpFunc_impl_wayPoint : FnOk Try.prog 92 := ⟨_, Try.func92, by kernel_rfl, rfl⟩
theorem ok_slices_symMergeCmpFunc_impl_wayPoint : FnOk Try.prog 93 := ⟨_, Try.func93, by kernel_rfl, rfl⟩
theorem ok_spec_l03On : FnOk Try.prog 94 := ⟨_, Try.func94, by kernel_rfl, rfl⟩
theorem ok_impl_greaterPt : FnOk Try.prog 95 := ⟨_, Try.func95, by kernel_rfl, rfl⟩
theorem ok_impl_lesserPt : FnOk Try.prog 96 := ⟨_, Try.func96, by kernel_rfl, rfl⟩
theorem ok_impl_comparePt : FnOk Try.prog 97 := ⟨_, Try.func97, by kernel_rfl, rfl⟩
theorem ok_impl_onSegment : FnOk Try.prog 98 := ⟨_, Try.func98, by kernel_rfl, rfl⟩
theorem ok_slices_insertionSortCmpFunc_impl_leg : FnOk Try.prog 99 := ⟨_, Try.func99, by kernel_rfl, rfl⟩
theorem ok_slices_heapSortCmpFunc_impl_leg : FnOk Try.prog 100 := ⟨_, Try.func100, by kernel_rfl, rfl⟩
theorem ok_slices_breakPatternsCmpFunc_impl_leg : FnOk Try.prog 101 := ⟨_, Try.func101, by kernel_rfl, rfl⟩
theorem ok_slices_choosePivotCmpFunc_impl_leg : FnOk Try.prog 102 := ⟨_, Try.func102, by kernel_rfl, rfl⟩
theorem ok_slices_reverseRangeCmpFunc_impl_leg : FnOk Try.prog 103 := ⟨_, Try.func103, by kernel_rfl, rfl⟩
theorem ok_slices_partialInsertionSortCmpFunc_impl_leg : FnOk Try.prog 104 := ⟨_, Try.func104, by kernel_rfl, rfl⟩
theorem ok_slices_partitionEqualCmpFunc_impl_leg : FnOk Try.prog 105 := ⟨_, Try.func105, by kernel_rfl, rfl⟩
theorem ok_slices_partitionCmpFunc_impl_leg : FnOk Try.prog 106 := ⟨_, Try.func106, by kernel_rfl, rfl⟩
theorem ok_math_bits_Len32 : FnOk Try.prog 107 := ⟨_, Try.func107, by kernel_rfl, rfl⟩
theorem ok_math_bits_Len64 : FnOk Try.prog 108 := ⟨_, Try.func108, by kernel_rfl, rfl⟩
theorem ok_slices_rotateCmpFunc_impl_wayPoint : FnOk Try.prog 109 := ⟨_, Try.func109, by kernel_rfl, rfl⟩
theorem ok_spec_l03Box : FnOk Try.prog 110 := ⟨_, Try.func110, by kernel_rfl, rfl⟩
theorem ok_slices_siftDownCmpFunc_impl_leg : FnOk Try.prog 111 := ⟨_, Try.func111, by kernel_rfl, rfl⟩
theorem ok_slices_nextPowerOfTwo : FnOk Try.prog 112 := ⟨_, Try.func112, by kernel_rfl, rfl⟩
theorem ok_p_slices_xorshift_Next : FnOk Try.prog 113 := ⟨_, Try.func113, by kernel_rfl, rfl⟩
theorem ok_slices_medianAdjacentCmpFunc_impl_leg : FnOk Try.prog 114 := ⟨_, Try.func114, by kernel_rfl, rfl⟩
theorem ok_slices_medianCmpFunc_impl_leg : FnOk Try.prog 115 := ⟨_, Try.func115, by kernel_rfl, rfl⟩
theorem ok_slices_swapRangeCmpFunc_impl_wayPoint : FnOk Try.prog 116 := ⟨_, Try.func116, by kernel_rfl, rfl⟩
theorem ok_slices_order2CmpFunc_impl_leg : FnOk Try.prog 117 := ⟨_, Try.func117, by kernel_rfl, rfl⟩
theorem bld_impl_Pt_ (w : World) : (Instr.build 29 #[]).run Try.prog w = .ok (.agg #[.int .i64 0, .int .i64 0]) w := by
  rw [build_agg]
  simp only [List.map_toArray, List.map_cons, List.map_nil]
  simp [Instr.build, Instr.fill, go_sem]
theorem bld_impl_Pt_0_1 {v0 a0_0 : Value} (h0 : v0.cells = #[a0_0]) {v1 a1_0 : Value} (h1 : v1.cells = #[a1_0]) (w : World) : (Instr.build 29 #[(0, v0), (1, v1)]).run Try.prog w = .ok (.agg #[a0_0, a1_0]) w := by
  rw [build_agg]
  simp only [List.map_toArray, List.map_cons, List.map_nil, h0, h1]
  simp [Instr.build, Instr.fill, go_sem]
theorem bld_spec_l13Edge_0_1 {v0 a0_0 a0_1 : Value} (h0 : v0.cells = #[a0_0, a0_1]) {v1 a1_0 a1_1 : Value} (h1 : v1.cells = #[a1_0, a1_1]) (w : World) : (Instr.build 68 #[(0, v0), (1, v1)]).run Try.prog w = .ok (.agg #[a0_0, a0_1, a1_0, a1_1]) w := by
  rw [build_agg]
  simp only [List.map_toArray, List.map_cons, List.map_nil, h0, h1]
  simp [Instr.build, Instr.fill, go_sem]
theorem bld_spec_l14Net_0 {v0 a0_0 a0_1 a0_2 a0_3 : Value} (h0 : v0.cells = #[a0_0, a0_1, a0_2, a0_3]) (w : World) : (Instr.build 70 #[(0, v0)]).run Try.prog w = .ok (.agg #[a0_0, a0_1, a0_2, a0_3, .int .i64 0, .int .i64 0, .int .i64 0, .int .i64 0]) w := by
  rw [build_agg]
  simp only [List.map_toArray, List.map_cons, List.map_nil, h0]
  simp [Instr.build, Instr.fill, go_sem]
theorem bld_impl_NetEdge_0_1 {v0 a0_0 a0_1 : Value} (h0 : v0.cells = #[a0_0, a0_1]) {v1 a1_0 a1_1 : Value} (h1 : v1.cells = #[a1_0, a1_1]) (w : World) : (Instr.build 72 #[(0, v0), (1, v1)]).run Try.prog w = .ok (.agg #[a0_0, a0_1, a1_0, a1_1, .int .i64 0, .int .i64 0, .int .i64 0]) w := by
  rw [build_agg]
  simp only [List.map_toArray, List.map_cons, List.map_nil, h0, h1]
  simp [Instr.build, Instr.fill, go_sem]
theorem bld_impl_NetEdge_0_1_2_3_4 {v0 a0_0 a0_1 : Value} (h0 : v0.cells = #[a0_0, a0_1]) {v1 a1_0 a1_1 : Value} (h1 : v1.cells = #[a1_0, a1_1]) {v2 a2_0 : Value} (h2 : v2.cells = #[a2_0]) {v3 a3_0 : Value} (h3 : v3.cells = #[a3_0]) {v4 a4_0 : Value} (h4 : v4.cells = #[a4_0]) (w : World) : (Instr.build 72 #[(0, v0), (1, v1), (2, v2), (3, v3), (4, v4)]).run Try.prog w = .ok (.agg #[a0_0, a0_1, a1_0, a1_1, a2_0, a3_0, a4_0]) w := by
  rw [build_agg]
  simp only [List.map_toArray, List.map_cons, List.map_nil, h0, h1, h2, h3, h4]
  simp [Instr.build, Instr.fill, go_sem]
theorem bld_impl_leg_0_1 {v0 a0_0 a0_1 : Value} (h0 : v0.cells = #[a0_0, a0_1]) {v1 a1_0 a1_1 : Value} (h1 : v1.cells = #[a1_0, a1_1]) (w : World) : (Instr.build 78 #[(0, v0), (1, v1)]).run Try.prog w = .ok (.agg #[a0_0, a0_1, a1_0, a1_1]) w := by
  rw [build_agg]
  simp only [List.map_toArray, List.map_cons, List.map_nil, h0, h1]
  simp [Instr.build, Instr.fill, go_sem]
theorem bld_spec_l13Span_0_1_2_3_4 {v0 a0_0 : Value} (h0 : v0.cells = #[a0_0]) {v1 a1_0 : Value} (h1 : v1.cells = #[a1_0]) {v2 a2_0 : Value} (h2 : v2.cells = #[a2_0]) {v3 a3_0 : Value} (h3 : v3.cells = #[a3_0]) {v4 a4_0 : Value} (h4 : v4.cells = #[a4_0]) (w : World) : (Instr.build 88 #[(0, v0), (1, v1), (2, v2), (3, v3), (4, v4)]).run Try.prog w = .ok (.agg #[a0_0, a1_0, a2_0, a3_0, a4_0, .bool false]) w := by
  rw [build_agg]
  simp only [List.map_toArray, List.map_cons, List.map_nil, h0, h1, h2, h3, h4]
  simp [Instr.build, Instr.fill, go_sem]
theorem bld_spec_l13Span_0_1_2_3_4_5 {v0 a0_0 : Value} (h0 : v0.cells = #[a0_0]) {v1 a1_0 : Value} (h1 : v1.cells = #[a1_0]) {v2 a2_0 : Value} (h2 : v2.cells = #[a2_0]) {v3 a3_0 : Value} (h3 : v3.cells = #[a3_0]) {v4 a4_0 : Value} (h4 : v4.cells = #[a4_0]) {v5 a5_0 : Value} (h5 : v5.cells = #[a5_0]) (w : World) : (Instr.build 88 #[(0, v0), (1, v1), (2, v2), (3, v3), (4, v4), (5, v5)]).run Try.prog w = .ok (.agg #[a0_0, a1_0, a2_0, a3_0, a4_0, a5_0]) w := by
  rw [build_agg]
  simp only [List.map_toArray, List.map_cons, List.map_nil, h0, h1, h2, h3, h4, h5]
  simp [Instr.build, Instr.fill, go_sem]
theorem bld_spec_l13Span_0_1_2_3_5 {v0 a0_0 : Value} (h0 : v0.cells = #[a0_0]) {v1 a1_0 : Value} (h1 : v1.cells = #[a1_0]) {v2 a2_0 : Value} (h2 : v2.cells = #[a2_0]) {v3 a3_0 : Value} (h3 : v3.cells = #[a3_0]) {v4 a4_0 : Value} (h4 : v4.cells = #[a4_0]) (w : World) : (Instr.build 88 #[(0, v0), (1, v1), (2, v2), (3, v3), (5, v4)]).run Try.prog w = .ok (.agg #[a0_0, a1_0, a2_0, a3_0, .bool false, a4_0]) w := by
  rw [build_agg]
  simp only [List.map_toArray, List.map_cons, List.map_nil, h0, h1, h2, h3, h4]
  simp [Instr.build, Instr.fill, go_sem]
theorem bld_spec_l13Stop_0_1 {v0 a0_0 a0_1 : Value} (h0 : v0.cells = #[a0_0, a0_1]) {v1 a1_0 a1_1 a1_2 a1_3 a1_4 a1_5 : Value} (h1 : v1.cells = #[a1_0, a1_1, a1_2, a1_3, a1_4, a1_5]) (w : World) : (Instr.build 94 #[(0, v0), (1, v1)]).run Try.prog w = .ok (.agg #[a0_0, a0_1, a1_0, a1_1, a1_2, a1_3, a1_4, a1_5]) w := by
  rw [build_agg]
  simp only [List.map_toArray, List.map_cons, List.map_nil, h0, h1]
  simp [Instr.build, Instr.fill, go_sem]
theorem bld_impl_bound_0_1_2 {v0 a0_0 : Value} (h0 : v0.cells = #[a0_0]) {v1 a1_0 : Value} (h1 : v1.cells = #[a1_0]) {v2 a2_0 : Value} (h2 : v2.cells = #[a2_0]) (w : World) : (Instr.build 101 #[(0, v0), (1, v1), (2, v2)]).run Try.prog w = .ok (.agg #[a0_0, a1_0, a2_0]) w := by
  rw [build_agg]
  simp only [List.map_toArray, List.map_cons, List.map_nil, h0, h1, h2]
  simp [Instr.build, Instr.fill, go_sem]
theorem bld_impl_pixelWalk_0_1 {v0 a0_0 a0_1 a0_2 : Value} (h0 : v0.cells = #[a0_0, a0_1, a0_2]) {v1 a1_0 a1_1 a1_2 : Value} (h1 : v1.cells = #[a1_0, a1_1, a1_2]) (w : World) : (Instr.build 103 #[(0, v0), (1, v1)]).run Try.prog w = .ok (.agg #[a0_0, a0_1, a0_2, a1_0, a1_1, a1_2]) w := by
  rw [build_agg]
  simp only [List.map_toArray, List.map_cons, List.map_nil, h0, h1]
  simp [Instr.build, Instr.fill, go_sem]
theorem bld_impl_wayPoint_0_1 {v0 a0_0 a0_1 : Value} (h0 : v0.cells = #[a0_0, a0_1]) {v1 a1_0 a1_1 a1_2 : Value} (h1 : v1.cells = #[a1_0, a1_1, a1_2]) (w : World) : (Instr.build 107 #[(0, v0), (1, v1)]).run Try.prog w = .ok (.agg #[a0_0, a0_1, a1_0, a1_1, a1_2]) w := by
  rw [build_agg]
  simp only [List.map_toArray, List.map_cons, List.map_nil, h0, h1]
  simp [Instr.build, Instr.fill, go_sem]
theorem bsl_sl_impl_Pt_0 (w : World) : (Instr.buildSlice 26 0 #[]).run Try.prog w = .ok (.slice (some ⟨w.heap.size, 0, none⟩) 0 0) (w.alloc (.cells [].toArray 29)) := by
  rw [buildSlice_agg]
  simp only [List.map_toArray, List.map_cons, List.map_nil]
  simp [Instr.buildSlice, Instr.fill, go_sem]
theorem bsl_sl_impl_Pt_1_0 {v0 a0_0 a0_1 : Value} (h0 : v0.cells = #[a0_0, a0_1]) (w : World) : (Instr.buildSlice 26 1 #[(0, v0)]).run Try.prog w = .ok (.slice (some ⟨w.heap.size, 0, none⟩) 1 1) (w.alloc (.cells [a0_0, a0_1].toArray 29)) := by
  rw [buildSlice_agg]
  simp only [List.map_toArray, List.map_cons, List.map_nil, h0]
  simp [Instr.buildSlice, Instr.fill, go_sem]
theorem bsl_sl_impl_Pt_2_0_1 {v0 a0_0 a0_1 : Value} (h0 : v0.cells = #[a0_0, a0_1]) {v1 a1_0 a1_1 : Value} (h1 : v1.cells = #[a1_0, a1_1]) (w : World) : (Instr.buildSlice 26 2 #[(0, v0), (1, v1)]).run Try.prog w = .ok (.slice (some ⟨w.heap.size, 0, none⟩) 2 2) (w.alloc (.cells [a0_0, a0_1, a1_0, a1_1].toArray 29)) := by
  rw [buildSlice_agg]
  simp only [List.map_toArray, List.map_cons, List.map_nil, h0, h1]
  simp [Instr.buildSlice, Instr.fill, go_sem]
theorem bsl_sl_impl_Pt_4_0_1_2_3 {v0 a0_0 a0_1 : Value} (h0 : v0.cells = #[a0_0, a0_1]) {v1 a1_0 a1_1 : Value} (h1 : v1.cells = #[a1_0, a1_1]) {v2 a2_0 a2_1 : Value} (h2 : v2.cells = #[a2_0, a2_1]) {v3 a3_0 a3_1 : Value} (h3 : v3.cells = #[a3_0, a3_1]) (w : World) : (Instr.buildSlice 26 4 #[(0, v0), (1, v1), (2, v2), (3, v3)]).run Try.prog w = .ok (.slice (some ⟨w.heap.size, 0, none⟩) 4 4) (w.alloc (.cells [a0_0, a0_1, a1_0, a1_1, a2_0, a2_1, a3_0, a3_1].toArray 29)) := by
  rw [buildSlice_agg]
  simp only [List.map_toArray, List.map_cons, List.map_nil, h0, h1, h2, h3]
  simp [Instr.buildSlice, Instr.fill, go_sem]
theorem bsl_sl_impl_NetEdge_0 (w : World) : (Instr.buildSlice 39 0 #[]).run Try.prog w = .ok (.slice (some ⟨w.heap.size, 0, none⟩) 0 0) (w.alloc (.cells [].toArray 72)) := by
  rw [buildSlice_agg]
  simp only [List.map_toArray, List.map_cons, List.map_nil]
  simp [Instr.buildSlice, Instr.fill, go_sem]
theorem bsl_sl_impl_NetEdge_1_0 {v0 a0_0 a0_1 a0_2 a0_3 a0_4 a0_5 a0_6 : Value} (h0 : v0.cells = #[a0_0, a0_1, a0_2, a0_3, a0_4, a0_5, a0_6]) (w : World) : (Instr.buildSlice 39 1 #[(0, v0)]).run Try.prog w = .ok (.slice (some ⟨w.heap.size, 0, none⟩) 1 1) (w.alloc (.cells [a0_0, a0_1, a0_2, a0_3, a0_4, a0_5, a0_6].toArray 72)) := by
  rw [buildSlice_agg]
  simp only [List.map_toArray, List.map_cons, List.map_nil, h0]
  simp [Instr.buildSlice, Instr.fill, go_sem]
theorem bsl_sl_spec_l14Net_0 (w : World) : (Instr.buildSlice 61 0 #[]).run Try.prog w = .ok (.slice (some ⟨w.heap.size, 0, none⟩) 0 0) (w.alloc (.cells [].toArray 70)) := by
  rw [buildSlice_agg]
  simp only [List.map_toArray, List.map_cons, List.map_nil]
  simp [Instr.buildSlice, Instr.fill, go_sem]
theorem bsl_sl_spec_l14Net_1_0 {v0 a0_0 a0_1 a0_2 a0_3 a0_4 a0_5 a0_6 a0_7 : Value} (h0 : v0.cells = #[a0_0, a0_1, a0_2, a0_3, a0_4, a0_5, a0_6, a0_7]) (w : World) : (Instr.buildSlice 61 1 #[(0, v0)]).run Try.prog w = .ok (.slice (some ⟨w.heap.size, 0, none⟩) 1 1) (w.alloc (.cells [a0_0, a0_1, a0_2, a0_3, a0_4, a0_5, a0_6, a0_7].toArray 70)) := by
  rw [buildSlice_agg]
  simp only [List.map_toArray, List.map_cons, List.map_nil, h0]
  simp [Instr.buildSlice, Instr.fill, go_sem]
theorem bsl_sl_spec_l13Edge_0 (w : World) : (Instr.buildSlice 63 0 #[]).run Try.prog w = .ok (.slice (some ⟨w.heap.size, 0, none⟩) 0 0) (w.alloc (.cells [].toArray 68)) := by
  rw [buildSlice_agg]
  simp only [List.map_toArray, List.map_cons, List.map_nil]
  simp [Instr.buildSlice, Instr.fill, go_sem]
theorem bsl_sl_spec_l13Edge_1_0 {v0 a0_0 a0_1 a0_2 a0_3 : Value} (h0 : v0.cells = #[a0_0, a0_1, a0_2, a0_3]) (w : World) : (Instr.buildSlice 63 1 #[(0, v0)]).run Try.prog w = .ok (.slice (some ⟨w.heap.size, 0, none⟩) 1 1) (w.alloc (.cells [a0_0, a0_1, a0_2, a0_3].toArray 68)) := by
  rw [buildSlice_agg]
  simp only [List.map_toArray, List.map_cons, List.map_nil, h0]
  simp [Instr.buildSlice, Instr.fill, go_sem]
theorem bsl_sl_impl_leg_1_0 {v0 a0_0 a0_1 a0_2 a0_3 : Value} (h0 : v0.cells = #[a0_0, a0_1, a0_2, a0_3]) (w : World) : (Instr.buildSlice 74 1 #[(0, v0)]).run Try.prog w = .ok (.slice (some ⟨w.heap.size, 0, none⟩) 1 1) (w.alloc (.cells [a0_0, a0_1, a0_2, a0_3].toArray 78)) := by
  rw [buildSlice_agg]
  simp only [List.map_toArray, List.map_cons, List.map_nil, h0]
  simp [Instr.buildSlice, Instr.fill, go_sem]
theorem bsl_sl_spec_l13Stop_0 (w : World) : (Instr.buildSlice 84 0 #[]).run Try.prog w = .ok (.slice (some ⟨w.heap.size, 0, none⟩) 0 0) (w.alloc (.cells [].toArray 94)) := by
  rw [buildSlice_agg]
  simp only [List.map_toArray, List.map_cons, List.map_nil]
  simp [Instr.buildSlice, Instr.fill, go_sem]
theorem bsl_sl_spec_l13Stop_1_0 {v0 a0_0 a0_1 a0_2 a0_3 a0_4 a0_5 a0_6 a0_7 : Value} (h0 : v0.cells = #[a0_0, a0_1, a0_2, a0_3, a0_4, a0_5, a0_6, a0_7]) (w : World) : (Instr.buildSlice 84 1 #[(0, v0)]).run Try.prog w = .ok (.slice (some ⟨w.heap.size, 0, none⟩) 1 1) (w.alloc (.cells [a0_0, a0_1, a0_2, a0_3, a0_4, a0_5, a0_6, a0_7].toArray 94)) := by
  rw [buildSlice_agg]
  simp only [List.map_toArray, List.map_cons, List.map_nil, h0]
  simp [Instr.buildSlice, Instr.fill, go_sem]
theorem bsl_sl_impl_wayPoint_1_0 {v0 a0_0 a0_1 a0_2 a0_3 a0_4 : Value} (h0 : v0.cells = #[a0_0, a0_1, a0_2, a0_3, a0_4]) (w : World) : (Instr.buildSlice 99 1 #[(0, v0)]).run Try.prog w = .ok (.slice (some ⟨w.heap.size, 0, none⟩) 1 1) (w.alloc (.cells [a0_0, a0_1, a0_2, a0_3, a0_4].toArray 107)) := by
  rw [buildSlice_agg]
  simp only [List.map_toArray, List.map_cons, List.map_nil, h0]
  simp [Instr.buildSlice, Instr.fill, go_sem]
theorem qt_eqlS_impl_Pt {o : Oper} {n : Nat} {env : List (Nat × Value)} {w0 : Bs} {Rs : List Res} {x y : Operand} {T' : TypeId} {a0 a1 b0 b1 : Int} (ho : o.op = .binOp .eql 29 x y T') (hx : ev env x = some (.agg #[.int .i64 a0, .int .i64 a1])) (hy : ev env y = some (.agg #[.int .i64 b0, .int .i64 b1])) : Qt Try.prog o n env w0 Rs (.bool ((a0 == b0) && (a1 == b1))) :=
  qt_of fun a w hF _ => by
    unfold execOp; simp only [ho, hF.ev hx, hF.ev hy]
    cases h0 : (a0 == b0); all_goals cases h1 : (a1 == b1)
    all_goals simp [go_sem, *]
theorem qt_neqS_impl_Pt {o : Oper} {n : Nat} {env : List (Nat × Value)} {w0 : Bs} {Rs : List Res} {x y : Operand} {T' : TypeId} {a0 a1 b0 b1 : Int} (ho : o.op = .binOp .neq 29 x y T') (hx : ev env x = some (.agg #[.int .i64 a0, .int .i64 a1])) (hy : ev env y = some (.agg #[.int .i64 b0, .int .i64 b1])) : Qt Try.prog o n env w0 Rs (.bool (!((a0 == b0) && (a1 == b1)))) :=
  qt_of fun a w hF _ => by
    unfold execOp; simp only [ho, hF.ev hx, hF.ev hy]
    cases h0 : (a0 == b0); all_goals cases h1 : (a1 == b1)
    all_goals simp [go_sem, *]
theorem qt_neqS_spec_l13Edge {o : Oper} {n : Nat} {env : List (Nat × Value)} {w0 : Bs} {Rs : List Res} {x y : Operand} {T' : TypeId} {a0 a1 a2 a3 b0 b1 b2 b3 : Int} (ho : o.op = .binOp .neq 68 x y T') (hx : ev env x = some (.agg #[.int .i64 a0, .int .i64 a1, .int .i64 a2, .int .i64 a3])) (hy : ev env y = some (.agg #[.int .i64 b0, .int .i64 b1, .int .i64 b2, .int .i64 b3])) : Qt Try.prog o n env w0 Rs (.bool (!((a0 == b0) && (a1 == b1) && (a2 == b2) && (a3 == b3)))) :=
  qt_of fun a w hF _ => by
    unfold execOp; simp only [ho, hF.ev hx, hF.ev hy]
    cases h0 : (a0 == b0); all_goals cases h1 : (a1 == b1); all_goals cases h2 : (a2 == b2); all_goals cases h3 : (a3 == b3)
    all_goals simp [go_sem, *]
theorem qt_eqlS_impl_leg {o : Oper} {n : Nat} {env : List (Nat × Value)} {w0 : Bs} {Rs : List Res} {x y : Operand} {T' : TypeId} {a0 a1 a2 a3 b0 b1 b2 b3 : Int} (ho : o.op = .binOp .eql 78 x y T') (hx : ev env x = some (.agg #[.int .i64 a0, .int .i64 a1, .int .i64 a2, .int .i64 a3])) (hy : ev env y = some (.agg #[.int .i64 b0, .int .i64 b1, .int .i64 b2, .int .i64 b3])) : Qt Try.prog o n env w0 Rs (.bool ((a0 == b0) && (a1 == b1) && (a2 == b2) && (a3 == b3))) :=
  qt_of fun a w hF _ => by
    unfold execOp; simp only [ho, hF.ev hx, hF.ev hy]
    cases h0 : (a0 == b0); all_goals cases h1 : (a1 == b1); all_goals cases h2 : (a2 == b2); all_goals cases h3 : (a3 == b3)
    all_goals simp [go_sem, *]
theorem qt_neqS_impl_leg {o : Oper} {n : Nat} {env : List (Nat × Value)} {w0 : Bs} {Rs : List Res} {x y : Operand} {T' : TypeId} {a0 a1 a2 a3 b0 b1 b2 b3 : Int} (ho : o.op = .binOp .neq 78 x y T') (hx : ev env x = some (.agg #[.int .i64 a0, .int .i64 a1, .int .i64 a2, .int .i64 a3])) (hy : ev env y = some (.agg #[.int .i64 b0, .int .i64 b1, .int .i64 b2, .int .i64 b3])) : Qt Try.prog o n env w0 Rs (.bool (!((a0 == b0) && (a1 == b1) && (a2 == b2) && (a3 == b3)))) :=
  qt_of fun a w hF _ => by
    unfold execOp; simp only [ho, hF.ev hx, hF.ev hy]
    cases h0 : (a0 == b0); all_goals cases h1 : (a1 == b1); all_goals cases h2 : (a2 == b2); all_goals cases h3 : (a3 == b3)
    all_goals simp [go_sem, *]
theorem mixed : Try.prog.follows .mixedOrders = true := by kernel_rfl
end Go.Proofs.Ytakdjgldcpompaa
