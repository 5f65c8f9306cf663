/- Facts on the types and the functions of this program. -/
import Derived.Test.YtnalgllmdpcjcaaSv
namespace Go.Proofs.Ytnalgllmdpcjcaa
open Go Go.RowKit
set_option maxRecDepth 100000
set_option linter.unusedSimpArgs false
set_option linter.unusedVariables false

theorem tyz_of {P : Program} {T m k : Nat} {z : Value} (h : (P.info? T).map (fun i => (i.zero, i.size, i.bytes)) = some (some z, m, k)) (hc : z.cells.size = m) : TyZ P T m k z := by
  cases hi : P.info? T with
  | none => simp [hi] at h
  | some i =>
    simp only [hi, Option.map_some, Option.some.injEq, Prod.mk.injEq] at h
    exact ⟨⟨i, hi, h.1, h.2.1, h.2.2⟩, hc⟩
theorem ty1_int64 : Ty1 Try.prog 2 := ⟨⟨_, Try.underlying2, rfl⟩, by kernel_rfl⟩
theorem tyz_int64 : TyZ Try.prog 2 1 8 (.int .i64 0) := tyz_of (by kernel_rfl) rfl
theorem ty1_int : Ty1 Try.prog 3 := ⟨⟨_, Try.underlying3, rfl⟩, by kernel_rfl⟩
theorem tyz_int : TyZ Try.prog 3 1 8 (.int .i64 0) := tyz_of (by kernel_rfl) rfl
theorem ty1_bool : Ty1 Try.prog 4 := ⟨⟨_, Try.underlying4, rfl⟩, by kernel_rfl⟩
theorem tyb_bool : Try.prog.underlying 4 = some .bool := Try.underlying4
theorem tyz_bool : TyZ Try.prog 4 1 1 (.bool false) := tyz_of (by kernel_rfl) rfl
theorem ty1_uint8 : Ty1 Try.prog 5 := ⟨⟨_, Try.underlying5, rfl⟩, by kernel_rfl⟩
theorem tyz_uint8 : TyZ Try.prog 5 1 1 (.int .u8 0) := tyz_of (by kernel_rfl) rfl
theorem ty1_string : Ty1 Try.prog 9 := ⟨⟨_, Try.underlying9, rfl⟩, by kernel_rfl⟩
theorem tyz_string : TyZ Try.prog 9 1 16 (.string ⟨#[]⟩) := tyz_of (by kernel_rfl) rfl
theorem ty1_int32 : Ty1 Try.prog 21 := ⟨⟨_, Try.underlying21, rfl⟩, by kernel_rfl⟩
theorem tyz_int32 : TyZ Try.prog 21 1 4 (.int .i32 0) := tyz_of (by kernel_rfl) rfl
theorem ty1_sl_uint8 : Ty1 Try.prog 22 := ⟨⟨_, Try.underlying22, rfl⟩, by kernel_rfl⟩
theorem tyl_sl_uint8 : TyL Try.prog 22 5 1 := ⟨Try.underlying22, by kernel_rfl⟩
theorem tyz_sl_uint8 : TyZ Try.prog 22 1 24 (.slice none 0 0) := tyz_of (by kernel_rfl) rfl
theorem tys_impl_Pt : TyS Try.prog 24 2 := ⟨⟨_, Try.underlying24, rfl⟩, by kernel_rfl⟩
theorem tyf_impl_Pt_0 : TyF Try.prog 24 0 0 := ⟨_, _, Try.underlying24, rfl, rfl, 0, by kernel_rfl⟩
theorem tyg_impl_Pt_0 : TyG Try.prog 24 0 0 := ⟨_, _, Try.underlying24, rfl, rfl, ⟨_, Try.underlying2, rfl⟩, by kernel_rfl⟩
theorem tyf_impl_Pt_1 : TyF Try.prog 24 1 1 := ⟨_, _, Try.underlying24, rfl, rfl, 0, by kernel_rfl⟩
theorem tyg_impl_Pt_1 : TyG Try.prog 24 1 1 := ⟨_, _, Try.underlying24, rfl, rfl, ⟨_, Try.underlying2, rfl⟩, by kernel_rfl⟩
theorem tyz_impl_Pt : TyZ Try.prog 24 2 16 (.agg #[.int .i64 0, .int .i64 0]) := tyz_of (by kernel_rfl) rfl
theorem ty1_sl_laws_Pt : Ty1 Try.prog 32 := ⟨⟨_, Try.underlying32, rfl⟩, by kernel_rfl⟩
theorem tyl_sl_laws_Pt : TyL Try.prog 32 66 2 := ⟨Try.underlying32, by kernel_rfl⟩
theorem tyz_sl_laws_Pt : TyZ Try.prog 32 1 24 (.slice none 0 0) := tyz_of (by kernel_rfl) rfl
theorem tys_laws_Ring : TyS Try.prog 34 1 := ⟨⟨_, Try.underlying34, rfl⟩, by kernel_rfl⟩
theorem tyf_laws_Ring_0 : TyF Try.prog 34 0 0 := ⟨_, _, Try.underlying34, rfl, rfl, 0, by kernel_rfl⟩
theorem tyg_laws_Ring_0 : TyG Try.prog 34 0 0 := ⟨_, _, Try.underlying34, rfl, rfl, ⟨_, Try.underlying32, rfl⟩, by kernel_rfl⟩
theorem tyz_laws_Ring : TyZ Try.prog 34 1 24 (.agg #[.slice none 0 0]) := tyz_of (by kernel_rfl) rfl
theorem ty1_sl_impl_Pt : Ty1 Try.prog 36 := ⟨⟨_, Try.underlying36, rfl⟩, by kernel_rfl⟩
theorem tyl_sl_impl_Pt : TyL Try.prog 36 24 2 := ⟨Try.underlying36, by kernel_rfl⟩
theorem tyz_sl_impl_Pt : TyZ Try.prog 36 1 24 (.slice none 0 0) := tyz_of (by kernel_rfl) rfl
theorem tys_impl_Ring : TyS Try.prog 38 1 := ⟨⟨_, Try.underlying38, rfl⟩, by kernel_rfl⟩
theorem tyf_impl_Ring_0 : TyF Try.prog 38 0 0 := ⟨_, _, Try.underlying38, rfl, rfl, 0, by kernel_rfl⟩
theorem tyg_impl_Ring_0 : TyG Try.prog 38 0 0 := ⟨_, _, Try.underlying38, rfl, rfl, ⟨_, Try.underlying36, rfl⟩, by kernel_rfl⟩
theorem tyz_impl_Ring : TyZ Try.prog 38 1 24 (.agg #[.slice none 0 0]) := tyz_of (by kernel_rfl) rfl
theorem ty1_sl_laws_Ring : Ty1 Try.prog 45 := ⟨⟨_, Try.underlying45, rfl⟩, by kernel_rfl⟩
theorem tyl_sl_laws_Ring : TyL Try.prog 45 34 1 := ⟨Try.underlying45, by kernel_rfl⟩
theorem tyz_sl_laws_Ring : TyZ Try.prog 45 1 24 (.slice none 0 0) := tyz_of (by kernel_rfl) rfl
theorem tys_laws_Region : TyS Try.prog 47 1 := ⟨⟨_, Try.underlying47, rfl⟩, by kernel_rfl⟩
theorem tyf_laws_Region_0 : TyF Try.prog 47 0 0 := ⟨_, _, Try.underlying47, rfl, rfl, 0, by kernel_rfl⟩
theorem tyg_laws_Region_0 : TyG Try.prog 47 0 0 := ⟨_, _, Try.underlying47, rfl, rfl, ⟨_, Try.underlying45, rfl⟩, by kernel_rfl⟩
theorem tyz_laws_Region : TyZ Try.prog 47 1 24 (.agg #[.slice none 0 0]) := tyz_of (by kernel_rfl) rfl
theorem ty1_sl_impl_Ring : Ty1 Try.prog 51 := ⟨⟨_, Try.underlying51, rfl⟩, by kernel_rfl⟩
theorem tyl_sl_impl_Ring : TyL Try.prog 51 38 1 := ⟨Try.underlying51, by kernel_rfl⟩
theorem tyz_sl_impl_Ring : TyZ Try.prog 51 1 24 (.slice none 0 0) := tyz_of (by kernel_rfl) rfl
theorem tys_impl_Region : TyS Try.prog 53 1 := ⟨⟨_, Try.underlying53, rfl⟩, by kernel_rfl⟩
theorem tyf_impl_Region_0 : TyF Try.prog 53 0 0 := ⟨_, _, Try.underlying53, rfl, rfl, 0, by kernel_rfl⟩
theorem tyg_impl_Region_0 : TyG Try.prog 53 0 0 := ⟨_, _, Try.underlying53, rfl, rfl, ⟨_, Try.underlying51, rfl⟩, by kernel_rfl⟩
theorem tyz_impl_Region : TyZ Try.prog 53 1 24 (.agg #[.slice none 0 0]) := tyz_of (by kernel_rfl) rfl
theorem tys_laws_Pt : TyS Try.prog 66 2 := ⟨⟨_, Try.underlying66, rfl⟩, by kernel_rfl⟩
theorem tyf_laws_Pt_0 : TyF Try.prog 66 0 0 := ⟨_, _, Try.underlying66, rfl, rfl, 0, by kernel_rfl⟩
theorem tyg_laws_Pt_0 : TyG Try.prog 66 0 0 := ⟨_, _, Try.underlying66, rfl, rfl, ⟨_, Try.underlying2, rfl⟩, by kernel_rfl⟩
theorem tyf_laws_Pt_1 : TyF Try.prog 66 1 1 := ⟨_, _, Try.underlying66, rfl, rfl, 0, by kernel_rfl⟩
theorem tyg_laws_Pt_1 : TyG Try.prog 66 1 1 := ⟨_, _, Try.underlying66, rfl, rfl, ⟨_, Try.underlying2, rfl⟩, by kernel_rfl⟩
theorem tyz_laws_Pt : TyZ Try.prog 66 2 16 (.agg #[.int .i64 0, .int .i64 0]) := tyz_of (by kernel_rfl) rfl
theorem ty1_sl_impl_NetEdge : Ty1 Try.prog 76 := ⟨⟨_, Try.underlying76, rfl⟩, by kernel_rfl⟩
theorem tyl_sl_impl_NetEdge : TyL Try.prog 76 137 7 := ⟨Try.underlying76, by kernel_rfl⟩
theorem tyz_sl_impl_NetEdge : TyZ Try.prog 76 1 24 (.slice none 0 0) := tyz_of (by kernel_rfl) rfl
theorem ty1_p_spec_l00Src : Ty1 Try.prog 81 := ⟨⟨_, Try.underlying81, rfl⟩, by kernel_rfl⟩
theorem tyz_p_spec_l00Src : TyZ Try.prog 81 1 8 (.pointer none) := tyz_of (by kernel_rfl) rfl
theorem ty1_sl_int64 : Ty1 Try.prog 84 := ⟨⟨_, Try.underlying84, rfl⟩, by kernel_rfl⟩
theorem tyl_sl_int64 : TyL Try.prog 84 2 1 := ⟨Try.underlying84, by kernel_rfl⟩
theorem tyz_sl_int64 : TyZ Try.prog 84 1 24 (.slice none 0 0) := tyz_of (by kernel_rfl) rfl
theorem tys_spec_l13Span : TyS Try.prog 92 6 := ⟨⟨_, Try.underlying92, rfl⟩, by kernel_rfl⟩
theorem tyf_spec_l13Span_0 : TyF Try.prog 92 0 0 := ⟨_, _, Try.underlying92, rfl, rfl, 0, by kernel_rfl⟩
theorem tyg_spec_l13Span_0 : TyG Try.prog 92 0 0 := ⟨_, _, Try.underlying92, rfl, rfl, ⟨_, Try.underlying2, rfl⟩, by kernel_rfl⟩
theorem tyf_spec_l13Span_1 : TyF Try.prog 92 1 1 := ⟨_, _, Try.underlying92, rfl, rfl, 0, by kernel_rfl⟩
theorem tyg_spec_l13Span_1 : TyG Try.prog 92 1 1 := ⟨_, _, Try.underlying92, rfl, rfl, ⟨_, Try.underlying2, rfl⟩, by kernel_rfl⟩
theorem tyf_spec_l13Span_2 : TyF Try.prog 92 2 2 := ⟨_, _, Try.underlying92, rfl, rfl, 0, by kernel_rfl⟩
theorem tyg_spec_l13Span_2 : TyG Try.prog 92 2 2 := ⟨_, _, Try.underlying92, rfl, rfl, ⟨_, Try.underlying2, rfl⟩, by kernel_rfl⟩
theorem tyf_spec_l13Span_3 : TyF Try.prog 92 3 3 := ⟨_, _, Try.underlying92, rfl, rfl, 0, by kernel_rfl⟩
theorem tyg_spec_l13Span_3 : TyG Try.prog 92 3 3 := ⟨_, _, Try.underlying92, rfl, rfl, ⟨_, Try.underlying2, rfl⟩, by kernel_rfl⟩
theorem tyf_spec_l13Span_4 : TyF Try.prog 92 4 4 := ⟨_, _, Try.underlying92, rfl, rfl, 0, by kernel_rfl⟩
theorem tyg_spec_l13Span_4 : TyG Try.prog 92 4 4 := ⟨_, _, Try.underlying92, rfl, rfl, ⟨_, Try.underlying4, rfl⟩, by kernel_rfl⟩
theorem tyf_spec_l13Span_5 : TyF Try.prog 92 5 5 := ⟨_, _, Try.underlying92, rfl, rfl, 0, by kernel_rfl⟩
theorem tyg_spec_l13Span_5 : TyG Try.prog 92 5 5 := ⟨_, _, Try.underlying92, rfl, rfl, ⟨_, Try.underlying4, rfl⟩, by kernel_rfl⟩
theorem tyz_spec_l13Span : TyZ Try.prog 92 6 40 (.agg #[.int .i64 0, .int .i64 0, .int .i64 0, .int .i64 0, .bool false, .bool false]) := tyz_of (by kernel_rfl) rfl
theorem ty1_p_impl_Ring : Ty1 Try.prog 96 := ⟨⟨_, Try.underlying96, rfl⟩, by kernel_rfl⟩
theorem tyz_p_impl_Ring : TyZ Try.prog 96 1 8 (.pointer none) := tyz_of (by kernel_rfl) rfl
theorem ty1_p_impl_Region : Ty1 Try.prog 101 := ⟨⟨_, Try.underlying101, rfl⟩, by kernel_rfl⟩
theorem tyz_p_impl_Region : TyZ Try.prog 101 1 8 (.pointer none) := tyz_of (by kernel_rfl) rfl
theorem ty1_sl_spec_l13Edge : Ty1 Try.prog 113 := ⟨⟨_, Try.underlying113, rfl⟩, by kernel_rfl⟩
theorem tyl_sl_spec_l13Edge : TyL Try.prog 113 117 4 := ⟨Try.underlying113, by kernel_rfl⟩
theorem tyz_sl_spec_l13Edge : TyZ Try.prog 113 1 24 (.slice none 0 0) := tyz_of (by kernel_rfl) rfl
theorem ty1_p_spec_l13Edge : Ty1 Try.prog 115 := ⟨⟨_, Try.underlying115, rfl⟩, by kernel_rfl⟩
theorem tyz_p_spec_l13Edge : TyZ Try.prog 115 1 8 (.pointer none) := tyz_of (by kernel_rfl) rfl
theorem tys_spec_l13Edge : TyS Try.prog 117 4 := ⟨⟨_, Try.underlying117, rfl⟩, by kernel_rfl⟩
theorem tyf_spec_l13Edge_0 : TyF Try.prog 117 0 0 := ⟨_, _, Try.underlying117, rfl, rfl, 1, by kernel_rfl⟩
theorem tyf_spec_l13Edge_1 : TyF Try.prog 117 1 2 := ⟨_, _, Try.underlying117, rfl, rfl, 1, by kernel_rfl⟩
theorem tyz_spec_l13Edge : TyZ Try.prog 117 4 32 (.agg #[.int .i64 0, .int .i64 0, .int .i64 0, .int .i64 0]) := tyz_of (by kernel_rfl) rfl
theorem ty1_sl_impl_leg : Ty1 Try.prog 119 := ⟨⟨_, Try.underlying119, rfl⟩, by kernel_rfl⟩
theorem tyl_sl_impl_leg : TyL Try.prog 119 122 4 := ⟨Try.underlying119, by kernel_rfl⟩
theorem tyz_sl_impl_leg : TyZ Try.prog 119 1 24 (.slice none 0 0) := tyz_of (by kernel_rfl) rfl
theorem tys_impl_leg : TyS Try.prog 122 4 := ⟨⟨_, Try.underlying122, rfl⟩, by kernel_rfl⟩
theorem tyf_impl_leg_0 : TyF Try.prog 122 0 0 := ⟨_, _, Try.underlying122, rfl, rfl, 1, by kernel_rfl⟩
theorem tyf_impl_leg_1 : TyF Try.prog 122 1 2 := ⟨_, _, Try.underlying122, rfl, rfl, 1, by kernel_rfl⟩
theorem tyz_impl_leg : TyZ Try.prog 122 4 32 (.agg #[.int .i64 0, .int .i64 0, .int .i64 0, .int .i64 0]) := tyz_of (by kernel_rfl) rfl
theorem ty1_sl_spec_l14Net : Ty1 Try.prog 130 := ⟨⟨_, Try.underlying130, rfl⟩, by kernel_rfl⟩
theorem tyl_sl_spec_l14Net : TyL Try.prog 130 135 8 := ⟨Try.underlying130, by kernel_rfl⟩
theorem tyz_sl_spec_l14Net : TyZ Try.prog 130 1 24 (.slice none 0 0) := tyz_of (by kernel_rfl) rfl
theorem ty1_p_spec_l14Net : Ty1 Try.prog 133 := ⟨⟨_, Try.underlying133, rfl⟩, by kernel_rfl⟩
theorem tyz_p_spec_l14Net : TyZ Try.prog 133 1 8 (.pointer none) := tyz_of (by kernel_rfl) rfl
theorem tys_spec_l14Net : TyS Try.prog 135 8 := ⟨⟨_, Try.underlying135, rfl⟩, by kernel_rfl⟩
theorem tyf_spec_l14Net_0 : TyF Try.prog 135 0 0 := ⟨_, _, Try.underlying135, rfl, rfl, 3, by kernel_rfl⟩
theorem tyf_spec_l14Net_1 : TyF Try.prog 135 1 4 := ⟨_, _, Try.underlying135, rfl, rfl, 0, by kernel_rfl⟩
theorem tyg_spec_l14Net_1 : TyG Try.prog 135 1 4 := ⟨_, _, Try.underlying135, rfl, rfl, ⟨_, Try.underlying2, rfl⟩, by kernel_rfl⟩
theorem tyf_spec_l14Net_2 : TyF Try.prog 135 2 5 := ⟨_, _, Try.underlying135, rfl, rfl, 0, by kernel_rfl⟩
theorem tyg_spec_l14Net_2 : TyG Try.prog 135 2 5 := ⟨_, _, Try.underlying135, rfl, rfl, ⟨_, Try.underlying2, rfl⟩, by kernel_rfl⟩
theorem tyf_spec_l14Net_3 : TyF Try.prog 135 3 6 := ⟨_, _, Try.underlying135, rfl, rfl, 0, by kernel_rfl⟩
theorem tyg_spec_l14Net_3 : TyG Try.prog 135 3 6 := ⟨_, _, Try.underlying135, rfl, rfl, ⟨_, Try.underlying2, rfl⟩, by kernel_rfl⟩
theorem tyf_spec_l14Net_4 : TyF Try.prog 135 4 7 := ⟨_, _, Try.underlying135, rfl, rfl, 0, by kernel_rfl⟩
theorem tyg_spec_l14Net_4 : TyG Try.prog 135 4 7 := ⟨_, _, Try.underlying135, rfl, rfl, ⟨_, Try.underlying2, rfl⟩, by kernel_rfl⟩
theorem tyz_spec_l14Net : TyZ Try.prog 135 8 64 (.agg #[.int .i64 0, .int .i64 0, .int .i64 0, .int .i64 0, .int .i64 0, .int .i64 0, .int .i64 0, .int .i64 0]) := tyz_of (by kernel_rfl) rfl
theorem tys_impl_NetEdge : TyS Try.prog 137 7 := ⟨⟨_, Try.underlying137, rfl⟩, by kernel_rfl⟩
theorem tyf_impl_NetEdge_0 : TyF Try.prog 137 0 0 := ⟨_, _, Try.underlying137, rfl, rfl, 1, by kernel_rfl⟩
theorem tyf_impl_NetEdge_1 : TyF Try.prog 137 1 2 := ⟨_, _, Try.underlying137, rfl, rfl, 1, by kernel_rfl⟩
theorem tyf_impl_NetEdge_2 : TyF Try.prog 137 2 4 := ⟨_, _, Try.underlying137, rfl, rfl, 0, by kernel_rfl⟩
theorem tyg_impl_NetEdge_2 : TyG Try.prog 137 2 4 := ⟨_, _, Try.underlying137, rfl, rfl, ⟨_, Try.underlying2, rfl⟩, by kernel_rfl⟩
theorem tyf_impl_NetEdge_3 : TyF Try.prog 137 3 5 := ⟨_, _, Try.underlying137, rfl, rfl, 0, by kernel_rfl⟩
theorem tyg_impl_NetEdge_3 : TyG Try.prog 137 3 5 := ⟨_, _, Try.underlying137, rfl, rfl, ⟨_, Try.underlying2, rfl⟩, by kernel_rfl⟩
theorem tyf_impl_NetEdge_4 : TyF Try.prog 137 4 6 := ⟨_, _, Try.underlying137, rfl, rfl, 0, by kernel_rfl⟩
theorem tyg_impl_NetEdge_4 : TyG Try.prog 137 4 6 := ⟨_, _, Try.underlying137, rfl, rfl, ⟨_, Try.underlying2, rfl⟩, by kernel_rfl⟩
theorem tyz_impl_NetEdge : TyZ Try.prog 137 7 56 (.agg #[.int .i64 0, .int .i64 0, .int .i64 0, .int .i64 0, .int .i64 0, .int .i64 0, .int .i64 0]) := tyz_of (by kernel_rfl) rfl
theorem ty1_uint64 : Ty1 Try.prog 141 := ⟨⟨_, Try.underlying141, rfl⟩, by kernel_rfl⟩
theorem tyz_uint64 : TyZ Try.prog 141 1 8 (.int .u64 0) := tyz_of (by kernel_rfl) rfl
theorem tys_spec_l00Src : TyS Try.prog 143 3 := ⟨⟨_, Try.underlying143, rfl⟩, by kernel_rfl⟩
theorem tyf_spec_l00Src_0 : TyF Try.prog 143 0 0 := ⟨_, _, Try.underlying143, rfl, rfl, 0, by kernel_rfl⟩
theorem tyg_spec_l00Src_0 : TyG Try.prog 143 0 0 := ⟨_, _, Try.underlying143, rfl, rfl, ⟨_, Try.underlying22, rfl⟩, by kernel_rfl⟩
theorem tyf_spec_l00Src_1 : TyF Try.prog 143 1 1 := ⟨_, _, Try.underlying143, rfl, rfl, 0, by kernel_rfl⟩
theorem tyg_spec_l00Src_1 : TyG Try.prog 143 1 1 := ⟨_, _, Try.underlying143, rfl, rfl, ⟨_, Try.underlying3, rfl⟩, by kernel_rfl⟩
theorem tyf_spec_l00Src_2 : TyF Try.prog 143 2 2 := ⟨_, _, Try.underlying143, rfl, rfl, 0, by kernel_rfl⟩
theorem tyg_spec_l00Src_2 : TyG Try.prog 143 2 2 := ⟨_, _, Try.underlying143, rfl, rfl, ⟨_, Try.underlying141, rfl⟩, by kernel_rfl⟩
theorem tyz_spec_l00Src : TyZ Try.prog 143 3 40 (.agg #[.slice none 0 0, .int .i64 0, .int .u64 0]) := tyz_of (by kernel_rfl) rfl
theorem ty1_sl_spec_l13Stop : Ty1 Try.prog 160 := ⟨⟨_, Try.underlying160, rfl⟩, by kernel_rfl⟩
theorem tyl_sl_spec_l13Stop : TyL Try.prog 160 164 8 := ⟨Try.underlying160, by kernel_rfl⟩
theorem tyz_sl_spec_l13Stop : TyZ Try.prog 160 1 24 (.slice none 0 0) := tyz_of (by kernel_rfl) rfl
theorem ty1_p_spec_l13Span : Ty1 Try.prog 162 := ⟨⟨_, Try.underlying162, rfl⟩, by kernel_rfl⟩
theorem tyz_p_spec_l13Span : TyZ Try.prog 162 1 8 (.pointer none) := tyz_of (by kernel_rfl) rfl
theorem tys_spec_l13Stop : TyS Try.prog 164 8 := ⟨⟨_, Try.underlying164, rfl⟩, by kernel_rfl⟩
theorem tyf_spec_l13Stop_0 : TyF Try.prog 164 0 0 := ⟨_, _, Try.underlying164, rfl, rfl, 1, by kernel_rfl⟩
theorem tyf_spec_l13Stop_1 : TyF Try.prog 164 1 2 := ⟨_, _, Try.underlying164, rfl, rfl, 5, by kernel_rfl⟩
theorem tyz_spec_l13Stop : TyZ Try.prog 164 8 56 (.agg #[.int .i64 0, .int .i64 0, .int .i64 0, .int .i64 0, .int .i64 0, .int .i64 0, .bool false, .bool false]) := tyz_of (by kernel_rfl) rfl
theorem ty1_sl_impl_wayPoint : Ty1 Try.prog 168 := ⟨⟨_, Try.underlying168, rfl⟩, by kernel_rfl⟩
theorem tyl_sl_impl_wayPoint : TyL Try.prog 168 176 5 := ⟨Try.underlying168, by kernel_rfl⟩
theorem tyz_sl_impl_wayPoint : TyZ Try.prog 168 1 24 (.slice none 0 0) := tyz_of (by kernel_rfl) rfl
theorem tys_impl_bound : TyS Try.prog 170 3 := ⟨⟨_, Try.underlying170, rfl⟩, by kernel_rfl⟩
theorem tyf_impl_bound_0 : TyF Try.prog 170 0 0 := ⟨_, _, Try.underlying170, rfl, rfl, 0, by kernel_rfl⟩
theorem tyg_impl_bound_0 : TyG Try.prog 170 0 0 := ⟨_, _, Try.underlying170, rfl, rfl, ⟨_, Try.underlying2, rfl⟩, by kernel_rfl⟩
theorem tyf_impl_bound_1 : TyF Try.prog 170 1 1 := ⟨_, _, Try.underlying170, rfl, rfl, 0, by kernel_rfl⟩
theorem tyg_impl_bound_1 : TyG Try.prog 170 1 1 := ⟨_, _, Try.underlying170, rfl, rfl, ⟨_, Try.underlying2, rfl⟩, by kernel_rfl⟩
theorem tyf_impl_bound_2 : TyF Try.prog 170 2 2 := ⟨_, _, Try.underlying170, rfl, rfl, 0, by kernel_rfl⟩
theorem tyg_impl_bound_2 : TyG Try.prog 170 2 2 := ⟨_, _, Try.underlying170, rfl, rfl, ⟨_, Try.underlying4, rfl⟩, by kernel_rfl⟩
theorem tyz_impl_bound : TyZ Try.prog 170 3 24 (.agg #[.int .i64 0, .int .i64 0, .bool false]) := tyz_of (by kernel_rfl) rfl
theorem tys_impl_pixelWalk : TyS Try.prog 172 6 := ⟨⟨_, Try.underlying172, rfl⟩, by kernel_rfl⟩
theorem tyf_impl_pixelWalk_0 : TyF Try.prog 172 0 0 := ⟨_, _, Try.underlying172, rfl, rfl, 2, by kernel_rfl⟩
theorem tyf_impl_pixelWalk_1 : TyF Try.prog 172 1 3 := ⟨_, _, Try.underlying172, rfl, rfl, 2, by kernel_rfl⟩
theorem tyz_impl_pixelWalk : TyZ Try.prog 172 6 48 (.agg #[.int .i64 0, .int .i64 0, .bool false, .int .i64 0, .int .i64 0, .bool false]) := tyz_of (by kernel_rfl) rfl
theorem tys_impl_wayPoint : TyS Try.prog 176 5 := ⟨⟨_, Try.underlying176, rfl⟩, by kernel_rfl⟩
theorem tyf_impl_wayPoint_0 : TyF Try.prog 176 0 0 := ⟨_, _, Try.underlying176, rfl, rfl, 1, by kernel_rfl⟩
theorem tyf_impl_wayPoint_1 : TyF Try.prog 176 1 2 := ⟨_, _, Try.underlying176, rfl, rfl, 2, by kernel_rfl⟩
theorem tyz_impl_wayPoint : TyZ Try.prog 176 5 40 (.agg #[.int .i64 0, .int .i64 0, .int .i64 0, .int .i64 0, .bool false]) := tyz_of (by kernel_rfl) rfl
theorem ty1_uint : Ty1 Try.prog 190 := ⟨⟨_, Try.underlying190, rfl⟩, by kernel_rfl⟩
theorem tyz_uint : TyZ Try.prog 190 1 8 (.int .u64 0) := tyz_of (by kernel_rfl) rfl
theorem ty1_p_impl_pixelWalk : Ty1 Try.prog 205 := ⟨⟨_, Try.underlying205, rfl⟩, by kernel_rfl⟩
theorem tyz_p_impl_pixelWalk : TyZ Try.prog 205 1 8 (.pointer none) := tyz_of (by kernel_rfl) rfl
theorem ty1_slices_sortedHint : Ty1 Try.prog 213 := ⟨⟨_, Try.underlying213, rfl⟩, by kernel_rfl⟩
theorem tyz_slices_sortedHint : TyZ Try.prog 213 1 8 (.int .i64 0) := tyz_of (by kernel_rfl) rfl
theorem ty1_uint32 : Ty1 Try.prog 220 := ⟨⟨_, Try.underlying220, rfl⟩, by kernel_rfl⟩
theorem tyz_uint32 : TyZ Try.prog 220 1 4 (.int .u32 0) := tyz_of (by kernel_rfl) rfl
theorem ty1_sl_sl_impl_Pt : Ty1 Try.prog 227 := ⟨⟨_, Try.underlying227, rfl⟩, by kernel_rfl⟩
theorem tyl_sl_sl_impl_Pt : TyL Try.prog 227 36 1 := ⟨Try.underlying227, by kernel_rfl⟩
theorem tyz_sl_sl_impl_Pt : TyZ Try.prog 227 1 24 (.slice none 0 0) := tyz_of (by kernel_rfl) rfl
theorem ty1_slices_xorshift : Ty1 Try.prog 231 := ⟨⟨_, Try.underlying231, rfl⟩, by kernel_rfl⟩
theorem tyz_slices_xorshift : TyZ Try.prog 231 1 8 (.int .u64 0) := tyz_of (by kernel_rfl) rfl
theorem ty1_p_int : Ty1 Try.prog 235 := ⟨⟨_, Try.underlying235, rfl⟩, by kernel_rfl⟩
theorem tyz_p_int : TyZ Try.prog 235 1 8 (.pointer none) := tyz_of (by kernel_rfl) rfl
theorem ty1_p_slices_xorshift : Ty1 Try.prog 239 := ⟨⟨_, Try.underlying239, rfl⟩, by kernel_rfl⟩
theorem tyz_p_slices_xorshift : TyZ Try.prog 239 1 8 (.pointer none) := tyz_of (by kernel_rfl) rfl
theorem ty1_p_uint8 : Ty1 Try.prog 253 := ⟨⟨_, Try.underlying253, rfl⟩, by kernel_rfl⟩
theorem tyz_p_uint8 : TyZ Try.prog 253 1 8 (.pointer none) := tyz_of (by kernel_rfl) rfl
theorem ok_laws_FnCrossings : FnOk Try.prog 3 := ⟨_, Try.func3, by kernel_rfl, rfl⟩
theorem ok_laws_FnExactSimplifyRing : FnOk Try.prog 4 := ⟨_, Try.func4, by kernel_rfl, rfl⟩
theorem ok_laws_FnExactRegionBounds : FnOk Try.prog 5 := ⟨_, Try.func5, by kernel_rfl, rfl⟩
theorem ok_laws_FnExactThinRing : FnOk Try.prog 6 := ⟨_, Try.func6, by kernel_rfl, rfl⟩
theorem ok_laws_FnExactReverseRegion : FnOk Try.prog 7 := ⟨_, Try.func7, by kernel_rfl, rfl⟩
theorem ok_laws_FnExactJoinRegions : FnOk Try.prog 8 := ⟨_, Try.func8, by kernel_rfl, rfl⟩
theorem ok_laws_FnExactIsSnapped : FnOk Try.prog 9 := ⟨_, Try.func9, by kernel_rfl, rfl⟩
theorem ok_laws_FnExactSnapEdge : FnOk Try.prog 10 := ⟨_, Try.func10, by kernel_rfl, rfl⟩
theorem ok_laws_FnExactTidyRegion : FnOk Try.prog 11 := ⟨_, Try.func11, by kernel_rfl, rfl⟩
theorem ok_laws_FnExactHotPoints : FnOk Try.prog 12 := ⟨_, Try.func12, by kernel_rfl, rfl⟩
theorem ok_laws_FnExactNetEdges : FnOk Try.prog 13 := ⟨_, Try.func13, by kernel_rfl, rfl⟩
theorem ok_spec_E8Points : FnOk Try.prog 14 := ⟨_, Try.func14, by kernel_rfl, rfl⟩
theorem ok_impl_MeetingOf : FnOk Try.prog 15 := ⟨_, Try.func15, by kernel_rfl, rfl⟩
theorem ok_impl_CrossingOf : FnOk Try.prog 16 := ⟨_, Try.func16, by kernel_rfl, rfl⟩
theorem ok_spec_InPixel : FnOk Try.prog 17 := ⟨_, Try.func17, by kernel_rfl, rfl⟩
theorem ok_laws_szRing : FnOk Try.prog 18 := ⟨_, Try.func18, by kernel_rfl, rfl⟩
theorem ok_spec_SimplifyRing : FnOk Try.prog 19 := ⟨_, Try.func19, by kernel_rfl, rfl⟩
theorem ok_laws_toRing : FnOk Try.prog 20 := ⟨_, Try.func20, by kernel_rfl, rfl⟩
theorem ok_impl_SimplifyRing : FnOk Try.prog 21 := ⟨_, Try.func21, by kernel_rfl, rfl⟩
theorem ok_laws_eqRing : FnOk Try.prog 22 := ⟨_, Try.func22, by kernel_rfl, rfl⟩
theorem ok_laws_markRing : FnOk Try.prog 23 := ⟨_, Try.func23, by kernel_rfl, rfl⟩
theorem ok_laws_heldRing : FnOk Try.prog 24 := ⟨_, Try.func24, by kernel_rfl, rfl⟩
theorem ok_laws_szRegion : FnOk Try.prog 25 := ⟨_, Try.func25, by kernel_rfl, rfl⟩
theorem ok_spec_RegionBounds : FnOk Try.prog 26 := ⟨_, Try.func26, by kernel_rfl, rfl⟩
theorem ok_laws_toRegion : FnOk Try.prog 27 := ⟨_, Try.func27, by kernel_rfl, rfl⟩
theorem ok_impl_RegionBounds : FnOk Try.prog 28 := ⟨_, Try.func28, by kernel_rfl, rfl⟩
theorem ok_laws_eqPt : FnOk Try.prog 29 := ⟨_, Try.func29, by kernel_rfl, rfl⟩
theorem ok_laws_eqRegion : FnOk Try.prog 30 := ⟨_, Try.func30, by kernel_rfl, rfl⟩
theorem ok_spec_ThinRing : FnOk Try.prog 31 := ⟨_, Try.func31, by kernel_rfl, rfl⟩
theorem ok_impl_ThinRing : FnOk Try.prog 32 := ⟨_, Try.func32, by kernel_rfl, rfl⟩
theorem ok_spec_ReverseRegion : FnOk Try.prog 33 := ⟨_, Try.func33, by kernel_rfl, rfl⟩
theorem ok_impl_ReverseRegion : FnOk Try.prog 34 := ⟨_, Try.func34, by kernel_rfl, rfl⟩
theorem ok_laws_markRegion : FnOk Try.prog 35 := ⟨_, Try.func35, by kernel_rfl, rfl⟩
theorem ok_laws_heldRegion : FnOk Try.prog 36 := ⟨_, Try.func36, by kernel_rfl, rfl⟩
theorem ok_spec_JoinRegions : FnOk Try.prog 37 := ⟨_, Try.func37, by kernel_rfl, rfl⟩
theorem ok_impl_JoinRegions : FnOk Try.prog 38 := ⟨_, Try.func38, by kernel_rfl, rfl⟩
theorem ok_spec_IsSnapped : FnOk Try.prog 39 := ⟨_, Try.func39, by kernel_rfl, rfl⟩
theorem ok_impl_IsSnapped : FnOk Try.prog 40 := ⟨_, Try.func40, by kernel_rfl, rfl⟩
theorem ok_laws_szPtS : FnOk Try.prog 41 := ⟨_, Try.func41, by kernel_rfl, rfl⟩
theorem ok_spec_SnapEdge : FnOk Try.prog 42 := ⟨_, Try.func42, by kernel_rfl, rfl⟩
theorem ok_laws_toPt : FnOk Try.prog 43 := ⟨_, Try.func43, by kernel_rfl, rfl⟩
theorem ok_laws_toPtS : FnOk Try.prog 44 := ⟨_, Try.func44, by kernel_rfl, rfl⟩
theorem ok_impl_SnapEdge : FnOk Try.prog 45 := ⟨_, Try.func45, by kernel_rfl, rfl⟩
theorem ok_laws_eqPtS : FnOk Try.prog 46 := ⟨_, Try.func46, by kernel_rfl, rfl⟩
theorem ok_laws_markPtS : FnOk Try.prog 47 := ⟨_, Try.func47, by kernel_rfl, rfl⟩
theorem ok_laws_heldPtS : FnOk Try.prog 48 := ⟨_, Try.func48, by kernel_rfl, rfl⟩
theorem ok_spec_TidyRegion : FnOk Try.prog 49 := ⟨_, Try.func49, by kernel_rfl, rfl⟩
theorem ok_impl_TidyRegion : FnOk Try.prog 50 := ⟨_, Try.func50, by kernel_rfl, rfl⟩
theorem ok_spec_HotPoints : FnOk Try.prog 51 := ⟨_, Try.func51, by kernel_rfl, rfl⟩
theorem ok_impl_HotPoints : FnOk Try.prog 52 := ⟨_, Try.func52, by kernel_rfl, rfl⟩
theorem ok_spec_NetEdges : FnOk Try.prog 53 := ⟨_, Try.func53, by kernel_rfl, rfl⟩
theorem ok_impl_NetEdges : FnOk Try.prog 54 := ⟨_, Try.func54, by kernel_rfl, rfl⟩
theorem ok_laws_eqNetEdgeS : FnOk Try.prog 55 := ⟨_, Try.func55, by kernel_rfl, rfl⟩
theorem ok_laws_markNetEdgeS : FnOk Try.prog 56 := ⟨_, Try.func56, by kernel_rfl, rfl⟩
theorem ok_laws_heldNetEdgeS : FnOk Try.prog 57 := ⟨_, Try.func57, by kernel_rfl, rfl⟩
theorem ok_spec_l00From : FnOk Try.prog 58 := ⟨_, Try.func58, by kernel_rfl, rfl⟩
theorem ok_p_spec_l00Src_among : FnOk Try.prog 59 := ⟨_, Try.func59, by kernel_rfl, rfl⟩
theorem ok_spec_l03Draw : FnOk Try.prog 60 := ⟨_, Try.func60, by kernel_rfl, rfl⟩
theorem ok_impl_validPts : FnOk Try.prog 61 := ⟨_, Try.func61, by kernel_rfl, rfl⟩
theorem ok_impl_meeting : FnOk Try.prog 62 := ⟨_, Try.func62, by kernel_rfl, rfl⟩
theorem ok_impl_crossing : FnOk Try.prog 63 := ⟨_, Try.func63, by kernel_rfl, rfl⟩
theorem ok_spec_l03Ok : FnOk Try.prog 64 := ⟨_, Try.func64, by kernel_rfl, rfl⟩
theorem ok_spec_l13Inside : FnOk Try.prog 65 := ⟨_, Try.func65, by kernel_rfl, rfl⟩
theorem ok_spec_l13Ring : FnOk Try.prog 66 := ⟨_, Try.func66, by kernel_rfl, rfl⟩
theorem ok_spec_l15Simple : FnOk Try.prog 67 := ⟨_, Try.func67, by kernel_rfl, rfl⟩
theorem ok_impl_ValidRing : FnOk Try.prog 68 := ⟨_, Try.func68, by kernel_rfl, rfl⟩
theorem ok_impl_simplifyRing : FnOk Try.prog 69 := ⟨_, Try.func69, by kernel_rfl, rfl⟩
theorem ok_laws_szRingS : FnOk Try.prog 70 := ⟨_, Try.func70, by kernel_rfl, rfl⟩
theorem ok_spec_l13Ok : FnOk Try.prog 71 := ⟨_, Try.func71, by kernel_rfl, rfl⟩
theorem ok_spec_l09Corners : FnOk Try.prog 72 := ⟨_, Try.func72, by kernel_rfl, rfl⟩
theorem ok_spec_l15All : FnOk Try.prog 73 := ⟨_, Try.func73, by kernel_rfl, rfl⟩
theorem ok_laws_toRingS : FnOk Try.prog 74 := ⟨_, Try.func74, by kernel_rfl, rfl⟩
theorem ok_impl_ValidRegion : FnOk Try.prog 75 := ⟨_, Try.func75, by kernel_rfl, rfl⟩
theorem ok_impl_boundsOf : FnOk Try.prog 76 := ⟨_, Try.func76, by kernel_rfl, rfl⟩
theorem ok_laws_eqRingS : FnOk Try.prog 77 := ⟨_, Try.func77, by kernel_rfl, rfl⟩
theorem ok_spec_l09Tolerance : FnOk Try.prog 78 := ⟨_, Try.func78, by kernel_rfl, rfl⟩
theorem ok_spec_l15Thin : FnOk Try.prog 79 := ⟨_, Try.func79, by kernel_rfl, rfl⟩
theorem ok_impl_isTolerance : FnOk Try.prog 80 := ⟨_, Try.func80, by kernel_rfl, rfl⟩
theorem ok_slices_Clone_sl_impl_Pt_impl_Pt : FnOk Try.prog 81 := ⟨_, Try.func81, by kernel_rfl, rfl⟩
theorem ok_impl_thinPath : FnOk Try.prog 82 := ⟨_, Try.func82, by kernel_rfl, rfl⟩
theorem ok_impl_copyRegion : FnOk Try.prog 83 := ⟨_, Try.func83, by kernel_rfl, rfl⟩
theorem ok_slices_Reverse_sl_impl_Pt_impl_Pt : FnOk Try.prog 84 := ⟨_, Try.func84, by kernel_rfl, rfl⟩
theorem ok_laws_markRingS : FnOk Try.prog 85 := ⟨_, Try.func85, by kernel_rfl, rfl⟩
theorem ok_laws_heldRingS : FnOk Try.prog 86 := ⟨_, Try.func86, by kernel_rfl, rfl⟩
theorem ok_spec_l13Fit : FnOk Try.prog 87 := ⟨_, Try.func87, by kernel_rfl, rfl⟩
theorem ok_spec_l13Join : FnOk Try.prog 88 := ⟨_, Try.func88, by kernel_rfl, rfl⟩
theorem ok_spec_l13All : FnOk Try.prog 89 := ⟨_, Try.func89, by kernel_rfl, rfl⟩
theorem ok_spec_l13Apart : FnOk Try.prog 90 := ⟨_, Try.func90, by kernel_rfl, rfl⟩
theorem ok_spec_l03Meeting : FnOk Try.prog 91 := ⟨_, Try.func91, by kernel_rfl, rfl⟩
theorem ok_impl_edgesOf : FnOk Try.prog 92 := ⟨_, Try.func92, by kernel_rfl, rfl⟩
theorem ok_impl_snappedPair : FnOk Try.prog 93 := ⟨_, Try.func93, by kernel_rfl, rfl⟩
theorem ok_spec_l13Points : FnOk Try.prog 94 := ⟨_, Try.func94, by kernel_rfl, rfl⟩
theorem ok_spec_l13Rises : FnOk Try.prog 95 := ⟨_, Try.func95, by kernel_rfl, rfl⟩
theorem ok_spec_l13Path : FnOk Try.prog 96 := ⟨_, Try.func96, by kernel_rfl, rfl⟩
theorem ok_impl_compareYX : FnOk Try.prog 97 := ⟨_, Try.func97, by kernel_rfl, rfl⟩
theorem ok_impl_snapEdge : FnOk Try.prog 98 := ⟨_, Try.func98, by kernel_rfl, rfl⟩
theorem ok_spec_l15Tidy : FnOk Try.prog 99 := ⟨_, Try.func99, by kernel_rfl, rfl⟩
theorem ok_impl_tidyRegion : FnOk Try.prog 100 := ⟨_, Try.func100, by kernel_rfl, rfl⟩
theorem ok_spec_l13Hot : FnOk Try.prog 101 := ⟨_, Try.func101, by kernel_rfl, rfl⟩
theorem ok_impl_hotPoints : FnOk Try.prog 102 := ⟨_, Try.func102, by kernel_rfl, rfl⟩
theorem ok_spec_l14Add : FnOk Try.prog 103 := ⟨_, Try.func103, by kernel_rfl, rfl⟩
theorem ok_spec_l14Sides : FnOk Try.prog 104 := ⟨_, Try.func104, by kernel_rfl, rfl⟩
theorem ok_impl_pairsOf : FnOk Try.prog 105 := ⟨_, Try.func105, by kernel_rfl, rfl⟩
theorem ok_impl_netEdge : FnOk Try.prog 106 := ⟨_, Try.func106, by kernel_rfl, rfl⟩
theorem ok_laws_eqNetEdge : FnOk Try.prog 107 := ⟨_, Try.func107, by kernel_rfl, rfl⟩
theorem ok_p_spec_l00Src_pick : FnOk Try.prog 108 := ⟨_, Try.func108, by kernel_rfl, rfl⟩
theorem ok_spec_l03Coord : FnOk Try.prog 109 := ⟨_, Try.func109, by kernel_rfl, rfl⟩
theorem ok_impl_ValidPt : FnOk Try.prog 110 := ⟨_, Try.func110, by kernel_rfl, rfl⟩
theorem ok_impl_sign64 : FnOk Try.prog 111 := ⟨_, Try.func111, by kernel_rfl, rfl⟩
theorem ok_impl_turn : FnOk Try.prog 112 := ⟨_, Try.func112, by kernel_rfl, rfl⟩
theorem ok_impl_greaterPt : FnOk Try.prog 113 := ⟨_, Try.func113, by kernel_rfl, rfl⟩
theorem ok_impl_lesserPt : FnOk Try.prog 114 := ⟨_, Try.func114, by kernel_rfl, rfl⟩
theorem ok_impl_comparePt : FnOk Try.prog 115 := ⟨_, Try.func115, by kernel_rfl, rfl⟩
theorem ok_impl_onSegment : FnOk Try.prog 116 := ⟨_, Try.func116, by kernel_rfl, rfl⟩
theorem ok_impl_DivRound : FnOk Try.prog 117 := ⟨_, Try.func117, by kernel_rfl, rfl⟩
theorem ok_spec_l00In : FnOk Try.prog 118 := ⟨_, Try.func118, by kernel_rfl, rfl⟩
theorem ok_spec_l13Clip : FnOk Try.prog 119 := ⟨_, Try.func119, by kernel_rfl, rfl⟩
theorem ok_spec_l13Meet : FnOk Try.prog 120 := ⟨_, Try.func120, by kernel_rfl, rfl⟩
theorem ok_spec_l15Idle : FnOk Try.prog 121 := ⟨_, Try.func121, by kernel_rfl, rfl⟩
theorem ok_impl_isPath : FnOk Try.prog 122 := ⟨_, Try.func122, by kernel_rfl, rfl⟩
theorem ok_slices_Delete_sl_impl_Pt_impl_Pt : FnOk Try.prog 123 := ⟨_, Try.func123, by kernel_rfl, rfl⟩
theorem ok_spec_l00Min : FnOk Try.prog 124 := ⟨_, Try.func124, by kernel_rfl, rfl⟩
theorem ok_spec_l00Max : FnOk Try.prog 125 := ⟨_, Try.func125, by kernel_rfl, rfl⟩
theorem ok_impl_edgesOfRing : FnOk Try.prog 126 := ⟨_, Try.func126, by kernel_rfl, rfl⟩
theorem ok_spec_l03Near : FnOk Try.prog 127 := ⟨_, Try.func127, by kernel_rfl, rfl⟩
theorem ok_spec_l03Turn : FnOk Try.prog 128 := ⟨_, Try.func128, by kernel_rfl, rfl⟩
theorem ok_spec_l03Sq : FnOk Try.prog 129 := ⟨_, Try.func129, by kernel_rfl, rfl⟩
theorem ok_impl_nearSegment : FnOk Try.prog 130 := ⟨_, Try.func130, by kernel_rfl, rfl⟩
theorem ok_impl_distSq : FnOk Try.prog 131 := ⟨_, Try.func131, by kernel_rfl, rfl⟩
theorem ok_spec_l13Own : FnOk Try.prog 132 := ⟨_, Try.func132, by kernel_rfl, rfl⟩
theorem ok_spec_l13Edges : FnOk Try.prog 133 := ⟨_, Try.func133, by kernel_rfl, rfl⟩
theorem ok_spec_l03Ends : FnOk Try.prog 134 := ⟨_, Try.func134, by kernel_rfl, rfl⟩
theorem ok_spec_l03Sign : FnOk Try.prog 135 := ⟨_, Try.func135, by kernel_rfl, rfl⟩
theorem ok_spec_l13Before : FnOk Try.prog 136 := ⟨_, Try.func136, by kernel_rfl, rfl⟩
theorem ok_spec_l13Sooner : FnOk Try.prog 137 := ⟨_, Try.func137, by kernel_rfl, rfl⟩
theorem ok_slices_BinarySearchFunc_sl_impl_Pt_impl_Pt_int64 : FnOk Try.prog 138 := ⟨_, Try.func138, by kernel_rfl, rfl⟩
theorem ok_impl_snapEdge_1 : FnOk Try.prog 139 := ⟨_, Try.func139, by kernel_rfl, rfl⟩
theorem ok_impl_walkPixel : FnOk Try.prog 140 := ⟨_, Try.func140, by kernel_rfl, rfl⟩
theorem ok_slices_SortStableFunc_sl_impl_wayPoint_impl_wayPoint : FnOk Try.prog 141 := ⟨_, Try.func141, by kernel_rfl, rfl⟩
theorem ok_impl_snapEdge_2 : FnOk Try.prog 142 := ⟨_, Try.func142, by kernel_rfl, rfl⟩
theorem ok_impl_compareBound : FnOk Try.prog 143 := ⟨_, Try.func143, by kernel_rfl, rfl⟩
theorem ok_spec_l14Order : FnOk Try.prog 144 := ⟨_, Try.func144, by kernel_rfl, rfl⟩
theorem ok_impl_orderRings : FnOk Try.prog 145 := ⟨_, Try.func145, by kernel_rfl, rfl⟩
theorem ok_spec_l13Put : FnOk Try.prog 146 := ⟨_, Try.func146, by kernel_rfl, rfl⟩
theorem ok_spec_l03Crossing : FnOk Try.prog 147 := ⟨_, Try.func147, by kernel_rfl, rfl⟩
theorem ok_slices_SortFunc_sl_impl_Pt_impl_Pt : FnOk Try.prog 148 := ⟨_, Try.func148, by kernel_rfl, rfl⟩
theorem ok_slices_Compact_sl_impl_Pt_impl_Pt : FnOk Try.prog 149 := ⟨_, Try.func149, by kernel_rfl, rfl⟩
theorem ok_spec_l14Beside : FnOk Try.prog 150 := ⟨_, Try.func150, by kernel_rfl, rfl⟩
theorem ok_slices_SortFunc_sl_impl_leg_impl_leg : FnOk Try.prog 151 := ⟨_, Try.func151, by kernel_rfl, rfl⟩
theorem ok_impl_pairsOf_1 : FnOk Try.prog 152 := ⟨_, Try.func152, by kernel_rfl, rfl⟩
theorem ok_slices_Compact_sl_impl_leg_impl_leg : FnOk Try.prog 153 := ⟨_, Try.func153, by kernel_rfl, rfl⟩
theorem ok_impl_windingOf : FnOk Try.prog 154 := ⟨_, Try.func154, by kernel_rfl, rfl⟩
theorem ok_p_spec_l00Src_next : FnOk Try.prog 155 := ⟨_, Try.func155, by kernel_rfl, rfl⟩
theorem ok_p_spec_l00Src_one : FnOk Try.prog 156 := ⟨_, Try.func156, by kernel_rfl, rfl⟩
theorem ok_impl_floorDiv : FnOk Try.prog 157 := ⟨_, Try.func157, by kernel_rfl, rfl⟩
theorem ok_spec_l03Less : FnOk Try.prog 158 := ⟨_, Try.func158, by kernel_rfl, rfl⟩
theorem ok_impl_productAtMost : FnOk Try.prog 159 := ⟨_, Try.func159, by kernel_rfl, rfl⟩
theorem ok_spec_l03On : FnOk Try.prog 160 := ⟨_, Try.func160, by kernel_rfl, rfl⟩
theorem ok_p_impl_pixelWalk_clip : FnOk Try.prog 161 := ⟨_, Try.func161, by kernel_rfl, rfl⟩
theorem ok_slices_stableCmpFunc_impl_wayPoint : FnOk Try.prog 162 := ⟨_, Try.func162, by kernel_rfl, rfl⟩
theorem ok_spec_l14Turned : FnOk Try.prog 163 := ⟨_, Try.func163, by kernel_rfl, rfl⟩
theorem ok_spec_l14Less : FnOk Try.prog 164 := ⟨_, Try.func164, by kernel_rfl, rfl⟩
theorem ok_impl_turnRing : FnOk Try.prog 165 := ⟨_, Try.func165, by kernel_rfl, rfl⟩
theorem ok_slices_SortStableFunc_sl_impl_Ring_impl_Ring : FnOk Try.prog 166 := ⟨_, Try.func166, by kernel_rfl, rfl⟩
theorem ok_impl_orderRings_1 : FnOk Try.prog 167 := ⟨_, Try.func167, by kernel_rfl, rfl⟩
theorem ok_impl_comparePts : FnOk Try.prog 168 := ⟨_, Try.func168, by kernel_rfl, rfl⟩
theorem ok_spec_l03Round : FnOk Try.prog 169 := ⟨_, Try.func169, by kernel_rfl, rfl⟩
theorem ok_slices_pdqsortCmpFunc_impl_Pt : FnOk Try.prog 170 := ⟨_, Try.func170, by kernel_rfl, rfl⟩
theorem ok_math_bits_Len : FnOk Try.prog 171 := ⟨_, Try.func171, by kernel_rfl, rfl⟩
theorem ok_spec_l09Sum : FnOk Try.prog 172 := ⟨_, Try.func172, by kernel_rfl, rfl⟩
theorem ok_spec_l14Rotate : FnOk Try.prog 173 := ⟨_, Try.func173, by kernel_rfl, rfl⟩
theorem ok_spec_l09Times : FnOk Try.prog 174 := ⟨_, Try.func174, by kernel_rfl, rfl⟩
theorem ok_slices_pdqsortCmpFunc_impl_leg : FnOk Try.prog 175 := ⟨_, Try.func175, by kernel_rfl, rfl⟩
theorem ok_impl_double : FnOk Try.prog 176 := ⟨_, Try.func176, by kernel_rfl, rfl⟩
theorem ok_spec_l03Wide : FnOk Try.prog 177 := ⟨_, Try.func177, by kernel_rfl, rfl⟩
theorem ok_math_bits_Mul64 : FnOk Try.prog 178 := ⟨_, Try.func178, by kernel_rfl, rfl⟩
theorem ok_spec_l03Box : FnOk Try.prog 179 := ⟨_, Try.func179, by kernel_rfl, rfl⟩
theorem ok_slices_insertionSortCmpFunc_impl_wayPoint : FnOk Try.prog 180 := ⟨_, Try.func180, by kernel_rfl, rfl⟩
theorem ok_slices_symMergeCmpFunc_impl_wayPoint : FnOk Try.prog 181 := ⟨_, Try.func181, by kernel_rfl, rfl⟩
theorem ok_spec_l14Earlier : FnOk Try.prog 182 := ⟨_, Try.func182, by kernel_rfl, rfl⟩
theorem ok_slices_Concat_sl_impl_Pt_impl_Pt : FnOk Try.prog 183 := ⟨_, Try.func183, by kernel_rfl, rfl⟩
theorem ok_slices_stableCmpFunc_impl_Ring : FnOk Try.prog 184 := ⟨_, Try.func184, by kernel_rfl, rfl⟩
theorem ok_slices_CompareFunc_sl_impl_Pt_sl_impl_Pt_impl_Pt_impl_Pt : FnOk Try.prog 185 := ⟨_, Try.func185, by kernel_rfl, rfl⟩
theorem ok_slices_insertionSortCmpFunc_impl_Pt : FnOk Try.prog 186 := ⟨_, Try.func186, by kernel_rfl, rfl⟩
theorem ok_slices_heapSortCmpFunc_impl_Pt : FnOk Try.prog 187 := ⟨_, Try.func187, by kernel_rfl, rfl⟩
theorem ok_slices_breakPatternsCmpFunc_impl_Pt : FnOk Try.prog 188 := ⟨_, Try.func188, by kernel_rfl, rfl⟩
theorem ok_slices_choosePivotCmpFunc_impl_Pt : FnOk Try.prog 189 := ⟨_, Try.func189, by kernel_rfl, rfl⟩
theorem ok_slices_reverseRangeCmpFunc_impl_Pt : FnOk Try.prog 190 := ⟨_, Try.func190, by kernel_rfl, rfl⟩
theorem ok_slices_partialInsertionSortCmpFunc_impl_Pt : FnOk Try.prog 191 := ⟨_, Try.func191, by kernel_rfl, rfl⟩
theorem ok_slices_partitionEqualCmpFunc_impl_Pt : FnOk Try.prog 192 := ⟨_, Try.func192, by kernel_rfl, rfl⟩
theorem ok_slices_partitionCmpFunc_impl_Pt : FnOk Try.prog 193 := ⟨_, Try.func193, by kernel_rfl, rfl⟩
theorem ok_math_bits_Len32 : FnOk Try.prog 194 := ⟨_, Try.func194, by kernel_rfl, rfl⟩
theorem ok_math_bits_Len64 : FnOk Try.prog 195 := ⟨_, Try.func195, by kernel_rfl, rfl⟩
theorem ok_slices_insertionSortCmpFunc_impl_leg : FnOk Try.prog 196 := ⟨_, Try.func196, by kernel_rfl, rfl⟩
theorem ok_slices_heapSortCmpFunc_impl_leg : FnOk Try.prog 197 := ⟨_, Try.func197, by kernel_rfl, rfl⟩
theorem ok_slices_breakPatternsCmpFunc_impl_leg : FnOk Try.prog 198 := ⟨_, Try.func198, by kernel_rfl, rfl⟩
theorem ok_slices_choosePivotCmpFunc_impl_leg : FnOk Try.prog 199 := ⟨_, Try.func199, by kernel_rfl, rfl⟩
theorem ok_slices_reverseRangeCmpFunc_impl_leg : FnOk Try.prog 200 := ⟨_, Try.func200, by kernel_rfl, rfl⟩
theorem ok_slices_partialInsertionSortCmpFunc_impl_leg : FnOk Try.prog 201 := ⟨_, Try.func201, by kernel_rfl, rfl⟩
theorem ok_slices_partitionEqualCmpFunc_impl_leg : FnOk Try.prog 202 := ⟨_, Try.func202, by kernel_rfl, rfl⟩
theorem ok_slices_partitionCmpFunc_impl_leg : FnOk Try.prog 203 := ⟨_, Try.func203, by kernel_rfl, rfl⟩
theorem ok_slices_rotateCmpFunc_impl_wayPoint : FnOk Try.prog 204 := ⟨_, Try.func204, by kernel_rfl, rfl⟩
theorem ok_slices_Grow_sl_impl_Pt_impl_Pt : FnOk Try.prog 205 := ⟨_, Try.func205, by kernel_rfl, rfl⟩
theorem ok_slices_insertionSortCmpFunc_impl_Ring : FnOk Try.prog 206 := ⟨_, Try.func206, by kernel_rfl, rfl⟩
theorem ok_slices_symMergeCmpFunc_impl_Ring : FnOk Try.prog 207 := ⟨_, Try.func207, by kernel_rfl, rfl⟩
theorem ok_slices_siftDownCmpFunc_impl_Pt : FnOk Try.prog 208 := ⟨_, Try.func208, by kernel_rfl, rfl⟩
theorem ok_slices_nextPowerOfTwo : FnOk Try.prog 209 := ⟨_, Try.func209, by kernel_rfl, rfl⟩
theorem ok_p_slices_xorshift_Next : FnOk Try.prog 210 := ⟨_, Try.func210, by kernel_rfl, rfl⟩
theorem ok_slices_medianAdjacentCmpFunc_impl_Pt : FnOk Try.prog 211 := ⟨_, Try.func211, by kernel_rfl, rfl⟩
theorem ok_slices_medianCmpFunc_impl_Pt : FnOk Try.prog 212 := ⟨_, Try.func212, by kernel_rfl, rfl⟩
theorem ok_slices_siftDownCmpFunc_impl_leg : FnOk Try.prog 213 := ⟨_, Try.func213, by kernel_rfl, rfl⟩
theorem ok_slices_medianAdjacentCmpFunc_impl_leg : FnOk Try.prog 214 := ⟨_, Try.func214, by kernel_rfl, rfl⟩
theorem ok_slices_medianCmpFunc_impl_leg : FnOk Try.prog 215 := ⟨_, Try.func215, by kernel_rfl, rfl⟩
theorem ok_slices_swapRangeCmpFunc_impl_wayPoint : FnOk Try.prog 216 := ⟨_, Try.func216, by kernel_rfl, rfl⟩
theorem ok_slices_rotateCmpFunc_impl_Ring : FnOk Try.prog 217 := ⟨_, Try.func217, by kernel_rfl, rfl⟩
theorem ok_slices_order2CmpFunc_impl_Pt : FnOk Try.prog 218 := ⟨_, Try.func218, by kernel_rfl, rfl⟩
theorem ok_slices_order2CmpFunc_impl_leg : FnOk Try.prog 219 := ⟨_, Try.func219, by kernel_rfl, rfl⟩
theorem ok_slices_swapRangeCmpFunc_impl_Ring : FnOk Try.prog 220 := ⟨_, Try.func220, by kernel_rfl, rfl⟩
theorem bld_impl_Pt_ (w : World) : (Instr.build 24 #[]).run Try.prog w = .ok (.agg #[.int .i64 0, .int .i64 0]) w := by
  rw [build_agg]
  simp only [List.map_toArray, List.map_cons, List.map_nil]
  simp [Instr.build, Instr.fill, go_sem]
theorem bld_impl_Pt_0_1 {v0 a0_0 : Value} (h0 : v0.cells = #[a0_0]) {v1 a1_0 : Value} (h1 : v1.cells = #[a1_0]) (w : World) : (Instr.build 24 #[(0, v0), (1, v1)]).run Try.prog w = .ok (.agg #[a0_0, a1_0]) w := by
  rw [build_agg]
  simp only [List.map_toArray, List.map_cons, List.map_nil, h0, h1]
  simp [Instr.build, Instr.fill, go_sem]
theorem bld_impl_Ring_ (w : World) : (Instr.build 38 #[]).run Try.prog w = .ok (.agg #[.slice none 0 0]) w := by
  rw [build_agg]
  simp only [List.map_toArray, List.map_cons, List.map_nil]
  simp [Instr.build, Instr.fill, go_sem]
theorem bld_impl_Ring_0 {v0 a0_0 : Value} (h0 : v0.cells = #[a0_0]) (w : World) : (Instr.build 38 #[(0, v0)]).run Try.prog w = .ok (.agg #[a0_0]) w := by
  rw [build_agg]
  simp only [List.map_toArray, List.map_cons, List.map_nil, h0]
  simp [Instr.build, Instr.fill, go_sem]
theorem bld_impl_Region_ (w : World) : (Instr.build 53 #[]).run Try.prog w = .ok (.agg #[.slice none 0 0]) w := by
  rw [build_agg]
  simp only [List.map_toArray, List.map_cons, List.map_nil]
  simp [Instr.build, Instr.fill, go_sem]
theorem bld_impl_Region_0 {v0 a0_0 : Value} (h0 : v0.cells = #[a0_0]) (w : World) : (Instr.build 53 #[(0, v0)]).run Try.prog w = .ok (.agg #[a0_0]) w := by
  rw [build_agg]
  simp only [List.map_toArray, List.map_cons, List.map_nil, h0]
  simp [Instr.build, Instr.fill, go_sem]
theorem bld_spec_l13Span_0_1_2_3_4 {v0 a0_0 : Value} (h0 : v0.cells = #[a0_0]) {v1 a1_0 : Value} (h1 : v1.cells = #[a1_0]) {v2 a2_0 : Value} (h2 : v2.cells = #[a2_0]) {v3 a3_0 : Value} (h3 : v3.cells = #[a3_0]) {v4 a4_0 : Value} (h4 : v4.cells = #[a4_0]) (w : World) : (Instr.build 92 #[(0, v0), (1, v1), (2, v2), (3, v3), (4, v4)]).run Try.prog w = .ok (.agg #[a0_0, a1_0, a2_0, a3_0, a4_0, .bool false]) w := by
  rw [build_agg]
  simp only [List.map_toArray, List.map_cons, List.map_nil, h0, h1, h2, h3, h4]
  simp [Instr.build, Instr.fill, go_sem]
theorem bld_spec_l13Span_0_1_2_3_4_5 {v0 a0_0 : Value} (h0 : v0.cells = #[a0_0]) {v1 a1_0 : Value} (h1 : v1.cells = #[a1_0]) {v2 a2_0 : Value} (h2 : v2.cells = #[a2_0]) {v3 a3_0 : Value} (h3 : v3.cells = #[a3_0]) {v4 a4_0 : Value} (h4 : v4.cells = #[a4_0]) {v5 a5_0 : Value} (h5 : v5.cells = #[a5_0]) (w : World) : (Instr.build 92 #[(0, v0), (1, v1), (2, v2), (3, v3), (4, v4), (5, v5)]).run Try.prog w = .ok (.agg #[a0_0, a1_0, a2_0, a3_0, a4_0, a5_0]) w := by
  rw [build_agg]
  simp only [List.map_toArray, List.map_cons, List.map_nil, h0, h1, h2, h3, h4, h5]
  simp [Instr.build, Instr.fill, go_sem]
theorem bld_spec_l13Span_0_1_2_3_5 {v0 a0_0 : Value} (h0 : v0.cells = #[a0_0]) {v1 a1_0 : Value} (h1 : v1.cells = #[a1_0]) {v2 a2_0 : Value} (h2 : v2.cells = #[a2_0]) {v3 a3_0 : Value} (h3 : v3.cells = #[a3_0]) {v4 a4_0 : Value} (h4 : v4.cells = #[a4_0]) (w : World) : (Instr.build 92 #[(0, v0), (1, v1), (2, v2), (3, v3), (5, v4)]).run Try.prog w = .ok (.agg #[a0_0, a1_0, a2_0, a3_0, .bool false, a4_0]) w := by
  rw [build_agg]
  simp only [List.map_toArray, List.map_cons, List.map_nil, h0, h1, h2, h3, h4]
  simp [Instr.build, Instr.fill, go_sem]
theorem bld_spec_l13Edge_0_1 {v0 a0_0 a0_1 : Value} (h0 : v0.cells = #[a0_0, a0_1]) {v1 a1_0 a1_1 : Value} (h1 : v1.cells = #[a1_0, a1_1]) (w : World) : (Instr.build 117 #[(0, v0), (1, v1)]).run Try.prog w = .ok (.agg #[a0_0, a0_1, a1_0, a1_1]) w := by
  rw [build_agg]
  simp only [List.map_toArray, List.map_cons, List.map_nil, h0, h1]
  simp [Instr.build, Instr.fill, go_sem]
theorem bld_impl_leg_0_1 {v0 a0_0 a0_1 : Value} (h0 : v0.cells = #[a0_0, a0_1]) {v1 a1_0 a1_1 : Value} (h1 : v1.cells = #[a1_0, a1_1]) (w : World) : (Instr.build 122 #[(0, v0), (1, v1)]).run Try.prog w = .ok (.agg #[a0_0, a0_1, a1_0, a1_1]) w := by
  rw [build_agg]
  simp only [List.map_toArray, List.map_cons, List.map_nil, h0, h1]
  simp [Instr.build, Instr.fill, go_sem]
theorem bld_spec_l14Net_0 {v0 a0_0 a0_1 a0_2 a0_3 : Value} (h0 : v0.cells = #[a0_0, a0_1, a0_2, a0_3]) (w : World) : (Instr.build 135 #[(0, v0)]).run Try.prog w = .ok (.agg #[a0_0, a0_1, a0_2, a0_3, .int .i64 0, .int .i64 0, .int .i64 0, .int .i64 0]) w := by
  rw [build_agg]
  simp only [List.map_toArray, List.map_cons, List.map_nil, h0]
  simp [Instr.build, Instr.fill, go_sem]
theorem bld_impl_NetEdge_0_1 {v0 a0_0 a0_1 : Value} (h0 : v0.cells = #[a0_0, a0_1]) {v1 a1_0 a1_1 : Value} (h1 : v1.cells = #[a1_0, a1_1]) (w : World) : (Instr.build 137 #[(0, v0), (1, v1)]).run Try.prog w = .ok (.agg #[a0_0, a0_1, a1_0, a1_1, .int .i64 0, .int .i64 0, .int .i64 0]) w := by
  rw [build_agg]
  simp only [List.map_toArray, List.map_cons, List.map_nil, h0, h1]
  simp [Instr.build, Instr.fill, go_sem]
theorem bld_impl_NetEdge_0_1_2_3_4 {v0 a0_0 a0_1 : Value} (h0 : v0.cells = #[a0_0, a0_1]) {v1 a1_0 a1_1 : Value} (h1 : v1.cells = #[a1_0, a1_1]) {v2 a2_0 : Value} (h2 : v2.cells = #[a2_0]) {v3 a3_0 : Value} (h3 : v3.cells = #[a3_0]) {v4 a4_0 : Value} (h4 : v4.cells = #[a4_0]) (w : World) : (Instr.build 137 #[(0, v0), (1, v1), (2, v2), (3, v3), (4, v4)]).run Try.prog w = .ok (.agg #[a0_0, a0_1, a1_0, a1_1, a2_0, a3_0, a4_0]) w := by
  rw [build_agg]
  simp only [List.map_toArray, List.map_cons, List.map_nil, h0, h1, h2, h3, h4]
  simp [Instr.build, Instr.fill, go_sem]
theorem bld_spec_l00Src_0 {v0 a0_0 : Value} (h0 : v0.cells = #[a0_0]) (w : World) : (Instr.build 143 #[(0, v0)]).run Try.prog w = .ok (.agg #[a0_0, .int .i64 0, .int .u64 0]) w := by
  rw [build_agg]
  simp only [List.map_toArray, List.map_cons, List.map_nil, h0]
  simp [Instr.build, Instr.fill, go_sem]
theorem bld_spec_l13Stop_0_1 {v0 a0_0 a0_1 : Value} (h0 : v0.cells = #[a0_0, a0_1]) {v1 a1_0 a1_1 a1_2 a1_3 a1_4 a1_5 : Value} (h1 : v1.cells = #[a1_0, a1_1, a1_2, a1_3, a1_4, a1_5]) (w : World) : (Instr.build 164 #[(0, v0), (1, v1)]).run Try.prog w = .ok (.agg #[a0_0, a0_1, a1_0, a1_1, a1_2, a1_3, a1_4, a1_5]) w := by
  rw [build_agg]
  simp only [List.map_toArray, List.map_cons, List.map_nil, h0, h1]
  simp [Instr.build, Instr.fill, go_sem]
theorem bld_impl_bound_0_1_2 {v0 a0_0 : Value} (h0 : v0.cells = #[a0_0]) {v1 a1_0 : Value} (h1 : v1.cells = #[a1_0]) {v2 a2_0 : Value} (h2 : v2.cells = #[a2_0]) (w : World) : (Instr.build 170 #[(0, v0), (1, v1), (2, v2)]).run Try.prog w = .ok (.agg #[a0_0, a1_0, a2_0]) w := by
  rw [build_agg]
  simp only [List.map_toArray, List.map_cons, List.map_nil, h0, h1, h2]
  simp [Instr.build, Instr.fill, go_sem]
theorem bld_impl_pixelWalk_0_1 {v0 a0_0 a0_1 a0_2 : Value} (h0 : v0.cells = #[a0_0, a0_1, a0_2]) {v1 a1_0 a1_1 a1_2 : Value} (h1 : v1.cells = #[a1_0, a1_1, a1_2]) (w : World) : (Instr.build 172 #[(0, v0), (1, v1)]).run Try.prog w = .ok (.agg #[a0_0, a0_1, a0_2, a1_0, a1_1, a1_2]) w := by
  rw [build_agg]
  simp only [List.map_toArray, List.map_cons, List.map_nil, h0, h1]
  simp [Instr.build, Instr.fill, go_sem]
theorem bld_impl_wayPoint_0_1 {v0 a0_0 a0_1 : Value} (h0 : v0.cells = #[a0_0, a0_1]) {v1 a1_0 a1_1 a1_2 : Value} (h1 : v1.cells = #[a1_0, a1_1, a1_2]) (w : World) : (Instr.build 176 #[(0, v0), (1, v1)]).run Try.prog w = .ok (.agg #[a0_0, a0_1, a1_0, a1_1, a1_2]) w := by
  rw [build_agg]
  simp only [List.map_toArray, List.map_cons, List.map_nil, h0, h1]
  simp [Instr.build, Instr.fill, go_sem]
theorem bsl_sl_impl_Pt_0 (w : World) : (Instr.buildSlice 36 0 #[]).run Try.prog w = .ok (.slice (some ⟨w.heap.size, 0, none⟩) 0 0) (w.alloc (.cells [].toArray 24)) := by
  rw [buildSlice_agg]
  simp only [List.map_toArray, List.map_cons, List.map_nil]
  simp [Instr.buildSlice, Instr.fill, go_sem]
theorem bsl_sl_impl_Pt_1_0 {v0 a0_0 a0_1 : Value} (h0 : v0.cells = #[a0_0, a0_1]) (w : World) : (Instr.buildSlice 36 1 #[(0, v0)]).run Try.prog w = .ok (.slice (some ⟨w.heap.size, 0, none⟩) 1 1) (w.alloc (.cells [a0_0, a0_1].toArray 24)) := by
  rw [buildSlice_agg]
  simp only [List.map_toArray, List.map_cons, List.map_nil, h0]
  simp [Instr.buildSlice, Instr.fill, go_sem]
theorem bsl_sl_impl_Pt_2_0_1 {v0 a0_0 a0_1 : Value} (h0 : v0.cells = #[a0_0, a0_1]) {v1 a1_0 a1_1 : Value} (h1 : v1.cells = #[a1_0, a1_1]) (w : World) : (Instr.buildSlice 36 2 #[(0, v0), (1, v1)]).run Try.prog w = .ok (.slice (some ⟨w.heap.size, 0, none⟩) 2 2) (w.alloc (.cells [a0_0, a0_1, a1_0, a1_1].toArray 24)) := by
  rw [buildSlice_agg]
  simp only [List.map_toArray, List.map_cons, List.map_nil, h0, h1]
  simp [Instr.buildSlice, Instr.fill, go_sem]
theorem bsl_sl_impl_Pt_4_0_1_2_3 {v0 a0_0 a0_1 : Value} (h0 : v0.cells = #[a0_0, a0_1]) {v1 a1_0 a1_1 : Value} (h1 : v1.cells = #[a1_0, a1_1]) {v2 a2_0 a2_1 : Value} (h2 : v2.cells = #[a2_0, a2_1]) {v3 a3_0 a3_1 : Value} (h3 : v3.cells = #[a3_0, a3_1]) (w : World) : (Instr.buildSlice 36 4 #[(0, v0), (1, v1), (2, v2), (3, v3)]).run Try.prog w = .ok (.slice (some ⟨w.heap.size, 0, none⟩) 4 4) (w.alloc (.cells [a0_0, a0_1, a1_0, a1_1, a2_0, a2_1, a3_0, a3_1].toArray 24)) := by
  rw [buildSlice_agg]
  simp only [List.map_toArray, List.map_cons, List.map_nil, h0, h1, h2, h3]
  simp [Instr.buildSlice, Instr.fill, go_sem]
theorem bsl_sl_impl_Ring_0 (w : World) : (Instr.buildSlice 51 0 #[]).run Try.prog w = .ok (.slice (some ⟨w.heap.size, 0, none⟩) 0 0) (w.alloc (.cells [].toArray 38)) := by
  rw [buildSlice_agg]
  simp only [List.map_toArray, List.map_cons, List.map_nil]
  simp [Instr.buildSlice, Instr.fill, go_sem]
theorem bsl_sl_impl_Ring_1_0 {v0 a0_0 : Value} (h0 : v0.cells = #[a0_0]) (w : World) : (Instr.buildSlice 51 1 #[(0, v0)]).run Try.prog w = .ok (.slice (some ⟨w.heap.size, 0, none⟩) 1 1) (w.alloc (.cells [a0_0].toArray 38)) := by
  rw [buildSlice_agg]
  simp only [List.map_toArray, List.map_cons, List.map_nil, h0]
  simp [Instr.buildSlice, Instr.fill, go_sem]
theorem bsl_sl_impl_NetEdge_0 (w : World) : (Instr.buildSlice 76 0 #[]).run Try.prog w = .ok (.slice (some ⟨w.heap.size, 0, none⟩) 0 0) (w.alloc (.cells [].toArray 137)) := by
  rw [buildSlice_agg]
  simp only [List.map_toArray, List.map_cons, List.map_nil]
  simp [Instr.buildSlice, Instr.fill, go_sem]
theorem bsl_sl_impl_NetEdge_1_0 {v0 a0_0 a0_1 a0_2 a0_3 a0_4 a0_5 a0_6 : Value} (h0 : v0.cells = #[a0_0, a0_1, a0_2, a0_3, a0_4, a0_5, a0_6]) (w : World) : (Instr.buildSlice 76 1 #[(0, v0)]).run Try.prog w = .ok (.slice (some ⟨w.heap.size, 0, none⟩) 1 1) (w.alloc (.cells [a0_0, a0_1, a0_2, a0_3, a0_4, a0_5, a0_6].toArray 137)) := by
  rw [buildSlice_agg]
  simp only [List.map_toArray, List.map_cons, List.map_nil, h0]
  simp [Instr.buildSlice, Instr.fill, go_sem]
theorem bsl_sl_int64_5_0_1_2_3_4 {v0 a0_0 : Value} (h0 : v0.cells = #[a0_0]) {v1 a1_0 : Value} (h1 : v1.cells = #[a1_0]) {v2 a2_0 : Value} (h2 : v2.cells = #[a2_0]) {v3 a3_0 : Value} (h3 : v3.cells = #[a3_0]) {v4 a4_0 : Value} (h4 : v4.cells = #[a4_0]) (w : World) : (Instr.buildSlice 84 5 #[(0, v0), (1, v1), (2, v2), (3, v3), (4, v4)]).run Try.prog w = .ok (.slice (some ⟨w.heap.size, 0, none⟩) 5 5) (w.alloc (.cells [a0_0, a1_0, a2_0, a3_0, a4_0].toArray 2)) := by
  rw [buildSlice_agg]
  simp only [List.map_toArray, List.map_cons, List.map_nil, h0, h1, h2, h3, h4]
  simp [Instr.buildSlice, Instr.fill, go_sem]
theorem bsl_sl_spec_l13Edge_0 (w : World) : (Instr.buildSlice 113 0 #[]).run Try.prog w = .ok (.slice (some ⟨w.heap.size, 0, none⟩) 0 0) (w.alloc (.cells [].toArray 117)) := by
  rw [buildSlice_agg]
  simp only [List.map_toArray, List.map_cons, List.map_nil]
  simp [Instr.buildSlice, Instr.fill, go_sem]
theorem bsl_sl_spec_l13Edge_1_0 {v0 a0_0 a0_1 a0_2 a0_3 : Value} (h0 : v0.cells = #[a0_0, a0_1, a0_2, a0_3]) (w : World) : (Instr.buildSlice 113 1 #[(0, v0)]).run Try.prog w = .ok (.slice (some ⟨w.heap.size, 0, none⟩) 1 1) (w.alloc (.cells [a0_0, a0_1, a0_2, a0_3].toArray 117)) := by
  rw [buildSlice_agg]
  simp only [List.map_toArray, List.map_cons, List.map_nil, h0]
  simp [Instr.buildSlice, Instr.fill, go_sem]
theorem bsl_sl_impl_leg_1_0 {v0 a0_0 a0_1 a0_2 a0_3 : Value} (h0 : v0.cells = #[a0_0, a0_1, a0_2, a0_3]) (w : World) : (Instr.buildSlice 119 1 #[(0, v0)]).run Try.prog w = .ok (.slice (some ⟨w.heap.size, 0, none⟩) 1 1) (w.alloc (.cells [a0_0, a0_1, a0_2, a0_3].toArray 122)) := by
  rw [buildSlice_agg]
  simp only [List.map_toArray, List.map_cons, List.map_nil, h0]
  simp [Instr.buildSlice, Instr.fill, go_sem]
theorem bsl_sl_spec_l14Net_0 (w : World) : (Instr.buildSlice 130 0 #[]).run Try.prog w = .ok (.slice (some ⟨w.heap.size, 0, none⟩) 0 0) (w.alloc (.cells [].toArray 135)) := by
  rw [buildSlice_agg]
  simp only [List.map_toArray, List.map_cons, List.map_nil]
  simp [Instr.buildSlice, Instr.fill, go_sem]
theorem bsl_sl_spec_l14Net_1_0 {v0 a0_0 a0_1 a0_2 a0_3 a0_4 a0_5 a0_6 a0_7 : Value} (h0 : v0.cells = #[a0_0, a0_1, a0_2, a0_3, a0_4, a0_5, a0_6, a0_7]) (w : World) : (Instr.buildSlice 130 1 #[(0, v0)]).run Try.prog w = .ok (.slice (some ⟨w.heap.size, 0, none⟩) 1 1) (w.alloc (.cells [a0_0, a0_1, a0_2, a0_3, a0_4, a0_5, a0_6, a0_7].toArray 135)) := by
  rw [buildSlice_agg]
  simp only [List.map_toArray, List.map_cons, List.map_nil, h0]
  simp [Instr.buildSlice, Instr.fill, go_sem]
theorem bsl_sl_spec_l13Stop_0 (w : World) : (Instr.buildSlice 160 0 #[]).run Try.prog w = .ok (.slice (some ⟨w.heap.size, 0, none⟩) 0 0) (w.alloc (.cells [].toArray 164)) := by
  rw [buildSlice_agg]
  simp only [List.map_toArray, List.map_cons, List.map_nil]
  simp [Instr.buildSlice, Instr.fill, go_sem]
theorem bsl_sl_spec_l13Stop_1_0 {v0 a0_0 a0_1 a0_2 a0_3 a0_4 a0_5 a0_6 a0_7 : Value} (h0 : v0.cells = #[a0_0, a0_1, a0_2, a0_3, a0_4, a0_5, a0_6, a0_7]) (w : World) : (Instr.buildSlice 160 1 #[(0, v0)]).run Try.prog w = .ok (.slice (some ⟨w.heap.size, 0, none⟩) 1 1) (w.alloc (.cells [a0_0, a0_1, a0_2, a0_3, a0_4, a0_5, a0_6, a0_7].toArray 164)) := by
  rw [buildSlice_agg]
  simp only [List.map_toArray, List.map_cons, List.map_nil, h0]
  simp [Instr.buildSlice, Instr.fill, go_sem]
theorem bsl_sl_impl_wayPoint_1_0 {v0 a0_0 a0_1 a0_2 a0_3 a0_4 : Value} (h0 : v0.cells = #[a0_0, a0_1, a0_2, a0_3, a0_4]) (w : World) : (Instr.buildSlice 168 1 #[(0, v0)]).run Try.prog w = .ok (.slice (some ⟨w.heap.size, 0, none⟩) 1 1) (w.alloc (.cells [a0_0, a0_1, a0_2, a0_3, a0_4].toArray 176)) := by
  rw [buildSlice_agg]
  simp only [List.map_toArray, List.map_cons, List.map_nil, h0]
  simp [Instr.buildSlice, Instr.fill, go_sem]
theorem bsl_sl_sl_impl_Pt_2_0_1 {v0 a0_0 : Value} (h0 : v0.cells = #[a0_0]) {v1 a1_0 : Value} (h1 : v1.cells = #[a1_0]) (w : World) : (Instr.buildSlice 227 2 #[(0, v0), (1, v1)]).run Try.prog w = .ok (.slice (some ⟨w.heap.size, 0, none⟩) 2 2) (w.alloc (.cells [a0_0, a1_0].toArray 36)) := by
  rw [buildSlice_agg]
  simp only [List.map_toArray, List.map_cons, List.map_nil, h0, h1]
  simp [Instr.buildSlice, Instr.fill, go_sem]
theorem qt_eqlS_impl_Pt {o : Oper} {n : Nat} {env : List (Nat × Value)} {w0 : Bs} {Rs : List Res} {x y : Operand} {T' : TypeId} {a0 a1 b0 b1 : Int} (ho : o.op = .binOp .eql 24 x y T') (hx : ev env x = some (.agg #[.int .i64 a0, .int .i64 a1])) (hy : ev env y = some (.agg #[.int .i64 b0, .int .i64 b1])) : Qt Try.prog o n env w0 Rs (.bool ((a0 == b0) && (a1 == b1))) :=
  qt_of fun a w hF _ => by
    unfold execOp; simp only [ho, hF.ev hx, hF.ev hy]
    cases h0 : (a0 == b0); all_goals cases h1 : (a1 == b1)
    all_goals simp [go_sem, *]
theorem qt_neqS_impl_Pt {o : Oper} {n : Nat} {env : List (Nat × Value)} {w0 : Bs} {Rs : List Res} {x y : Operand} {T' : TypeId} {a0 a1 b0 b1 : Int} (ho : o.op = .binOp .neq 24 x y T') (hx : ev env x = some (.agg #[.int .i64 a0, .int .i64 a1])) (hy : ev env y = some (.agg #[.int .i64 b0, .int .i64 b1])) : Qt Try.prog o n env w0 Rs (.bool (!((a0 == b0) && (a1 == b1)))) :=
  qt_of fun a w hF _ => by
    unfold execOp; simp only [ho, hF.ev hx, hF.ev hy]
    cases h0 : (a0 == b0); all_goals cases h1 : (a1 == b1)
    all_goals simp [go_sem, *]
theorem qt_neqS_spec_l13Edge {o : Oper} {n : Nat} {env : List (Nat × Value)} {w0 : Bs} {Rs : List Res} {x y : Operand} {T' : TypeId} {a0 a1 a2 a3 b0 b1 b2 b3 : Int} (ho : o.op = .binOp .neq 117 x y T') (hx : ev env x = some (.agg #[.int .i64 a0, .int .i64 a1, .int .i64 a2, .int .i64 a3])) (hy : ev env y = some (.agg #[.int .i64 b0, .int .i64 b1, .int .i64 b2, .int .i64 b3])) : Qt Try.prog o n env w0 Rs (.bool (!((a0 == b0) && (a1 == b1) && (a2 == b2) && (a3 == b3)))) :=
  qt_of fun a w hF _ => by
    unfold execOp; simp only [ho, hF.ev hx, hF.ev hy]
    cases h0 : (a0 == b0); all_goals cases h1 : (a1 == b1); all_goals cases h2 : (a2 == b2); all_goals cases h3 : (a3 == b3)
    all_goals simp [go_sem, *]
theorem qt_eqlS_impl_leg {o : Oper} {n : Nat} {env : List (Nat × Value)} {w0 : Bs} {Rs : List Res} {x y : Operand} {T' : TypeId} {a0 a1 a2 a3 b0 b1 b2 b3 : Int} (ho : o.op = .binOp .eql 122 x y T') (hx : ev env x = some (.agg #[.int .i64 a0, .int .i64 a1, .int .i64 a2, .int .i64 a3])) (hy : ev env y = some (.agg #[.int .i64 b0, .int .i64 b1, .int .i64 b2, .int .i64 b3])) : Qt Try.prog o n env w0 Rs (.bool ((a0 == b0) && (a1 == b1) && (a2 == b2) && (a3 == b3))) :=
  qt_of fun a w hF _ => by
    unfold execOp; simp only [ho, hF.ev hx, hF.ev hy]
    cases h0 : (a0 == b0); all_goals cases h1 : (a1 == b1); all_goals cases h2 : (a2 == b2); all_goals cases h3 : (a3 == b3)
    all_goals simp [go_sem, *]
theorem qt_neqS_impl_leg {o : Oper} {n : Nat} {env : List (Nat × Value)} {w0 : Bs} {Rs : List Res} {x y : Operand} {T' : TypeId} {a0 a1 a2 a3 b0 b1 b2 b3 : Int} (ho : o.op = .binOp .neq 122 x y T') (hx : ev env x = some (.agg #[.int .i64 a0, .int .i64 a1, .int .i64 a2, .int .i64 a3])) (hy : ev env y = some (.agg #[.int .i64 b0, .int .i64 b1, .int .i64 b2, .int .i64 b3])) : Qt Try.prog o n env w0 Rs (.bool (!((a0 == b0) && (a1 == b1) && (a2 == b2) && (a3 == b3)))) :=
  qt_of fun a w hF _ => by
    unfold execOp; simp only [ho, hF.ev hx, hF.ev hy]
    cases h0 : (a0 == b0); all_goals cases h1 : (a1 == b1); all_goals cases h2 : (a2 == b2); all_goals cases h3 : (a3 == b3)
    all_goals simp [go_sem, *]
theorem mixed : Try.prog.follows .mixedOrders = true := by kernel_rfl
end Go.Proofs.Ytnalgllmdpcjcaa
