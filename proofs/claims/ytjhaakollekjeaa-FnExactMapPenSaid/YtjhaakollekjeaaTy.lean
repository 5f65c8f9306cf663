/- Facts on the types and the functions of this program. -/
import Derived.Test.YtjhaakollekjeaaSv
namespace Go.Proofs.Ytjhaakollekjeaa
open Go Go.RowKit
set_option maxRecDepth 100000
set_option linter.unusedSimpArgs false
set_option linter.unusedVariables false

theorem tyz_of {P : Program} {T m k : Nat} {z : Value} (h : (P.info? T).map (fun i => (i.zero, i.size, i.bytes)) = some (some z, m, k)) (hc : z.cells.size = m) : TyZ P T m k z := by
 cases hi : P.info? T with
 | none => simp [hi] at h
 | some i =>
  simp only [hi, Option.map_some, Option.some.injEq, Prod.mk.injEq] at h
  exact ⟨⟨i, hi, h.1, h.2.1, h.2.2⟩, hc⟩
theorem ty1_int64 : Ty1 Try.prog 2 := ⟨⟨_, Try.underlying2, rfl⟩, by kernel_rfl⟩
theorem tyz_int64 : TyZ Try.prog 2 1 8 (.int .i64 0) := tyz_of (by kernel_rfl) rfl
theorem tyb_bool : Try.prog.underlying 4 = some .bool := Try.underlying4
theorem tys_laws_Frac : TyS Try.prog 48 2 := ⟨⟨_, Try.underlying48, rfl⟩, by kernel_rfl⟩
theorem tyf_laws_Frac_0 : TyF Try.prog 48 0 0 := ⟨_, _, Try.underlying48, rfl, rfl, 0, by kernel_rfl⟩
theorem tyf_laws_Frac_1 : TyF Try.prog 48 1 1 := ⟨_, _, Try.underlying48, rfl, rfl, 0, by kernel_rfl⟩
theorem tys_laws_Affine : TyS Try.prog 50 12 := ⟨⟨_, Try.underlying50, rfl⟩, by kernel_rfl⟩
theorem tyf_laws_Affine_0 : TyF Try.prog 50 0 0 := ⟨_, _, Try.underlying50, rfl, rfl, 1, by kernel_rfl⟩
theorem tyf_laws_Affine_1 : TyF Try.prog 50 1 2 := ⟨_, _, Try.underlying50, rfl, rfl, 1, by kernel_rfl⟩
theorem tyf_laws_Affine_2 : TyF Try.prog 50 2 4 := ⟨_, _, Try.underlying50, rfl, rfl, 1, by kernel_rfl⟩
theorem tyf_laws_Affine_3 : TyF Try.prog 50 3 6 := ⟨_, _, Try.underlying50, rfl, rfl, 1, by kernel_rfl⟩
theorem tyf_laws_Affine_4 : TyF Try.prog 50 4 8 := ⟨_, _, Try.underlying50, rfl, rfl, 1, by kernel_rfl⟩
theorem tyf_laws_Affine_5 : TyF Try.prog 50 5 10 := ⟨_, _, Try.underlying50, rfl, rfl, 1, by kernel_rfl⟩
theorem tyl_sl_impl_Pt : TyL Try.prog 53 103 2 := ⟨Try.underlying53, by kernel_rfl⟩
theorem tys_impl_Frac : TyS Try.prog 56 2 := ⟨⟨_, Try.underlying56, rfl⟩, by kernel_rfl⟩
theorem tyf_impl_Frac_0 : TyF Try.prog 56 0 0 := ⟨_, _, Try.underlying56, rfl, rfl, 0, by kernel_rfl⟩
theorem tyf_impl_Frac_1 : TyF Try.prog 56 1 1 := ⟨_, _, Try.underlying56, rfl, rfl, 0, by kernel_rfl⟩
theorem tyz_impl_Frac : TyZ Try.prog 56 2 16 (.agg #[.int .i64 0, .int .i64 0]) := tyz_of (by kernel_rfl) rfl
theorem tys_impl_Affine : TyS Try.prog 58 12 := ⟨⟨_, Try.underlying58, rfl⟩, by kernel_rfl⟩
theorem tyf_impl_Affine_0 : TyF Try.prog 58 0 0 := ⟨_, _, Try.underlying58, rfl, rfl, 1, by kernel_rfl⟩
theorem tyf_impl_Affine_1 : TyF Try.prog 58 1 2 := ⟨_, _, Try.underlying58, rfl, rfl, 1, by kernel_rfl⟩
theorem tyf_impl_Affine_2 : TyF Try.prog 58 2 4 := ⟨_, _, Try.underlying58, rfl, rfl, 1, by kernel_rfl⟩
theorem tyf_impl_Affine_3 : TyF Try.prog 58 3 6 := ⟨_, _, Try.underlying58, rfl, rfl, 1, by kernel_rfl⟩
theorem tyf_impl_Affine_4 : TyF Try.prog 58 4 8 := ⟨_, _, Try.underlying58, rfl, rfl, 1, by kernel_rfl⟩
theorem tyf_impl_Affine_5 : TyF Try.prog 58 5 10 := ⟨_, _, Try.underlying58, rfl, rfl, 1, by kernel_rfl⟩
theorem tyz_impl_Affine : TyZ Try.prog 58 12 96 (.agg #[.int .i64 0, .int .i64 0, .int .i64 0, .int .i64 0, .int .i64 0, .int .i64 0, .int .i64 0, .int .i64 0, .int .i64 0, .int .i64 0, .int .i64 0, .int .i64 0]) := tyz_of (by kernel_rfl) rfl
theorem tys_impl_Pt : TyS Try.prog 103 2 := ⟨⟨_, Try.underlying103, rfl⟩, by kernel_rfl⟩
theorem tyf_impl_Pt_0 : TyF Try.prog 103 0 0 := ⟨_, _, Try.underlying103, rfl, rfl, 0, by kernel_rfl⟩
theorem tyf_impl_Pt_1 : TyF Try.prog 103 1 1 := ⟨_, _, Try.underlying103, rfl, rfl, 0, by kernel_rfl⟩
theorem tyz_impl_Pt : TyZ Try.prog 103 2 16 (.agg #[.int .i64 0, .int .i64 0]) := tyz_of (by kernel_rfl) rfl
theorem tyl_sl_impl_Frac : TyL Try.prog 151 56 2 := ⟨Try.underlying151, by kernel_rfl⟩
theorem tys_6_impl_Frac : TyS Try.prog 158 12 := ⟨⟨_, Try.underlying158, rfl⟩, by kernel_rfl⟩
theorem tya_6_impl_Frac : Try.prog.underlying 158 = some (.array 6 56) := Try.underlying158
theorem tyz_6_impl_Frac : TyZ Try.prog 158 12 96 (.agg #[.int .i64 0, .int .i64 0, .int .i64 0, .int .i64 0, .int .i64 0, .int .i64 0, .int .i64 0, .int .i64 0, .int .i64 0, .int .i64 0, .int .i64 0, .int .i64 0]) := tyz_of (by kernel_rfl) rfl
theorem tyf_impl_fracWork_0 : TyF Try.prog 163 0 0 := ⟨_, _, Try.underlying163, rfl, rfl, 0, by kernel_rfl⟩
theorem ok_laws_szPtS : FnOk Try.prog 19 := ⟨_, Try.func19, by kernel_rfl, rfl⟩
theorem ok_spec_MapPen : FnOk Try.prog 20 := ⟨_, Try.func20, by kernel_rfl, rfl⟩
theorem ok_laws_toAffine : FnOk Try.prog 21 := ⟨_, Try.func21, by kernel_rfl, rfl⟩
theorem ok_laws_toPtS : FnOk Try.prog 22 := ⟨_, Try.func22, by kernel_rfl, rfl⟩
theorem ok_impl_MapPen : FnOk Try.prog 23 := ⟨_, Try.func23, by kernel_rfl, rfl⟩
theorem ok_laws_eqPtS : FnOk Try.prog 24 := ⟨_, Try.func24, by kernel_rfl, rfl⟩
theorem ok_laws_markPtS : FnOk Try.prog 25 := ⟨_, Try.func25, by kernel_rfl, rfl⟩
theorem ok_laws_heldPtS : FnOk Try.prog 26 := ⟨_, Try.func26, by kernel_rfl, rfl⟩
theorem ok_spec_l04Ok : FnOk Try.prog 48 := ⟨_, Try.func48, by kernel_rfl, rfl⟩
theorem ok_spec_l11Pen : FnOk Try.prog 49 := ⟨_, Try.func49, by kernel_rfl, rfl⟩
theorem ok_spec_l04Apply : FnOk Try.prog 50 := ⟨_, Try.func50, by kernel_rfl, rfl⟩
theorem ok_spec_l11Hull : FnOk Try.prog 51 := ⟨_, Try.func51, by kernel_rfl, rfl⟩
theorem ok_laws_toFrac : FnOk Try.prog 52 := ⟨_, Try.func52, by kernel_rfl, rfl⟩
theorem ok_impl_ValidAffine : FnOk Try.prog 54 := ⟨_, Try.func54, by kernel_rfl, rfl⟩
theorem ok_impl_IsPen : FnOk Try.prog 55 := ⟨_, Try.func55, by kernel_rfl, rfl⟩
theorem ok_impl_ApplyMap : FnOk Try.prog 56 := ⟨_, Try.func56, by kernel_rfl, rfl⟩
theorem ok_impl_hullOf : FnOk Try.prog 57 := ⟨_, Try.func57, by kernel_rfl, rfl⟩
theorem ok_spec_l00In : FnOk Try.prog 72 := ⟨_, Try.func72, by kernel_rfl, rfl⟩
theorem ok_spec_l04List : FnOk Try.prog 82 := ⟨_, Try.func82, by kernel_rfl, rfl⟩
theorem ok_spec_l02Ok : FnOk Try.prog 83 := ⟨_, Try.func83, by kernel_rfl, rfl⟩
theorem ok_spec_l13Points : FnOk Try.prog 84 := ⟨_, Try.func84, by kernel_rfl, rfl⟩
theorem ok_spec_l13Same : FnOk Try.prog 85 := ⟨_, Try.func85, by kernel_rfl, rfl⟩
theorem ok_spec_l04Row : FnOk Try.prog 86 := ⟨_, Try.func86, by kernel_rfl, rfl⟩
theorem ok_spec_l03Ok : FnOk Try.prog 87 := ⟨_, Try.func87, by kernel_rfl, rfl⟩
theorem ok_spec_l13Put : FnOk Try.prog 88 := ⟨_, Try.func88, by kernel_rfl, rfl⟩
theorem ok_spec_l11Chain : FnOk Try.prog 89 := ⟨_, Try.func89, by kernel_rfl, rfl⟩
theorem ok_impl_Affine_parts : FnOk Try.prog 90 := ⟨_, Try.func90, by kernel_rfl, rfl⟩
theorem ok_impl_ValidFrac : FnOk Try.prog 91 := ⟨_, Try.func91, by kernel_rfl, rfl⟩
theorem ok_impl_validPts : FnOk Try.prog 92 := ⟨_, Try.func92, by kernel_rfl, rfl⟩
theorem ok_slices_Equal_sl_impl_Pt_impl_Pt : FnOk Try.prog 93 := ⟨_, Try.func93, by kernel_rfl, rfl⟩
theorem ok_impl_ValidPt : FnOk Try.prog 94 := ⟨_, Try.func94, by kernel_rfl, rfl⟩
theorem ok_p_impl_fracWork_two : FnOk Try.prog 95 := ⟨_, Try.func95, by kernel_rfl, rfl⟩
theorem ok_impl_AddFrac : FnOk Try.prog 96 := ⟨_, Try.func96, by kernel_rfl, rfl⟩
theorem ok_p_impl_fracWork_dot : FnOk Try.prog 97 := ⟨_, Try.func97, by kernel_rfl, rfl⟩
theorem ok_impl_whole : FnOk Try.prog 98 := ⟨_, Try.func98, by kernel_rfl, rfl⟩
theorem ok_impl_RoundFrac : FnOk Try.prog 99 := ⟨_, Try.func99, by kernel_rfl, rfl⟩
theorem ok_slices_Clone_sl_impl_Pt_impl_Pt : FnOk Try.prog 100 := ⟨_, Try.func100, by kernel_rfl, rfl⟩
theorem ok_slices_SortFunc_sl_impl_Pt_impl_Pt : FnOk Try.prog 101 := ⟨_, Try.func101, by kernel_rfl, rfl⟩
theorem ok_slices_Compact_sl_impl_Pt_impl_Pt : FnOk Try.prog 103 := ⟨_, Try.func103, by kernel_rfl, rfl⟩
theorem ok_impl_hullOf_1 : FnOk Try.prog 104 := ⟨_, Try.func104, by kernel_rfl, rfl⟩
theorem ok_impl_turn : FnOk Try.prog 105 := ⟨_, Try.func105, by kernel_rfl, rfl⟩
theorem ok_slices_Reverse_sl_impl_Pt_impl_Pt : FnOk Try.prog 106 := ⟨_, Try.func106, by kernel_rfl, rfl⟩
theorem ok_spec_l02Gcd : FnOk Try.prog 127 := ⟨_, Try.func127, by kernel_rfl, rfl⟩
theorem ok_spec_l02Size : FnOk Try.prog 128 := ⟨_, Try.func128, by kernel_rfl, rfl⟩
theorem ok_spec_l04Two : FnOk Try.prog 129 := ⟨_, Try.func129, by kernel_rfl, rfl⟩
theorem ok_spec_l04Int : FnOk Try.prog 130 := ⟨_, Try.func130, by kernel_rfl, rfl⟩
theorem ok_spec_AddFrac : FnOk Try.prog 131 := ⟨_, Try.func131, by kernel_rfl, rfl⟩
theorem ok_spec_RoundFrac : FnOk Try.prog 132 := ⟨_, Try.func132, by kernel_rfl, rfl⟩
theorem ok_spec_l13Before : FnOk Try.prog 133 := ⟨_, Try.func133, by kernel_rfl, rfl⟩
theorem ok_spec_l03Turn : FnOk Try.prog 134 := ⟨_, Try.func134, by kernel_rfl, rfl⟩
theorem ok_impl_gcd64 : FnOk Try.prog 135 := ⟨_, Try.func135, by kernel_rfl, rfl⟩
theorem ok_impl_absU : FnOk Try.prog 136 := ⟨_, Try.func136, by kernel_rfl, rfl⟩
theorem ok_impl_MakeFrac : FnOk Try.prog 137 := ⟨_, Try.func137, by kernel_rfl, rfl⟩
theorem ok_impl_MulFrac : FnOk Try.prog 138 := ⟨_, Try.func138, by kernel_rfl, rfl⟩
theorem ok_impl_DivRound : FnOk Try.prog 139 := ⟨_, Try.func139, by kernel_rfl, rfl⟩
theorem ok_spec_MulFrac : FnOk Try.prog 152 := ⟨_, Try.func152, by kernel_rfl, rfl⟩
theorem ok_spec_MakeFrac : FnOk Try.prog 153 := ⟨_, Try.func153, by kernel_rfl, rfl⟩
theorem ok_spec_l02Round : FnOk Try.prog 154 := ⟨_, Try.func154, by kernel_rfl, rfl⟩
theorem ok_spec_l02Div : FnOk Try.prog 171 := ⟨_, Try.func171, by kernel_rfl, rfl⟩
theorem bld_impl_Frac_ (w : World) : (Instr.build 56 #[]).run Try.prog w = .ok (.agg #[.int .i64 0, .int .i64 0]) w := by
 rw [build_agg]
 simp only [List.map_toArray, List.map_cons, List.map_nil]
 simp [Instr.build, Instr.fill, go_sem]
theorem bld_impl_Frac_0_1 {v0 a0_0 : Value} (h0 : v0.cells = #[a0_0]) {v1 a1_0 : Value} (h1 : v1.cells = #[a1_0]) (w : World) : (Instr.build 56 #[(0, v0), (1, v1)]).run Try.prog w = .ok (.agg #[a0_0, a1_0]) w := by
 rw [build_agg]
 simp only [List.map_toArray, List.map_cons, List.map_nil, h0, h1]
 simp [Instr.build, Instr.fill, go_sem]
theorem bld_impl_Pt_ (w : World) : (Instr.build 103 #[]).run Try.prog w = .ok (.agg #[.int .i64 0, .int .i64 0]) w := by
 rw [build_agg]
 simp only [List.map_toArray, List.map_cons, List.map_nil]
 simp [Instr.build, Instr.fill, go_sem]
theorem bld_impl_Pt_0_1 {v0 a0_0 : Value} (h0 : v0.cells = #[a0_0]) {v1 a1_0 : Value} (h1 : v1.cells = #[a1_0]) (w : World) : (Instr.build 103 #[(0, v0), (1, v1)]).run Try.prog w = .ok (.agg #[a0_0, a1_0]) w := by
 rw [build_agg]
 simp only [List.map_toArray, List.map_cons, List.map_nil, h0, h1]
 simp [Instr.build, Instr.fill, go_sem]
theorem bld_6_impl_Frac_0_1_2_3_4_5 {v0 a0_0 a0_1 : Value} (h0 : v0.cells = #[a0_0, a0_1]) {v1 a1_0 a1_1 : Value} (h1 : v1.cells = #[a1_0, a1_1]) {v2 a2_0 a2_1 : Value} (h2 : v2.cells = #[a2_0, a2_1]) {v3 a3_0 a3_1 : Value} (h3 : v3.cells = #[a3_0, a3_1]) {v4 a4_0 a4_1 : Value} (h4 : v4.cells = #[a4_0, a4_1]) {v5 a5_0 a5_1 : Value} (h5 : v5.cells = #[a5_0, a5_1]) (w : World) : (Instr.build 158 #[(0, v0), (1, v1), (2, v2), (3, v3), (4, v4), (5, v5)]).run Try.prog w = .ok (.agg #[a0_0, a0_1, a1_0, a1_1, a2_0, a2_1, a3_0, a3_1, a4_0, a4_1, a5_0, a5_1]) w := by
 rw [build_agg]
 simp only [List.map_toArray, List.map_cons, List.map_nil, h0, h1, h2, h3, h4, h5]
 simp [Instr.build, Instr.fill, go_sem]
theorem bld_impl_fracWork_ (w : World) : (Instr.build 163 #[]).run Try.prog w = .ok (.agg #[.int .i64 0]) w := by
 rw [build_agg]
 simp only [List.map_toArray, List.map_cons, List.map_nil]
 simp [Instr.build, Instr.fill, go_sem]
theorem bsl_sl_impl_Pt_0 (w : World) : (Instr.buildSlice 53 0 #[]).run Try.prog w = .ok (.slice (some ⟨w.heap.size, 0, none⟩) 0 0) (w.alloc (.cells [].toArray 103)) := by
 rw [buildSlice_agg]
 simp only [List.map_toArray, List.map_cons, List.map_nil]
 simp [Instr.buildSlice, Instr.fill, go_sem]
theorem bsl_sl_impl_Pt_1_0 {v0 a0_0 a0_1 : Value} (h0 : v0.cells = #[a0_0, a0_1]) (w : World) : (Instr.buildSlice 53 1 #[(0, v0)]).run Try.prog w = .ok (.slice (some ⟨w.heap.size, 0, none⟩) 1 1) (w.alloc (.cells [a0_0, a0_1].toArray 103)) := by
 rw [buildSlice_agg]
 simp only [List.map_toArray, List.map_cons, List.map_nil, h0]
 simp [Instr.buildSlice, Instr.fill, go_sem]
theorem bsl_sl_impl_Frac_6_0_1_2_3_4_5 {v0 a0_0 a0_1 : Value} (h0 : v0.cells = #[a0_0, a0_1]) {v1 a1_0 a1_1 : Value} (h1 : v1.cells = #[a1_0, a1_1]) {v2 a2_0 a2_1 : Value} (h2 : v2.cells = #[a2_0, a2_1]) {v3 a3_0 a3_1 : Value} (h3 : v3.cells = #[a3_0, a3_1]) {v4 a4_0 a4_1 : Value} (h4 : v4.cells = #[a4_0, a4_1]) {v5 a5_0 a5_1 : Value} (h5 : v5.cells = #[a5_0, a5_1]) (w : World) : (Instr.buildSlice 151 6 #[(0, v0), (1, v1), (2, v2), (3, v3), (4, v4), (5, v5)]).run Try.prog w = .ok (.slice (some ⟨w.heap.size, 0, none⟩) 6 6) (w.alloc (.cells [a0_0, a0_1, a1_0, a1_1, a2_0, a2_1, a3_0, a3_1, a4_0, a4_1, a5_0, a5_1].toArray 56)) := by
 rw [buildSlice_agg]
 simp only [List.map_toArray, List.map_cons, List.map_nil, h0, h1, h2, h3, h4, h5]
 simp [Instr.buildSlice, Instr.fill, go_sem]
theorem qt_eqlS_impl_Pt {o : Oper} {n : Nat} {env : List (Nat × Value)} {w0 : Bs} {Rs : List Res} {x y : Operand} {T' : TypeId} {a0 a1 b0 b1 : Int} (ho : o.op = .binOp .eql 103 x y T') (hx : ev env x = some (.agg #[.int .i64 a0, .int .i64 a1])) (hy : ev env y = some (.agg #[.int .i64 b0, .int .i64 b1])) : Qt Try.prog o n env w0 Rs (.bool ((a0 == b0) && (a1 == b1))) :=
 qt_of fun a w hF _ => by
  unfold execOp; simp only [ho, hF.ev hx, hF.ev hy]
  cases h0 : (a0 == b0); all_goals cases h1 : (a1 == b1)
  all_goals simp [go_sem, *]
theorem qt_neqS_impl_Pt {o : Oper} {n : Nat} {env : List (Nat × Value)} {w0 : Bs} {Rs : List Res} {x y : Operand} {T' : TypeId} {a0 a1 b0 b1 : Int} (ho : o.op = .binOp .neq 103 x y T') (hx : ev env x = some (.agg #[.int .i64 a0, .int .i64 a1])) (hy : ev env y = some (.agg #[.int .i64 b0, .int .i64 b1])) : Qt Try.prog o n env w0 Rs (.bool (!((a0 == b0) && (a1 == b1)))) :=
 qt_of fun a w hF _ => by
  unfold execOp; simp only [ho, hF.ev hx, hF.ev hy]
  cases h0 : (a0 == b0); all_goals cases h1 : (a1 == b1)
  all_goals simp [go_sem, *]
theorem mixed : Try.prog.follows .mixedOrders = true := by kernel_rfl
end Go.Proofs.Ytjhaakollekjeaa
