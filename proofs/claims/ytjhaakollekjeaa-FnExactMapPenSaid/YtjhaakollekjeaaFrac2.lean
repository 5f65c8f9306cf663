/- Fractions and maps: the walks of both sides. -/
import Derived.Test.YtjhaakollekjeaaFrac
import Derived.Test.YtjhaakollekjeaaLawKit
import Derived.Test.YtjhaakollekjeaaHull
import Derived.Test.YtjhaakollekjeaaReg3
namespace Go.Proofs.Ytjhaakollekjeaa
open Go Go.RowKit
set_option linter.unusedVariables false
set_option linter.unusedSimpArgs false
set_option maxRecDepth 100000
set_option maxHeartbeats 4000000
set_option linter.unusedVariables false
set_option linter.unusedSimpArgs false

section
variable {P : Program} {n : Nat} {env : List (Nat × Value)} {w0 : Bs} {Rs : List Res} {o : Oper}
theorem qt_indexA {T E : TypeId} {len s i : Nat} {x y : Operand} {cs : Array Value} (vs : List Value) (ho : o.op = .index T x y) (hx : ev env x = some (.agg cs)) (hy : ev env y = some (.int .i64 (i : Int))) (hT : P.underlying T = some (.array len E)) (hE : TyS P E s) (hi : i < len) (hv : cs.extract (i * s) (i * s + s) = vs.toArray) : Qt P o n env w0 Rs (.agg vs.toArray) :=
 qt_of fun a w hf _ => by
  obtain ⟨d, h1, h2⟩ := hE.flat
  obtain ⟨j, hj, hs⟩ : ∃ j, P.info? E = some j ∧ j.size = s := by
   have h3 := hE.size
   cases h : P.info? E with
   | none => simp [h] at h3
   | some j => exact ⟨j, rfl, by simpa [h] using h3⟩
  have hso : (sizeOf E).run P w = .ok s w := by simp [sizeOf, typeInfo, hj, hs]
  unfold execOp; simp only [ho, hf.ev hx, hf.ev hy]; simp [Instr.index, asIntOf, run_underlying hT, part, run_isAgg h1, h2, hso, hi, hv]
end
abbrev affL (m : Aff) : List Pn := [m.xx, m.xy, m.yx, m.yy, m.dx, m.dy]
abbrev affCs (m : Aff) : List Value := [.int .i64 m.xx.1, .int .i64 m.xx.2, .int .i64 m.xy.1, .int .i64 m.xy.2, .int .i64 m.yx.1, .int .i64 m.yx.2, .int .i64 m.yy.1, .int .i64 m.yy.2, .int .i64 m.dx.1, .int .i64 m.dx.2, .int .i64 m.dy.1, .int .i64 m.dy.2]
theorem ext6 (m : Aff) {i : Nat} (h : i < 6) : (affCs m).toArray.extract (i * 2) (i * 2 + 2) = (ptCells (pt (affL m) i)).toArray := by
 have : i = 0 ∨ i = 1 ∨ i = 2 ∨ i = 3 ∨ i = 4 ∨ i = 5 := by omega
 rcases this with rfl | rfl | rfl | rfl | rfl | rfl <;> rfl
theorem aff_all (m : Aff) : affB m = (affL m).all frB := by simp [affB, Bool.and_assoc]
theorem aff_no {m : Aff} {k : Nat} (hk : k < 6) (h : frB (pt (affL m) k) = false) : affB m = false := by
 rw [aff_all, List.all_eq_false]
 exact ⟨pt (affL m) k, pt_mem (by exact hk), by rw [h]; decide⟩
theorem aff_yes {m : Aff} (h : ∀ j, j < 6 → frB (pt (affL m) j) = true) : affB m = true := by
 rw [aff_all, List.all_eq_true]
 intro p hp
 obtain ⟨j, hj, rfl⟩ := List.getElem_of_mem hp
 rw [pt_at hj]
 exact h j hj
/-! ### The program -/
theorem parts_any (m : Aff) (w : World) : Calls Try.prog 90 #[affV m] w fun e w' => e = .returned (.agg (affCs m).toArray) ∧ Over w w' := by
 refine walk_from (m := 16) (Try.func90) rfl rfl (Nat.le_of_ble_eq_true rfl) ?_
 refine at_seq ?_
 refine at_region ?_
 refine at_op rfl ?_
 refine op_box rfl rfl (rfl) rfl (by decide) (fun b1 => ?_)
 refine at_rsE (by simp only [ya,yb,yc,yd,Value.cells,ye]; rfl) ?_
 refine at_op rfl ?_
 refine op_alloc rfl tyz_6_impl_Frac rfl (by decide) (fun b2 => ?_)
 refine at_rsE (by simp only [ya,yb,yc,yd,Value.cells,ye]; rfl) ?_
 refine at_end ?_
 refine at_seq ?_
 refine at_region ?_
 refine at_q rfl rfl (by decide) (qt_fieldAddr rfl rfl tyf_impl_Affine_0) ?_
 refine at_q rfl rfl (by decide) (qt_loadS rfl rfl tys_impl_Frac rfl (rd2 (k := 0) rfl rfl rfl)) ?_
 refine at_q rfl rfl (by decide) (qt_fieldAddr rfl rfl tyf_impl_Affine_1) ?_
 refine at_q rfl rfl (by decide) (qt_loadS rfl rfl tys_impl_Frac rfl (rd2 (k := 0) rfl rfl rfl)) ?_
 refine at_q rfl rfl (by decide) (qt_fieldAddr rfl rfl tyf_impl_Affine_2) ?_
 refine at_q rfl rfl (by decide) (qt_loadS rfl rfl tys_impl_Frac rfl (rd2 (k := 0) rfl rfl rfl)) ?_
 refine at_q rfl rfl (by decide) (qt_fieldAddr rfl rfl tyf_impl_Affine_3) ?_
 refine at_q rfl rfl (by decide) (qt_loadS rfl rfl tys_impl_Frac rfl (rd2 (k := 0) rfl rfl rfl)) ?_
 refine at_q rfl rfl (by decide) (qt_fieldAddr rfl rfl tyf_impl_Affine_4) ?_
 refine at_q rfl rfl (by decide) (qt_loadS rfl rfl tys_impl_Frac rfl (rd2 (k := 0) rfl rfl rfl)) ?_
 refine at_q rfl rfl (by decide) (qt_fieldAddr rfl rfl tyf_impl_Affine_5) ?_
 refine at_q rfl rfl (by decide) (qt_loadS rfl rfl tys_impl_Frac rfl (rd2 (k := 0) rfl rfl rfl)) ?_
 refine at_q rfl rfl (by decide) (qt_build rfl rfl (bld_6_impl_Frac_0_1_2_3_4_5 rfl rfl rfl rfl rfl rfl)) ?_
 refine at_op rfl ?_
 refine op_storeAll' (k := 1) rfl rfl rfl rfl (rfl) (by rfl) tyz_6_impl_Frac.szx rfl rfl rfl ?_
 refine at_rsE (by simp only [ya,yb,yc,yd,Value.cells,ye]; rfl) ?_
 refine at_end ?_
 refine at_retc ?_
 refine at_ret1 rfl (rvCelS (k := 1) rfl tys_6_impl_Frac rfl rfl) ?_
 intro w' hs
 exact ⟨rfl, hs.fin⟩
theorem ValidAffine_any (m : Aff) (w : World) : Calls Try.prog 54 #[affV m] w fun e w' => e = .returned (.bool (affB m)) ∧ Over w w' := by
 refine walk_from (m := 14) (Try.func54) rfl rfl (Nat.le_of_ble_eq_true rfl) ?_
 refine at_seq ?_
 refine at_region ?_
 refine at_op rfl ?_
 refine op_box rfl rfl (rfl) rfl (by decide) (fun b1 => ?_)
 refine at_rsE (by simp only [ya,yb,yc,yd,Value.cells,ye]; rfl) ?_
 refine at_q rfl rfl (by decide) (qt_assign rfl rfl) ?_
 refine at_end ?_
 refine at_seq ?_
 refine at_seq ?_
 refine at_region ?_
 refine at_q rfl rfl (by decide) (qt_loadS rfl rfl tys_impl_Affine rfl (rdAll (k := 0) rfl)) ?_
 refine at_q rfl rfl (by decide) (qt_call ok_impl_Affine_parts rfl rfl (fun w1 hs => parts_any m w1)) ?_
 refine at_q rfl rfl (by decide) (qt_move rfl rfl) ?_
 refine at_end ?_
 refine at_block ?_
 refine at_loopk (X := Nat) (fun k => k ≤ 6 ∧ ∀ j, j < k → frB (pt (affL m) j) = true) (fun k => 6 - k) (fun k => [(7, .int .i64 (k : Int))]) (C := [(2, _), (6, _)]) ⟨rfl, rfl, trivial⟩ 0 (⟨Nat.zero_le _, fun j hj => absurd hj (Nat.not_lt_zero j)⟩) ⟨rfl, rfl, rfl, trivial⟩ ?_
 intro k hk L hL1
 refine at_envE (by simp only [ya,yb]; rfl) ?_
 obtain ⟨hk6, hall⟩ := hk
 refine at_seq ?_
 refine at_region ?_
 refine at_q rfl rfl (by decide) (qt_lss rfl rfl rfl) ?_
 refine at_end ?_
 refine at_seq ?_
 refine at_cond rfl (fun c1 => ?_) (fun c1 => ?_)
 ·try simp only [za,zb,zc,zd,ze,zf,Bool.not_true,Bool.not_false,zg,zh,ne_eq,zi,zj] at c1
  have hlt : k < 6 := (by omega)
  refine at_skip ?_
  refine norm_then ?_
  refine at_seq ?_
  refine at_block ?_
  refine at_seq ?_
  refine at_region ?_
  refine at_q rfl rfl (by decide) (qt_indexA (ptCells (pt (affL m) k)) rfl rfl rfl tya_6_impl_Frac tys_impl_Frac hlt (ext6 m hlt)) ?_
  refine at_op rfl ?_
  refine op_alloc rfl tyz_impl_Frac rfl (by decide) (fun b2 => ?_)
  refine at_rsE (by simp only [ya,yb,yc,yd,Value.cells,ye]; rfl) ?_
  refine at_op rfl ?_
  refine op_storeAll' (k := 1) rfl rfl rfl rfl (rfl) (by rfl) tyz_impl_Frac.szx rfl rfl rfl ?_
  refine at_rsE (by simp only [ya,yb,yc,yd,Value.cells,ye]; rfl) ?_
  refine at_end ?_
  refine at_seq ?_
  refine at_region ?_
  refine at_q rfl rfl (by decide) (qt_loadS rfl rfl tys_impl_Frac rfl (rdAll (k := 1) rfl)) ?_
  refine at_q rfl rfl (by decide) (qt_call ok_impl_ValidFrac rfl rfl (fun w1 hs => ValidFrac_any (pt (affL m) k) w1)) ?_
  refine at_q rfl rfl (by decide) (qt_not rfl rfl) ?_
  refine at_end ?_
  refine at_cond rfl (fun c2 => ?_) (fun c2 => ?_)
  ·try simp only [za,zb,zc,zd,ze,zf,Bool.not_true,Bool.not_false,zg,zh,ne_eq,zi,zj] at c2
   refine at_seq ?_
   refine at_region ?_
   refine at_q rfl rfl (by decide) (qt_assign rfl rfl) ?_
   refine at_end ?_
   refine at_retc ?_
   refine pass_ret ?_
   refine then_ret ?_
   refine then_ret ?_
   refine pass_ret ?_
   refine then_ret ?_
   refine at_ret1 rfl (.tmp rfl) ?_
   intro w' hs
   exact ⟨retB (aff_no hlt c2).symm, hs.fin⟩
  ·try simp only [za,zb,zc,zd,ze,zf,Bool.not_true,Bool.not_false,zg,zh,ne_eq,zi,zj] at c2
   refine at_skip ?_
   refine norm_block ?_
   refine norm_then ?_
   refine at_region ?_
   refine at_q rfl rfl (by decide) (qt_add rfl rfl rfl (by omega) (by omega)) ?_
   refine at_q rfl rfl (by decide) (qt_move rfl rfl) ?_
   refine at_end ?_
   exact at_againk hL1 (k + 1) (⟨by omega, fun j hj => by by_cases e : j = k; exact e ▸ c2; exact hall j (by omega)⟩) (by omega) ⟨vi (by omega), rfl, rfl, trivial⟩ (fun _ h => h.upto ⟨rfl, trivial⟩)
 ·try simp only [za,zb,zc,zd,ze,zf,Bool.not_true,Bool.not_false,zg,zh,ne_eq,zi,zj] at c1
  refine at_exit ?_
  refine pass_then (fun h => by cases h) ?_
  refine pass_then (fun h => by cases h) ?_
  refine pass_hit ?_
  refine norm_then ?_
  refine at_seq ?_
  refine at_region ?_
  refine at_q rfl rfl (by decide) (qt_assign rfl rfl) ?_
  refine at_end ?_
  refine at_retc ?_
  refine at_ret1 rfl (.tmp rfl) ?_
  intro w' hs
  exact ⟨retB (aff_yes fun j hj => hall j (by omega)).symm, hs.fin⟩
theorem whole_any (n : Int) (w : World) : Calls Try.prog 98 #[.int .i64 n] w fun e w' => e = .returned (pV (n, 1)) ∧ Over w w' := by
 refine walk_from (m := 5) (Try.func98) rfl rfl (Nat.le_of_ble_eq_true rfl) ?_
 refine at_seq ?_
 refine at_region ?_
 refine at_op rfl ?_
 refine op_alloc rfl tyz_impl_Frac rfl (by decide) (fun b1 => ?_)
 refine at_rsE (by simp only [ya,yb,yc,yd,Value.cells,ye]; rfl) ?_
 refine at_end ?_
 refine at_seq ?_
 refine at_region ?_
 refine at_q rfl rfl (by decide) (qt_move rfl rfl) ?_
 refine at_q rfl rfl (by decide) (qt_build rfl rfl (bld_impl_Frac_0_1 rfl rfl)) ?_
 refine at_op rfl ?_
 refine op_storeAll' (k := 0) rfl rfl rfl rfl (rfl) (by rfl) tyz_impl_Frac.szx rfl rfl rfl ?_
 refine at_rsE (by simp only [ya,yb,yc,yd,Value.cells,ye]; rfl) ?_
 refine at_end ?_
 refine at_retc ?_
 refine at_ret1 rfl (rvCelS (k := 0) rfl tys_impl_Frac rfl rfl) ?_
 intro w' hs
 exact ⟨rfl, hs.fin⟩
/-- What remains of the code; what comes of a step. -/
def stC (k c : Int) : Int := if k = 0 then c else k
def stP (k : Int) (p : Pn) : Pn := if k = 0 then p else (0, 0)
theorem twoA_any (b : Nat) (k : Int) (p q : Pn) (w : World) (hh : w.heap[b]? = some (.cells [Value.int .i64 k].toArray 163 (0, 0))) :
  Calls Try.prog 95 #[.pointer (some ⟨b, 0, none⟩), .func (.func 96) #[] #[], pV p, pV q] w fun e w' => e = .returned (pV (stP k (adP p q))) ∧ Wr b w w' ∧ w'.heap[b]? = some (.cells [Value.int .i64 (stC k (adC p q))].toArray 163 (0, 0)) := by
 refine walk_from1 (m := 29) (Try.func95) rfl rfl (Nat.le_of_ble_eq_true rfl) (hh) ?_
 refine at_seq ?_
 refine at_region ?_
 refine at_op rfl ?_
 refine op_box rfl rfl (rfl) rfl (by decide) (fun b1 => ?_)
 refine at_rsE (by simp only [ya,yb,yc,yd,Value.cells,ye]; rfl) ?_
 refine at_op rfl ?_
 refine op_box rfl rfl (rfl) rfl (by decide) (fun b2 => ?_)
 refine at_rsE (by simp only [ya,yb,yc,yd,Value.cells,ye]; rfl) ?_
 refine at_op rfl ?_
 refine op_alloc rfl tyz_impl_Frac rfl (by decide) (fun b3 => ?_)
 refine at_rsE (by simp only [ya,yb,yc,yd,Value.cells,ye]; rfl) ?_
 refine at_end ?_
 refine at_seq ?_
 refine at_seq ?_
 refine at_region ?_
 refine at_q rfl rfl (by decide) (qt_move rfl rfl) ?_
 refine at_q rfl rfl (by decide) (qt_nilCheck rfl rfl) ?_
 refine at_q rfl rfl (by decide) (qt_fieldAddr rfl rfl tyf_impl_fracWork_0) ?_
 refine at_q rfl rfl (by decide) (qt_load1 rfl rfl ty1_int64 (rd1 (k := 0) rfl rfl)) ?_
 refine at_q rfl rfl (by decide) (qt_neq rfl rfl rfl) ?_
 refine at_end ?_
 refine at_cond rfl (fun c1 => ?_) (fun c1 => ?_)
 ·try simp only [za,zb,zc,zd,ze,zf,Bool.not_true,Bool.not_false,zg,zh,ne_eq,zi,zj] at c1
  refine at_seq ?_
  refine at_region ?_
  refine at_q rfl rfl (by decide) (qt_build rfl rfl (bld_impl_Frac_)) ?_
  refine at_op rfl ?_
  refine op_storeAll' (k := 3) rfl rfl rfl rfl (rfl) (by rfl) tyz_impl_Frac.szx rfl rfl rfl ?_
  refine at_rsE (by simp only [ya,yb,yc,yd,Value.cells,ye]; rfl) ?_
  refine at_end ?_
  refine at_retc ?_
  refine then_ret ?_
  refine at_ret1 rfl (rvCelS (k := 3) rfl tys_impl_Frac rfl rfl) ?_
  intro w' hs
  exact ⟨by rw [stP, if_neg c1], hs.over.wr, by rw [stC, if_neg c1]; exact hs.cel (k := 0) rfl⟩
 ·try simp only [za,zb,zc,zd,ze,zf,Bool.not_true,Bool.not_false,zg,zh,ne_eq,zi,zj] at c1
  refine at_skip ?_
  refine norm_then ?_
  refine at_seq ?_
  refine at_region ?_
  refine at_q rfl rfl (by decide) (qt_move rfl rfl) ?_
  refine at_q rfl rfl (by decide) (qt_loadS rfl rfl tys_impl_Frac rfl (rdAll (k := 1) rfl)) ?_
  refine at_q rfl rfl (by decide) (qt_loadS rfl rfl tys_impl_Frac rfl (rdAll (k := 2) rfl)) ?_
  refine at_q rfl rfl (by decide) (qt_callk ok_impl_AddFrac rfl rfl rfl (fun w1 hs => AddFrac_any p q w1)) ?_
  refine at_q rfl rfl (by decide) (qt_move rfl rfl) ?_
  refine at_q rfl rfl (by decide) (qt_extract rfl rfl rfl) ?_
  refine at_q rfl rfl (by decide) (qt_extract rfl rfl rfl) ?_
  refine at_op rfl ?_
  refine op_alloc rfl tyz_impl_Frac rfl (by decide) (fun b4 => ?_)
  refine at_rsE (by simp only [ya,yb,yc,yd,Value.cells,ye]; rfl) ?_
  refine at_op rfl ?_
  refine op_storeAll' (k := 4) rfl rfl rfl rfl (rfl) (by rfl) tyz_impl_Frac.szx rfl rfl rfl ?_
  refine at_rsE (by simp only [ya,yb,yc,yd,Value.cells,ye]; rfl) ?_
  refine at_q rfl rfl (by decide) (qt_assign rfl rfl) ?_
  refine at_end ?_
  refine at_seq ?_
  refine at_region ?_
  refine at_q rfl rfl (by decide) (qt_move rfl rfl) ?_
  refine at_q rfl rfl (by decide) (qt_move rfl rfl) ?_
  refine at_q rfl rfl (by decide) (qt_nilCheck rfl rfl) ?_
  refine at_q rfl rfl (by decide) (qt_fieldAddr rfl rfl tyf_impl_fracWork_0) ?_
  refine at_op rfl ?_
  refine op_storeAll' (k := 0) rfl rfl rfl rfl (rfl) (by rfl) tyz_int64.szx rfl rfl rfl ?_
  refine at_rsE (by simp only [ya,yb,yc,yd,Value.cells,ye]; rfl) ?_
  refine at_end ?_
  refine at_seq ?_
  refine at_region ?_
  refine at_q rfl rfl (by decide) (qt_loadS rfl rfl tys_impl_Frac rfl (rdAll (k := 4) rfl)) ?_
  refine at_op rfl ?_
  refine op_storeAll' (k := 3) rfl rfl rfl rfl (rfl) (by rfl) tyz_impl_Frac.szx rfl rfl rfl ?_
  refine at_rsE (by simp only [ya,yb,yc,yd,Value.cells,ye]; rfl) ?_
  refine at_end ?_
  refine at_retc ?_
  refine at_ret1 rfl (rvCelS (k := 3) rfl tys_impl_Frac rfl rfl) ?_
  intro w' hs
  exact ⟨by rw [stP, if_pos c1], hs.over.wr, by rw [stC, if_pos c1]; exact hs.cel (k := 0) rfl⟩
theorem twoM_any (b : Nat) (k : Int) (p q : Pn) (w : World) (hh : w.heap[b]? = some (.cells [Value.int .i64 k].toArray 163 (0, 0))) :
  Calls Try.prog 95 #[.pointer (some ⟨b, 0, none⟩), .func (.func 138) #[] #[], pV p, pV q] w fun e w' => e = .returned (pV (stP k (muP p q))) ∧ Wr b w w' ∧ w'.heap[b]? = some (.cells [Value.int .i64 (stC k (muC p q))].toArray 163 (0, 0)) := by
 refine walk_from1 (m := 29) (Try.func95) rfl rfl (Nat.le_of_ble_eq_true rfl) (hh) ?_
 refine at_seq ?_
 refine at_region ?_
 refine at_op rfl ?_
 refine op_box rfl rfl (rfl) rfl (by decide) (fun b1 => ?_)
 refine at_rsE (by simp only [ya,yb,yc,yd,Value.cells,ye]; rfl) ?_
 refine at_op rfl ?_
 refine op_box rfl rfl (rfl) rfl (by decide) (fun b2 => ?_)
 refine at_rsE (by simp only [ya,yb,yc,yd,Value.cells,ye]; rfl) ?_
 refine at_op rfl ?_
 refine op_alloc rfl tyz_impl_Frac rfl (by decide) (fun b3 => ?_)
 refine at_rsE (by simp only [ya,yb,yc,yd,Value.cells,ye]; rfl) ?_
 refine at_end ?_
 refine at_seq ?_
 refine at_seq ?_
 refine at_region ?_
 refine at_q rfl rfl (by decide) (qt_move rfl rfl) ?_
 refine at_q rfl rfl (by decide) (qt_nilCheck rfl rfl) ?_
 refine at_q rfl rfl (by decide) (qt_fieldAddr rfl rfl tyf_impl_fracWork_0) ?_
 refine at_q rfl rfl (by decide) (qt_load1 rfl rfl ty1_int64 (rd1 (k := 0) rfl rfl)) ?_
 refine at_q rfl rfl (by decide) (qt_neq rfl rfl rfl) ?_
 refine at_end ?_
 refine at_cond rfl (fun c1 => ?_) (fun c1 => ?_)
 ·try simp only [za,zb,zc,zd,ze,zf,Bool.not_true,Bool.not_false,zg,zh,ne_eq,zi,zj] at c1
  refine at_seq ?_
  refine at_region ?_
  refine at_q rfl rfl (by decide) (qt_build rfl rfl (bld_impl_Frac_)) ?_
  refine at_op rfl ?_
  refine op_storeAll' (k := 3) rfl rfl rfl rfl (rfl) (by rfl) tyz_impl_Frac.szx rfl rfl rfl ?_
  refine at_rsE (by simp only [ya,yb,yc,yd,Value.cells,ye]; rfl) ?_
  refine at_end ?_
  refine at_retc ?_
  refine then_ret ?_
  refine at_ret1 rfl (rvCelS (k := 3) rfl tys_impl_Frac rfl rfl) ?_
  intro w' hs
  exact ⟨by rw [stP, if_neg c1], hs.over.wr, by rw [stC, if_neg c1]; exact hs.cel (k := 0) rfl⟩
 ·try simp only [za,zb,zc,zd,ze,zf,Bool.not_true,Bool.not_false,zg,zh,ne_eq,zi,zj] at c1
  refine at_skip ?_
  refine norm_then ?_
  refine at_seq ?_
  refine at_region ?_
  refine at_q rfl rfl (by decide) (qt_move rfl rfl) ?_
  refine at_q rfl rfl (by decide) (qt_loadS rfl rfl tys_impl_Frac rfl (rdAll (k := 1) rfl)) ?_
  refine at_q rfl rfl (by decide) (qt_loadS rfl rfl tys_impl_Frac rfl (rdAll (k := 2) rfl)) ?_
  refine at_q rfl rfl (by decide) (qt_callk ok_impl_MulFrac rfl rfl rfl (fun w1 hs => MulFrac_any p q w1)) ?_
  refine at_q rfl rfl (by decide) (qt_move rfl rfl) ?_
  refine at_q rfl rfl (by decide) (qt_extract rfl rfl rfl) ?_
  refine at_q rfl rfl (by decide) (qt_extract rfl rfl rfl) ?_
  refine at_op rfl ?_
  refine op_alloc rfl tyz_impl_Frac rfl (by decide) (fun b4 => ?_)
  refine at_rsE (by simp only [ya,yb,yc,yd,Value.cells,ye]; rfl) ?_
  refine at_op rfl ?_
  refine op_storeAll' (k := 4) rfl rfl rfl rfl (rfl) (by rfl) tyz_impl_Frac.szx rfl rfl rfl ?_
  refine at_rsE (by simp only [ya,yb,yc,yd,Value.cells,ye]; rfl) ?_
  refine at_q rfl rfl (by decide) (qt_assign rfl rfl) ?_
  refine at_end ?_
  refine at_seq ?_
  refine at_region ?_
  refine at_q rfl rfl (by decide) (qt_move rfl rfl) ?_
  refine at_q rfl rfl (by decide) (qt_move rfl rfl) ?_
  refine at_q rfl rfl (by decide) (qt_nilCheck rfl rfl) ?_
  refine at_q rfl rfl (by decide) (qt_fieldAddr rfl rfl tyf_impl_fracWork_0) ?_
  refine at_op rfl ?_
  refine op_storeAll' (k := 0) rfl rfl rfl rfl (rfl) (by rfl) tyz_int64.szx rfl rfl rfl ?_
  refine at_rsE (by simp only [ya,yb,yc,yd,Value.cells,ye]; rfl) ?_
  refine at_end ?_
  refine at_seq ?_
  refine at_region ?_
  refine at_q rfl rfl (by decide) (qt_loadS rfl rfl tys_impl_Frac rfl (rdAll (k := 4) rfl)) ?_
  refine at_op rfl ?_
  refine op_storeAll' (k := 3) rfl rfl rfl rfl (rfl) (by rfl) tyz_impl_Frac.szx rfl rfl rfl ?_
  refine at_rsE (by simp only [ya,yb,yc,yd,Value.cells,ye]; rfl) ?_
  refine at_end ?_
  refine at_retc ?_
  refine at_ret1 rfl (rvCelS (k := 3) rfl tys_impl_Frac rfl rfl) ?_
  intro w' hs
  exact ⟨by rw [stP, if_pos c1], hs.over.wr, by rw [stC, if_pos c1]; exact hs.cel (k := 0) rfl⟩
def dtK1 (k : Int) (a b : Pn) : Int := stC k (muC a b)
def dtK2 (k : Int) (a b c d : Pn) : Int := stC (dtK1 k a b) (muC c d)
def dtC (k : Int) (a b c d : Pn) : Int := stC (dtK2 k a b c d) (adC (stP k (muP a b)) (stP (dtK1 k a b) (muP c d)))
def dtP (k : Int) (a b c d : Pn) : Pn := stP (dtK2 k a b c d) (adP (stP k (muP a b)) (stP (dtK1 k a b) (muP c d)))
theorem dot_any (b : Nat) (k : Int) (p q r s : Pn) (w : World) (hh : w.heap[b]? = some (.cells [Value.int .i64 k].toArray 163 (0, 0))) :
  Calls Try.prog 97 #[.pointer (some ⟨b, 0, none⟩), pV p, pV q, pV r, pV s] w fun e w' => e = .returned (pV (dtP k p q r s)) ∧ Wr b w w' ∧ w'.heap[b]? = some (.cells [Value.int .i64 (dtC k p q r s)].toArray 163 (0, 0)) := by
 refine walk_from1 (m := 21) (Try.func97) rfl rfl (Nat.le_of_ble_eq_true rfl) (hh) ?_
 refine at_seq ?_
 refine at_region ?_
 refine at_op rfl ?_
 refine op_box rfl rfl (rfl) rfl (by decide) (fun b1 => ?_)
 refine at_rsE (by simp only [ya,yb,yc,yd,Value.cells,ye]; rfl) ?_
 refine at_op rfl ?_
 refine op_box rfl rfl (rfl) rfl (by decide) (fun b2 => ?_)
 refine at_rsE (by simp only [ya,yb,yc,yd,Value.cells,ye]; rfl) ?_
 refine at_op rfl ?_
 refine op_box rfl rfl (rfl) rfl (by decide) (fun b3 => ?_)
 refine at_rsE (by simp only [ya,yb,yc,yd,Value.cells,ye]; rfl) ?_
 refine at_op rfl ?_
 refine op_box rfl rfl (rfl) rfl (by decide) (fun b4 => ?_)
 refine at_rsE (by simp only [ya,yb,yc,yd,Value.cells,ye]; rfl) ?_
 refine at_op rfl ?_
 refine op_alloc rfl tyz_impl_Frac rfl (by decide) (fun b5 => ?_)
 refine at_rsE (by simp only [ya,yb,yc,yd,Value.cells,ye]; rfl) ?_
 refine at_end ?_
 refine at_seq ?_
 refine dg_start mixed rfl ?_
 refine dg_phaseW 11 [5, 0] ?_
 refine dg_q (i := 0) rfl (by kernel_rfl) (by kernel_rfl) (by kernel_rfl) [] (by kernel_rfl) (fun _ _ _ h => h) rfl rfl (by decide) (fun _ h => (h.wk [5, 0]).upto ⟨rfl, rfl, rfl, rfl, rfl, rfl, trivial⟩) (qt_move rfl rfl) ?_
 refine dg_q (i := 1) rfl (by kernel_rfl) (by kernel_rfl) (by kernel_rfl) [] (by kernel_rfl) (fun _ _ _ h => h) rfl rfl (by decide) (fun _ h => (h.wk [5, 0]).upto ⟨rfl, rfl, rfl, rfl, rfl, rfl, trivial⟩) (qt_move rfl rfl) ?_
 refine dg_q (i := 2) rfl (by kernel_rfl) (by kernel_rfl) (by kernel_rfl) [] (by kernel_rfl) (fun _ _ _ h => h) rfl rfl (by decide) (fun _ h => (h.wk [5, 0]).upto ⟨rfl, rfl, rfl, rfl, rfl, rfl, trivial⟩) (qt_loadS rfl rfl tys_impl_Frac rfl (rdAll (k := 1) rfl)) ?_
 refine dg_q (i := 3) rfl (by kernel_rfl) (by kernel_rfl) (by kernel_rfl) [] (by kernel_rfl) (fun _ _ _ h => h) rfl rfl (by decide) (fun _ h => (h.wk [5, 0]).upto ⟨rfl, rfl, rfl, rfl, rfl, rfl, trivial⟩) (qt_loadS rfl rfl tys_impl_Frac rfl (rdAll (k := 2) rfl)) ?_
 refine dg_q (i := 5) rfl (by kernel_rfl) (by kernel_rfl) (by kernel_rfl) [] (by kernel_rfl) (fun _ _ _ h => h) rfl rfl (by decide) (fun _ h => (h.wk [5, 0]).upto ⟨rfl, rfl, rfl, rfl, rfl, rfl, trivial⟩) (qt_move rfl rfl) ?_
 refine dg_q (i := 6) rfl (by kernel_rfl) (by kernel_rfl) (by kernel_rfl) [] (by kernel_rfl) (fun _ _ _ h => h) rfl rfl (by decide) (fun _ h => (h.wk [5, 0]).upto ⟨rfl, rfl, rfl, rfl, rfl, rfl, trivial⟩) (qt_loadS rfl rfl tys_impl_Frac rfl (rdAll (k := 3) rfl)) ?_
 refine dg_q (i := 7) rfl (by kernel_rfl) (by kernel_rfl) (by kernel_rfl) [] (by kernel_rfl) (fun _ _ _ h => h) rfl rfl (by decide) (fun _ h => (h.wk [5, 0]).upto ⟨rfl, rfl, rfl, rfl, rfl, rfl, trivial⟩) (qt_loadS rfl rfl tys_impl_Frac rfl (rdAll (k := 4) rfl)) ?_
 refine dg_one (i := 4) rfl (by decide) (by kernel_rfl) rfl ?_
 refine op_callm (k := 0) ok_p_impl_fracWork_two rfl rfl rfl (by decide) rfl (fun w1 h => twoM_any b k p q w1 (h.cel (k := 0) rfl)) ?_
 refine at_rsE (by simp only [ya,yb,yc,yd,Value.cells,ye]; rfl) ?_
 refine dr_keep (fun _ h => (h.wk [5, 0]).upto ⟨rfl, rfl, rfl, rfl, rfl, rfl, trivial⟩) ?_
 refine dg_one (i := 8) rfl (by decide) (by kernel_rfl) rfl ?_
 refine op_callm (k := 0) ok_p_impl_fracWork_two rfl rfl rfl (by decide) rfl (fun w1 h => twoM_any b (dtK1 k p q) r s w1 (h.cel (k := 0) rfl)) ?_
 refine at_rsE (by simp only [ya,yb,yc,yd,Value.cells,ye]; rfl) ?_
 refine dr_keep (fun _ h => (h.wk [5, 0]).upto ⟨rfl, rfl, rfl, rfl, rfl, rfl, trivial⟩) ?_
 refine dg_one (i := 9) rfl (by decide) (by kernel_rfl) rfl ?_
 refine op_callm (k := 0) ok_p_impl_fracWork_two rfl rfl rfl (by decide) rfl (fun w1 h => twoA_any b (dtK2 k p q r s) (stP k (muP p q)) (stP (dtK1 k p q) (muP r s)) w1 (h.cel (k := 0) rfl)) ?_
 refine at_rsE (by simp only [ya,yb,yc,yd,Value.cells,ye]; rfl) ?_
 refine dr_keep (fun _ h => (h.wk [5, 0]).upto ⟨rfl, rfl, rfl, rfl, rfl, rfl, trivial⟩) ?_
 refine dg_one (i := 10) rfl (by decide) (by kernel_rfl) rfl ?_
 refine op_storeAll' (k := 5) rfl rfl rfl rfl (rfl) (by rfl) tyz_impl_Frac.szx rfl rfl rfl ?_
 refine at_rsE (by simp only [ya,yb,yc,yd,Value.cells,ye]; rfl) ?_
 refine dr_keep (fun _ h => (h.wk [5, 0]).upto ⟨rfl, rfl, rfl, rfl, rfl, rfl, trivial⟩) ?_
 refine dg_done (by kernel_rfl) ?_
 refine norm_then ?_
 refine at_retc ?_
 refine at_ret1 rfl (rvCelS (k := 5) rfl tys_impl_Frac rfl rfl) ?_
 intro w' hs
 exact ⟨rfl, hs.over.wr, hs.cel (k := 0) rfl⟩
theorem mk_err {a b : Int} (h : ¬ mkC a b = 0) : mkP a b = (0, 0) := if_neg h
theorem ad_err {p q : Pn} (h : ¬ adC p q = 0) : adP p q = (0, 0) := by
 unfold adC at h
 unfold adP
 split
 ·rename_i h2; rw [if_pos h2] at h; exact mk_err h
 ·rfl
theorem ad_zero (p : Pn) : adP (0, 0) p = (0, 0) := by
 have : twoB (0, 0) p = false := by unfold twoB frB; simp
 unfold adP
 rw [this]
 rfl
theorem stC_not {k c : Int} (h : ¬ k = 0) : stC k c = k := if_neg h
theorem dt_zero (a b c d : Pn) : dtC 0 a b c d = l2C a b c d ∧ (l2C a b c d = 0 → dtP 0 a b c d = l2P a b c d) := by
 have k1 : dtK1 0 a b = muC a b := by unfold dtK1 stC; exact if_pos rfl
 have k2 : dtK2 0 a b c d = stC (muC a b) (muC c d) := by rw [dtK2, k1]
 by_cases h1 : muC a b = 0
 ·have k3 : dtK2 0 a b c d = muC c d := by rw [k2, h1]; exact if_pos rfl
  by_cases h2 : muC c d = 0
  ·have e1 : dtC 0 a b c d = adC (muP a b) (muP c d) := by rw [dtC, k3, k1, h1, h2]; rfl
   have e2 : dtP 0 a b c d = adP (muP a b) (muP c d) := by rw [dtP, k3, k1, h1, h2]; rfl
   have e3 : l2C a b c d = adC (muP a b) (muP c d) := by rw [l2C, if_pos h1, if_pos h2]
   exact ⟨e1.trans e3.symm, fun h => by rw [e2, l2P, if_pos h]⟩
  ·have e1 : dtC 0 a b c d = muC c d := by rw [dtC, k3, stC_not h2]
   have e3 : l2C a b c d = muC c d := by rw [l2C, if_pos h1, if_neg h2]
   exact ⟨e1.trans e3.symm, fun h => absurd (e3.symm.trans h) h2⟩
 ·have k3 : dtK2 0 a b c d = muC a b := by rw [k2, stC_not h1]
  have e1 : dtC 0 a b c d = muC a b := by rw [dtC, k3, stC_not h1]
  have e3 : l2C a b c d = muC a b := by rw [l2C, if_neg h1]
  exact ⟨e1.trans e3.symm, fun h => absurd (e3.symm.trans h) h1⟩
/-- The code of the first row, of both; their fractions. -/
def apK (m : Aff) (p : Pn) : Int := stC (dtC 0 m.xx (p.1, 1) m.xy (p.2, 1)) (adC (dtP 0 m.xx (p.1, 1) m.xy (p.2, 1)) m.dx)
def apX (m : Aff) (p : Pn) : Pn := stP (dtC 0 m.xx (p.1, 1) m.xy (p.2, 1)) (adP (dtP 0 m.xx (p.1, 1) m.xy (p.2, 1)) m.dx)
def apK2 (m : Aff) (p : Pn) : Int := stC (dtC (apK m p) m.yx (p.1, 1) m.yy (p.2, 1)) (adC (dtP (apK m p) m.yx (p.1, 1) m.yy (p.2, 1)) m.dy)
def apY (m : Aff) (p : Pn) : Pn := stP (dtC (apK m p) m.yx (p.1, 1) m.yy (p.2, 1)) (adP (dtP (apK m p) m.yx (p.1, 1) m.yy (p.2, 1)) m.dy)
theorem row_code (a b c : Pn) (x y : Int) : stC (dtC 0 a (x, 1) b (y, 1)) (adC (dtP 0 a (x, 1) b (y, 1)) c) = rwC a b c x y := by
 obtain ⟨e1, e2⟩ := dt_zero a (x, 1) b (y, 1)
 unfold stC rwC
 rw [e1]
 by_cases h : l2C a (x, 1) b (y, 1) = 0
 ·rw [if_pos h, if_pos h, e2 h]
 ·rw [if_neg h, if_neg h]
theorem row_frac (a b c : Pn) (x y : Int) (h : rwC a b c x y = 0) : stP (dtC 0 a (x, 1) b (y, 1)) (adP (dtP 0 a (x, 1) b (y, 1)) c) = rwP a b c x y := by
 obtain ⟨e1, e2⟩ := dt_zero a (x, 1) b (y, 1)
 unfold rwC at h
 unfold stP rwP
 rw [e1]
 by_cases h2 : l2C a (x, 1) b (y, 1) = 0
 ·rw [if_pos h2, e2 h2]
 ·rw [if_neg h2] at h; exact absurd h h2
theorem dtC_not {k : Int} {a b c d : Pn} (h : ¬ k = 0) : dtC k a b c d = k := by
 have e1 : dtK1 k a b = k := stC_not h
 have e2 : dtK2 k a b c d = k := by rw [dtK2, e1, stC_not h]
 rw [dtC, e2, stC_not h]
theorem ap_code (m : Aff) (p : Pn) : apK2 m p = aqK m p := by
 have e1 : apK m p = rwC m.xx m.xy m.dx p.1 p.2 := row_code _ _ _ _ _
 unfold apK2 aqK
 rw [e1]
 by_cases h : rwC m.xx m.xy m.dx p.1 p.2 = 0
 ·rw [if_pos h, h]; exact row_code _ _ _ _ _
 ·rw [if_neg h, dtC_not h, stC_not h]
theorem ap_fracs {m : Aff} {p : Pn} (h : aqK m p = 0) : apX m p = rwP m.xx m.xy m.dx p.1 p.2 ∧ apY m p = rwP m.yx m.yy m.dy p.1 p.2 := by
 have e1 : apK m p = rwC m.xx m.xy m.dx p.1 p.2 := row_code _ _ _ _ _
 unfold aqK at h
 by_cases h1 : rwC m.xx m.xy m.dx p.1 p.2 = 0
 ·rw [if_pos h1] at h
  refine ⟨row_frac _ _ _ _ _ h1, ?_⟩
  unfold apY
  rw [e1, h1]
  exact row_frac _ _ _ _ _ h
 ·rw [if_neg h1] at h; exact absurd h h1
theorem ap_bad {m : Aff} {p : Pn} (h : ¬ apK2 m p = 0) : aqP m p = (0, 0) ∧ aqC m p = apK2 m p := by
 have e : aqC m p = apK2 m p := by rw [ap_code] at h ⊢; rw [aqC, if_neg h]
 exact ⟨by rw [aqP, if_neg (by rw [e]; exact h)], e⟩
theorem ap_good {m : Aff} {p : Pn} (h : apK2 m p = 0) : apP m p = (rfV (apX m p), rfV (apY m p)) ∧ aqC m p = if okB (rfV (apX m p)) (rfV (apY m p)) = true then 0 else 2 := by
 rw [ap_code] at h
 obtain ⟨e1, e2⟩ := ap_fracs h
 have e : apP m p = (rfV (apX m p), rfV (apY m p)) := by rw [apP, e1, e2]
 exact ⟨e, by rw [aqC, if_pos h, e]⟩
theorem ApplyMap_any (m : Aff) (p : Pn) (w : World) (hm : affB m = true) (hp : okB p.1 p.2 = true) : Calls Try.prog 56 #[affV m, pV p] w fun e w' => e = .returned (.tuple #[pV (aqP m p), .int .i64 (aqC m p)]) ∧ Over w w' := by
 refine walk_from (m := 73) (Try.func56) rfl rfl (Nat.le_of_ble_eq_true rfl) ?_
 refine at_seq ?_
 refine at_region ?_
 refine at_op rfl ?_
 refine op_box rfl rfl (rfl) rfl (by decide) (fun b1 => ?_)
 refine at_rsE (by simp only [ya,yb,yc,yd,Value.cells,ye]; rfl) ?_
 refine at_op rfl ?_
 refine op_box rfl rfl (rfl) rfl (by decide) (fun b2 => ?_)
 refine at_rsE (by simp only [ya,yb,yc,yd,Value.cells,ye]; rfl) ?_
 refine at_op rfl ?_
 refine op_alloc rfl tyz_impl_Pt rfl (by decide) (fun b3 => ?_)
 refine at_rsE (by simp only [ya,yb,yc,yd,Value.cells,ye]; rfl) ?_
 refine at_q rfl rfl (by decide) (qt_assign rfl rfl) ?_
 refine at_end ?_
 refine at_seq ?_
 refine at_seq ?_
 refine at_region ?_
 refine at_q rfl rfl (by decide) (qt_loadS rfl rfl tys_impl_Affine rfl (rdAll (k := 0) rfl)) ?_
 refine at_q rfl rfl (by decide) (qt_call ok_impl_ValidAffine rfl rfl (fun w1 hs => ValidAffine_any m w1)) ?_
 refine at_q rfl rfl (by decide) (qt_not rfl rfl) ?_
 refine at_q rfl rfl (by decide) (qt_move rfl rfl) ?_
 refine at_bsplit 13 rfl (fun g1 => ?_) (fun g1 => ?_)
 ·try simp only [za,zb,zc,zd,ze,zf,Bool.not_true,Bool.not_false,zg,zh,ne_eq,zi,zj] at g1
  refine at_off rfl rfl rfl rfl (by decide) rfl (by decide) ?_
  refine at_off rfl rfl rfl rfl (by decide) rfl (by decide) ?_
  refine at_off rfl rfl rfl rfl (by decide) rfl (by decide) ?_
  refine at_q rfl rfl (by decide) (qt_pickT rfl rfl rfl) ?_
  refine at_end ?_
  refine at_yes rfl rfl ?_
  refine at_seq ?_
  refine at_region ?_
  refine at_q rfl rfl (by decide) (qt_build rfl rfl (bld_impl_Pt_)) ?_
  refine at_op rfl ?_
  refine op_storeAll' (k := 2) rfl rfl rfl rfl (rfl) (by rfl) tyz_impl_Pt.szx rfl rfl rfl ?_
  refine at_rsE (by simp only [ya,yb,yc,yd,Value.cells,ye]; rfl) ?_
  refine at_q rfl rfl (by decide) (qt_assign rfl rfl) ?_
  refine at_end ?_
  refine at_retc ?_
  refine then_ret ?_
  refine at_ret2 rfl (rvCelS (k := 2) rfl tys_impl_Pt rfl rfl) (.tmp rfl) ?_
  intro w' hs
  exact absurd hm (by rw [g1]; decide)
 ·try simp only [za,zb,zc,zd,ze,zf,Bool.not_true,Bool.not_false,zg,zh,ne_eq,zi,zj] at g1
  refine at_on rfl rfl rfl rfl ?_
  refine op_q rfl (by decide) (qt_loadS rfl rfl tys_impl_Pt rfl (rdAll (k := 1) rfl)) ?_
  refine at_on rfl rfl rfl rfl ?_
  refine op_q rfl (by decide) (qt_call ok_impl_ValidPt rfl rfl (fun w1 hs => ValidPt_any p.1 p.2 w1)) ?_
  refine at_on rfl rfl rfl rfl ?_
  refine op_q rfl (by decide) (qt_not rfl rfl) ?_
  refine at_q rfl rfl (by decide) (qt_pickF rfl rfl rfl) ?_
  refine at_end ?_
  refine at_cond rfl (fun c1 => ?_) (fun c1 => ?_)
  ·try simp only [za,zb,zc,zd,ze,zf,Bool.not_true,Bool.not_false,zg,zh,ne_eq,zi,zj] at c1
   refine at_seq ?_
   refine at_region ?_
   refine at_q rfl rfl (by decide) (qt_build rfl rfl (bld_impl_Pt_)) ?_
   refine at_op rfl ?_
   refine op_storeAll' (k := 2) rfl rfl rfl rfl (rfl) (by rfl) tyz_impl_Pt.szx rfl rfl rfl ?_
   refine at_rsE (by simp only [ya,yb,yc,yd,Value.cells,ye]; rfl) ?_
   refine at_q rfl rfl (by decide) (qt_assign rfl rfl) ?_
   refine at_end ?_
   refine at_retc ?_
   refine then_ret ?_
   refine at_ret2 rfl (rvCelS (k := 2) rfl tys_impl_Pt rfl rfl) (.tmp rfl) ?_
   intro w' hs
   exact absurd hp (by rw [c1]; decide)
  ·try simp only [za,zb,zc,zd,ze,zf,Bool.not_true,Bool.not_false,zg,zh,ne_eq,zi,zj] at c1
   refine at_skip ?_
   refine norm_then ?_
   refine at_seq ?_
   refine at_region ?_
   refine at_q rfl rfl (by decide) (qt_build rfl rfl (bld_impl_fracWork_)) ?_
   refine at_op rfl ?_
   refine op_box rfl rfl (rfl) rfl (by decide) (fun b4 => ?_)
   refine at_rsE (by simp only [ya,yb,yc,yd,Value.cells,ye]; rfl) ?_
   refine at_q rfl rfl (by decide) (qt_assign rfl rfl) ?_
   refine at_end ?_
   refine at_cutX (X := Nat) (fun x => True) (fun x => [(7, .pointer (some ⟨x, 0, none⟩))]) (C := [(2, _), (3, _), (4, _), (5, _), (6, _)]) ⟨rfl, rfl, rfl, rfl, rfl, trivial⟩ (fun x => [.cel b1 58 (affCs m), .cel b2 103 [.int .i64 p.1, .int .i64 p.2], .cel b3 103 [.int .i64 0, .int .i64 0], .cel b4 163 [.int .i64 (apK m p)], .cel x 56 [.int .i64 (apX m p).1, .int .i64 (apX m p).2]]) (fun L hC_cut_4 => ?_) ?_
   ·refine dg_start mixed rfl ?_
    refine dg_phaseW 18 [3] ?_
    refine dg_q (i := 0) rfl (by kernel_rfl) (by kernel_rfl) (by kernel_rfl) [] (by kernel_rfl) (fun _ _ _ h => h) rfl rfl (by decide) (fun _ h => (h.wk [3]).upto ⟨rfl, rfl, rfl, rfl, trivial⟩) (qt_move rfl rfl) ?_
    refine dg_q (i := 1) rfl (by kernel_rfl) (by kernel_rfl) (by kernel_rfl) [] (by kernel_rfl) (fun _ _ _ h => h) rfl rfl (by decide) (fun _ h => (h.wk [3]).upto ⟨rfl, rfl, rfl, rfl, trivial⟩) (qt_move rfl rfl) ?_
    refine dg_q (i := 2) rfl (by kernel_rfl) (by kernel_rfl) (by kernel_rfl) [] (by kernel_rfl) (fun _ _ _ h => h) rfl rfl (by decide) (fun _ h => (h.wk [3]).upto ⟨rfl, rfl, rfl, rfl, trivial⟩) (qt_fieldAddr rfl rfl tyf_impl_Affine_0) ?_
    refine dg_q (i := 3) rfl (by kernel_rfl) (by kernel_rfl) (by kernel_rfl) [] (by kernel_rfl) (fun _ _ _ h => h) rfl rfl (by decide) (fun _ h => (h.wk [3]).upto ⟨rfl, rfl, rfl, rfl, trivial⟩) (qt_loadS rfl rfl tys_impl_Frac rfl (rd2 (k := 0) rfl rfl rfl)) ?_
    refine dg_q (i := 4) rfl (by kernel_rfl) (by kernel_rfl) (by kernel_rfl) [] (by kernel_rfl) (fun _ _ _ h => h) rfl rfl (by decide) (fun _ h => (h.wk [3]).upto ⟨rfl, rfl, rfl, rfl, trivial⟩) (qt_fieldAddr rfl rfl tyf_impl_Pt_0) ?_
    refine dg_q (i := 5) rfl (by kernel_rfl) (by kernel_rfl) (by kernel_rfl) [] (by kernel_rfl) (fun _ _ _ h => h) rfl rfl (by decide) (fun _ h => (h.wk [3]).upto ⟨rfl, rfl, rfl, rfl, trivial⟩) (qt_load1 rfl rfl ty1_int64 (rd1 (k := 1) rfl rfl)) ?_
    refine dg_q (i := 6) rfl (by kernel_rfl) (by kernel_rfl) (by kernel_rfl) [] (by kernel_rfl) (fun _ _ _ h => h) rfl rfl (by decide) (fun _ h => (h.wk [3]).upto ⟨rfl, rfl, rfl, rfl, trivial⟩) (qt_call ok_impl_whole rfl rfl (fun w1 hs => whole_any p.1 w1)) ?_
    refine dg_q (i := 7) rfl (by kernel_rfl) (by kernel_rfl) (by kernel_rfl) [] (by kernel_rfl) (fun _ _ _ h => h) rfl rfl (by decide) (fun _ h => (h.wk [3]).upto ⟨rfl, rfl, rfl, rfl, trivial⟩) (qt_fieldAddr rfl rfl tyf_impl_Affine_1) ?_
    refine dg_q (i := 8) rfl (by kernel_rfl) (by kernel_rfl) (by kernel_rfl) [] (by kernel_rfl) (fun _ _ _ h => h) rfl rfl (by decide) (fun _ h => (h.wk [3]).upto ⟨rfl, rfl, rfl, rfl, trivial⟩) (qt_loadS rfl rfl tys_impl_Frac rfl (rd2 (k := 0) rfl rfl rfl)) ?_
    refine dg_q (i := 9) rfl (by kernel_rfl) (by kernel_rfl) (by kernel_rfl) [] (by kernel_rfl) (fun _ _ _ h => h) rfl rfl (by decide) (fun _ h => (h.wk [3]).upto ⟨rfl, rfl, rfl, rfl, trivial⟩) (qt_fieldAddr rfl rfl tyf_impl_Pt_1) ?_
    refine dg_q (i := 10) rfl (by kernel_rfl) (by kernel_rfl) (by kernel_rfl) [] (by kernel_rfl) (fun _ _ _ h => h) rfl rfl (by decide) (fun _ h => (h.wk [3]).upto ⟨rfl, rfl, rfl, rfl, trivial⟩) (qt_load1 rfl rfl ty1_int64 (rd1 (k := 1) rfl rfl)) ?_
    refine dg_q (i := 11) rfl (by kernel_rfl) (by kernel_rfl) (by kernel_rfl) [] (by kernel_rfl) (fun _ _ _ h => h) rfl rfl (by decide) (fun _ h => (h.wk [3]).upto ⟨rfl, rfl, rfl, rfl, trivial⟩) (qt_call ok_impl_whole rfl rfl (fun w1 hs => whole_any p.2 w1)) ?_
    refine dg_q (i := 13) rfl (by kernel_rfl) (by kernel_rfl) (by kernel_rfl) [] (by kernel_rfl) (fun _ _ _ h => h) rfl rfl (by decide) (fun _ h => (h.wk [3]).upto ⟨rfl, rfl, rfl, rfl, trivial⟩) (qt_fieldAddr rfl rfl tyf_impl_Affine_4) ?_
    refine dg_q (i := 14) rfl (by kernel_rfl) (by kernel_rfl) (by kernel_rfl) [] (by kernel_rfl) (fun _ _ _ h => h) rfl rfl (by decide) (fun _ h => (h.wk [3]).upto ⟨rfl, rfl, rfl, rfl, trivial⟩) (qt_loadS rfl rfl tys_impl_Frac rfl (rd2 (k := 0) rfl rfl rfl)) ?_
    refine dg_two (i := 12) (j := 16) rfl rfl (by decide) (by decide) (by kernel_rfl) rfl rfl ?_ ?_
    ·refine op_callm (k := 3) ok_p_impl_fracWork_dot rfl rfl rfl (by decide) rfl (fun w1 h => dot_any _ 0 m.xx (p.1, 1) m.xy (p.2, 1) w1 (h.cel (k := 3) rfl)) ?_
     refine at_rsE (by simp only [ya,yb,yc,yd,Value.cells,ye]; rfl) ?_
     refine dr_keep (fun _ h => (h.wk [3]).upto ⟨rfl, rfl, rfl, rfl, trivial⟩) ?_
     refine dg_two (i := 15) (j := 16) rfl rfl (by decide) (by decide) (by kernel_rfl) rfl rfl ?_ ?_
     ·refine op_callm (k := 3) ok_p_impl_fracWork_two rfl rfl rfl (by decide) rfl (fun w1 h => twoA_any _ (dtC 0 m.xx (p.1, 1) m.xy (p.2, 1)) (dtP 0 m.xx (p.1, 1) m.xy (p.2, 1)) m.dx w1 (h.cel (k := 3) rfl)) ?_
      refine at_rsE (by simp only [ya,yb,yc,yd,Value.cells,ye]; rfl) ?_
      refine dr_keep (fun _ h => (h.wk [3]).upto ⟨rfl, rfl, rfl, rfl, trivial⟩) ?_
      refine dg_one (i := 16) rfl (by decide) (by kernel_rfl) rfl ?_
      refine op_alloc rfl tyz_impl_Frac rfl (by decide) (fun b5 => ?_)
      refine at_rsE (by simp only [ya,yb,yc,yd,Value.cells,ye]; rfl) ?_
      refine dr_keep (fun _ h => (h.wk [3]).upto ⟨rfl, rfl, rfl, rfl, trivial⟩) ?_
      refine dg_one (i := 17) rfl (by decide) (by kernel_rfl) rfl ?_
      refine op_storeAll' (k := 4) rfl rfl rfl rfl (rfl) (by rfl) tyz_impl_Frac.szx rfl rfl rfl ?_
      refine at_rsE (by simp only [ya,yb,yc,yd,Value.cells,ye]; rfl) ?_
      refine dr_keep (fun _ h => (h.wk [3]).upto ⟨rfl, rfl, rfl, rfl, trivial⟩) ?_
      refine dg_done (by kernel_rfl) ?_
      refine norm_then ?_
      exact at_meetX hC_cut_4 (b5) (trivial) ⟨rfl, rfl, rfl, rfl, rfl, rfl, trivial⟩ (fun _ h => h.picks [0, 1, 2, 3, 4] (by decide))
     ·refine op_alloc rfl tyz_impl_Frac rfl (by decide) (fun b6 => ?_)
      refine at_rsE (by simp only [ya,yb,yc,yd,Value.cells,ye]; rfl) ?_
      refine dr_keep (fun _ h => (h.wk [3]).upto ⟨rfl, rfl, rfl, rfl, trivial⟩) ?_
      refine dg_one (i := 15) rfl (by decide) (by kernel_rfl) rfl ?_
      refine op_callm (k := 3) ok_p_impl_fracWork_two rfl rfl rfl (by decide) rfl (fun w1 h => twoA_any _ (dtC 0 m.xx (p.1, 1) m.xy (p.2, 1)) (dtP 0 m.xx (p.1, 1) m.xy (p.2, 1)) m.dx w1 (h.cel (k := 3) rfl)) ?_
      refine at_rsE (by simp only [ya,yb,yc,yd,Value.cells,ye]; rfl) ?_
      refine dr_keep (fun _ h => (h.wk [3]).upto ⟨rfl, rfl, rfl, rfl, trivial⟩) ?_
      refine dg_one (i := 17) rfl (by decide) (by kernel_rfl) rfl ?_
      refine op_storeAll' (k := 4) rfl rfl rfl rfl (rfl) (by rfl) tyz_impl_Frac.szx rfl rfl rfl ?_
      refine at_rsE (by simp only [ya,yb,yc,yd,Value.cells,ye]; rfl) ?_
      refine dr_keep (fun _ h => (h.wk [3]).upto ⟨rfl, rfl, rfl, rfl, trivial⟩) ?_
      refine dg_done (by kernel_rfl) ?_
      refine norm_then ?_
      exact at_meetX hC_cut_4 (b6) (trivial) ⟨rfl, rfl, rfl, rfl, rfl, rfl, trivial⟩ (fun _ h => h.picks [0, 1, 2, 3, 4] (by decide))
    ·refine op_alloc rfl tyz_impl_Frac rfl (by decide) (fun b7 => ?_)
     refine at_rsE (by simp only [ya,yb,yc,yd,Value.cells,ye]; rfl) ?_
     refine dr_keep (fun _ h => (h.wk [3]).upto ⟨rfl, rfl, rfl, rfl, trivial⟩) ?_
     refine dg_one (i := 12) rfl (by decide) (by kernel_rfl) rfl ?_
     refine op_callm (k := 3) ok_p_impl_fracWork_dot rfl rfl rfl (by decide) rfl (fun w1 h => dot_any _ 0 m.xx (p.1, 1) m.xy (p.2, 1) w1 (h.cel (k := 3) rfl)) ?_
     refine at_rsE (by simp only [ya,yb,yc,yd,Value.cells,ye]; rfl) ?_
     refine dr_keep (fun _ h => (h.wk [3]).upto ⟨rfl, rfl, rfl, rfl, trivial⟩) ?_
     refine dg_one (i := 15) rfl (by decide) (by kernel_rfl) rfl ?_
     refine op_callm (k := 3) ok_p_impl_fracWork_two rfl rfl rfl (by decide) rfl (fun w1 h => twoA_any _ (dtC 0 m.xx (p.1, 1) m.xy (p.2, 1)) (dtP 0 m.xx (p.1, 1) m.xy (p.2, 1)) m.dx w1 (h.cel (k := 3) rfl)) ?_
     refine at_rsE (by simp only [ya,yb,yc,yd,Value.cells,ye]; rfl) ?_
     refine dr_keep (fun _ h => (h.wk [3]).upto ⟨rfl, rfl, rfl, rfl, trivial⟩) ?_
     refine dg_one (i := 17) rfl (by decide) (by kernel_rfl) rfl ?_
     refine op_storeAll' (k := 4) rfl rfl rfl rfl (rfl) (by rfl) tyz_impl_Frac.szx rfl rfl rfl ?_
     refine at_rsE (by simp only [ya,yb,yc,yd,Value.cells,ye]; rfl) ?_
     refine dr_keep (fun _ h => (h.wk [3]).upto ⟨rfl, rfl, rfl, rfl, trivial⟩) ?_
     refine dg_done (by kernel_rfl) ?_
     refine norm_then ?_
     exact at_meetX hC_cut_4 (b7) (trivial) ⟨rfl, rfl, rfl, rfl, rfl, rfl, trivial⟩ (fun _ h => h.picks [0, 1, 2, 3, 4] (by decide))
   ·rintro bx -
    refine at_envE (by simp only [ya,yb]; rfl) ?_
    refine at_rsE (by first | (dsimp only; done) | (dsimp only; rfl) | rfl) ?_
    refine at_cutX (X := Nat) (fun x => True) (fun x => [(8, .pointer (some ⟨x, 0, none⟩))]) (C := [(4, _), (5, _), (6, _), (7, _)]) ⟨rfl, rfl, rfl, rfl, trivial⟩ (fun x => [.cel b1 58 (affCs m), .cel b2 103 [.int .i64 p.1, .int .i64 p.2], .cel b3 103 [.int .i64 0, .int .i64 0], .cel b4 163 [.int .i64 (apK2 m p)], .cel bx 56 [.int .i64 (apX m p).1, .int .i64 (apX m p).2], .cel x 56 [.int .i64 (apY m p).1, .int .i64 (apY m p).2]]) (fun L hC_cut_5 => ?_) ?_
    ·refine dg_start mixed rfl ?_
     refine dg_phaseW 18 [3] ?_
     refine dg_q (i := 0) rfl (by kernel_rfl) (by kernel_rfl) (by kernel_rfl) [] (by kernel_rfl) (fun _ _ _ h => h) rfl rfl (by decide) (fun _ h => (h.wk [3]).upto ⟨rfl, rfl, rfl, rfl, rfl, trivial⟩) (qt_move rfl rfl) ?_
     refine dg_q (i := 1) rfl (by kernel_rfl) (by kernel_rfl) (by kernel_rfl) [] (by kernel_rfl) (fun _ _ _ h => h) rfl rfl (by decide) (fun _ h => (h.wk [3]).upto ⟨rfl, rfl, rfl, rfl, rfl, trivial⟩) (qt_move rfl rfl) ?_
     refine dg_q (i := 2) rfl (by kernel_rfl) (by kernel_rfl) (by kernel_rfl) [] (by kernel_rfl) (fun _ _ _ h => h) rfl rfl (by decide) (fun _ h => (h.wk [3]).upto ⟨rfl, rfl, rfl, rfl, rfl, trivial⟩) (qt_fieldAddr rfl rfl tyf_impl_Affine_2) ?_
     refine dg_q (i := 3) rfl (by kernel_rfl) (by kernel_rfl) (by kernel_rfl) [] (by kernel_rfl) (fun _ _ _ h => h) rfl rfl (by decide) (fun _ h => (h.wk [3]).upto ⟨rfl, rfl, rfl, rfl, rfl, trivial⟩) (qt_loadS rfl rfl tys_impl_Frac rfl (rd2 (k := 0) rfl rfl rfl)) ?_
     refine dg_q (i := 4) rfl (by kernel_rfl) (by kernel_rfl) (by kernel_rfl) [] (by kernel_rfl) (fun _ _ _ h => h) rfl rfl (by decide) (fun _ h => (h.wk [3]).upto ⟨rfl, rfl, rfl, rfl, rfl, trivial⟩) (qt_fieldAddr rfl rfl tyf_impl_Pt_0) ?_
     refine dg_q (i := 5) rfl (by kernel_rfl) (by kernel_rfl) (by kernel_rfl) [] (by kernel_rfl) (fun _ _ _ h => h) rfl rfl (by decide) (fun _ h => (h.wk [3]).upto ⟨rfl, rfl, rfl, rfl, rfl, trivial⟩) (qt_load1 rfl rfl ty1_int64 (rd1 (k := 1) rfl rfl)) ?_
     refine dg_q (i := 6) rfl (by kernel_rfl) (by kernel_rfl) (by kernel_rfl) [] (by kernel_rfl) (fun _ _ _ h => h) rfl rfl (by decide) (fun _ h => (h.wk [3]).upto ⟨rfl, rfl, rfl, rfl, rfl, trivial⟩) (qt_call ok_impl_whole rfl rfl (fun w1 hs => whole_any p.1 w1)) ?_
     refine dg_q (i := 7) rfl (by kernel_rfl) (by kernel_rfl) (by kernel_rfl) [] (by kernel_rfl) (fun _ _ _ h => h) rfl rfl (by decide) (fun _ h => (h.wk [3]).upto ⟨rfl, rfl, rfl, rfl, rfl, trivial⟩) (qt_fieldAddr rfl rfl tyf_impl_Affine_3) ?_
     refine dg_q (i := 8) rfl (by kernel_rfl) (by kernel_rfl) (by kernel_rfl) [] (by kernel_rfl) (fun _ _ _ h => h) rfl rfl (by decide) (fun _ h => (h.wk [3]).upto ⟨rfl, rfl, rfl, rfl, rfl, trivial⟩) (qt_loadS rfl rfl tys_impl_Frac rfl (rd2 (k := 0) rfl rfl rfl)) ?_
     refine dg_q (i := 9) rfl (by kernel_rfl) (by kernel_rfl) (by kernel_rfl) [] (by kernel_rfl) (fun _ _ _ h => h) rfl rfl (by decide) (fun _ h => (h.wk [3]).upto ⟨rfl, rfl, rfl, rfl, rfl, trivial⟩) (qt_fieldAddr rfl rfl tyf_impl_Pt_1) ?_
     refine dg_q (i := 10) rfl (by kernel_rfl) (by kernel_rfl) (by kernel_rfl) [] (by kernel_rfl) (fun _ _ _ h => h) rfl rfl (by decide) (fun _ h => (h.wk [3]).upto ⟨rfl, rfl, rfl, rfl, rfl, trivial⟩) (qt_load1 rfl rfl ty1_int64 (rd1 (k := 1) rfl rfl)) ?_
     refine dg_q (i := 11) rfl (by kernel_rfl) (by kernel_rfl) (by kernel_rfl) [] (by kernel_rfl) (fun _ _ _ h => h) rfl rfl (by decide) (fun _ h => (h.wk [3]).upto ⟨rfl, rfl, rfl, rfl, rfl, trivial⟩) (qt_call ok_impl_whole rfl rfl (fun w1 hs => whole_any p.2 w1)) ?_
     refine dg_q (i := 13) rfl (by kernel_rfl) (by kernel_rfl) (by kernel_rfl) [] (by kernel_rfl) (fun _ _ _ h => h) rfl rfl (by decide) (fun _ h => (h.wk [3]).upto ⟨rfl, rfl, rfl, rfl, rfl, trivial⟩) (qt_fieldAddr rfl rfl tyf_impl_Affine_5) ?_
     refine dg_q (i := 14) rfl (by kernel_rfl) (by kernel_rfl) (by kernel_rfl) [] (by kernel_rfl) (fun _ _ _ h => h) rfl rfl (by decide) (fun _ h => (h.wk [3]).upto ⟨rfl, rfl, rfl, rfl, rfl, trivial⟩) (qt_loadS rfl rfl tys_impl_Frac rfl (rd2 (k := 0) rfl rfl rfl)) ?_
     refine dg_two (i := 12) (j := 16) rfl rfl (by decide) (by decide) (by kernel_rfl) rfl rfl ?_ ?_
     ·refine op_callm (k := 3) ok_p_impl_fracWork_dot rfl rfl rfl (by decide) rfl (fun w1 h => dot_any _ (apK m p) m.yx (p.1, 1) m.yy (p.2, 1) w1 (h.cel (k := 3) rfl)) ?_
      refine at_rsE (by simp only [ya,yb,yc,yd,Value.cells,ye]; rfl) ?_
      refine dr_keep (fun _ h => (h.wk [3]).upto ⟨rfl, rfl, rfl, rfl, rfl, trivial⟩) ?_
      refine dg_two (i := 15) (j := 16) rfl rfl (by decide) (by decide) (by kernel_rfl) rfl rfl ?_ ?_
      ·refine op_callm (k := 3) ok_p_impl_fracWork_two rfl rfl rfl (by decide) rfl (fun w1 h => twoA_any _ (dtC (apK m p) m.yx (p.1, 1) m.yy (p.2, 1)) (dtP (apK m p) m.yx (p.1, 1) m.yy (p.2, 1)) m.dy w1 (h.cel (k := 3) rfl)) ?_
       refine at_rsE (by simp only [ya,yb,yc,yd,Value.cells,ye]; rfl) ?_
       refine dr_keep (fun _ h => (h.wk [3]).upto ⟨rfl, rfl, rfl, rfl, rfl, trivial⟩) ?_
       refine dg_one (i := 16) rfl (by decide) (by kernel_rfl) rfl ?_
       refine op_alloc rfl tyz_impl_Frac rfl (by decide) (fun b8 => ?_)
       refine at_rsE (by simp only [ya,yb,yc,yd,Value.cells,ye]; rfl) ?_
       refine dr_keep (fun _ h => (h.wk [3]).upto ⟨rfl, rfl, rfl, rfl, rfl, trivial⟩) ?_
       refine dg_one (i := 17) rfl (by decide) (by kernel_rfl) rfl ?_
       refine op_storeAll' (k := 5) rfl rfl rfl rfl (rfl) (by rfl) tyz_impl_Frac.szx rfl rfl rfl ?_
       refine at_rsE (by simp only [ya,yb,yc,yd,Value.cells,ye]; rfl) ?_
       refine dr_keep (fun _ h => (h.wk [3]).upto ⟨rfl, rfl, rfl, rfl, rfl, trivial⟩) ?_
       refine dg_done (by kernel_rfl) ?_
       refine norm_then ?_
       exact at_meetX hC_cut_5 (b8) (trivial) ⟨rfl, rfl, rfl, rfl, rfl, trivial⟩ (fun _ h => h.picks [0, 1, 2, 3, 4, 5] (by decide))
      ·refine op_alloc rfl tyz_impl_Frac rfl (by decide) (fun b9 => ?_)
       refine at_rsE (by simp only [ya,yb,yc,yd,Value.cells,ye]; rfl) ?_
       refine dr_keep (fun _ h => (h.wk [3]).upto ⟨rfl, rfl, rfl, rfl, rfl, trivial⟩) ?_
       refine dg_one (i := 15) rfl (by decide) (by kernel_rfl) rfl ?_
       refine op_callm (k := 3) ok_p_impl_fracWork_two rfl rfl rfl (by decide) rfl (fun w1 h => twoA_any _ (dtC (apK m p) m.yx (p.1, 1) m.yy (p.2, 1)) (dtP (apK m p) m.yx (p.1, 1) m.yy (p.2, 1)) m.dy w1 (h.cel (k := 3) rfl)) ?_
       refine at_rsE (by simp only [ya,yb,yc,yd,Value.cells,ye]; rfl) ?_
       refine dr_keep (fun _ h => (h.wk [3]).upto ⟨rfl, rfl, rfl, rfl, rfl, trivial⟩) ?_
       refine dg_one (i := 17) rfl (by decide) (by kernel_rfl) rfl ?_
       refine op_storeAll' (k := 5) rfl rfl rfl rfl (rfl) (by rfl) tyz_impl_Frac.szx rfl rfl rfl ?_
       refine at_rsE (by simp only [ya,yb,yc,yd,Value.cells,ye]; rfl) ?_
       refine dr_keep (fun _ h => (h.wk [3]).upto ⟨rfl, rfl, rfl, rfl, rfl, trivial⟩) ?_
       refine dg_done (by kernel_rfl) ?_
       refine norm_then ?_
       exact at_meetX hC_cut_5 (b9) (trivial) ⟨rfl, rfl, rfl, rfl, rfl, trivial⟩ (fun _ h => h.picks [0, 1, 2, 3, 4, 5] (by decide))
     ·refine op_alloc rfl tyz_impl_Frac rfl (by decide) (fun b10 => ?_)
      refine at_rsE (by simp only [ya,yb,yc,yd,Value.cells,ye]; rfl) ?_
      refine dr_keep (fun _ h => (h.wk [3]).upto ⟨rfl, rfl, rfl, rfl, rfl, trivial⟩) ?_
      refine dg_one (i := 12) rfl (by decide) (by kernel_rfl) rfl ?_
      refine op_callm (k := 3) ok_p_impl_fracWork_dot rfl rfl rfl (by decide) rfl (fun w1 h => dot_any _ (apK m p) m.yx (p.1, 1) m.yy (p.2, 1) w1 (h.cel (k := 3) rfl)) ?_
      refine at_rsE (by simp only [ya,yb,yc,yd,Value.cells,ye]; rfl) ?_
      refine dr_keep (fun _ h => (h.wk [3]).upto ⟨rfl, rfl, rfl, rfl, rfl, trivial⟩) ?_
      refine dg_one (i := 15) rfl (by decide) (by kernel_rfl) rfl ?_
      refine op_callm (k := 3) ok_p_impl_fracWork_two rfl rfl rfl (by decide) rfl (fun w1 h => twoA_any _ (dtC (apK m p) m.yx (p.1, 1) m.yy (p.2, 1)) (dtP (apK m p) m.yx (p.1, 1) m.yy (p.2, 1)) m.dy w1 (h.cel (k := 3) rfl)) ?_
      refine at_rsE (by simp only [ya,yb,yc,yd,Value.cells,ye]; rfl) ?_
      refine dr_keep (fun _ h => (h.wk [3]).upto ⟨rfl, rfl, rfl, rfl, rfl, trivial⟩) ?_
      refine dg_one (i := 17) rfl (by decide) (by kernel_rfl) rfl ?_
      refine op_storeAll' (k := 5) rfl rfl rfl rfl (rfl) (by rfl) tyz_impl_Frac.szx rfl rfl rfl ?_
      refine at_rsE (by simp only [ya,yb,yc,yd,Value.cells,ye]; rfl) ?_
      refine dr_keep (fun _ h => (h.wk [3]).upto ⟨rfl, rfl, rfl, rfl, rfl, trivial⟩) ?_
      refine dg_done (by kernel_rfl) ?_
      refine norm_then ?_
      exact at_meetX hC_cut_5 (b10) (trivial) ⟨rfl, rfl, rfl, rfl, rfl, trivial⟩ (fun _ h => h.picks [0, 1, 2, 3, 4, 5] (by decide))
    ·rintro by_ -
     refine at_envE (by simp only [ya,yb]; rfl) ?_
     refine at_rsE (by first | (dsimp only; done) | (dsimp only; rfl) | rfl) ?_
     refine at_seq ?_
     refine at_seq ?_
     refine at_region ?_
     refine at_q rfl rfl (by decide) (qt_move rfl rfl) ?_
     refine at_q rfl rfl (by decide) (qt_nilCheck rfl rfl) ?_
     refine at_q rfl rfl (by decide) (qt_fieldAddr rfl rfl tyf_impl_fracWork_0) ?_
     refine at_q rfl rfl (by decide) (qt_load1 rfl rfl ty1_int64 (rd1 (k := 3) rfl rfl)) ?_
     refine at_q rfl rfl (by decide) (qt_neq rfl rfl rfl) ?_
     refine at_end ?_
     refine at_cond rfl (fun c2 => ?_) (fun c2 => ?_)
     ·try simp only [za,zb,zc,zd,ze,zf,Bool.not_true,Bool.not_false,zg,zh,ne_eq,zi,zj] at c2
      obtain ⟨e1, e2⟩ := ap_bad (m := m) (p := p) c2
      refine at_seq ?_
      refine dg_start mixed rfl ?_
      refine dg_phaseW 7 [2] ?_
      refine dg_q (i := 0) rfl (by kernel_rfl) (by kernel_rfl) (by kernel_rfl) [] (by kernel_rfl) (fun _ _ _ h => h) rfl rfl (by decide) (fun _ h => (h.wk [2]).upto ⟨rfl, rfl, rfl, rfl, rfl, rfl, trivial⟩) (qt_build rfl rfl (bld_impl_Pt_)) ?_
      refine dg_q (i := 1) rfl (by kernel_rfl) (by kernel_rfl) (by kernel_rfl) [] (by kernel_rfl) (fun _ _ _ h => h) rfl rfl (by decide) (fun _ h => (h.wk [2]).upto ⟨rfl, rfl, rfl, rfl, rfl, rfl, trivial⟩) (qt_move rfl rfl) ?_
      refine dg_q (i := 2) rfl (by kernel_rfl) (by kernel_rfl) (by kernel_rfl) [] (by kernel_rfl) (fun _ _ _ h => h) rfl rfl (by decide) (fun _ h => (h.wk [2]).upto ⟨rfl, rfl, rfl, rfl, rfl, rfl, trivial⟩) (qt_nilCheck rfl rfl) ?_
      refine dg_q (i := 3) rfl (by kernel_rfl) (by kernel_rfl) (by kernel_rfl) [] (by kernel_rfl) (fun _ _ _ h => h) rfl rfl (by decide) (fun _ h => (h.wk [2]).upto ⟨rfl, rfl, rfl, rfl, rfl, rfl, trivial⟩) (qt_fieldAddr rfl rfl tyf_impl_fracWork_0) ?_
      refine dg_q (i := 4) rfl (by kernel_rfl) (by kernel_rfl) (by kernel_rfl) [] (by kernel_rfl) (fun _ _ _ h => h) rfl rfl (by decide) (fun _ h => (h.wk [2]).upto ⟨rfl, rfl, rfl, rfl, rfl, rfl, trivial⟩) (qt_load1 rfl rfl ty1_int64 (rd1 (k := 3) rfl rfl)) ?_
      refine dg_one (i := 5) rfl (by decide) (by kernel_rfl) rfl ?_
      refine op_storeAll' (k := 2) rfl rfl rfl rfl (rfl) (by rfl) tyz_impl_Pt.szx rfl rfl rfl ?_
      refine at_rsE (by simp only [ya,yb,yc,yd,Value.cells,ye]; rfl) ?_
      refine dr_keep (fun _ h => (h.wk [2]).upto ⟨rfl, rfl, rfl, rfl, rfl, rfl, trivial⟩) ?_
      refine dg_q (i := 6) rfl (by kernel_rfl) (by kernel_rfl) (by kernel_rfl) [] (by kernel_rfl) (fun _ _ _ h => h) rfl rfl (by decide) (fun _ h => (h.wk [2]).upto ⟨rfl, rfl, rfl, rfl, rfl, rfl, trivial⟩) (qt_assign rfl rfl) ?_
      refine dg_done (by kernel_rfl) ?_
      refine norm_then ?_
      refine at_retc ?_
      refine then_ret ?_
      refine at_ret2 rfl (rvCelS (k := 2) rfl tys_impl_Pt rfl rfl) (.tmp rfl) ?_
      intro w' hs
      exact ⟨by rw [e1, e2], hs.fin⟩
     ·try simp only [za,zb,zc,zd,ze,zf,Bool.not_true,Bool.not_false,zg,zh,ne_eq,zi,zj] at c2
      obtain ⟨e1, e2⟩ := ap_good (m := m) (p := p) c2
      refine at_skip ?_
      refine norm_then ?_
      refine at_seq ?_
      refine dg_start mixed rfl ?_
      refine dg_phase 7 ?_
      refine dg_q (i := 0) rfl (by kernel_rfl) (by kernel_rfl) (by kernel_rfl) [] (by kernel_rfl) (fun _ _ _ h => h) rfl rfl (by decide) (fun _ h => h.upto ⟨rfl, rfl, rfl, rfl, rfl, rfl, trivial⟩) (qt_loadS rfl rfl tys_impl_Frac rfl (rdAll (k := 4) rfl)) ?_
      refine dg_q (i := 1) rfl (by kernel_rfl) (by kernel_rfl) (by kernel_rfl) [] (by kernel_rfl) (fun _ _ _ h => h) rfl rfl (by decide) (fun _ h => h.upto ⟨rfl, rfl, rfl, rfl, rfl, rfl, trivial⟩) (qt_call ok_impl_RoundFrac rfl rfl (fun w1 hs => RoundFrac_any (apX m p) w1)) ?_
      refine dg_q (i := 2) rfl (by kernel_rfl) (by kernel_rfl) (by kernel_rfl) [] (by kernel_rfl) (fun _ _ _ h => h) rfl rfl (by decide) (fun _ h => h.upto ⟨rfl, rfl, rfl, rfl, rfl, rfl, trivial⟩) (qt_loadS rfl rfl tys_impl_Frac rfl (rdAll (k := 5) rfl)) ?_
      refine dg_q (i := 3) rfl (by kernel_rfl) (by kernel_rfl) (by kernel_rfl) [] (by kernel_rfl) (fun _ _ _ h => h) rfl rfl (by decide) (fun _ h => h.upto ⟨rfl, rfl, rfl, rfl, rfl, rfl, trivial⟩) (qt_call ok_impl_RoundFrac rfl rfl (fun w1 hs => RoundFrac_any (apY m p) w1)) ?_
      refine dg_q (i := 4) rfl (by kernel_rfl) (by kernel_rfl) (by kernel_rfl) [] (by kernel_rfl) (fun _ _ _ h => h) rfl rfl (by decide) (fun _ h => h.upto ⟨rfl, rfl, rfl, rfl, rfl, rfl, trivial⟩) (qt_build rfl rfl (bld_impl_Pt_0_1 rfl rfl)) ?_
      refine dg_one (i := 5) rfl (by decide) (by kernel_rfl) rfl ?_
      refine op_alloc rfl tyz_impl_Pt rfl (by decide) (fun b11 => ?_)
      refine at_rsE (by simp only [ya,yb,yc,yd,Value.cells,ye]; rfl) ?_
      refine dr_keep (fun _ h => h.upto ⟨rfl, rfl, rfl, rfl, rfl, rfl, trivial⟩) ?_
      refine dg_one (i := 6) rfl (by decide) (by kernel_rfl) rfl ?_
      refine op_storeAll' (k := 6) rfl rfl rfl rfl (rfl) (by rfl) tyz_impl_Pt.szx rfl rfl rfl ?_
      refine at_rsE (by simp only [ya,yb,yc,yd,Value.cells,ye]; rfl) ?_
      refine dr_keep (fun _ h => h.upto ⟨rfl, rfl, rfl, rfl, rfl, rfl, trivial⟩) ?_
      refine dg_done (by kernel_rfl) ?_
      refine norm_then ?_
      refine at_seq ?_
      refine at_seq ?_
      refine at_region ?_
      refine at_q rfl rfl (by decide) (qt_loadS rfl rfl tys_impl_Pt rfl (rdAll (k := 6) rfl)) ?_
      refine at_q rfl rfl (by decide) (qt_call ok_impl_ValidPt rfl rfl (fun w1 hs => ValidPt_any (rfV (apX m p)) (rfV (apY m p)) w1)) ?_
      refine at_q rfl rfl (by decide) (qt_not rfl rfl) ?_
      refine at_end ?_
      refine at_cond rfl (fun c3 => ?_) (fun c3 => ?_)
      ·try simp only [za,zb,zc,zd,ze,zf,Bool.not_true,Bool.not_false,zg,zh,ne_eq,zi,zj] at c3
       refine at_seq ?_
       refine at_region ?_
       refine at_q rfl rfl (by decide) (qt_build rfl rfl (bld_impl_Pt_)) ?_
       refine at_op rfl ?_
       refine op_storeAll' (k := 2) rfl rfl rfl rfl (rfl) (by rfl) tyz_impl_Pt.szx rfl rfl rfl ?_
       refine at_rsE (by simp only [ya,yb,yc,yd,Value.cells,ye]; rfl) ?_
       refine at_q rfl rfl (by decide) (qt_assign rfl rfl) ?_
       refine at_end ?_
       refine at_retc ?_
       refine then_ret ?_
       refine at_ret2 rfl (rvCelS (k := 2) rfl tys_impl_Pt rfl rfl) (.tmp rfl) ?_
       intro w' hs
       have e3 : aqC m p = 2 := by rw [e2, c3]; rfl
       exact ⟨by rw [aqP, e3]; rfl, hs.fin⟩
      ·try simp only [za,zb,zc,zd,ze,zf,Bool.not_true,Bool.not_false,zg,zh,ne_eq,zi,zj] at c3
       refine at_skip ?_
       refine norm_then ?_
       refine at_seq ?_
       refine at_region ?_
       refine at_q rfl rfl (by decide) (qt_loadS rfl rfl tys_impl_Pt rfl (rdAll (k := 6) rfl)) ?_
       refine at_op rfl ?_
       refine op_storeAll' (k := 2) rfl rfl rfl rfl (rfl) (by rfl) tyz_impl_Pt.szx rfl rfl rfl ?_
       refine at_rsE (by simp only [ya,yb,yc,yd,Value.cells,ye]; rfl) ?_
       refine at_q rfl rfl (by decide) (qt_assign rfl rfl) ?_
       refine at_end ?_
       refine at_retc ?_
       refine at_ret2 rfl (rvCelS (k := 2) rfl tys_impl_Pt rfl rfl) (.tmp rfl) ?_
       intro w' hs
       have e3 : aqC m p = 0 := by rw [e2, c3]; rfl
       exact ⟨by rw [aqP, e3, if_pos rfl, e1], hs.fin⟩
end Go.Proofs.Ytjhaakollekjeaa
