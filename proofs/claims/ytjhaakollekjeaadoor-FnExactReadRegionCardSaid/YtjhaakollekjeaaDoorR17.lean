import Derived.Test.YtjhaakollekjeaaDoorR16
import Derived.Test.YtjhaakollekjeaaDoorR15
namespace Go.Proofs.YtjhaakollekjeaaDoor
open Go Go.RowKit
set_option linter.unusedVariables false
set_option linter.unusedSimpArgs false
set_option maxRecDepth 100000
set_option maxHeartbeats 4000000
set_option linter.unusedVariables false
set_option linter.unusedSimpArgs false
section
variable {P : Program} {n : Nat} {env : List (Nat × Value)} {w0 : Bs} {Rs : List Res} {o : Oper} {x y z : Operand} {T T' : TypeId} {l m : List UInt8} {i j : Nat}
theorem qt_lenL (ho : o.op = .call { callee := .builtin .len, args := #[x], argTypes := #[T] }) (hx : ev env x = some (sV l)) (hT : P.underlying T = some .string) : Qt P o n env w0 Rs (.int .i64 (l.length : Int)) :=
 qt_of fun a w hf _ => by
  have h := run_len_string (P := P) w T o.type (sB l) hT
  unfold execOp
  simp only [ho]
  simp [resolve, invoke, builtin, hf.ev hx, h, goInt, ba_size]
theorem qt_idxL (ho : o.op = .index T x y) (hx : ev env x = some (sV l)) (hy : ev env y = some (.int .i64 (j : Int))) (hT : P.underlying T = some .string) (hj : j < l.length) : Qt P o n env w0 Rs (u8V l[j]) :=
 qt_of fun a w hf _ => by
  have h := run_index_string (P := P) w T (sB l) .i64 (j : Int) hT
  rw [dif_pos ⟨by omega, by rw [ba_size]; omega⟩] at h
  unfold execOp
  simp only [ho, hf.ev hx, hf.ev hy]
  simp [h]
  rfl
theorem ba_ext (l : List UInt8) (i j : Nat) : (sB l).extract i j = sB ((l.drop i).take (j - i)) := by
 apply ByteArray.ext
 rw [ByteArray.data_extract]
 simp
theorem qt_toL (ho : o.op = .slice T x none (some y) none) (hx : ev env x = some (sV l)) (hy : ev env y = some (.int .i64 (j : Int))) (hT : P.underlying T = some .string) (hj : j ≤ l.length) : Qt P o n env w0 Rs (sV (l.take j)) :=
 qt_of fun a w hf _ => by
  have h := run_slice_string_h (P := P) w T (sB l) hT .i64 (j : Int) (by omega) (by rw [ba_size]; omega)
  rw [Int.toNat_natCast, ba_ext, List.drop_zero, Nat.sub_zero] at h
  unfold execOp
  simp only [ho, hf.ev hx, hf.ev hy, Option.map_some, Option.map_none]
  simp [run_sliceAt_string (P := P) w T _ _ _ _ hT, h]
theorem qt_fromL (ho : o.op = .slice T x (some y) none none) (hx : ev env x = some (sV l)) (hy : ev env y = some (.int .i64 (j : Int))) (hT : P.underlying T = some .string) (hj : j ≤ l.length) : Qt P o n env w0 Rs (sV (l.drop j)) :=
 qt_of fun a w hf _ => by
  have h := run_slice_string_l (P := P) w T (sB l) hT .i64 (j : Int) (by omega) (by rw [ba_size]; omega)
  rw [Int.toNat_natCast, ba_ext, ba_size, List.take_of_length_le (by rw [List.length_drop]; omega)] at h
  unfold execOp
  simp only [ho, hf.ev hx, hf.ev hy, Option.map_some, Option.map_none]
  simp [run_sliceAt_string (P := P) w T _ _ _ _ hT, h]
theorem qt_midL (ho : o.op = .slice T x (some y) (some z) none) (hx : ev env x = some (sV l)) (hy : ev env y = some (.int .i64 (i : Int))) (hz : ev env z = some (.int .i64 (j : Int))) (hT : P.underlying T = some .string) (hij : i ≤ j) (hj : j ≤ l.length) : Qt P o n env w0 Rs (sV ((l.drop i).take (j - i))) :=
 qt_of fun a w hf _ => by
  have h := run_slice_string (P := P) w T (sB l) .i64 .i64 (i : Int) (j : Int) hT (by omega) (by omega) (by rw [ba_size]; omega)
  rw [Int.toNat_natCast, Int.toNat_natCast, ba_ext] at h
  unfold execOp
  simp only [ho, hf.ev hx, hf.ev hy, hf.ev hz, Option.map_some, Option.map_none]
  simp [run_sliceAt_string (P := P) w T _ _ _ _ hT, h]
theorem ba_list (l : List UInt8) : (sB l).toList = l := ByteArray.toList_mk l
theorem qt_neqL (ho : o.op = .binOp .neq T x y T') (hx : ev env x = some (sV l)) (hy : ev env y = some (sV m)) : Qt P o n env w0 Rs (.bool (!decide (l = m))) :=
 (qt_neqStr ho hx hy).as (by rw [ba_list, ba_list]; congr 1; by_cases h : l = m <;> simp [h])
theorem qt_eqlL (ho : o.op = .binOp .eql T x y T') (hx : ev env x = some (sV l)) (hy : ev env y = some (sV m)) : Qt P o n env w0 Rs (.bool (decide (l = m))) :=
 qt_of fun ac w hf _ => by
  unfold execOp
  simp only [ho, hf.ev hx, hf.ev hy]
  simp only [go_sem, Op.stringOp]
  rw [ba_list, ba_list]
  by_cases h : l = m <;> simp [h]
theorem qt_eql8 {b : UInt8} (c : UInt8) (ho : o.op = .binOp .eql T x y T') (hx : ev env x = some (u8V b)) (hy : ev env y = some (u8V c)) : Qt P o n env w0 Rs (.bool (decide (b = c))) :=
 qt_of fun a w hf _ => by
  unfold execOp; simp only [ho, hf.ev hx, hf.ev hy]; simp [go_sem]
  by_cases h : b = c
  ·simp [h]
  ·have : ¬ ((b.toNat : Int) = (c.toNat : Int)) := fun k => h (UInt8.toNat_inj.1 (by omega))
   simp [h, this]
theorem qt_neq8 {b : UInt8} (c : UInt8) (ho : o.op = .binOp .neq T x y T') (hx : ev env x = some (u8V b)) (hy : ev env y = some (u8V c)) : Qt P o n env w0 Rs (.bool (!decide (b = c))) :=
 qt_of fun a w hf _ => by
  unfold execOp; simp only [ho, hf.ev hx, hf.ev hy]; simp [go_sem]
  by_cases h : b = c
  ·simp [h]
  ·have : ¬ ((b.toNat : Int) = (c.toNat : Int)) := fun k => h (UInt8.toNat_inj.1 (by omega))
   simp [h, this]
theorem qt_geq8 {b : UInt8} {c : Int} (ho : o.op = .binOp .geq T x y T') (hx : ev env x = some (u8V b)) (hy : ev env y = some (.int .u8 c)) : Qt P o n env w0 Rs (.bool (decide (c ≤ (b.toNat : Int)))) :=
 qt_of fun a w hf _ => by unfold execOp; simp only [ho, hf.ev hx, hf.ev hy]; simp [go_sem]
theorem qt_leq8 {b : UInt8} {c : Int} (ho : o.op = .binOp .leq T x y T') (hx : ev env x = some (u8V b)) (hy : ev env y = some (.int .u8 c)) : Qt P o n env w0 Rs (.bool (decide ((b.toNat : Int) ≤ c))) :=
 qt_of fun a w hf _ => by unfold execOp; simp only [ho, hf.ev hx, hf.ev hy]; simp [go_sem]
theorem qt_sub8 {b : UInt8} {c : Nat} (ho : o.op = .binOp .sub T x y T') (hx : ev env x = some (u8V b)) (hy : ev env y = some (.int .u8 (c : Int))) (h : c ≤ b.toNat) : Qt P o n env w0 Rs (.int .u8 ((b.toNat - c : Nat) : Int)) :=
 qt_of fun a w hf _ => by
  have hb := b.toNat_lt
  have e : IntKind.u8.wrap ((b.toNat : Int) - (c : Int)) = ((b.toNat - c : Nat) : Int) := by simp [IntKind.wrap, IntKind.bits, IntKind.signed]; omega
  unfold execOp; simp only [ho, hf.ev hx, hf.ev hy]; simp [go_sem, e]
end
theorem dig_iff (b : UInt8) : digB b = (decide ((48 : Int) ≤ (b.toNat : Int)) && decide ((b.toNat : Int) ≤ 57)) := by
 unfold digB
 rw [Bool.eq_iff_iff, Bool.and_eq_true, Bool.and_eq_true, decide_eq_true_iff, decide_eq_true_iff, decide_eq_true_iff, decide_eq_true_iff]
 omega
theorem isDigit_any (b : UInt8) (w : World) : Calls Tryd.prog 99 #[u8V b] w fun e w' => e = .returned (.bool (digB b)) ∧ Over w w' := by
 refine walk_from (m := 9) (Tryd.func99) rfl rfl (Nat.le_of_ble_eq_true rfl) ?_
 refine at_seq ?_
 refine at_region ?_
 refine at_q rfl rfl (by decide) (qt_assign rfl rfl) ?_
 refine at_end ?_
 refine at_seq ?_
 refine at_region ?_
 refine at_q rfl rfl (by decide) (qt_move rfl rfl) ?_
 refine at_q rfl rfl (by decide) (qt_geq8 rfl rfl rfl) ?_
 refine at_q rfl rfl (by decide) (qt_move rfl rfl) ?_
 refine at_bsplit 5 rfl (fun g1 => ?_) (fun g1 => ?_)
 ·try simp only [za,zb,zc,zd,ze,zf,Bool.not_true,Bool.not_false,zg,zh,ne_eq,zi,zj] at g1
  refine at_on rfl rfl rfl rfl ?_
  refine op_q rfl (by decide) (qt_move rfl rfl) ?_
  refine at_on rfl rfl rfl rfl ?_
  refine op_q rfl (by decide) (qt_leq8 rfl rfl rfl) ?_
  refine at_q rfl rfl (by decide) (qt_pickT rfl rfl rfl) ?_
  refine at_q rfl rfl (by decide) (qt_assign rfl rfl) ?_
  refine at_end ?_
  refine at_retc ?_
  refine at_ret1 rfl (.tmp rfl) ?_
  intro w' hs
  exact ⟨by rw [dig_iff]; first | (rw [decide_eq_true g1]; rfl) | (rw [decide_eq_false (show ¬ (48 : Int) ≤ (b.toNat : Int) by omega)]; rfl), hs.fin⟩
 ·try simp only [za,zb,zc,zd,ze,zf,Bool.not_true,Bool.not_false,zg,zh,ne_eq,zi,zj] at g1
  refine at_off rfl rfl rfl rfl (by decide) rfl (by decide) ?_
  refine at_off rfl rfl rfl rfl (by decide) rfl (by decide) ?_
  refine at_q rfl rfl (by decide) (qt_pickF rfl rfl rfl) ?_
  refine at_q rfl rfl (by decide) (qt_assign rfl rfl) ?_
  refine at_end ?_
  refine at_retc ?_
  refine at_ret1 rfl (.tmp rfl) ?_
  intro w' hs
  exact ⟨by rw [dig_iff]; first | (rw [decide_eq_true g1]; rfl) | (rw [decide_eq_false (show ¬ (48 : Int) ≤ (b.toNat : Int) by omega)]; rfl), hs.fin⟩
theorem l01Digit_any (b : UInt8) (w : World) : Calls Tryd.prog 107 #[u8V b] w fun e w' => e = .returned (.bool (digB b)) ∧ Over w w' := by
 refine walk_from (m := 9) (Tryd.func107) rfl rfl (Nat.le_of_ble_eq_true rfl) ?_
 refine at_seq ?_
 refine at_region ?_
 refine at_q rfl rfl (by decide) (qt_assign rfl rfl) ?_
 refine at_end ?_
 refine at_seq ?_
 refine at_region ?_
 refine at_q rfl rfl (by decide) (qt_move rfl rfl) ?_
 refine at_q rfl rfl (by decide) (qt_geq8 rfl rfl rfl) ?_
 refine at_q rfl rfl (by decide) (qt_move rfl rfl) ?_
 refine at_bsplit 5 rfl (fun g1 => ?_) (fun g1 => ?_)
 ·try simp only [za,zb,zc,zd,ze,zf,Bool.not_true,Bool.not_false,zg,zh,ne_eq,zi,zj] at g1
  refine at_on rfl rfl rfl rfl ?_
  refine op_q rfl (by decide) (qt_move rfl rfl) ?_
  refine at_on rfl rfl rfl rfl ?_
  refine op_q rfl (by decide) (qt_leq8 rfl rfl rfl) ?_
  refine at_q rfl rfl (by decide) (qt_pickT rfl rfl rfl) ?_
  refine at_q rfl rfl (by decide) (qt_assign rfl rfl) ?_
  refine at_end ?_
  refine at_retc ?_
  refine at_ret1 rfl (.tmp rfl) ?_
  intro w' hs
  exact ⟨by rw [dig_iff]; first | (rw [decide_eq_true g1]; rfl) | (rw [decide_eq_false (show ¬ (48 : Int) ≤ (b.toNat : Int) by omega)]; rfl), hs.fin⟩
 ·try simp only [za,zb,zc,zd,ze,zf,Bool.not_true,Bool.not_false,zg,zh,ne_eq,zi,zj] at g1
  refine at_off rfl rfl rfl rfl (by decide) rfl (by decide) ?_
  refine at_off rfl rfl rfl rfl (by decide) rfl (by decide) ?_
  refine at_q rfl rfl (by decide) (qt_pickF rfl rfl rfl) ?_
  refine at_q rfl rfl (by decide) (qt_assign rfl rfl) ?_
  refine at_end ?_
  refine at_retc ?_
  refine at_ret1 rfl (.tmp rfl) ?_
  intro w' hs
  exact ⟨by rw [dig_iff]; first | (rw [decide_eq_true g1]; rfl) | (rw [decide_eq_false (show ¬ (48 : Int) ≤ (b.toNat : Int) by omega)]; rfl), hs.fin⟩
end Go.Proofs.YtjhaakollekjeaaDoor
