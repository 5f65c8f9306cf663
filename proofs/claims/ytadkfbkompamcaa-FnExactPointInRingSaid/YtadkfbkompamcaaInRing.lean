/- A point in a ring: both sides. -/
import Derived.Test.YtadkfbkompamcaaIn2
import Derived.Test.YtadkfbkompamcaaLaw
namespace Go.Proofs.Ytadkfbkompamcaa
open Go Go.RowKit
set_option linter.unusedVariables false
set_option linter.unusedSimpArgs false
set_option maxRecDepth 100000
set_option maxHeartbeats 4000000
set_option linter.unusedVariables false

theorem ringsOne {w1 : World} {b T : Nat} {A : Option Addr} {n c : Nat} {xs : List (Int × Int)} (hb : w1.heap[b]? = some (.cells [.slice A n c].toArray T (0, 0))) (h : Pts w1 A n xs) (hn : (n : Int) ≤ 1048576) : Rings w1 (some ⟨b, 0, none⟩) 1 [xs] := by
  refine ⟨rfl, fun _ => ⟨b, 0, rfl, lt_of_some hb, fun k hk => ?_⟩⟩
  obtain rfl : k = 0 := by omega
  have e : rg [xs] 0 = xs := rfl
  have hl := h.1
  rw [e, hl]
  exact ⟨A, c, (cell_of_row w1 b _ _ T (0, 0) hb).trans rfl, h, by omega⟩
theorem totalOne {n : Nat} {xs : List (Int × Int)} (hl : xs.length = n) (hn : (n : Int) ≤ 1048576) : (total [xs] : Int) ≤ 1048577 := by
  have : total [xs] = 1 + (0 + xs.length) := rfl
  omega
theorem PointInRing_any (A : Option Addr) (n c : Nat) (xs : List (Int × Int)) (x y : Int) (w : World) (h : Pts w A n xs) (hn : (n : Int) ≤ 1048576) :
    Calls Try.prog 25 #[ringV A n c, ptV x y] w fun e w' => e = .returned (pinV [xs] x y) ∧ Over w w' := by
  have hl := h.1
  refine walk_from (m := 13) (Try.func25) rfl rfl (Nat.le_of_ble_eq_true rfl) ?_
  refine at_seq ?_
  refine at_region ?_
  refine at_op rfl ?_
  refine op_box rfl rfl (rfl) rfl (by decide) (fun b1 => ?_)
  refine at_rsE (by simp only [List.nil_append, List.cons_append, List.set_cons_zero, List.set_cons_succ, Value.cells, List.toList_toArray]; rfl) ?_
  refine at_op rfl ?_
  refine op_box rfl rfl (rfl) rfl (by decide) (fun b2 => ?_)
  refine at_rsE (by simp only [List.nil_append, List.cons_append, List.set_cons_zero, List.set_cons_succ, Value.cells, List.toList_toArray]; rfl) ?_
  refine at_q rfl rfl (by decide) (qt_assign rfl rfl) ?_
  refine at_q rfl rfl (by decide) (qt_assign rfl rfl) ?_
  refine at_end ?_
  refine at_seq ?_
  refine at_region ?_
  refine at_q rfl rfl (by decide) (qt_loadS rfl rfl tys_impl_Ring rfl (rdAll (k := 0) rfl)) ?_
  refine at_op rfl ?_
  refine op_buildSlice rfl rfl (bsl_sl_impl_Ring_1_0 rfl) rfl (by decide) (fun b3 => ?_)
  refine at_rsE (by simp only [List.nil_append, List.cons_append, List.set_cons_zero, List.set_cons_succ, Value.cells, List.toList_toArray]; rfl) ?_
  refine at_q rfl rfl (by decide) (qt_build rfl rfl (bld_impl_Region_0 rfl)) ?_
  refine at_q rfl rfl (by decide) (qt_loadS rfl rfl tys_impl_Pt rfl (rdAll (k := 1) rfl)) ?_
  refine at_q rfl rfl (by decide) (qt_call ok_impl_PointIn rfl rfl (fun w1 hs => PointIn_any _ 1 1 [xs] x y w1 (ringsOne (hs.cel (k := 2) rfl) (h.over hs.fin) hn) (totalOne hl hn))) ?_
  refine at_q rfl rfl (by decide) (qt_extract rfl rfl rfl) ?_
  refine at_q rfl rfl (by decide) (qt_extract rfl rfl rfl) ?_
  refine at_q rfl rfl (by decide) (qt_assign rfl rfl) ?_
  refine at_q rfl rfl (by decide) (qt_assign rfl rfl) ?_
  refine at_end ?_
  refine at_retc ?_
  refine at_ret2 rfl (.tmp rfl) (.tmp rfl) ?_
  intro w' hs
  exact ⟨rfl, hs.fin⟩
theorem specPointInRing_any (A : Option Addr) (n c : Nat) (xs : List (Int × Int)) (x y : Int) (w : World) (h : Pts w A n xs) (hn : (n : Int) ≤ 1048576) :
    Calls Try.prog 22 #[ringV A n c, ptV x y] w fun e w' => e = .returned (pinV [xs] x y) ∧ Over w w' := by
  have hl := h.1
  refine walk_from (m := 13) (Try.func22) rfl rfl (Nat.le_of_ble_eq_true rfl) ?_
  refine at_seq ?_
  refine at_region ?_
  refine at_op rfl ?_
  refine op_box rfl rfl (rfl) rfl (by decide) (fun b1 => ?_)
  refine at_rsE (by simp only [List.nil_append, List.cons_append, List.set_cons_zero, List.set_cons_succ, Value.cells, List.toList_toArray]; rfl) ?_
  refine at_op rfl ?_
  refine op_box rfl rfl (rfl) rfl (by decide) (fun b2 => ?_)
  refine at_rsE (by simp only [List.nil_append, List.cons_append, List.set_cons_zero, List.set_cons_succ, Value.cells, List.toList_toArray]; rfl) ?_
  refine at_q rfl rfl (by decide) (qt_assign rfl rfl) ?_
  refine at_q rfl rfl (by decide) (qt_assign rfl rfl) ?_
  refine at_end ?_
  refine at_seq ?_
  refine at_region ?_
  refine at_q rfl rfl (by decide) (qt_loadS rfl rfl tys_impl_Ring rfl (rdAll (k := 0) rfl)) ?_
  refine at_op rfl ?_
  refine op_buildSlice rfl rfl (bsl_sl_impl_Ring_1_0 rfl) rfl (by decide) (fun b3 => ?_)
  refine at_rsE (by simp only [List.nil_append, List.cons_append, List.set_cons_zero, List.set_cons_succ, Value.cells, List.toList_toArray]; rfl) ?_
  refine at_q rfl rfl (by decide) (qt_build rfl rfl (bld_impl_Region_0 rfl)) ?_
  refine at_q rfl rfl (by decide) (qt_loadS rfl rfl tys_impl_Pt rfl (rdAll (k := 1) rfl)) ?_
  refine at_q rfl rfl (by decide) (qt_call ok_spec_PointIn rfl rfl (fun w1 hs => specPointIn_any _ 1 1 [xs] x y w1 (ringsOne (hs.cel (k := 2) rfl) (h.over hs.fin) hn) (totalOne hl hn))) ?_
  refine at_q rfl rfl (by decide) (qt_extract rfl rfl rfl) ?_
  refine at_q rfl rfl (by decide) (qt_extract rfl rfl rfl) ?_
  refine at_q rfl rfl (by decide) (qt_assign rfl rfl) ?_
  refine at_q rfl rfl (by decide) (qt_assign rfl rfl) ?_
  refine at_end ?_
  refine at_retc ?_
  refine at_ret2 rfl (.tmp rfl) (.tmp rfl) ?_
  intro w' hs
  exact ⟨rfl, hs.fin⟩
end Go.Proofs.Ytadkfbkompamcaa
