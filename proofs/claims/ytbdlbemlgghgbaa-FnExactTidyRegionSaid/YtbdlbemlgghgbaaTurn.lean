/- Rings compared and turned: both sides. -/
import Derived.Test.YtbdlbemlgghgbaaOrd
import Derived.Test.YtbdlbemlgghgbaaRev
import Derived.Lib.AppendZeros
import Derived.Test.YtbdlbemlgghgbaaSnapped2
namespace Go.Proofs.Ytbdlbemlgghgbaa
open Go Go.RowKit
set_option linter.unusedVariables false
set_option linter.unusedSimpArgs false
set_option maxRecDepth 100000
set_option maxHeartbeats 4000000
set_option linter.unusedVariables false
set_option linter.unusedSimpArgs false

theorem compareYX_p (p q : Pn) (w : World) (hp : bdW p) (hq : bdW q) : Calls Try.prog 81 #[pV p, pV q] w fun e w' => e = .returned (.int .i64 (yxC p q)) ∧ Over w w' := by
  obtain ⟨⟨p1, p2⟩, p3, p4⟩ := hp
  obtain ⟨⟨q1, q2⟩, q3, q4⟩ := hq
  refine walk_from (m := 22) (Try.func81) rfl rfl (Nat.le_of_ble_eq_true rfl) ?_
  refine at_seq ?_
  refine at_region ?_
  refine at_op rfl ?_
  refine op_box rfl rfl (rfl) rfl (by decide) (fun b1 => ?_)
  refine at_rsE (by simp only [List.nil_append, List.cons_append, List.set_cons_zero, List.set_cons_succ, Value.cells, List.toList_toArray]; rfl) ?_
  refine at_op rfl ?_
  refine op_box rfl rfl (rfl) rfl (by decide) (fun b2 => ?_)
  refine at_rsE (by simp only [List.nil_append, List.cons_append, List.set_cons_zero, List.set_cons_succ, Value.cells, List.toList_toArray]; rfl) ?_
  refine at_q rfl rfl (by decide) (qt_assign rfl rfl) ?_
  refine at_end ?_
  refine at_seq ?_
  refine at_seq ?_
  refine at_region ?_
  refine at_q rfl rfl (by decide) (qt_fieldAddr rfl rfl tyf_impl_Pt_1) ?_
  refine at_q rfl rfl (by decide) (qt_load1 rfl rfl ty1_int64 (rd1 (k := 0) rfl rfl)) ?_
  refine at_q rfl rfl (by decide) (qt_fieldAddr rfl rfl tyf_impl_Pt_1) ?_
  refine at_q rfl rfl (by decide) (qt_load1 rfl rfl ty1_int64 (rd1 (k := 1) rfl rfl)) ?_
  refine at_q rfl rfl (by decide) (qt_neq rfl rfl rfl) ?_
  refine at_end ?_
  refine at_cond rfl (fun c1 => ?_) (fun c1 => ?_)
  · try simp only [decide_eq_true_eq, decide_eq_false_iff_not, beq_iff_eq, beq_eq_false_iff_ne, Bool.not_eq_true', Bool.not_eq_false', Bool.not_true, Bool.not_false, Int.not_lt, Int.not_le, ne_eq, Nat.not_lt, Nat.not_le] at c1
    refine at_seq ?_
    refine at_region ?_
    refine at_q rfl rfl (by decide) (qt_fieldAddr rfl rfl tyf_impl_Pt_1) ?_
    refine at_q rfl rfl (by decide) (qt_load1 rfl rfl ty1_int64 (rd1 (k := 0) rfl rfl)) ?_
    refine at_q rfl rfl (by decide) (qt_fieldAddr rfl rfl tyf_impl_Pt_1) ?_
    refine at_q rfl rfl (by decide) (qt_load1 rfl rfl ty1_int64 (rd1 (k := 1) rfl rfl)) ?_
    refine at_q rfl rfl (by decide) (qt_sub rfl rfl rfl (by omega) (by omega)) ?_
    refine at_q rfl rfl (by decide) (qt_call ok_impl_sign64 rfl rfl (fun w h => Calls.still (sign64_any _ w))) ?_
    refine at_q rfl rfl (by decide) (qt_assign rfl rfl) ?_
    refine at_end ?_
    refine at_retc ?_
    refine then_ret ?_
    refine at_ret1 rfl (.tmp rfl) ?_
    intro w' hs
    exact ⟨by rw [yxC, if_neg c1], hs.fin⟩
  · try simp only [decide_eq_true_eq, decide_eq_false_iff_not, beq_iff_eq, beq_eq_false_iff_ne, Bool.not_eq_true', Bool.not_eq_false', Bool.not_true, Bool.not_false, Int.not_lt, Int.not_le, ne_eq, Nat.not_lt, Nat.not_le] at c1
    refine at_skip ?_
    refine norm_then ?_
    refine at_seq ?_
    refine at_region ?_
    refine at_q rfl rfl (by decide) (qt_fieldAddr rfl rfl tyf_impl_Pt_0) ?_
    refine at_q rfl rfl (by decide) (qt_load1 rfl rfl ty1_int64 (rd1 (k := 0) rfl rfl)) ?_
    refine at_q rfl rfl (by decide) (qt_fieldAddr rfl rfl tyf_impl_Pt_0) ?_
    refine at_q rfl rfl (by decide) (qt_load1 rfl rfl ty1_int64 (rd1 (k := 1) rfl rfl)) ?_
    refine at_q rfl rfl (by decide) (qt_sub rfl rfl rfl (by omega) (by omega)) ?_
    refine at_q rfl rfl (by decide) (qt_call ok_impl_sign64 rfl rfl (fun w h => Calls.still (sign64_any _ w))) ?_
    refine at_q rfl rfl (by decide) (qt_assign rfl rfl) ?_
    refine at_end ?_
    refine at_retc ?_
    refine at_ret1 rfl (.tmp rfl) ?_
    intro w' hs
    exact ⟨by rw [yxC, if_pos (by omega)], hs.fin⟩
theorem CompareFunc_any (A B : Option Addr) (n c m d : Nat) (xs ys : List Pn) (w : World) (h : Pts w A n xs) (h' : Pts w B m ys) (hx : ∀ p ∈ xs, bdW p) (hy : ∀ p ∈ ys, bdW p) (hn : n ≤ 1099511627776) (hm : m ≤ 1099511627776) :
    Calls Try.prog 84 #[.slice A n c, .slice B m d, .func (.func 81) #[] #[]] w fun e w' => e = .returned (.int .i64 (lexC xs ys)) ∧ Over w w' := by
  have hl := h.1
  have hl' := h'.1
  refine walk_from (m := 39) (Try.func84) rfl rfl (Nat.le_of_ble_eq_true rfl) ?_
  refine at_seq ?_
  refine at_region ?_
  refine at_q rfl rfl (by decide) (qt_assign rfl rfl) ?_
  refine at_end ?_
  refine at_seq ?_
  refine at_seq ?_
  refine at_region ?_
  refine at_q rfl rfl (by decide) (qt_move rfl rfl) ?_
  refine at_q rfl rfl (by decide) (qt_len rfl rfl tyl_sl_impl_Pt) ?_
  refine at_q rfl rfl (by decide) (qt_move rfl rfl) ?_
  refine at_end ?_
  refine at_block ?_
  refine at_loopk (X := Nat) (fun k => k ≤ n ∧ k ≤ m ∧ lexC (xs.drop k) (ys.drop k) = lexC xs ys) (fun k => n - k) (fun k => [(13, .int .i64 (k : Int))]) (C := [(0, _), (1, _), (2, _), (6, _), (11, _), (12, _)]) ⟨rfl, rfl, rfl, rfl, rfl, rfl, trivial⟩ 0 (⟨Nat.zero_le _, Nat.zero_le _, rfl⟩) ⟨rfl, rfl, rfl, rfl, rfl, rfl, rfl, trivial⟩ ?_
  intro k hk L hL1
  refine at_envE (by simp only [List.nil_append, List.cons_append]; rfl) ?_
  obtain ⟨hk1, hk2, hk3⟩ := hk
  refine at_seq ?_
  refine at_region ?_
  refine at_q rfl rfl (by decide) (qt_lss rfl rfl rfl) ?_
  refine at_end ?_
  refine at_seq ?_
  refine at_cond rfl (fun c1 => ?_) (fun c1 => ?_)
  · try simp only [decide_eq_true_eq, decide_eq_false_iff_not, beq_iff_eq, beq_eq_false_iff_ne, Bool.not_eq_true', Bool.not_eq_false', Bool.not_true, Bool.not_false, Int.not_lt, Int.not_le, ne_eq, Nat.not_lt, Nat.not_le] at c1
    have hlt : k < n := (by omega)
    obtain ⟨eb, eo, rfl, _⟩ := h.2 (by omega)
    refine at_skip ?_
    refine norm_then ?_
    refine at_seq ?_
    refine at_block ?_
    refine at_seq ?_
    refine at_region ?_
    refine at_q rfl rfl (by decide) (qt_move rfl rfl) ?_
    refine at_q rfl rfl (by decide) (qt_index rfl rfl rfl tyl_sl_impl_Pt (by omega)) ?_
    refine at_q rfl rfl (by decide) (qt_loadS rfl rfl tys_impl_Pt rfl (rdPts (b := eb) (o := eo) h hlt)) ?_
    refine at_op rfl ?_
    refine op_alloc rfl tyz_impl_Pt rfl (by decide) (fun b1 => ?_)
    refine at_rsE (by simp only [List.nil_append, List.cons_append, List.set_cons_zero, List.set_cons_succ, Value.cells, List.toList_toArray]; rfl) ?_
    refine at_q rfl rfl (by decide) (qt_assign rfl rfl) ?_
    refine at_op rfl ?_
    refine op_storeAll' (k := 0) rfl rfl rfl rfl (rfl) (by rfl) tyz_impl_Pt.szx rfl rfl rfl ?_
    refine at_rsE (by simp only [List.nil_append, List.cons_append, List.set_cons_zero, List.set_cons_succ, Value.cells, List.toList_toArray]; rfl) ?_
    refine at_end ?_
    refine at_seq ?_
    refine at_seq ?_
    refine at_region ?_
    refine at_q rfl rfl (by decide) (qt_move rfl rfl) ?_
    refine at_q rfl rfl (by decide) (qt_move rfl rfl) ?_
    refine at_q rfl rfl (by decide) (qt_len rfl rfl tyl_sl_impl_Pt) ?_
    refine at_q rfl rfl (by decide) (qt_geq rfl rfl rfl) ?_
    refine at_end ?_
    refine at_cond rfl (fun c2 => ?_) (fun c2 => ?_)
    · try simp only [decide_eq_true_eq, decide_eq_false_iff_not, beq_iff_eq, beq_eq_false_iff_ne, Bool.not_eq_true', Bool.not_eq_false', Bool.not_true, Bool.not_false, Int.not_lt, Int.not_le, ne_eq, Nat.not_lt, Nat.not_le] at c2
      have hmk : m ≤ k := (by omega)
      refine at_seq ?_
      refine at_region ?_
      refine at_q rfl rfl (by decide) (qt_assign rfl rfl) ?_
      refine at_end ?_
      refine at_retc ?_
      refine then_ret ?_
      refine pass_ret ?_
      refine then_ret ?_
      refine then_ret ?_
      refine pass_ret ?_
      refine then_ret ?_
      refine at_ret1 rfl (.tmp rfl) ?_
      intro w' hs
      exact ⟨by rw [← hk3, lexC_out (by omega) (by omega)], hs.fin⟩
    · try simp only [decide_eq_true_eq, decide_eq_false_iff_not, beq_iff_eq, beq_eq_false_iff_ne, Bool.not_eq_true', Bool.not_eq_false', Bool.not_true, Bool.not_false, Int.not_lt, Int.not_le, ne_eq, Nat.not_lt, Nat.not_le] at c2
      have hmk : k < m := (by omega)
      obtain ⟨fb, fo, rfl, _⟩ := h'.2 (by omega)
      refine at_skip ?_
      refine norm_then ?_
      refine at_seq ?_
      refine at_region ?_
      refine at_q rfl rfl (by decide) (qt_move rfl rfl) ?_
      refine at_q rfl rfl (by decide) (qt_move rfl rfl) ?_
      refine at_q rfl rfl (by decide) (qt_index rfl rfl rfl tyl_sl_impl_Pt (by omega)) ?_
      refine at_q rfl rfl (by decide) (qt_loadS rfl rfl tys_impl_Pt rfl (rdPts (b := fb) (o := fo) h' hmk)) ?_
      refine at_op rfl ?_
      refine op_alloc rfl tyz_impl_Pt rfl (by decide) (fun b2 => ?_)
      refine at_rsE (by simp only [List.nil_append, List.cons_append, List.set_cons_zero, List.set_cons_succ, Value.cells, List.toList_toArray]; rfl) ?_
      refine at_op rfl ?_
      refine op_storeAll' (k := 1) rfl rfl rfl rfl (rfl) (by rfl) tyz_impl_Pt.szx rfl rfl rfl ?_
      refine at_rsE (by simp only [List.nil_append, List.cons_append, List.set_cons_zero, List.set_cons_succ, Value.cells, List.toList_toArray]; rfl) ?_
      refine at_end ?_
      refine at_seq ?_
      refine at_region ?_
      refine at_q rfl rfl (by decide) (qt_move rfl rfl) ?_
      refine at_q rfl rfl (by decide) (qt_loadS rfl rfl tys_impl_Pt rfl (rdAll (k := 0) rfl)) ?_
      refine at_q rfl rfl (by decide) (qt_loadS rfl rfl tys_impl_Pt rfl (rdAll (k := 1) rfl)) ?_
      refine at_q rfl rfl (by decide) (qt_callk ok_impl_compareYX rfl rfl rfl (fun w1 hs => compareYX_p (pt xs k) (pt ys k) w1 (hx _ (by rw [← pt_at (by omega)]; exact List.getElem_mem _)) (hy _ (by rw [← pt_at (by omega)]; exact List.getElem_mem _)))) ?_
      refine at_q rfl rfl (by decide) (qt_assign rfl rfl) ?_
      refine at_end ?_
      refine at_seq ?_
      refine at_region ?_
      refine at_q rfl rfl (by decide) (qt_move rfl rfl) ?_
      refine at_q rfl rfl (by decide) (qt_neq rfl rfl rfl) ?_
      refine at_end ?_
      refine at_cond rfl (fun c3 => ?_) (fun c3 => ?_)
      · try simp only [decide_eq_true_eq, decide_eq_false_iff_not, beq_iff_eq, beq_eq_false_iff_ne, Bool.not_eq_true', Bool.not_eq_false', Bool.not_true, Bool.not_false, Int.not_lt, Int.not_le, ne_eq, Nat.not_lt, Nat.not_le] at c3
        refine at_seq ?_
        refine at_region ?_
        refine at_q rfl rfl (by decide) (qt_move rfl rfl) ?_
        refine at_q rfl rfl (by decide) (qt_assign rfl rfl) ?_
        refine at_end ?_
        refine at_retc ?_
        refine pass_ret ?_
        refine then_ret ?_
        refine then_ret ?_
        refine pass_ret ?_
        refine then_ret ?_
        refine at_ret1 rfl (.tmp rfl) ?_
        intro w' hs
        exact ⟨by rw [← hk3, lexC_ne (by omega) (by omega) (fun e => c3 (yxC_zero.2 e))], hs.fin⟩
      · try simp only [decide_eq_true_eq, decide_eq_false_iff_not, beq_iff_eq, beq_eq_false_iff_ne, Bool.not_eq_true', Bool.not_eq_false', Bool.not_true, Bool.not_false, Int.not_lt, Int.not_le, ne_eq, Nat.not_lt, Nat.not_le] at c3
        refine at_skip ?_
        refine norm_block ?_
        refine norm_then ?_
        refine at_region ?_
        refine at_q rfl rfl (by decide) (qt_add rfl rfl rfl (by omega) (by omega)) ?_
        refine at_q rfl rfl (by decide) (qt_move rfl rfl) ?_
        refine at_end ?_
        exact at_againk hL1 (k + 1) (⟨by omega, by omega, by rw [← lexC_eq (by omega) (by omega) (yxC_zero.1 (by omega))]; exact hk3⟩) (by omega) ⟨vi (by omega), rfl, rfl, rfl, rfl, rfl, rfl, trivial⟩ (fun _ h => h.upto trivial)
  · try simp only [decide_eq_true_eq, decide_eq_false_iff_not, beq_iff_eq, beq_eq_false_iff_ne, Bool.not_eq_true', Bool.not_eq_false', Bool.not_true, Bool.not_false, Int.not_lt, Int.not_le, ne_eq, Nat.not_lt, Nat.not_le] at c1
    have hkn : k = n := (by omega)
    refine at_exit ?_
    refine pass_then (fun h => by cases h) ?_
    refine pass_then (fun h => by cases h) ?_
    refine pass_hit ?_
    refine norm_then ?_
    refine at_seq ?_
    refine at_seq ?_
    refine at_region ?_
    refine at_q rfl rfl (by decide) (qt_move rfl rfl) ?_
    refine at_q rfl rfl (by decide) (qt_len rfl rfl tyl_sl_impl_Pt) ?_
    refine at_q rfl rfl (by decide) (qt_move rfl rfl) ?_
    refine at_q rfl rfl (by decide) (qt_len rfl rfl tyl_sl_impl_Pt) ?_
    refine at_q rfl rfl (by decide) (qt_lss rfl rfl rfl) ?_
    refine at_end ?_
    refine at_cond rfl (fun c4 => ?_) (fun c4 => ?_)
    · try simp only [decide_eq_true_eq, decide_eq_false_iff_not, beq_iff_eq, beq_eq_false_iff_ne, Bool.not_eq_true', Bool.not_eq_false', Bool.not_true, Bool.not_false, Int.not_lt, Int.not_le, ne_eq, Nat.not_lt, Nat.not_le] at c4
      refine at_seq ?_
      refine at_region ?_
      refine at_q rfl rfl (by decide) (qt_assign rfl rfl) ?_
      refine at_end ?_
      refine at_retc ?_
      refine then_ret ?_
      refine at_ret1 rfl (.tmp rfl) ?_
      intro w' hs
      exact ⟨by rw [← hk3, lexC_end (by omega) (by omega), if_pos (by omega)], hs.fin⟩
    · try simp only [decide_eq_true_eq, decide_eq_false_iff_not, beq_iff_eq, beq_eq_false_iff_ne, Bool.not_eq_true', Bool.not_eq_false', Bool.not_true, Bool.not_false, Int.not_lt, Int.not_le, ne_eq, Nat.not_lt, Nat.not_le] at c4
      refine at_skip ?_
      refine norm_then ?_
      refine at_seq ?_
      refine at_region ?_
      refine at_q rfl rfl (by decide) (qt_assign rfl rfl) ?_
      refine at_end ?_
      refine at_retc ?_
      refine at_ret1 rfl (.tmp rfl) ?_
      intro w' hs
      exact ⟨by rw [← hk3, lexC_end (by omega) (by omega), if_neg (by omega)], hs.fin⟩
theorem comparePts_any (A B : Option Addr) (n c m d : Nat) (xs ys : List Pn) (w : World) (h : Pts w A n xs) (h' : Pts w B m ys) (hx : ∀ p ∈ xs, bdW p) (hy : ∀ p ∈ ys, bdW p) (hn : n ≤ 1099511627776) (hm : m ≤ 1099511627776) :
    Calls Try.prog 75 #[.slice A n c, .slice B m d] w fun e w' => e = .returned (.int .i64 (lexC xs ys)) ∧ Over w w' := by
  refine walk_from (m := 8) (Try.func75) rfl rfl (Nat.le_of_ble_eq_true rfl) ?_
  refine at_seq ?_
  refine at_region ?_
  refine at_q rfl rfl (by decide) (qt_assign rfl rfl) ?_
  refine at_end ?_
  refine at_seq ?_
  refine at_region ?_
  refine at_q rfl rfl (by decide) (qt_move rfl rfl) ?_
  refine at_q rfl rfl (by decide) (qt_move rfl rfl) ?_
  refine at_q rfl rfl (by decide) (qt_call ok_slices_CompareFunc_sl_impl_Pt_sl_impl_Pt_impl_Pt_impl_Pt rfl rfl (fun w1 hs => CompareFunc_any A B n c m d xs ys w1 (h.over hs.fin) (h'.over hs.fin) hx hy hn hm)) ?_
  refine at_q rfl rfl (by decide) (qt_assign rfl rfl) ?_
  refine at_end ?_
  refine at_retc ?_
  refine at_ret1 rfl (.tmp rfl) ?_
  intro w' hs
  exact ⟨rfl, hs.fin⟩
theorem orderRings1_any (A B : Option Addr) (n c m d : Nat) (xs ys : List Pn) (w : World) (h : Pts w A n xs) (h' : Pts w B m ys) (hx : ∀ p ∈ xs, bdW p) (hy : ∀ p ∈ ys, bdW p) (hn : n ≤ 1099511627776) (hm : m ≤ 1099511627776) :
    Calls Try.prog 74 #[.agg #[.slice A n c], .agg #[.slice B m d]] w fun e w' => e = .returned (.int .i64 (lexC xs ys)) ∧ Over w w' := by
  refine walk_from (m := 10) (Try.func74) rfl rfl (Nat.le_of_ble_eq_true rfl) ?_
  refine at_seq ?_
  refine at_region ?_
  refine at_op rfl ?_
  refine op_box rfl rfl (rfl) rfl (by decide) (fun b1 => ?_)
  refine at_rsE (by simp only [List.nil_append, List.cons_append, List.set_cons_zero, List.set_cons_succ, Value.cells, List.toList_toArray]; rfl) ?_
  refine at_op rfl ?_
  refine op_box rfl rfl (rfl) rfl (by decide) (fun b2 => ?_)
  refine at_rsE (by simp only [List.nil_append, List.cons_append, List.set_cons_zero, List.set_cons_succ, Value.cells, List.toList_toArray]; rfl) ?_
  refine at_q rfl rfl (by decide) (qt_assign rfl rfl) ?_
  refine at_end ?_
  refine at_seq ?_
  refine at_region ?_
  refine at_q rfl rfl (by decide) (qt_fieldAddr rfl rfl tyf_impl_Ring_0) ?_
  refine at_q rfl rfl (by decide) (qt_load1 rfl rfl ty1_sl_impl_Pt (rd1 (k := 0) rfl rfl)) ?_
  refine at_q rfl rfl (by decide) (qt_fieldAddr rfl rfl tyf_impl_Ring_0) ?_
  refine at_q rfl rfl (by decide) (qt_load1 rfl rfl ty1_sl_impl_Pt (rd1 (k := 1) rfl rfl)) ?_
  refine at_q rfl rfl (by decide) (qt_call ok_impl_comparePts rfl rfl (fun w1 hs => comparePts_any A B n c m d xs ys w1 (h.over hs.fin) (h'.over hs.fin) hx hy hn hm)) ?_
  refine at_q rfl rfl (by decide) (qt_assign rfl rfl) ?_
  refine at_end ?_
  refine at_retc ?_
  refine at_ret1 rfl (.tmp rfl) ?_
  intro w' hs
  exact ⟨rfl, hs.fin⟩

/-! ### The program's side: a ring turned -/
section
variable {P : Program} {n : Nat} {env : List (Nat × Value)} {w0 : Bs} {Rs : List Res} {Q : Exit → Act → World → Prop} {K : Act → World → Prop} {o : Oper}
theorem qt_cap {x : Operand} {T U : TypeId} {A : Option Addr} {m c s : Nat} (ho : o.op = .call { callee := .builtin .cap, args := #[x], argTypes := #[T] }) (hx : ev env x = some (.slice A m c)) (hT : TyL P T U s) : Qt P o n env w0 Rs (.int .i64 (c : Int)) :=
  qt_of fun a w hF _ => by
    have hT := hT.desc
    have hE : P.elem T = U := by simp [Program.elem, hT]
    have := run_cap_slice (P := P) w T o.type A m c (by rw [hE]; exact hT)
    unfold execOp
    simp only [ho, resolve, invoke, builtin, Sem.run_bind, Sem.run_pure, Result.andThen_ok, List.map_toArray, List.map_cons, List.map_nil, hF.ev hx, this]
    rfl
/-- append(nil, make([]T, m)...): room for m elements, as a row without elements. -/
theorem op_growZ {T Tn U s bytes m d : Nat} {kn : IntKind} {z : Value} {x y : Operand} (ho : o.op = .call { callee := .builtin .append, args := #[x, y], argTypes := #[T, Tn] }) (hT : TyL P T U s) (hN : P.underlying Tn = some (.int kn)) (hZ : TyZ P U s bytes z) (hs0 : 0 < s)
    (hx : ev env x = some (.slice none 0 0)) (hy : ev env y = some (.int .i64 (m : Int))) (h0 : 0 < m) (hm : m ≤ maxLen) (hb : m * bytes ≤ 281474976710656) (hd : o.dst = some d) (hn : d < n)
    (h : ∀ b cap, At n ((d, .slice (some ⟨b, 0, none⟩) m cap) :: env) w0 (Rs ++ [rowR 0 U s 0 [] (some ⟨b, 0, none⟩, cap)]) K) : At n env w0 Rs (fun a w => o.wp P a w K Q) := fun a w hf hs => by
  obtain ⟨i, hi, hz0, hz1, hz2⟩ := hZ.info
  have hmx : m ≤ 9223372036854775807 := by unfold maxLen at hm; omega
  have hr := Go.Lib.run_append_nil_zeros (P := P) w T Tn o.type U i z .i64 kn hT.desc hN hi hz0 m h0 (by omega) (by omega) (by rw [hz2]; exact hb)
  have hrun : (execOp a.eval o).run P w = .ok (.value (.slice (some ⟨w.heap.size, 0, none⟩) m (grownCap w m 0 U))) (w.drew.alloc (.cells (Builtin.zeroCells z.cells m ++ Builtin.zeroCells z.cells (grownCap w m 0 U - m)) U)) := by
    unfold execOp
    simp only [ho, resolve, invoke, builtin, Sem.run_bind, Sem.run_pure, Result.andThen_ok, List.map_toArray, List.map_cons, List.map_nil, hf.ev hx, hf.ev hy, hr]
  show o.upon P a K Q ((execOp a.eval o).run P w)
  rw [hrun, Oper.upon_value, hd]
  have hge := grownCap_ge w m 0 U
  have hown : (w.drew.alloc (.cells (Builtin.zeroCells z.cells m ++ Builtin.zeroCells z.cells (grownCap w m 0 U - m)) U)).ownsRow 0 U s (.slice (some ⟨w.drew.heap.size, 0, none⟩) 0 (grownCap w m 0 U)) 0 [] :=
    World.ownsRow_made w.drew _ _ (Nat.zero_le _) (grownCap_le_maxLen w m 0 U hm) (by
      rw [Array.size_append, size_zeroCells, size_zeroCells, hZ.cells, ← Nat.add_mul]
      congr 1
      omega)
  exact h _ _ _ _ (hf.put hn _) (hs.add ((Over.refl w).drew_.alloc_ _) hown (fun b hb => (hown.lt b hb).elim fun _ _ => by
    have : Value.ownBlock (.slice (some ⟨w.drew.heap.size, 0, none⟩) 0 (grownCap w m 0 U)) = some b := hb
    injection this with this
    rw [← this]
    exact Nat.le_refl _) ⟨Nat.zero_le _, fun _ _ => Nat.zero_le _⟩)
end
theorem Grow_nil (m : Nat) (w : World) (h0 : 0 < m) (hm : m ≤ 1099511627776) : Calls Try.prog 86 #[.slice none 0 0, .int .i64 (m : Int)] w fun e w' => ∃ v, e = .returned v ∧ w'.ownsRow w.heap.size 24 2 v 0 [] ∧ Over w w' := by
  refine walk_from (m := 27) (Try.func86) rfl rfl (Nat.le_of_ble_eq_true rfl) ?_
  refine at_seq ?_
  refine at_region ?_
  refine at_q rfl rfl (by decide) (qt_assign rfl rfl) ?_
  refine at_end ?_
  refine at_seq ?_
  refine at_seq ?_
  refine at_region ?_
  refine at_q rfl rfl (by decide) (qt_move rfl rfl) ?_
  refine at_q rfl rfl (by decide) (qt_lss rfl rfl rfl) ?_
  refine at_end ?_
  refine at_cond rfl (fun c1 => ?_) (fun c1 => ?_)
  · try simp only [decide_eq_true_eq, decide_eq_false_iff_not, beq_iff_eq, beq_eq_false_iff_ne, Bool.not_eq_true', Bool.not_eq_false', Bool.not_true, Bool.not_false, Int.not_lt, Int.not_le, ne_eq, Nat.not_lt, Nat.not_le] at c1
    omega
  · try simp only [decide_eq_true_eq, decide_eq_false_iff_not, beq_iff_eq, beq_eq_false_iff_ne, Bool.not_eq_true', Bool.not_eq_false', Bool.not_true, Bool.not_false, Int.not_lt, Int.not_le, ne_eq, Nat.not_lt, Nat.not_le] at c1
    refine at_skip ?_
    refine norm_then ?_
    refine at_seq ?_
    refine at_seq ?_
    refine at_region ?_
    refine at_q rfl rfl (by decide) (qt_move rfl rfl) ?_
    refine at_q rfl rfl (by decide) (qt_move rfl rfl) ?_
    refine at_q rfl rfl (by decide) (qt_cap rfl rfl tyl_sl_impl_Pt) ?_
    refine at_q rfl rfl (by decide) (qt_move rfl rfl) ?_
    refine at_q rfl rfl (by decide) (qt_len rfl rfl tyl_sl_impl_Pt) ?_
    refine at_q rfl rfl (by decide) (qt_sub rfl rfl rfl (by omega) (by omega)) ?_
    refine at_q rfl rfl (by decide) (qt_sub rfl rfl rfl (by omega) (by omega)) ?_
    refine at_q rfl rfl (by decide) (qt_assign rfl rfl) ?_
    refine at_end ?_
    refine at_seq ?_
    refine at_region ?_
    refine at_q rfl rfl (by decide) (qt_move rfl rfl) ?_
    refine at_q rfl rfl (by decide) (qt_gtr rfl rfl rfl) ?_
    refine at_end ?_
    refine at_cond rfl (fun c2 => ?_) (fun c2 => ?_)
    · try simp only [decide_eq_true_eq, decide_eq_false_iff_not, beq_iff_eq, beq_eq_false_iff_ne, Bool.not_eq_true', Bool.not_eq_false', Bool.not_true, Bool.not_false, Int.not_lt, Int.not_le, ne_eq, Nat.not_lt, Nat.not_le] at c2
      refine at_region ?_
      refine at_q rfl rfl (by decide) (qt_move rfl rfl) ?_
      refine at_q rfl rfl (by decide) (qt_move rfl rfl) ?_
      refine at_q rfl rfl (by decide) (qt_cap rfl rfl tyl_sl_impl_Pt) ?_
      refine at_q rfl rfl (by decide) ((qt_sliceH (h := 0) rfl rfl rfl tyl_sl_impl_Pt (Nat.le_refl _)).as (show sliced none 0 0 0 2 = .slice none 0 0 from rfl)) ?_
      refine at_q rfl rfl (by decide) (qt_move rfl rfl) ?_
      refine at_as 21 (.int .i64 (m : Int)) rfl (congrArg _ (by omega)) ?_
      refine at_op rfl ?_
      refine op_growZ rfl tyl_sl_impl_Pt Try.underlying3 tyz_impl_Pt (by decide) rfl rfl h0 (by unfold maxLen; omega) (by omega) rfl (by decide) (fun gb gcap => ?_)
      refine at_rsE (by simp only [List.nil_append, List.cons_append, List.set_cons_zero, List.set_cons_succ, Value.cells, List.toList_toArray]; rfl) ?_
      refine at_q rfl rfl (by decide) (qt_move rfl rfl) ?_
      refine at_q rfl rfl (by decide) (qt_len rfl rfl tyl_sl_impl_Pt) ?_
      refine at_q rfl rfl (by decide) ((qt_sliceH (h := 0) rfl rfl rfl tyl_sl_impl_Pt (Nat.zero_le _)).as (slicedH _ _ _ _ _)) ?_
      refine at_q rfl rfl (by decide) (qt_assign rfl rfl) ?_
      refine at_end ?_
      refine at_seq ?_
      refine at_region ?_
      refine at_q rfl rfl (by decide) (qt_move rfl rfl) ?_
      refine at_q rfl rfl (by decide) (qt_assign rfl rfl) ?_
      refine at_end ?_
      refine at_retc ?_
      refine at_ret1 rfl (.tmp rfl) ?_
      intro w' hs
      have hr := hs.all 0 _ rfl
      exact ⟨_, rfl, row_from hr.1 (fun b hb => (hr.2.1 b hb).elim id (fun h => by cases h)), hs.fin⟩
    · try simp only [decide_eq_true_eq, decide_eq_false_iff_not, beq_iff_eq, beq_eq_false_iff_ne, Bool.not_eq_true', Bool.not_eq_false', Bool.not_true, Bool.not_false, Int.not_lt, Int.not_le, ne_eq, Nat.not_lt, Nat.not_le] at c2
      omega
/-! ### Slices of points put together -/
theorem rdSl {w : World} {Rs : List Res} {b o k : Nat} {v : Value} (hc : w.cell? ⟨b, o + k, none⟩ = some v) (hb : b < w.heap.size) (w' : World) (hs : St ⟨w, []⟩ Rs w') : w'.cell? ⟨b, o + k * 1, none⟩ = some v := by rw [Nat.mul_one]; exact rdOld hc hb w' hs
abbrev Sl := Option Addr × Nat × List Pn
def sl (ss : List Sl) (k : Nat) : Sl := ss.getD k (none, 0, [])
def catTo (ss : List Sl) (k : Nat) : List Pn := (ss.take k).flatMap (·.2.2)
theorem catTo_step {ss : List Sl} {k : Nat} (h : k < ss.length) : catTo ss (k + 1) = catTo ss k ++ (sl ss k).2.2 := by
  unfold catTo sl
  rw [List.take_succ_eq_append_getElem h, List.flatMap_append]
  simp [List.getD, h]
theorem catTo_le {ss : List Sl} {k j : Nat} (h : k ≤ j) : (catTo ss k).length ≤ (catTo ss j).length := by
  have e : ss.take k = (ss.take j).take k := by rw [List.take_take, Nat.min_eq_left h]
  unfold catTo
  rw [e]
  conv => rhs; rw [← List.take_append_drop k (ss.take j)]
  rw [List.flatMap_append, List.length_append]
  omega
theorem Concat_any (b o N C : Nat) (ss : List Sl) (w : World) (hN : ss.length = N) (hb : b < w.heap.size) (hc : ∀ k, k < N → w.cell? ⟨b, o + k, none⟩ = some (.slice (sl ss k).1 (sl ss k).2.2.length (sl ss k).2.1)) (hp : ∀ k, k < N → Pts w (sl ss k).1 (sl ss k).2.2.length (sl ss k).2.2 ∧ 0 < (sl ss k).2.2.length)
    (h0 : 0 < (catTo ss N).length) (hm : (catTo ss N).length ≤ 1048577) (hN2 : N ≤ 1048577) :
    Calls Try.prog 82 #[.slice (some ⟨b, o, none⟩) N C] w fun e w' => ∃ v, e = .returned v ∧ w'.ownsRow w.heap.size 24 2 v (catTo ss N).length ((catTo ss N).flatMap ptCells) ∧ Over w w' := by
  refine walk_from (m := 36) (Try.func82) rfl rfl (Nat.le_of_ble_eq_true rfl) ?_
  refine at_seq ?_
  refine at_region ?_
  refine at_q rfl rfl (by decide) (qt_assign rfl rfl) ?_
  refine at_end ?_
  refine at_seq ?_
  refine at_region ?_
  refine at_q rfl rfl (by decide) (qt_assign rfl rfl) ?_
  refine at_end ?_
  refine at_seq ?_
  refine at_seq ?_
  refine at_region ?_
  refine at_q rfl rfl (by decide) (qt_move rfl rfl) ?_
  refine at_q rfl rfl (by decide) (qt_len rfl rfl tyl_sl_sl_impl_Pt) ?_
  refine at_q rfl rfl (by decide) (qt_move rfl rfl) ?_
  refine at_end ?_
  refine at_block ?_
  refine at_loopk (X := Nat) (fun k => k ≤ N) (fun k => N - k) (fun k => [(3, .int .i64 ((catTo ss k).length : Int)), (11, .int .i64 (k : Int))]) (C := [(0, _), (2, _), (9, _), (10, _)]) ⟨rfl, rfl, rfl, rfl, trivial⟩ 0 (Nat.zero_le _) ⟨rfl, rfl, rfl, rfl, rfl, rfl, trivial⟩ ?_
  intro k hk L hL1
  refine at_envE (by simp only [List.nil_append, List.cons_append]; rfl) ?_
  refine at_seq ?_
  refine at_region ?_
  refine at_q rfl rfl (by decide) (qt_lss rfl rfl rfl) ?_
  refine at_end ?_
  refine at_seq ?_
  refine at_cond rfl (fun c1 => ?_) (fun c1 => ?_)
  · try simp only [decide_eq_true_eq, decide_eq_false_iff_not, beq_iff_eq, beq_eq_false_iff_ne, Bool.not_eq_true', Bool.not_eq_false', Bool.not_true, Bool.not_false, Int.not_lt, Int.not_le, ne_eq, Nat.not_lt, Nat.not_le] at c1
    have hlt : k < N := (by omega)
    have hst : (catTo ss (k + 1)).length = (catTo ss k).length + (sl ss k).2.2.length := (by rw [catTo_step (by omega), List.length_append])
    have hle : (catTo ss (k + 1)).length ≤ (catTo ss N).length := catTo_le (by omega)
    refine at_skip ?_
    refine norm_then ?_
    refine at_seq ?_
    refine at_block ?_
    refine at_seq ?_
    refine at_region ?_
    refine at_q rfl rfl (by decide) (qt_index rfl rfl rfl tyl_sl_sl_impl_Pt (by omega)) ?_
    refine at_q rfl rfl (by decide) (qt_load1 rfl rfl ty1_sl_impl_Pt (rdSl (hc k hlt) hb)) ?_
    refine at_q rfl rfl (by decide) (qt_assign rfl rfl) ?_
    refine at_end ?_
    refine at_seq ?_
    refine at_region ?_
    refine at_q rfl rfl (by decide) (qt_move rfl rfl) ?_
    refine at_q rfl rfl (by decide) (qt_move rfl rfl) ?_
    refine at_q rfl rfl (by decide) (qt_len rfl rfl tyl_sl_impl_Pt) ?_
    refine at_q rfl rfl (by decide) (qt_add rfl rfl rfl (by omega) (by omega)) ?_
    refine at_q rfl rfl (by decide) (qt_assign rfl rfl) ?_
    refine at_end ?_
    refine at_seq ?_
    refine at_region ?_
    refine at_q rfl rfl (by decide) (qt_move rfl rfl) ?_
    refine at_q rfl rfl (by decide) (qt_lss rfl rfl rfl) ?_
    refine at_end ?_
    refine at_cond rfl (fun c2 => ?_) (fun c2 => ?_)
    · try simp only [decide_eq_true_eq, decide_eq_false_iff_not, beq_iff_eq, beq_eq_false_iff_ne, Bool.not_eq_true', Bool.not_eq_false', Bool.not_true, Bool.not_false, Int.not_lt, Int.not_le, ne_eq, Nat.not_lt, Nat.not_le] at c2
      omega
    · try simp only [decide_eq_true_eq, decide_eq_false_iff_not, beq_iff_eq, beq_eq_false_iff_ne, Bool.not_eq_true', Bool.not_eq_false', Bool.not_true, Bool.not_false, Int.not_lt, Int.not_le, ne_eq, Nat.not_lt, Nat.not_le] at c2
      refine at_skip ?_
      refine norm_block ?_
      refine norm_then ?_
      refine at_region ?_
      refine at_q rfl rfl (by decide) (qt_add rfl rfl rfl (by omega) (by omega)) ?_
      refine at_q rfl rfl (by decide) (qt_move rfl rfl) ?_
      refine at_end ?_
      exact at_againk hL1 (k + 1) (by omega) (by omega) ⟨vi (by omega), vi (by omega), rfl, rfl, rfl, rfl, trivial⟩ (fun _ h => h.upto trivial)
  · try simp only [decide_eq_true_eq, decide_eq_false_iff_not, beq_iff_eq, beq_eq_false_iff_ne, Bool.not_eq_true', Bool.not_eq_false', Bool.not_true, Bool.not_false, Int.not_lt, Int.not_le, ne_eq, Nat.not_lt, Nat.not_le] at c1
    have hkN : k = N := (by omega)
    subst hkN
    refine at_exit ?_
    refine pass_then (fun h => by cases h) ?_
    refine pass_then (fun h => by cases h) ?_
    refine pass_hit ?_
    refine norm_then ?_
    refine at_seq ?_
    refine at_region ?_
    refine at_q rfl rfl (by decide) (qt_move rfl rfl) ?_
    refine at_op rfl ?_
    refine op_call ok_slices_Grow_sl_impl_Pt_impl_Pt (v := fun x => .slice x.1 0 x.2) (r := fun x => rowR 0 24 2 0 [] x) (H := fun _ => True) rfl rfl rfl (by decide) (fun w1 hs => newRow' (Grow_nil _ w1 h0 (by omega))) ?_
    rintro ⟨cA, cc⟩ -
    refine at_rsE (by simp only [List.nil_append, List.cons_append, List.set_cons_zero, List.set_cons_succ, Value.cells, List.toList_toArray]; rfl) ?_
    refine at_q rfl rfl (by decide) (qt_assign rfl rfl) ?_
    refine at_end ?_
    refine at_seq ?_
    refine at_seq ?_
    refine at_region ?_
    refine at_q rfl rfl (by decide) (qt_move rfl rfl) ?_
    refine at_q rfl rfl (by decide) (qt_len rfl rfl tyl_sl_sl_impl_Pt) ?_
    refine at_q rfl rfl (by decide) (qt_move rfl rfl) ?_
    refine at_end ?_
    refine at_block ?_
    refine at_loopc (X := Nat × Option Addr × Nat) (fun x => x.1 ≤ k) (fun x => k - x.1) (fun x => [(6, .slice x.2.1 (catTo ss x.1).length x.2.2), (27, .int .i64 (x.1 : Int))]) (C := [(2, _), (25, _), (26, _)]) ⟨rfl, rfl, rfl, trivial⟩ (fun x => [rowR 0 24 2 (catTo ss x.1).length ((catTo ss x.1).flatMap ptCells) x.2]) (0, cA, cc) (Nat.zero_le _) ⟨rfl, rfl, rfl, rfl, rfl, trivial⟩ (fun _ h => h) ?_
    intro ⟨j, rA, rc⟩ hj L hL2
    refine at_envE (by simp only [List.nil_append, List.cons_append]; rfl) ?_
    refine at_rsE (by first | (dsimp only; done) | (dsimp only; rfl) | rfl) ?_
    have hj : j ≤ k := hj
    refine at_seq ?_
    refine at_region ?_
    refine at_q rfl rfl (by decide) (qt_lss rfl rfl rfl) ?_
    refine at_end ?_
    refine at_seq ?_
    refine at_cond rfl (fun c3 => ?_) (fun c3 => ?_)
    · try simp only [decide_eq_true_eq, decide_eq_false_iff_not, beq_iff_eq, beq_eq_false_iff_ne, Bool.not_eq_true', Bool.not_eq_false', Bool.not_true, Bool.not_false, Int.not_lt, Int.not_le, ne_eq, Nat.not_lt, Nat.not_le] at c3
      have hlt : j < k := (by omega)
      have hst : catTo ss (j + 1) = catTo ss j ++ (sl ss j).2.2 := catTo_step (by omega)
      have hst2 : (catTo ss (j + 1)).length = (catTo ss j).length + (sl ss j).2.2.length := (by rw [hst, List.length_append])
      have hle : (catTo ss (j + 1)).length ≤ (catTo ss k).length := catTo_le (by omega)
      refine at_skip ?_
      refine norm_then ?_
      refine at_seq ?_
      refine at_block ?_
      refine at_seq ?_
      refine at_region ?_
      refine at_q rfl rfl (by decide) (qt_index rfl rfl rfl tyl_sl_sl_impl_Pt (by omega)) ?_
      refine at_q rfl rfl (by decide) (qt_load1 rfl rfl ty1_sl_impl_Pt (rdSl (hc j hlt) hb)) ?_
      refine at_q rfl rfl (by decide) (qt_assign rfl rfl) ?_
      refine at_end ?_
      refine at_region ?_
      refine at_q rfl rfl (by decide) (qt_move rfl rfl) ?_
      refine at_q rfl rfl (by decide) (qt_move rfl rfl) ?_
      refine at_op rfl ?_
      refine op_appendR (k := 0) rfl tyl_sl_impl_Pt tyz_impl_Pt (by decide) rfl (by decide) rfl rfl rfl (fun w' hs => srcPts ((hp j hlt).1.over hs.fin) (hp j hlt).2) (ptCells_one _) (by unfold maxLen; omega) (by omega) (Nat.zero_le _) (fun r1 => ?_)
      refine at_rsE (by simp only [List.nil_append, List.cons_append, List.set_cons_zero, List.set_cons_succ, Value.cells, List.toList_toArray]; rfl) ?_
      refine at_q rfl rfl (by decide) (qt_assign rfl rfl) ?_
      refine at_nil ?_
      refine norm_block ?_
      refine norm_then ?_
      refine at_region ?_
      refine at_q rfl rfl (by decide) (qt_add rfl rfl rfl (by omega) (by omega)) ?_
      refine at_q rfl rfl (by decide) (qt_move rfl rfl) ?_
      refine at_end ?_
      exact at_againc hL2 ((j + 1, r1)) ((show j + 1 ≤ k by omega)) (by simp only; omega) ⟨(by rw [hst2]; rfl), vi (by omega), rfl, rfl, rfl, trivial⟩ (fun _ h => h.upto ⟨by rw [hst2, hst, List.flatMap_append], trivial⟩)
    · try simp only [decide_eq_true_eq, decide_eq_false_iff_not, beq_iff_eq, beq_eq_false_iff_ne, Bool.not_eq_true', Bool.not_eq_false', Bool.not_true, Bool.not_false, Int.not_lt, Int.not_le, ne_eq, Nat.not_lt, Nat.not_le] at c3
      have hjk : j = k := (by omega)
      subst hjk
      refine at_exit ?_
      refine pass_then (fun h => by cases h) ?_
      refine pass_then (fun h => by cases h) ?_
      refine pass_hit ?_
      refine norm_then ?_
      refine at_seq ?_
      refine at_region ?_
      refine at_q rfl rfl (by decide) (qt_move rfl rfl) ?_
      refine at_q rfl rfl (by decide) (qt_assign rfl rfl) ?_
      refine at_end ?_
      refine at_retc ?_
      refine at_ret1 rfl (.tmp rfl) ?_
      intro w' hs
      have hr := hs.all 0 _ rfl
      exact ⟨_, rfl, row_from hr.1 (fun b hb => (hr.2.1 b hb).elim id (fun h => by cases h)), hs.fin⟩
theorem Pts.dropT {w : World} {b o n c k : Nat} {xs : List Pn} (h : Pts w (some ⟨b, o, none⟩) n xs) (hk : k ≤ n) (hc : n ≤ c) : Pts w (some ⟨b, offL o k c 2, none⟩) (n - k) (xs.drop k) := by
  have hl := h.1
  refine ⟨by rw [List.length_drop, hl], fun h0 => ?_⟩
  obtain ⟨b', o', e, hlt, hx⟩ := h.2 (by omega)
  injection e with e
  injection e with e1 e2
  subst e1 e2
  refine ⟨_, _, rfl, hlt, fun j hj => ?_⟩
  have hd : ∀ j, px (xs.drop k) j = px xs (k + j) ∧ py (xs.drop k) j = py xs (k + j) := fun j => by
    simp only [px, py, List.getD_eq_getElem?_getD, List.getElem?_drop]
    exact ⟨trivial, trivial⟩
  rw [offL, if_neg (by omega), (hd j).1, (hd j).2, show o + k * 2 + j * 2 = o + (k + j) * 2 by omega]
  exact hx (k + j) (by omega)
theorem Pts.takeT {w : World} {A : Option Addr} {n k : Nat} {xs : List Pn} (h : Pts w A n xs) (hk : k ≤ n) : Pts w A k (xs.take k) := by
  have hl := h.1
  refine ⟨by rw [List.length_take]; omega, fun h0 => ?_⟩
  obtain ⟨b, o, e, hlt, hx⟩ := h.2 (by omega)
  refine ⟨b, o, e, hlt, fun j hj => ?_⟩
  have hd : px (xs.take k) j = px xs j ∧ py (xs.take k) j = py xs j := by
    simp only [px, py, List.getD_eq_getElem?_getD, List.getElem?_take, if_pos hj]
    exact ⟨trivial, trivial⟩
  rw [hd.1, hd.2]
  exact hx j (by omega)
theorem rot_cat (xs : List Pn) (k : Nat) : xs.drop k ++ xs.take k = rot xs k := rfl
/-- Two slices put together. -/
theorem cat2 {b n k U : Nat} {A1 A2 : Option Addr} {c1 c2 : Nat} {xs ys : List Pn} {w : World} (_e : xs.drop k ++ xs.take k = ys) (hb : w.heap[b]? = some (.cells [.slice A1 (n - k) c1, .slice A2 k c2].toArray U (0, 0))) (h1 : Pts w A1 (n - k) (xs.drop k)) (h2 : Pts w A2 k (xs.take k)) (hk : 1 ≤ k) (hkn : k < n) (hl : xs.length = n) (hn : n ≤ 1048577) :
    Calls Try.prog 82 #[.slice (some ⟨b, 0, none⟩) 2 2] w fun e w' => ∃ v, e = .returned v ∧ w'.ownsRow w.heap.size 24 2 v n (ys.flatMap ptCells) ∧ Over w w' := by
  have ex : catTo [(A1, c1, xs.drop k), (A2, c2, xs.take k)] 2 = ys := by rw [← _e]; simp [catTo]
  have el : ys.length = n := by rw [← _e]; simp; omega
  have := Concat_any b 0 2 2 [(A1, c1, xs.drop k), (A2, c2, xs.take k)] w rfl (lt_of_some hb) (fun j hj => ?_) (fun j hj => ?_) (by rw [ex]; omega) (by rw [ex]; omega) (by decide)
  · rw [ex, el] at this
    exact this
  · rw [cell_of_row w b _ _ U (0, 0) hb]
    match j, hj with
    | 0, _ => simp [sl, hl]
    | 1, _ => simp [sl]; omega
  · match j, hj with
    | 0, _ => simp only [sl, List.getD_cons_zero, h1.1]; exact ⟨h1, by omega⟩
    | 1, _ => simp only [sl, List.getD_cons_succ, List.getD_cons_zero, h2.1]; exact ⟨h2, by omega⟩
theorem turnRing_any (A : Option Addr) (n c : Nat) (xs : List Pn) (w : World) (h : Pts w A n xs) (h0 : 0 < n) (hc : n ≤ c) (hx : ∀ p ∈ xs, bdW p) (hn : n ≤ 1048577) :
    Calls Try.prog 72 #[ringV A n c] w fun e w' => ∃ v, e = .returned (.agg #[v]) ∧ w'.ownsRow w.heap.size 24 2 v n ((turnP xs).flatMap ptCells) ∧ Over w w' := by
  have hl := h.1
  have hbd : ∀ k p, p ∈ rot xs k → bdW p := fun k p hp => hx p (rot_mem.1 hp)
  refine walk_from (m := 43) (Try.func72) rfl rfl (Nat.le_of_ble_eq_true rfl) ?_
  refine at_seq ?_
  refine at_region ?_
  refine at_op rfl ?_
  refine op_box rfl rfl (rfl) rfl (by decide) (fun b1 => ?_)
  refine at_rsE (by simp only [List.nil_append, List.cons_append, List.set_cons_zero, List.set_cons_succ, Value.cells, List.toList_toArray]; rfl) ?_
  refine at_op rfl ?_
  refine op_alloc rfl tyz_impl_Ring rfl (by decide) (fun b2 => ?_)
  refine at_rsE (by simp only [List.nil_append, List.cons_append, List.set_cons_zero, List.set_cons_succ, Value.cells, List.toList_toArray]; rfl) ?_
  refine at_end ?_
  refine at_seq ?_
  refine at_region ?_
  refine at_q rfl rfl (by decide) (qt_fieldAddr rfl rfl tyf_impl_Ring_0) ?_
  refine at_q rfl rfl (by decide) (qt_load1 rfl rfl ty1_sl_impl_Pt (rd1 (k := 0) rfl rfl)) ?_
  refine at_op rfl ?_
  refine op_call ok_slices_Clone_sl_impl_Pt_impl_Pt (v := fun x => .slice x.1 n x.2) (r := fun x => rowR 0 24 2 n _ x) (H := fun _ => True) rfl rfl rfl (by decide) (fun w1 hs => newRow' (ClonePt_any A n c xs w1 (h.over hs.fin) h0 hn)) ?_
  rintro ⟨cA, cc⟩ -
  refine at_rsE (by simp only [List.nil_append, List.cons_append, List.set_cons_zero, List.set_cons_succ, Value.cells, List.toList_toArray]; rfl) ?_
  refine at_q rfl rfl (by decide) (qt_assign rfl rfl) ?_
  refine at_end ?_
  refine at_seq ?_
  refine at_seq ?_
  refine at_region ?_
  refine at_q rfl rfl (by decide) (qt_assign rfl rfl) ?_
  refine at_end ?_
  refine at_block ?_
  refine at_loopc (X := Nat × Option Addr × Nat) (fun x => 1 ≤ x.1 ∧ x.1 ≤ n) (fun x => n - x.1) (fun x => [(3, .slice x.2.1 n x.2.2), (4, .int .i64 (x.1 : Int))]) (C := [(1, _), (2, _)]) ⟨rfl, rfl, trivial⟩ (fun x => [.cel b1 88 [.slice A n c], .cel b2 88 [.slice none 0 0], rowR 0 24 2 n ((rot xs (turnK xs x.1)).flatMap ptCells) x.2]) (1, cA, cc) (⟨Nat.le_refl _, h0⟩) ⟨rfl, rfl, rfl, rfl, trivial⟩ (fun _ h => h.upto ⟨rfl, rfl, by rw [turnK_one, rot_zero], trivial⟩) ?_
  intro ⟨k, rA, rc⟩ hk L hL1
  refine at_envE (by simp only [List.nil_append, List.cons_append]; rfl) ?_
  refine at_rsE (by first | (dsimp only; done) | (dsimp only; rfl) | rfl) ?_
  obtain ⟨hk1, hk2⟩ : 1 ≤ k ∧ k ≤ n := hk
  have htk := turnK_lt xs k hk1
  refine at_seq ?_
  refine at_seq ?_
  refine at_region ?_
  refine at_q rfl rfl (by decide) (qt_move rfl rfl) ?_
  refine at_q rfl rfl (by decide) (qt_fieldAddr rfl rfl tyf_impl_Ring_0) ?_
  refine at_q rfl rfl (by decide) (qt_load1 rfl rfl ty1_sl_impl_Pt (rd1 (k := 0) rfl rfl)) ?_
  refine at_q rfl rfl (by decide) (qt_len rfl rfl tyl_sl_impl_Pt) ?_
  refine at_q rfl rfl (by decide) (qt_lss rfl rfl rfl) ?_
  refine at_end ?_
  refine at_cond rfl (fun c1 => ?_) (fun c1 => ?_)
  · try simp only [decide_eq_true_eq, decide_eq_false_iff_not, beq_iff_eq, beq_eq_false_iff_ne, Bool.not_eq_true', Bool.not_eq_false', Bool.not_true, Bool.not_false, Int.not_lt, Int.not_le, ne_eq, Nat.not_lt, Nat.not_le] at c1
    have hlt : k < n := (by omega)
    obtain ⟨eb, eo, rfl, _⟩ := h.2 h0
    refine at_fact (fun w hs => rowSome (k := 2) rfl hs h0) ?_
    rintro ⟨eg, rfl⟩
    refine at_skip ?_
    refine norm_then ?_
    refine at_seq ?_
    refine at_block ?_
    refine at_seq ?_
    refine at_seq ?_
    refine dg_start mixed rfl ?_
    refine dg_phase 10 ?_
    refine dg_q (i := 0) rfl (by kernel_rfl) (by kernel_rfl) (by kernel_rfl) [] (by kernel_rfl) (fun _ _ _ h => h) rfl rfl (by decide) (fun _ h => h.upto ⟨rfl, rfl, rfl, trivial⟩) (qt_fieldAddr rfl rfl tyf_impl_Ring_0) ?_
    refine dg_q (i := 1) rfl (by kernel_rfl) (by kernel_rfl) (by kernel_rfl) [] (by kernel_rfl) (fun _ _ _ h => h) rfl rfl (by decide) (fun _ h => h.upto ⟨rfl, rfl, rfl, trivial⟩) (qt_load1 rfl rfl ty1_sl_impl_Pt (rd1 (k := 0) rfl rfl)) ?_
    refine dg_q (i := 2) rfl (by kernel_rfl) (by kernel_rfl) (by kernel_rfl) [] (by kernel_rfl) (fun _ _ _ h => h) rfl rfl (by decide) (fun _ h => h.upto ⟨rfl, rfl, rfl, trivial⟩) (qt_move rfl rfl) ?_
    refine dg_q (i := 3) rfl (by kernel_rfl) (by kernel_rfl) (by kernel_rfl) [] (by kernel_rfl) (fun _ _ _ h => h) rfl rfl (by decide) (fun _ h => h.upto ⟨rfl, rfl, rfl, trivial⟩) (qt_index rfl rfl rfl tyl_sl_impl_Pt (by omega)) ?_
    refine dg_q (i := 4) rfl (by kernel_rfl) (by kernel_rfl) (by kernel_rfl) [] (by kernel_rfl) (fun _ _ _ h => h) rfl rfl (by decide) (fun _ h => h.upto ⟨rfl, rfl, rfl, trivial⟩) (qt_loadS rfl rfl tys_impl_Pt rfl (rdPts (b := eb) (o := eo) h hlt)) ?_
    refine dg_q (i := 5) rfl (by kernel_rfl) (by kernel_rfl) (by kernel_rfl) [] (by kernel_rfl) (fun _ _ _ h => h) rfl rfl (by decide) (fun _ h => h.upto ⟨rfl, rfl, rfl, trivial⟩) (qt_move rfl rfl) ?_
    refine dg_q (i := 6) rfl (by kernel_rfl) (by kernel_rfl) (by kernel_rfl) [] (by kernel_rfl) (fun _ _ _ h => h) rfl rfl (by decide) (fun _ h => h.upto ⟨rfl, rfl, rfl, trivial⟩) (qt_index (j := 0) rfl rfl rfl tyl_sl_impl_Pt (by omega)) ?_
    refine dg_q (i := 7) rfl (by kernel_rfl) (by kernel_rfl) (by kernel_rfl) [] (by kernel_rfl) (fun _ _ _ h => h) rfl rfl (by decide) (fun _ h => h.upto ⟨rfl, rfl, rfl, trivial⟩) (qt_loadS rfl rfl tys_impl_Pt rfl (rdPtsR (b := eg) (o := 0) (j := 0) (fun w hs => ptsRow (hs.all 2 _ rfl).1 (by rw [rot_len, hl])) h0)) ?_
    refine dg_q (i := 8) rfl (by kernel_rfl) (by kernel_rfl) (by kernel_rfl) [] (by kernel_rfl) (fun _ _ _ h => h) rfl rfl (by decide) (fun _ h => h.upto ⟨rfl, rfl, rfl, trivial⟩) (qt_call ok_impl_compareYX rfl rfl (fun w1 hs => compareYX_p (pt xs k) (pt (rot xs (turnK xs k)) 0) w1 (hx _ (by rw [← pt_at (by omega)]; exact List.getElem_mem _)) (hbd (turnK xs k) _ (by rw [← pt_at (by rw [rot_len]; omega)]; exact List.getElem_mem _)))) ?_
    refine dg_q (i := 9) rfl (by kernel_rfl) (by kernel_rfl) (by kernel_rfl) [] (by kernel_rfl) (fun _ _ _ h => h) rfl rfl (by decide) (fun _ h => h.upto ⟨rfl, rfl, rfl, trivial⟩) (qt_gtr rfl rfl rfl) ?_
    refine dg_done (by kernel_rfl) ?_
    refine norm_then ?_
    refine at_cond rfl (fun c2 => ?_) (fun c2 => ?_)
    · try simp only [decide_eq_true_eq, decide_eq_false_iff_not, beq_iff_eq, beq_eq_false_iff_ne, Bool.not_eq_true', Bool.not_eq_false', Bool.not_true, Bool.not_false, Int.not_lt, Int.not_le, ne_eq, Nat.not_lt, Nat.not_le] at c2
      refine at_exit ?_
      refine pass_then (fun h => by cases h) ?_
      refine pass_hit ?_
      refine norm_then ?_
      refine at_region ?_
      refine at_q rfl rfl (by decide) (qt_move rfl rfl) ?_
      refine at_q rfl rfl (by decide) (qt_add rfl rfl rfl (by omega) (by omega)) ?_
      refine at_q rfl rfl (by decide) (qt_assign rfl rfl) ?_
      refine at_end ?_
      exact at_againc hL1 ((k + 1, some ⟨eg, 0, none⟩, rc)) (⟨show 1 ≤ k + 1 by omega, show k + 1 ≤ n by omega⟩) (by simp only; omega) ⟨rfl, vi (by omega), rfl, rfl, trivial⟩ (fun _ h => h.upto ⟨rfl, rfl, by rw [turnK_no (lexL_head (by rw [rot_len]; omega) (by rw [rot_len]; omega) (by rw [pt_rot0 (by omega)]; exact c2))], trivial⟩)
    · try simp only [decide_eq_true_eq, decide_eq_false_iff_not, beq_iff_eq, beq_eq_false_iff_ne, Bool.not_eq_true', Bool.not_eq_false', Bool.not_true, Bool.not_false, Int.not_lt, Int.not_le, ne_eq, Nat.not_lt, Nat.not_le] at c2
      refine at_skip ?_
      refine norm_then ?_
      refine at_seq ?_
      refine dg_start mixed rfl ?_
      refine dg_phase 11 ?_
      refine dg_q (i := 0) rfl (by kernel_rfl) (by kernel_rfl) (by kernel_rfl) [] (by kernel_rfl) (fun _ _ _ h => h) rfl rfl (by decide) (fun _ h => h.upto ⟨rfl, rfl, rfl, trivial⟩) (qt_fieldAddr rfl rfl tyf_impl_Ring_0) ?_
      refine dg_q (i := 1) rfl (by kernel_rfl) (by kernel_rfl) (by kernel_rfl) [] (by kernel_rfl) (fun _ _ _ h => h) rfl rfl (by decide) (fun _ h => h.upto ⟨rfl, rfl, rfl, trivial⟩) (qt_load1 rfl rfl ty1_sl_impl_Pt (rd1 (k := 0) rfl rfl)) ?_
      refine dg_q (i := 2) rfl (by kernel_rfl) (by kernel_rfl) (by kernel_rfl) [] (by kernel_rfl) (fun _ _ _ h => h) rfl rfl (by decide) (fun _ h => h.upto ⟨rfl, rfl, rfl, trivial⟩) (qt_move rfl rfl) ?_
      refine dg_q (i := 3) rfl (by kernel_rfl) (by kernel_rfl) (by kernel_rfl) [] (by kernel_rfl) (fun _ _ _ h => h) rfl rfl (by decide) (fun _ h => h.upto ⟨rfl, rfl, rfl, trivial⟩) ((qt_sliceL rfl rfl rfl tyl_sl_impl_Pt (by omega)).as (slicedL (b := eb) (o := eo) (l := k) (h := n) (m := c) (s := 2) hc (by omega))) ?_
      refine dg_q (i := 4) rfl (by kernel_rfl) (by kernel_rfl) (by kernel_rfl) [] (by kernel_rfl) (fun _ _ _ h => h) rfl rfl (by decide) (fun _ h => h.upto ⟨rfl, rfl, rfl, trivial⟩) (qt_fieldAddr rfl rfl tyf_impl_Ring_0) ?_
      refine dg_q (i := 5) rfl (by kernel_rfl) (by kernel_rfl) (by kernel_rfl) [] (by kernel_rfl) (fun _ _ _ h => h) rfl rfl (by decide) (fun _ h => h.upto ⟨rfl, rfl, rfl, trivial⟩) (qt_load1 rfl rfl ty1_sl_impl_Pt (rd1 (k := 0) rfl rfl)) ?_
      refine dg_q (i := 6) rfl (by kernel_rfl) (by kernel_rfl) (by kernel_rfl) [] (by kernel_rfl) (fun _ _ _ h => h) rfl rfl (by decide) (fun _ h => h.upto ⟨rfl, rfl, rfl, trivial⟩) (qt_move rfl rfl) ?_
      refine dg_q (i := 7) rfl (by kernel_rfl) (by kernel_rfl) (by kernel_rfl) [] (by kernel_rfl) (fun _ _ _ h => h) rfl rfl (by decide) (fun _ h => h.upto ⟨rfl, rfl, rfl, trivial⟩) ((qt_sliceH rfl rfl rfl tyl_sl_impl_Pt (by omega)).as (slicedH _ _ _ _ _)) ?_
      refine dg_one (i := 8) rfl (by decide) (by kernel_rfl) rfl ?_
      refine op_buildSlice rfl rfl (bsl_sl_sl_impl_Pt_2_0_1 rfl rfl) rfl (by decide) (fun b3 => ?_)
      refine at_rsE (by simp only [List.nil_append, List.cons_append, List.set_cons_zero, List.set_cons_succ, Value.cells, List.toList_toArray]; rfl) ?_
      refine dr_keep (fun _ h => h.upto ⟨rfl, rfl, rfl, trivial⟩) ?_
      refine dg_one (i := 9) rfl (by decide) (by kernel_rfl) rfl ?_
      refine op_call ok_slices_Concat_sl_impl_Pt_impl_Pt (v := fun x => .slice x.1 n x.2) (r := fun x => rowR 0 24 2 n ((rot xs k).flatMap ptCells) x) (H := fun _ => True) rfl rfl rfl (by decide) (fun w1 hs => newRow' (cat2 (rot_cat xs k) (hs.cel (k := 3) rfl) ((h.over hs.fin).dropT (k := k) (by omega) hc) ((h.over hs.fin).takeT (k := k) (by omega)) hk1 hlt hl hn)) ?_
      rintro ⟨dA, dc⟩ -
      refine at_rsE (by simp only [List.nil_append, List.cons_append, List.set_cons_zero, List.set_cons_succ, Value.cells, List.toList_toArray]; rfl) ?_
      refine dr_keep (fun _ h => h.upto ⟨rfl, rfl, rfl, trivial⟩) ?_
      refine dg_q (i := 10) rfl (by kernel_rfl) (by kernel_rfl) (by kernel_rfl) [] (by kernel_rfl) (fun _ _ _ h => h) rfl rfl (by decide) (fun _ h => h.upto ⟨rfl, rfl, rfl, trivial⟩) (qt_assign rfl rfl) ?_
      refine dg_done (by kernel_rfl) ?_
      refine norm_then ?_
      refine at_seq ?_
      refine at_region ?_
      refine at_q rfl rfl (by decide) (qt_move rfl rfl) ?_
      refine at_q rfl rfl (by decide) (qt_move rfl rfl) ?_
      refine at_q rfl rfl (by decide) (qt_call ok_impl_comparePts rfl rfl (fun w1 hs => comparePts_any _ _ n _ n _ (rot xs k) (rot xs (turnK xs k)) w1 (ptsRow (hs.all 4 _ rfl).1 (by rw [rot_len, hl])) (ptsRow (hs.all 2 _ rfl).1 (by rw [rot_len, hl])) (hbd _) (hbd _) (by omega) (by omega))) ?_
      refine at_q rfl rfl (by decide) (qt_lss rfl rfl rfl) ?_
      refine at_end ?_
      refine at_cond rfl (fun c3 => ?_) (fun c3 => ?_)
      · try simp only [decide_eq_true_eq, decide_eq_false_iff_not, beq_iff_eq, beq_eq_false_iff_ne, Bool.not_eq_true', Bool.not_eq_false', Bool.not_true, Bool.not_false, Int.not_lt, Int.not_le, ne_eq, Nat.not_lt, Nat.not_le] at c3
        refine at_region ?_
        refine at_q rfl rfl (by decide) (qt_move rfl rfl) ?_
        refine at_q rfl rfl (by decide) (qt_assign rfl rfl) ?_
        refine at_nil ?_
        refine norm_block ?_
        refine norm_then ?_
        refine at_region ?_
        refine at_q rfl rfl (by decide) (qt_move rfl rfl) ?_
        refine at_q rfl rfl (by decide) (qt_add rfl rfl rfl (by omega) (by omega)) ?_
        refine at_q rfl rfl (by decide) (qt_assign rfl rfl) ?_
        refine at_end ?_
        exact at_againc hL1 ((k + 1, dA, dc)) (⟨show 1 ≤ k + 1 by omega, show k + 1 ≤ n by omega⟩) (by simp only; omega) ⟨rfl, vi (by omega), rfl, rfl, trivial⟩ (fun _ h => (h.picks [0, 1, 4] (by decide)).upto ⟨rfl, rfl, by rw [turnK_yes (decide_eq_true c3)], trivial⟩)
      · try simp only [decide_eq_true_eq, decide_eq_false_iff_not, beq_iff_eq, beq_eq_false_iff_ne, Bool.not_eq_true', Bool.not_eq_false', Bool.not_true, Bool.not_false, Int.not_lt, Int.not_le, ne_eq, Nat.not_lt, Nat.not_le] at c3
        refine at_skip ?_
        refine norm_block ?_
        refine norm_then ?_
        refine at_region ?_
        refine at_q rfl rfl (by decide) (qt_move rfl rfl) ?_
        refine at_q rfl rfl (by decide) (qt_add rfl rfl rfl (by omega) (by omega)) ?_
        refine at_q rfl rfl (by decide) (qt_assign rfl rfl) ?_
        refine at_end ?_
        exact at_againc hL1 ((k + 1, some ⟨eg, 0, none⟩, rc)) (⟨show 1 ≤ k + 1 by omega, show k + 1 ≤ n by omega⟩) (by simp only; omega) ⟨rfl, vi (by omega), rfl, rfl, trivial⟩ (fun _ h => h.upto ⟨rfl, rfl, by rw [turnK_no (decide_eq_false (by omega))], trivial⟩)
  · try simp only [decide_eq_true_eq, decide_eq_false_iff_not, beq_iff_eq, beq_eq_false_iff_ne, Bool.not_eq_true', Bool.not_eq_false', Bool.not_true, Bool.not_false, Int.not_lt, Int.not_le, ne_eq, Nat.not_lt, Nat.not_le] at c1
    have hkn : k = n := (by omega)
    refine at_exit ?_
    refine pass_then (fun h => by cases h) ?_
    refine pass_then (fun h => by cases h) ?_
    refine pass_hit ?_
    refine norm_then ?_
    refine at_seq ?_
    refine at_region ?_
    refine at_q rfl rfl (by decide) (qt_move rfl rfl) ?_
    refine at_q rfl rfl (by decide) (qt_build rfl rfl (bld_impl_Ring_0 rfl)) ?_
    refine at_op rfl ?_
    refine op_storeAll' (k := 1) rfl rfl rfl rfl (rfl) (by rfl) tyz_impl_Ring.szx rfl rfl rfl ?_
    refine at_rsE (by simp only [List.nil_append, List.cons_append, List.set_cons_zero, List.set_cons_succ, Value.cells, List.toList_toArray]; rfl) ?_
    refine at_end ?_
    refine at_retc ?_
    refine at_ret1 rfl (rvCelS (k := 1) rfl tys_impl_Ring rfl rfl) ?_
    intro w' hs
    have hr := hs.all 2 _ rfl
    exact ⟨_, rfl, row_from (show _ by subst hkn; rw [turnP, hl]; exact hr.1) (fun b hb => (hr.2.1 b hb).elim id (fun h => by cases h)), hs.fin⟩
theorem mod_int (i j n : Nat) : ((i : Int) + (j : Int)).tmod (n : Int) = (((i + j) % n : Nat) : Int) := by
  rw [show (i : Int) + (j : Int) = ((i + j : Nat) : Int) by omega]
  rfl
theorem ptNe {xs ys : List Pn} {a b : Nat} (h : (px xs a == px ys b && py xs a == py ys b) = false) : pt xs a ≠ pt ys b := fun e => by
  injection e with e1 e2
  simp [e1, e2] at h
theorem ptEq' {xs ys : List Pn} {a b : Nat} (h : (px xs a == px ys b && py xs a == py ys b) = true) : pt xs a = pt ys b := by
  simp at h
  exact Prod.ext h.1 h.2
theorem lexL_before {xs ys : List Pn} {k : Nat} (h1 : k < xs.length) (h2 : k < ys.length) (h : pt xs k ≠ pt ys k) (he : lexC (xs.drop k) (ys.drop k) = lexC xs ys) : decide (ltY (pt xs k) (pt ys k)) = lexL xs ys := by
  unfold lexL
  rw [← he, lexC_ne h1 h2 h]
  exact decide_eq_decide.2 yxC_neg.symm
theorem l14Earlier_any (A : Option Addr) (n c i k : Nat) (xs : List Pn) (w : World) (h : Pts w A n xs) (hi : i < n) (hk : k < n) (hn : n ≤ 1099511627776) :
    Calls Try.prog 78 #[.slice A n c, .int .i64 (i : Int), .int .i64 (k : Int)] w fun e w' => e = .returned (.bool (lexL (rot xs i) (rot xs k))) ∧ Over w w' := by
  have hl := h.1
  have hri : (rot xs i).length = n := rot_len.trans hl
  have hrk : (rot xs k).length = n := rot_len.trans hl
  refine walk_from (m := 40) (Try.func78) rfl rfl (Nat.le_of_ble_eq_true rfl) ?_
  refine at_seq ?_
  refine at_region ?_
  refine at_q rfl rfl (by decide) (qt_assign rfl rfl) ?_
  refine at_end ?_
  refine at_seq ?_
  refine at_region ?_
  refine at_q rfl rfl (by decide) (qt_move rfl rfl) ?_
  refine at_q rfl rfl (by decide) (qt_len rfl rfl tyl_sl_impl_Pt) ?_
  refine at_q rfl rfl (by decide) (qt_assign rfl rfl) ?_
  refine at_end ?_
  refine at_seq ?_
  refine at_seq ?_
  refine at_region ?_
  refine at_q rfl rfl (by decide) (qt_assign rfl rfl) ?_
  refine at_end ?_
  refine at_block ?_
  refine at_loopk (X := Nat) (fun j => j ≤ n ∧ lexC ((rot xs i).drop j) ((rot xs k).drop j) = lexC (rot xs i) (rot xs k)) (fun j => n - j) (fun j => [(8, .int .i64 (j : Int))]) (C := [(0, _), (1, _), (2, _), (6, _), (7, _)]) ⟨rfl, rfl, rfl, rfl, rfl, trivial⟩ 0 (⟨Nat.zero_le _, rfl⟩) ⟨rfl, rfl, rfl, rfl, rfl, rfl, trivial⟩ ?_
  intro j hj L hL1
  refine at_envE (by simp only [List.nil_append, List.cons_append]; rfl) ?_
  obtain ⟨hj1, hj2⟩ := hj
  refine at_seq ?_
  refine at_seq ?_
  refine at_region ?_
  refine at_q rfl rfl (by decide) (qt_move rfl rfl) ?_
  refine at_q rfl rfl (by decide) (qt_move rfl rfl) ?_
  refine at_q rfl rfl (by decide) (qt_lss rfl rfl rfl) ?_
  refine at_end ?_
  refine at_cond rfl (fun c1 => ?_) (fun c1 => ?_)
  · try simp only [decide_eq_true_eq, decide_eq_false_iff_not, beq_iff_eq, beq_eq_false_iff_ne, Bool.not_eq_true', Bool.not_eq_false', Bool.not_true, Bool.not_false, Int.not_lt, Int.not_le, ne_eq, Nat.not_lt, Nat.not_le] at c1
    have hlt : j < n := (by omega)
    obtain ⟨eb, eo, rfl, _⟩ := h.2 (by omega)
    have m1 : (i + j) % n < n := Nat.mod_lt _ (by omega)
    have m2 : (k + j) % n < n := Nat.mod_lt _ (by omega)
    have p1 : pt (rot xs i) j = pt xs ((i + j) % n) := (by rw [pt_rot (by omega) (by omega), hl])
    have p2 : pt (rot xs k) j = pt xs ((k + j) % n) := (by rw [pt_rot (by omega) (by omega), hl])
    refine at_skip ?_
    refine norm_then ?_
    refine at_seq ?_
    refine at_block ?_
    refine at_seq ?_
    refine at_region ?_
    refine at_q rfl rfl (by decide) (qt_move rfl rfl) ?_
    refine at_q rfl rfl (by decide) (qt_move rfl rfl) ?_
    refine at_q rfl rfl (by decide) (qt_move rfl rfl) ?_
    refine at_q rfl rfl (by decide) (qt_add rfl rfl rfl (by omega) (by omega)) ?_
    refine at_q rfl rfl (by decide) (qt_move rfl rfl) ?_
    refine at_q rfl rfl (by decide) ((qt_rem rfl rfl rfl (by omega) (by omega) (by omega)).as (congrArg _ (mod_int i j n))) ?_
    refine at_q rfl rfl (by decide) (qt_index (j := (i + j) % n) rfl rfl rfl tyl_sl_impl_Pt (by omega)) ?_
    refine at_q rfl rfl (by decide) (qt_loadS rfl rfl tys_impl_Pt rfl (rdPts (b := eb) (o := eo) h m1)) ?_
    refine at_op rfl ?_
    refine op_alloc rfl tyz_impl_Pt rfl (by decide) (fun b1 => ?_)
    refine at_rsE (by simp only [List.nil_append, List.cons_append, List.set_cons_zero, List.set_cons_succ, Value.cells, List.toList_toArray]; rfl) ?_
    refine at_op rfl ?_
    refine op_storeAll' (k := 0) rfl rfl rfl rfl (rfl) (by rfl) tyz_impl_Pt.szx rfl rfl rfl ?_
    refine at_rsE (by simp only [List.nil_append, List.cons_append, List.set_cons_zero, List.set_cons_succ, Value.cells, List.toList_toArray]; rfl) ?_
    refine at_end ?_
    refine at_seq ?_
    refine at_region ?_
    refine at_q rfl rfl (by decide) (qt_move rfl rfl) ?_
    refine at_q rfl rfl (by decide) (qt_move rfl rfl) ?_
    refine at_q rfl rfl (by decide) (qt_move rfl rfl) ?_
    refine at_q rfl rfl (by decide) (qt_add rfl rfl rfl (by omega) (by omega)) ?_
    refine at_q rfl rfl (by decide) (qt_move rfl rfl) ?_
    refine at_q rfl rfl (by decide) ((qt_rem rfl rfl rfl (by omega) (by omega) (by omega)).as (congrArg _ (mod_int k j n))) ?_
    refine at_q rfl rfl (by decide) (qt_index (j := (k + j) % n) rfl rfl rfl tyl_sl_impl_Pt (by omega)) ?_
    refine at_q rfl rfl (by decide) (qt_loadS rfl rfl tys_impl_Pt rfl (rdPts (b := eb) (o := eo) h m2)) ?_
    refine at_op rfl ?_
    refine op_alloc rfl tyz_impl_Pt rfl (by decide) (fun b2 => ?_)
    refine at_rsE (by simp only [List.nil_append, List.cons_append, List.set_cons_zero, List.set_cons_succ, Value.cells, List.toList_toArray]; rfl) ?_
    refine at_op rfl ?_
    refine op_storeAll' (k := 1) rfl rfl rfl rfl (rfl) (by rfl) tyz_impl_Pt.szx rfl rfl rfl ?_
    refine at_rsE (by simp only [List.nil_append, List.cons_append, List.set_cons_zero, List.set_cons_succ, Value.cells, List.toList_toArray]; rfl) ?_
    refine at_end ?_
    refine at_seq ?_
    refine at_region ?_
    refine at_q rfl rfl (by decide) (qt_loadS rfl rfl tys_impl_Pt rfl (rdAll (k := 0) rfl)) ?_
    refine at_q rfl rfl (by decide) (qt_loadS rfl rfl tys_impl_Pt rfl (rdAll (k := 1) rfl)) ?_
    refine at_q rfl rfl (by decide) (qt_neqS_impl_Pt rfl rfl rfl) ?_
    refine at_end ?_
    refine at_cond rfl (fun c2 => ?_) (fun c2 => ?_)
    · try simp only [decide_eq_true_eq, decide_eq_false_iff_not, beq_iff_eq, beq_eq_false_iff_ne, Bool.not_eq_true', Bool.not_eq_false', Bool.not_true, Bool.not_false, Int.not_lt, Int.not_le, ne_eq, Nat.not_lt, Nat.not_le] at c2
      have hne : pt (rot xs i) j ≠ pt (rot xs k) j := (by rw [p1, p2]; exact ptNe c2)
      refine at_seq ?_
      refine at_region ?_
      refine at_q rfl rfl (by decide) (qt_loadS rfl rfl tys_impl_Pt rfl (rdAll (k := 0) rfl)) ?_
      refine at_q rfl rfl (by decide) (qt_loadS rfl rfl tys_impl_Pt rfl (rdAll (k := 1) rfl)) ?_
      refine at_q rfl rfl (by decide) (qt_call ok_spec_l13Before rfl rfl (fun w1 hs => l13Before_p (pt xs ((i + j) % n)) (pt xs ((k + j) % n)) w1)) ?_
      refine at_q rfl rfl (by decide) (qt_assign rfl rfl) ?_
      refine at_end ?_
      refine at_retc ?_
      refine pass_ret ?_
      refine then_ret ?_
      refine then_ret ?_
      refine pass_ret ?_
      refine then_ret ?_
      refine at_ret1 rfl (.tmp rfl) ?_
      intro w' hs
      exact ⟨by rw [← lexL_before (by omega) (by omega) hne hj2, p1, p2], hs.fin⟩
    · try simp only [decide_eq_true_eq, decide_eq_false_iff_not, beq_iff_eq, beq_eq_false_iff_ne, Bool.not_eq_true', Bool.not_eq_false', Bool.not_true, Bool.not_false, Int.not_lt, Int.not_le, ne_eq, Nat.not_lt, Nat.not_le] at c2
      have hne : pt (rot xs i) j = pt (rot xs k) j := (by rw [p1, p2]; exact ptEq' c2)
      refine at_skip ?_
      refine norm_block ?_
      refine norm_then ?_
      refine at_region ?_
      refine at_q rfl rfl (by decide) (qt_move rfl rfl) ?_
      refine at_q rfl rfl (by decide) (qt_add rfl rfl rfl (by omega) (by omega)) ?_
      refine at_q rfl rfl (by decide) (qt_assign rfl rfl) ?_
      refine at_end ?_
      exact at_againk hL1 (j + 1) (⟨by omega, by rw [← lexC_eq (by omega) (by omega) hne]; exact hj2⟩) (by omega) ⟨vi (by omega), rfl, rfl, rfl, rfl, rfl, trivial⟩ (fun _ h => h.upto trivial)
  · try simp only [decide_eq_true_eq, decide_eq_false_iff_not, beq_iff_eq, beq_eq_false_iff_ne, Bool.not_eq_true', Bool.not_eq_false', Bool.not_true, Bool.not_false, Int.not_lt, Int.not_le, ne_eq, Nat.not_lt, Nat.not_le] at c1
    refine at_exit ?_
    refine pass_then (fun h => by cases h) ?_
    refine pass_then (fun h => by cases h) ?_
    refine pass_hit ?_
    refine norm_then ?_
    refine at_seq ?_
    refine at_region ?_
    refine at_q rfl rfl (by decide) (qt_assign rfl rfl) ?_
    refine at_end ?_
    refine at_retc ?_
    refine at_ret1 rfl (.tmp rfl) ?_
    intro w' hs
    exact ⟨by rw [lexL, ← hj2, lexC_end (by omega) (by omega), if_neg (by omega)]; rfl, hs.fin⟩
theorem l14Turned_any (bb oo : Nat) (A : Option Addr) (n c : Nat) (xs : List Pn) (w : World) (hcell : w.cell? ⟨bb, oo, none⟩ = some (.slice A n c)) (hbB : bb < w.heap.size) (h : Pts w A n xs) (h0 : 0 < n) (hn : n ≤ 1048577) :
    Calls Try.prog 66 #[.pointer (some ⟨bb, oo, none⟩)] w fun e w' => ∃ v, e = .returned (.agg #[v]) ∧ w'.ownsRow w.heap.size 24 2 v n ((turnP xs).flatMap ptCells) ∧ Over w w' := by
  have hl := h.1
  have htn := turnK_lt xs n h0
  obtain ⟨eb, eo, rfl, _⟩ := h.2 h0
  have hrl : (rot xs (turnK xs n)).length = n := rot_len.trans hl
  refine walk_from (m := 49) (Try.func66) rfl rfl (Nat.le_of_ble_eq_true rfl) ?_
  refine at_seq ?_
  refine at_region ?_
  refine at_op rfl ?_
  refine op_alloc rfl tyz_impl_Ring rfl (by decide) (fun b1 => ?_)
  refine at_rsE (by simp only [List.nil_append, List.cons_append, List.set_cons_zero, List.set_cons_succ, Value.cells, List.toList_toArray]; rfl) ?_
  refine at_end ?_
  refine at_seq ?_
  refine at_region ?_
  refine at_q rfl rfl (by decide) (qt_move rfl rfl) ?_
  refine at_q rfl rfl (by decide) (qt_nilCheck rfl rfl) ?_
  refine at_q rfl rfl (by decide) (qt_fieldAddr rfl rfl tyf_impl_Ring_0) ?_
  refine at_q rfl rfl (by decide) (qt_load1 rfl rfl ty1_sl_impl_Pt (rdOld0 hcell hbB)) ?_
  refine at_q rfl rfl (by decide) (qt_len rfl rfl tyl_sl_impl_Pt) ?_
  refine at_q rfl rfl (by decide) (qt_assign rfl rfl) ?_
  refine at_end ?_
  refine at_seq ?_
  refine at_region ?_
  refine at_q rfl rfl (by decide) (qt_assign rfl rfl) ?_
  refine at_end ?_
  refine at_seq ?_
  refine at_seq ?_
  refine at_region ?_
  refine at_q rfl rfl (by decide) (qt_assign rfl rfl) ?_
  refine at_end ?_
  refine at_block ?_
  refine at_loopk (X := Nat) (fun k => 1 ≤ k ∧ k ≤ n) (fun k => n - k) (fun k => [(4, .int .i64 ((turnK xs k : Nat) : Int)), (5, .int .i64 (k : Int))]) (C := [(0, _), (2, _), (3, _)]) ⟨rfl, rfl, rfl, trivial⟩ 1 (⟨Nat.le_refl _, h0⟩) ⟨vi (by rw [turnK_one]; rfl), rfl, rfl, rfl, rfl, trivial⟩ ?_
  intro k hk L hL1
  refine at_envE (by simp only [List.nil_append, List.cons_append]; rfl) ?_
  have htk := turnK_lt xs k hk.1
  refine at_seq ?_
  refine at_seq ?_
  refine at_region ?_
  refine at_q rfl rfl (by decide) (qt_move rfl rfl) ?_
  refine at_q rfl rfl (by decide) (qt_move rfl rfl) ?_
  refine at_q rfl rfl (by decide) (qt_lss rfl rfl rfl) ?_
  refine at_end ?_
  refine at_cond rfl (fun c1 => ?_) (fun c1 => ?_)
  · try simp only [decide_eq_true_eq, decide_eq_false_iff_not, beq_iff_eq, beq_eq_false_iff_ne, Bool.not_eq_true', Bool.not_eq_false', Bool.not_true, Bool.not_false, Int.not_lt, Int.not_le, ne_eq, Nat.not_lt, Nat.not_le] at c1
    refine at_skip ?_
    refine norm_then ?_
    refine at_seq ?_
    refine at_block ?_
    refine at_seq ?_
    refine at_region ?_
    refine at_q rfl rfl (by decide) (qt_move rfl rfl) ?_
    refine at_q rfl rfl (by decide) (qt_nilCheck rfl rfl) ?_
    refine at_q rfl rfl (by decide) (qt_fieldAddr rfl rfl tyf_impl_Ring_0) ?_
    refine at_q rfl rfl (by decide) (qt_load1 rfl rfl ty1_sl_impl_Pt (rdOld0 hcell hbB)) ?_
    refine at_q rfl rfl (by decide) (qt_move rfl rfl) ?_
    refine at_q rfl rfl (by decide) (qt_move rfl rfl) ?_
    refine at_q rfl rfl (by decide) (qt_call ok_spec_l14Earlier rfl rfl (fun w1 hs => l14Earlier_any _ n c k (turnK xs k) xs w1 (h.over hs.fin) (by omega) (by omega) (by omega))) ?_
    refine at_end ?_
    refine at_cond rfl (fun c2 => ?_) (fun c2 => ?_)
    · try simp only [decide_eq_true_eq, decide_eq_false_iff_not, beq_iff_eq, beq_eq_false_iff_ne, Bool.not_eq_true', Bool.not_eq_false', Bool.not_true, Bool.not_false, Int.not_lt, Int.not_le, ne_eq, Nat.not_lt, Nat.not_le] at c2
      refine at_region ?_
      refine at_q rfl rfl (by decide) (qt_move rfl rfl) ?_
      refine at_q rfl rfl (by decide) (qt_assign rfl rfl) ?_
      refine at_nil ?_
      refine norm_block ?_
      refine norm_then ?_
      refine at_region ?_
      refine at_q rfl rfl (by decide) (qt_move rfl rfl) ?_
      refine at_q rfl rfl (by decide) (qt_add rfl rfl rfl (by omega) (by omega)) ?_
      refine at_q rfl rfl (by decide) (qt_assign rfl rfl) ?_
      refine at_end ?_
      exact at_againk hL1 (k + 1) (by omega) (by omega) ⟨vi (by rw [turnK_yes c2]), vi (by omega), rfl, rfl, rfl, trivial⟩ (fun _ h => h.upto ⟨rfl, trivial⟩)
    · try simp only [decide_eq_true_eq, decide_eq_false_iff_not, beq_iff_eq, beq_eq_false_iff_ne, Bool.not_eq_true', Bool.not_eq_false', Bool.not_true, Bool.not_false, Int.not_lt, Int.not_le, ne_eq, Nat.not_lt, Nat.not_le] at c2
      refine at_skip ?_
      refine norm_block ?_
      refine norm_then ?_
      refine at_region ?_
      refine at_q rfl rfl (by decide) (qt_move rfl rfl) ?_
      refine at_q rfl rfl (by decide) (qt_add rfl rfl rfl (by omega) (by omega)) ?_
      refine at_q rfl rfl (by decide) (qt_assign rfl rfl) ?_
      refine at_end ?_
      exact at_againk hL1 (k + 1) (by omega) (by omega) ⟨vi (by rw [turnK_no c2]), vi (by omega), rfl, rfl, rfl, trivial⟩ (fun _ h => h.upto ⟨rfl, trivial⟩)
  · try simp only [decide_eq_true_eq, decide_eq_false_iff_not, beq_iff_eq, beq_eq_false_iff_ne, Bool.not_eq_true', Bool.not_eq_false', Bool.not_true, Bool.not_false, Int.not_lt, Int.not_le, ne_eq, Nat.not_lt, Nat.not_le] at c1
    have hkn : k = n := (by omega)
    subst hkn
    refine at_exit ?_
    refine pass_then (fun h => by cases h) ?_
    refine pass_then (fun h => by cases h) ?_
    refine pass_hit ?_
    refine norm_then ?_
    refine at_seq ?_
    refine at_region ?_
    refine at_q rfl rfl (by decide) (qt_build rfl rfl (bld_impl_Ring_)) ?_
    refine at_op rfl ?_
    refine op_alloc rfl tyz_impl_Ring rfl (by decide) (fun b2 => ?_)
    refine at_rsE (by simp only [List.nil_append, List.cons_append, List.set_cons_zero, List.set_cons_succ, Value.cells, List.toList_toArray]; rfl) ?_
    refine at_op rfl ?_
    refine op_storeAll' (k := 1) rfl rfl rfl rfl (rfl) (by rfl) tyz_impl_Ring.szx rfl rfl rfl ?_
    refine at_rsE (by simp only [List.nil_append, List.cons_append, List.set_cons_zero, List.set_cons_succ, Value.cells, List.toList_toArray]; rfl) ?_
    refine at_end ?_
    refine at_row0 (T := 24) (s := 2) ?_
    refine at_rsE (by simp only [List.nil_append, List.cons_append, List.set_cons_zero, List.set_cons_succ, List.eraseIdx_cons_zero, List.eraseIdx_cons_succ, Value.cells, List.toList_toArray]; rfl) ?_
    refine at_seq ?_
    refine at_seq ?_
    refine at_region ?_
    refine at_q rfl rfl (by decide) (qt_assign rfl rfl) ?_
    refine at_end ?_
    refine at_block ?_
    refine at_loopc (X := Nat × Option Addr × Nat) (fun y => y.1 ≤ k) (fun y => k - y.1) (fun y => [(7, .int .i64 (y.1 : Int))]) (C := [(0, _), (2, _), (3, _), (4, _), (6, _)]) ⟨rfl, rfl, rfl, rfl, rfl, trivial⟩ (fun y => [.cel b1 88 [.slice none 0 0], .cel b2 88 [.slice y.2.1 y.1 y.2.2], rowR (Bs.N ⟨w, []⟩) 24 2 y.1 (((rot xs (turnK xs k)).take y.1).flatMap ptCells) y.2]) (0, none, 0) (Nat.zero_le _) ⟨rfl, rfl, rfl, rfl, rfl, rfl, trivial⟩ (fun _ h => h) ?_
    intro ⟨j, qA, qc⟩ hy L hL2
    refine at_envE (by simp only [List.nil_append, List.cons_append]; rfl) ?_
    refine at_rsE (by first | (dsimp only; done) | (dsimp only; rfl) | rfl) ?_
    have hj : j ≤ k := hy
    refine at_seq ?_
    refine at_seq ?_
    refine at_region ?_
    refine at_q rfl rfl (by decide) (qt_move rfl rfl) ?_
    refine at_q rfl rfl (by decide) (qt_move rfl rfl) ?_
    refine at_q rfl rfl (by decide) (qt_lss rfl rfl rfl) ?_
    refine at_end ?_
    refine at_cond rfl (fun c3 => ?_) (fun c3 => ?_)
    · try simp only [decide_eq_true_eq, decide_eq_false_iff_not, beq_iff_eq, beq_eq_false_iff_ne, Bool.not_eq_true', Bool.not_eq_false', Bool.not_true, Bool.not_false, Int.not_lt, Int.not_le, ne_eq, Nat.not_lt, Nat.not_le] at c3
      have hjl : j < k := (by omega)
      have m1 : (turnK xs k + j) % k < k := Nat.mod_lt _ (by omega)
      refine at_skip ?_
      refine norm_then ?_
      refine at_seq ?_
      refine at_block ?_
      refine dg_start mixed rfl ?_
      refine dg_phase 14 ?_
      refine dg_q (i := 0) rfl (by kernel_rfl) (by kernel_rfl) (by kernel_rfl) [1] (by kernel_rfl) (fun _ _ _ h => h) rfl rfl (by decide) (fun _ h => h.upto ⟨rfl, rfl, rfl, trivial⟩) (qt_fieldAddr rfl rfl tyf_impl_Ring_0) ?_
      refine dg_q (i := 1) rfl (by kernel_rfl) (by kernel_rfl) (by kernel_rfl) [] (by kernel_rfl) (fun _ _ _ h => h) rfl rfl (by decide) (fun _ h => h.upto ⟨rfl, rfl, rfl, trivial⟩) (qt_load1 rfl rfl ty1_sl_impl_Pt (rd1 (k := 1) rfl rfl)) ?_
      refine dg_q (i := 2) rfl (by kernel_rfl) (by kernel_rfl) (by kernel_rfl) [3, 4, 5, 11, 12, 13] (by kernel_rfl) (fun _ _ _ h => h) rfl rfl (by decide) (fun _ h => h.upto ⟨rfl, rfl, rfl, trivial⟩) (qt_move rfl rfl) ?_
      refine dg_q (i := 3) rfl (by kernel_rfl) (by kernel_rfl) (by kernel_rfl) [4, 5, 11, 12, 13] (by kernel_rfl) (fun _ _ _ h => h) rfl rfl (by decide) (fun _ h => h.upto ⟨rfl, rfl, rfl, trivial⟩) (qt_nilCheck rfl rfl) ?_
      refine dg_q (i := 4) rfl (by kernel_rfl) (by kernel_rfl) (by kernel_rfl) [5, 11, 12, 13] (by kernel_rfl) (fun _ _ _ h => h) rfl rfl (by decide) (fun _ h => h.upto ⟨rfl, rfl, rfl, trivial⟩) (qt_fieldAddr rfl rfl tyf_impl_Ring_0) ?_
      refine dg_q (i := 5) rfl (by kernel_rfl) (by kernel_rfl) (by kernel_rfl) [11, 12, 13] (by kernel_rfl) (fun _ _ _ h => h) rfl rfl (by decide) (fun _ h => h.upto ⟨rfl, rfl, rfl, trivial⟩) (qt_load1 rfl rfl ty1_sl_impl_Pt (rdOld0 hcell hbB)) ?_
      refine dg_q (i := 6) rfl (by kernel_rfl) (by kernel_rfl) (by kernel_rfl) [8, 10, 11, 12, 13] (by kernel_rfl) (fun _ _ _ h => h) rfl rfl (by decide) (fun _ h => h.upto ⟨rfl, rfl, rfl, trivial⟩) (qt_move rfl rfl) ?_
      refine dg_q (i := 7) rfl (by kernel_rfl) (by kernel_rfl) (by kernel_rfl) [8, 10, 11, 12, 13] (by kernel_rfl) (fun _ _ _ h => h) rfl rfl (by decide) (fun _ h => h.upto ⟨rfl, rfl, rfl, trivial⟩) (qt_move rfl rfl) ?_
      refine dg_q (i := 8) rfl (by kernel_rfl) (by kernel_rfl) (by kernel_rfl) [10, 11, 12, 13] (by kernel_rfl) (fun _ _ _ h => h) rfl rfl (by decide) (fun _ h => h.upto ⟨rfl, rfl, rfl, trivial⟩) (qt_add rfl rfl rfl (by omega) (by omega)) ?_
      refine dg_q (i := 9) rfl (by kernel_rfl) (by kernel_rfl) (by kernel_rfl) [10, 11, 12, 13] (by kernel_rfl) (fun _ _ _ h => h) rfl rfl (by decide) (fun _ h => h.upto ⟨rfl, rfl, rfl, trivial⟩) (qt_move rfl rfl) ?_
      refine dg_q (i := 10) rfl (by kernel_rfl) (by kernel_rfl) (by kernel_rfl) [11, 12, 13] (by kernel_rfl) (fun _ _ _ h => h) rfl rfl (by decide) (fun _ h => h.upto ⟨rfl, rfl, rfl, trivial⟩) ((qt_rem rfl rfl rfl (by omega) (by omega) (by omega)).as (congrArg _ (mod_int (turnK xs k) j k))) ?_
      refine dg_q (i := 11) rfl (by kernel_rfl) (by kernel_rfl) (by kernel_rfl) [12, 13] (by kernel_rfl) (fun _ _ _ h => h) rfl rfl (by decide) (fun _ h => h.upto ⟨rfl, rfl, rfl, trivial⟩) (qt_index (j := (turnK xs k + j) % k) rfl rfl rfl tyl_sl_impl_Pt (by omega)) ?_
      refine dg_q (i := 12) rfl (by kernel_rfl) (by kernel_rfl) (by kernel_rfl) [13] (by kernel_rfl) (fun _ _ _ h => h) rfl rfl (by decide) (fun _ h => h.upto ⟨rfl, rfl, rfl, trivial⟩) (qt_loadS rfl rfl tys_impl_Pt rfl (rdPts (b := eb) (o := eo) h m1)) ?_
      refine dg_one (i := 13) rfl (by decide) (by kernel_rfl) rfl ?_
      refine op_buildSlice rfl rfl (bsl_sl_impl_Pt_1_0 rfl) rfl (by decide) (fun b3 => ?_)
      refine at_rsE (by simp only [List.nil_append, List.cons_append, List.set_cons_zero, List.set_cons_succ, Value.cells, List.toList_toArray]; rfl) ?_
      refine dr_keep (fun _ h => h.upto ⟨rfl, rfl, rfl, trivial⟩) ?_
      refine dg_bar rfl (by kernel_rfl) rfl ?_
      refine op_appendR (k := 2) rfl tyl_sl_impl_Pt tyz_impl_Pt (by decide) rfl (by decide) rfl rfl rfl (fun w' hs => src_cel hs (k := 3) rfl rfl) (by simp [Value.oneCell']) (by unfold maxLen; omega) (by omega) (Nat.le_refl _) (fun r1 => ?_)
      refine at_rsE (by simp only [List.nil_append, List.cons_append, List.set_cons_zero, List.set_cons_succ, Value.cells, List.toList_toArray]; rfl) ?_
      refine dg_phaseW 17 [1] ?_
      refine dg_q (i := 15) rfl (by kernel_rfl) (by kernel_rfl) (by kernel_rfl) [] (by kernel_rfl) (fun _ _ _ h => h) rfl rfl (by decide) (fun _ h => (h.wk [1]).upto ⟨rfl, rfl, rfl, rfl, trivial⟩) (qt_fieldAddr rfl rfl tyf_impl_Ring_0) ?_
      refine dg_one (i := 16) rfl (by decide) (by kernel_rfl) rfl ?_
      refine op_storeAll' (k := 1) rfl rfl rfl rfl (rfl) (by rfl) tyz_sl_impl_Pt.szx rfl rfl rfl ?_
      refine at_rsE (by simp only [List.nil_append, List.cons_append, List.set_cons_zero, List.set_cons_succ, Value.cells, List.toList_toArray]; rfl) ?_
      refine dr_keep (fun _ h => (h.wk [1]).upto ⟨rfl, rfl, rfl, rfl, trivial⟩) ?_
      refine dg_done (by kernel_rfl) ?_
      refine norm_block ?_
      refine norm_then ?_
      refine at_region ?_
      refine at_q rfl rfl (by decide) (qt_move rfl rfl) ?_
      refine at_q rfl rfl (by decide) (qt_add rfl rfl rfl (by omega) (by omega)) ?_
      refine at_q rfl rfl (by decide) (qt_assign rfl rfl) ?_
      refine at_end ?_
      exact at_againc hL2 ((j + 1, r1)) ((show j + 1 ≤ k by omega)) (by simp only; omega) ⟨vi (by omega), rfl, rfl, rfl, rfl, rfl, trivial⟩ (fun _ h => h.upto ⟨rfl, rfl, by have := rot_take_step (xs := xs) (k := turnK xs k) (j := j) (by omega) (by omega); rw [hl] at this; rw [← this]; rfl, trivial⟩)
    · try simp only [decide_eq_true_eq, decide_eq_false_iff_not, beq_iff_eq, beq_eq_false_iff_ne, Bool.not_eq_true', Bool.not_eq_false', Bool.not_true, Bool.not_false, Int.not_lt, Int.not_le, ne_eq, Nat.not_lt, Nat.not_le] at c3
      have hje : j = k := (by omega)
      subst hje
      rw [List.take_of_length_le (by omega)]
      refine at_exit ?_
      refine pass_then (fun h => by cases h) ?_
      refine pass_then (fun h => by cases h) ?_
      refine pass_hit ?_
      refine norm_then ?_
      refine at_seq ?_
      refine at_region ?_
      refine at_q rfl rfl (by decide) (qt_loadS rfl rfl tys_impl_Ring rfl (rdAll (k := 1) rfl)) ?_
      refine at_op rfl ?_
      refine op_storeAll' (k := 0) rfl rfl rfl rfl (rfl) (by rfl) tyz_impl_Ring.szx rfl rfl rfl ?_
      refine at_rsE (by simp only [List.nil_append, List.cons_append, List.set_cons_zero, List.set_cons_succ, Value.cells, List.toList_toArray]; rfl) ?_
      refine at_end ?_
      refine at_retc ?_
      refine at_ret1 rfl (rvCelS (k := 0) rfl tys_impl_Ring rfl rfl) ?_
      intro w' hs
      have hr := hs.all 2 _ rfl
      exact ⟨_, rfl, row_from (show _ by rw [turnP, hl]; exact hr.1) (fun b hb => (hr.2.1 b hb).elim id (fun h => by cases h)), hs.fin⟩
theorem l14Less_any (b1 o1 b2 o2 : Nat) (A B : Option Addr) (n c m d : Nat) (xs ys : List Pn) (w : World) (h1c : w.cell? ⟨b1, o1, none⟩ = some (.slice A n c)) (hb1 : b1 < w.heap.size) (h2c : w.cell? ⟨b2, o2, none⟩ = some (.slice B m d)) (hb2 : b2 < w.heap.size)
    (h : Pts w A n xs) (h' : Pts w B m ys) (hn : n ≤ 1099511627776) (hm : m ≤ 1099511627776) :
    Calls Try.prog 67 #[.pointer (some ⟨b1, o1, none⟩), .pointer (some ⟨b2, o2, none⟩)] w fun e w' => e = .returned (.bool (lexL xs ys)) ∧ Over w w' := by
  have hl := h.1
  have hl' := h'.1
  refine walk_from (m := 65) (Try.func67) rfl rfl (Nat.le_of_ble_eq_true rfl) ?_
  refine at_seq ?_
  refine at_region ?_
  refine at_q rfl rfl (by decide) (qt_assign rfl rfl) ?_
  refine at_end ?_
  refine at_seq ?_
  refine at_seq ?_
  refine at_region ?_
  refine at_q rfl rfl (by decide) (qt_assign rfl rfl) ?_
  refine at_end ?_
  refine at_block ?_
  refine at_loopk (X := Nat) (fun k => k ≤ n ∧ k ≤ m ∧ lexC (xs.drop k) (ys.drop k) = lexC xs ys) (fun k => n - k) (fun k => [(5, .int .i64 (k : Int))]) (C := [(0, _), (1, _), (4, _)]) ⟨rfl, rfl, rfl, trivial⟩ 0 (⟨Nat.zero_le _, Nat.zero_le _, rfl⟩) ⟨rfl, rfl, rfl, rfl, trivial⟩ ?_
  intro k hk L hL1
  refine at_envE (by simp only [List.nil_append, List.cons_append]; rfl) ?_
  obtain ⟨hk1, hk2, hk3⟩ := hk
  refine at_seq ?_
  refine at_cutE [(21, .bool (decide (k < n) && decide (k < m)))] (C := [(0, _), (1, _), (4, _), (5, _)])  ⟨rfl, rfl, rfl, rfl, trivial⟩ (fun L hC_cut_2 => ?_) ?_
  · refine at_region ?_
    refine at_q rfl rfl (by decide) (qt_move rfl rfl) ?_
    refine at_q rfl rfl (by decide) (qt_move rfl rfl) ?_
    refine at_q rfl rfl (by decide) (qt_nilCheck rfl rfl) ?_
    refine at_q rfl rfl (by decide) (qt_fieldAddr rfl rfl tyf_impl_Ring_0) ?_
    refine at_q rfl rfl (by decide) (qt_load1 rfl rfl ty1_sl_impl_Pt (by first | exact rdOld0 h1c hb1 | exact rdOld0 h2c hb2)) ?_
    refine at_q rfl rfl (by decide) (qt_len rfl rfl tyl_sl_impl_Pt) ?_
    refine at_q rfl rfl (by decide) (qt_lss rfl rfl rfl) ?_
    refine at_q rfl rfl (by decide) (qt_move rfl rfl) ?_
    refine at_bsplit 13 rfl (fun g1 => ?_) (fun g1 => ?_)
    · try simp only [decide_eq_true_eq, decide_eq_false_iff_not, beq_iff_eq, beq_eq_false_iff_ne, Bool.not_eq_true', Bool.not_eq_false', Bool.not_true, Bool.not_false, Int.not_lt, Int.not_le, ne_eq, Nat.not_lt, Nat.not_le] at g1
      refine at_on rfl rfl rfl rfl ?_
      refine op_q rfl (by decide) (qt_move rfl rfl) ?_
      refine at_on rfl rfl rfl rfl ?_
      refine op_q rfl (by decide) (qt_move rfl rfl) ?_
      refine at_on rfl rfl rfl rfl ?_
      refine op_q rfl (by decide) (qt_nilCheck rfl rfl) ?_
      refine at_on rfl rfl rfl rfl ?_
      refine op_q rfl (by decide) (qt_fieldAddr rfl rfl tyf_impl_Ring_0) ?_
      refine at_on rfl rfl rfl rfl ?_
      refine op_q rfl (by decide) (qt_load1 rfl rfl ty1_sl_impl_Pt (by first | exact rdOld0 h1c hb1 | exact rdOld0 h2c hb2)) ?_
      refine at_on rfl rfl rfl rfl ?_
      refine op_q rfl (by decide) (qt_len rfl rfl tyl_sl_impl_Pt) ?_
      refine at_on rfl rfl rfl rfl ?_
      refine op_q rfl (by decide) (qt_lss rfl rfl rfl) ?_
      refine at_q rfl rfl (by decide) (qt_pickT rfl rfl rfl) ?_
      refine at_end ?_
      exact at_meet hC_cut_2 ⟨vb (by rw [show decide (k < n) = true from decide_eq_true (by omega), Bool.true_and]; exact decide_eq_decide.2 (by omega)), rfl, rfl, rfl, rfl, trivial⟩ (fun _ h => h.upto trivial)
    · try simp only [decide_eq_true_eq, decide_eq_false_iff_not, beq_iff_eq, beq_eq_false_iff_ne, Bool.not_eq_true', Bool.not_eq_false', Bool.not_true, Bool.not_false, Int.not_lt, Int.not_le, ne_eq, Nat.not_lt, Nat.not_le] at g1
      refine at_off rfl rfl rfl rfl (by decide) rfl (by decide) ?_
      refine at_off rfl rfl rfl rfl (by decide) rfl (by decide) ?_
      refine at_off rfl rfl rfl rfl (by decide) rfl (by decide) ?_
      refine at_off rfl rfl rfl rfl (by decide) rfl (by decide) ?_
      refine at_off rfl rfl rfl rfl (by decide) rfl (by decide) ?_
      refine at_off rfl rfl rfl rfl (by decide) rfl (by decide) ?_
      refine at_off rfl rfl rfl rfl (by decide) rfl (by decide) ?_
      refine at_q rfl rfl (by decide) (qt_pickF rfl rfl rfl) ?_
      refine at_end ?_
      exact at_meet hC_cut_2 ⟨vb (by rw [show decide (k < n) = false from decide_eq_false (by omega), Bool.false_and]), rfl, rfl, rfl, rfl, trivial⟩ (fun _ h => h.upto trivial)
  · refine at_envE (by simp only [List.nil_append, List.cons_append]; rfl) ?_
    refine at_cond rfl (fun c1 => ?_) (fun c1 => ?_)
    · try simp only [decide_eq_true_eq, decide_eq_false_iff_not, beq_iff_eq, beq_eq_false_iff_ne, Bool.not_eq_true', Bool.not_eq_false', Bool.not_true, Bool.not_false, Int.not_lt, Int.not_le, ne_eq, Nat.not_lt, Nat.not_le] at c1
      simp only [Bool.and_eq_true, decide_eq_true_eq] at c1
      obtain ⟨hlt, hmk⟩ := c1
      obtain ⟨eb, eo, rfl, _⟩ := h.2 (by omega)
      obtain ⟨fb, fo, rfl, _⟩ := h'.2 (by omega)
      refine at_skip ?_
      refine norm_then ?_
      refine at_seq ?_
      refine at_block ?_
      refine at_seq ?_
      refine dg_start mixed rfl ?_
      refine dg_phase 15 ?_
      refine dg_q (i := 0) rfl (by kernel_rfl) (by kernel_rfl) (by kernel_rfl) [] (by kernel_rfl) (fun _ _ _ h => h) rfl rfl (by decide) (fun _ h => h.upto trivial) (qt_move rfl rfl) ?_
      refine dg_q (i := 1) rfl (by kernel_rfl) (by kernel_rfl) (by kernel_rfl) [] (by kernel_rfl) (fun _ _ _ h => h) rfl rfl (by decide) (fun _ h => h.upto trivial) (qt_nilCheck rfl rfl) ?_
      refine dg_q (i := 2) rfl (by kernel_rfl) (by kernel_rfl) (by kernel_rfl) [] (by kernel_rfl) (fun _ _ _ h => h) rfl rfl (by decide) (fun _ h => h.upto trivial) (qt_fieldAddr rfl rfl tyf_impl_Ring_0) ?_
      refine dg_q (i := 3) rfl (by kernel_rfl) (by kernel_rfl) (by kernel_rfl) [] (by kernel_rfl) (fun _ _ _ h => h) rfl rfl (by decide) (fun _ h => h.upto trivial) (qt_load1 rfl rfl ty1_sl_impl_Pt (by first | exact rdOld0 h1c hb1 | exact rdOld0 h2c hb2)) ?_
      refine dg_q (i := 4) rfl (by kernel_rfl) (by kernel_rfl) (by kernel_rfl) [] (by kernel_rfl) (fun _ _ _ h => h) rfl rfl (by decide) (fun _ h => h.upto trivial) (qt_move rfl rfl) ?_
      refine dg_q (i := 5) rfl (by kernel_rfl) (by kernel_rfl) (by kernel_rfl) [] (by kernel_rfl) (fun _ _ _ h => h) rfl rfl (by decide) (fun _ h => h.upto trivial) (qt_index rfl rfl rfl tyl_sl_impl_Pt (by omega)) ?_
      refine dg_q (i := 6) rfl (by kernel_rfl) (by kernel_rfl) (by kernel_rfl) [] (by kernel_rfl) (fun _ _ _ h => h) rfl rfl (by decide) (fun _ h => h.upto trivial) (qt_loadS rfl rfl tys_impl_Pt rfl (rdPts (b := eb) (o := eo) h hlt)) ?_
      refine dg_q (i := 7) rfl (by kernel_rfl) (by kernel_rfl) (by kernel_rfl) [] (by kernel_rfl) (fun _ _ _ h => h) rfl rfl (by decide) (fun _ h => h.upto trivial) (qt_move rfl rfl) ?_
      refine dg_q (i := 8) rfl (by kernel_rfl) (by kernel_rfl) (by kernel_rfl) [] (by kernel_rfl) (fun _ _ _ h => h) rfl rfl (by decide) (fun _ h => h.upto trivial) (qt_nilCheck rfl rfl) ?_
      refine dg_q (i := 9) rfl (by kernel_rfl) (by kernel_rfl) (by kernel_rfl) [] (by kernel_rfl) (fun _ _ _ h => h) rfl rfl (by decide) (fun _ h => h.upto trivial) (qt_fieldAddr rfl rfl tyf_impl_Ring_0) ?_
      refine dg_q (i := 10) rfl (by kernel_rfl) (by kernel_rfl) (by kernel_rfl) [] (by kernel_rfl) (fun _ _ _ h => h) rfl rfl (by decide) (fun _ h => h.upto trivial) (qt_load1 rfl rfl ty1_sl_impl_Pt (by first | exact rdOld0 h1c hb1 | exact rdOld0 h2c hb2)) ?_
      refine dg_q (i := 11) rfl (by kernel_rfl) (by kernel_rfl) (by kernel_rfl) [] (by kernel_rfl) (fun _ _ _ h => h) rfl rfl (by decide) (fun _ h => h.upto trivial) (qt_move rfl rfl) ?_
      refine dg_q (i := 12) rfl (by kernel_rfl) (by kernel_rfl) (by kernel_rfl) [] (by kernel_rfl) (fun _ _ _ h => h) rfl rfl (by decide) (fun _ h => h.upto trivial) (qt_index rfl rfl rfl tyl_sl_impl_Pt (by omega)) ?_
      refine dg_q (i := 13) rfl (by kernel_rfl) (by kernel_rfl) (by kernel_rfl) [] (by kernel_rfl) (fun _ _ _ h => h) rfl rfl (by decide) (fun _ h => h.upto trivial) (qt_loadS rfl rfl tys_impl_Pt rfl (rdPts (b := fb) (o := fo) h' hmk)) ?_
      refine dg_q (i := 14) rfl (by kernel_rfl) (by kernel_rfl) (by kernel_rfl) [] (by kernel_rfl) (fun _ _ _ h => h) rfl rfl (by decide) (fun _ h => h.upto trivial) (qt_neqS_impl_Pt rfl rfl rfl) ?_
      refine dg_done (by kernel_rfl) ?_
      refine norm_then ?_
      refine at_cond rfl (fun c2 => ?_) (fun c2 => ?_)
      · try simp only [decide_eq_true_eq, decide_eq_false_iff_not, beq_iff_eq, beq_eq_false_iff_ne, Bool.not_eq_true', Bool.not_eq_false', Bool.not_true, Bool.not_false, Int.not_lt, Int.not_le, ne_eq, Nat.not_lt, Nat.not_le] at c2
        refine at_seq ?_
        refine dg_start mixed rfl ?_
        refine dg_phase 16 ?_
        refine dg_q (i := 0) rfl (by kernel_rfl) (by kernel_rfl) (by kernel_rfl) [] (by kernel_rfl) (fun _ _ _ h => h) rfl rfl (by decide) (fun _ h => h.upto trivial) (qt_move rfl rfl) ?_
        refine dg_q (i := 1) rfl (by kernel_rfl) (by kernel_rfl) (by kernel_rfl) [] (by kernel_rfl) (fun _ _ _ h => h) rfl rfl (by decide) (fun _ h => h.upto trivial) (qt_nilCheck rfl rfl) ?_
        refine dg_q (i := 2) rfl (by kernel_rfl) (by kernel_rfl) (by kernel_rfl) [] (by kernel_rfl) (fun _ _ _ h => h) rfl rfl (by decide) (fun _ h => h.upto trivial) (qt_fieldAddr rfl rfl tyf_impl_Ring_0) ?_
        refine dg_q (i := 3) rfl (by kernel_rfl) (by kernel_rfl) (by kernel_rfl) [] (by kernel_rfl) (fun _ _ _ h => h) rfl rfl (by decide) (fun _ h => h.upto trivial) (qt_load1 rfl rfl ty1_sl_impl_Pt (by first | exact rdOld0 h1c hb1 | exact rdOld0 h2c hb2)) ?_
        refine dg_q (i := 4) rfl (by kernel_rfl) (by kernel_rfl) (by kernel_rfl) [] (by kernel_rfl) (fun _ _ _ h => h) rfl rfl (by decide) (fun _ h => h.upto trivial) (qt_move rfl rfl) ?_
        refine dg_q (i := 5) rfl (by kernel_rfl) (by kernel_rfl) (by kernel_rfl) [] (by kernel_rfl) (fun _ _ _ h => h) rfl rfl (by decide) (fun _ h => h.upto trivial) (qt_index rfl rfl rfl tyl_sl_impl_Pt (by omega)) ?_
        refine dg_q (i := 6) rfl (by kernel_rfl) (by kernel_rfl) (by kernel_rfl) [] (by kernel_rfl) (fun _ _ _ h => h) rfl rfl (by decide) (fun _ h => h.upto trivial) (qt_loadS rfl rfl tys_impl_Pt rfl (rdPts (b := eb) (o := eo) h hlt)) ?_
        refine dg_q (i := 7) rfl (by kernel_rfl) (by kernel_rfl) (by kernel_rfl) [] (by kernel_rfl) (fun _ _ _ h => h) rfl rfl (by decide) (fun _ h => h.upto trivial) (qt_move rfl rfl) ?_
        refine dg_q (i := 8) rfl (by kernel_rfl) (by kernel_rfl) (by kernel_rfl) [] (by kernel_rfl) (fun _ _ _ h => h) rfl rfl (by decide) (fun _ h => h.upto trivial) (qt_nilCheck rfl rfl) ?_
        refine dg_q (i := 9) rfl (by kernel_rfl) (by kernel_rfl) (by kernel_rfl) [] (by kernel_rfl) (fun _ _ _ h => h) rfl rfl (by decide) (fun _ h => h.upto trivial) (qt_fieldAddr rfl rfl tyf_impl_Ring_0) ?_
        refine dg_q (i := 10) rfl (by kernel_rfl) (by kernel_rfl) (by kernel_rfl) [] (by kernel_rfl) (fun _ _ _ h => h) rfl rfl (by decide) (fun _ h => h.upto trivial) (qt_load1 rfl rfl ty1_sl_impl_Pt (by first | exact rdOld0 h1c hb1 | exact rdOld0 h2c hb2)) ?_
        refine dg_q (i := 11) rfl (by kernel_rfl) (by kernel_rfl) (by kernel_rfl) [] (by kernel_rfl) (fun _ _ _ h => h) rfl rfl (by decide) (fun _ h => h.upto trivial) (qt_move rfl rfl) ?_
        refine dg_q (i := 12) rfl (by kernel_rfl) (by kernel_rfl) (by kernel_rfl) [] (by kernel_rfl) (fun _ _ _ h => h) rfl rfl (by decide) (fun _ h => h.upto trivial) (qt_index rfl rfl rfl tyl_sl_impl_Pt (by omega)) ?_
        refine dg_q (i := 13) rfl (by kernel_rfl) (by kernel_rfl) (by kernel_rfl) [] (by kernel_rfl) (fun _ _ _ h => h) rfl rfl (by decide) (fun _ h => h.upto trivial) (qt_loadS rfl rfl tys_impl_Pt rfl (rdPts (b := fb) (o := fo) h' hmk)) ?_
        refine dg_q (i := 14) rfl (by kernel_rfl) (by kernel_rfl) (by kernel_rfl) [] (by kernel_rfl) (fun _ _ _ h => h) rfl rfl (by decide) (fun _ h => h.upto trivial) (qt_call ok_spec_l13Before rfl rfl (fun w1 hs => l13Before_p (pt xs k) (pt ys k) w1)) ?_
        refine dg_q (i := 15) rfl (by kernel_rfl) (by kernel_rfl) (by kernel_rfl) [] (by kernel_rfl) (fun _ _ _ h => h) rfl rfl (by decide) (fun _ h => h.upto trivial) (qt_assign rfl rfl) ?_
        refine dg_done (by kernel_rfl) ?_
        refine norm_then ?_
        refine at_retc ?_
        refine pass_ret ?_
        refine then_ret ?_
        refine then_ret ?_
        refine pass_ret ?_
        refine then_ret ?_
        refine at_ret1 rfl (.tmp rfl) ?_
        intro w' hs
        exact ⟨by rw [← lexL_before (by omega) (by omega) (ptNe c2) hk3], hs.fin⟩
      · try simp only [decide_eq_true_eq, decide_eq_false_iff_not, beq_iff_eq, beq_eq_false_iff_ne, Bool.not_eq_true', Bool.not_eq_false', Bool.not_true, Bool.not_false, Int.not_lt, Int.not_le, ne_eq, Nat.not_lt, Nat.not_le] at c2
        refine at_skip ?_
        refine norm_block ?_
        refine norm_then ?_
        refine at_region ?_
        refine at_q rfl rfl (by decide) (qt_move rfl rfl) ?_
        refine at_q rfl rfl (by decide) (qt_add rfl rfl rfl (by omega) (by omega)) ?_
        refine at_q rfl rfl (by decide) (qt_assign rfl rfl) ?_
        refine at_end ?_
        exact at_againk hL1 (k + 1) (⟨by omega, by omega, by rw [← lexC_eq (by omega) (by omega) (ptEq' c2)]; exact hk3⟩) (by omega) ⟨vi (by omega), rfl, rfl, rfl, trivial⟩ (fun _ h => h.upto trivial)
    · try simp only [decide_eq_true_eq, decide_eq_false_iff_not, beq_iff_eq, beq_eq_false_iff_ne, Bool.not_eq_true', Bool.not_eq_false', Bool.not_true, Bool.not_false, Int.not_lt, Int.not_le, ne_eq, Nat.not_lt, Nat.not_le] at c1
      simp only [Bool.and_eq_false_iff, decide_eq_false_iff_not] at c1
      refine at_exit ?_
      refine pass_then (fun h => by cases h) ?_
      refine pass_then (fun h => by cases h) ?_
      refine pass_hit ?_
      refine norm_then ?_
      refine at_seq ?_
      refine dg_start mixed rfl ?_
      refine dg_phase 12 ?_
      refine dg_q (i := 0) rfl (by kernel_rfl) (by kernel_rfl) (by kernel_rfl) [] (by kernel_rfl) (fun _ _ _ h => h) rfl rfl (by decide) (fun _ h => h.upto trivial) (qt_move rfl rfl) ?_
      refine dg_q (i := 1) rfl (by kernel_rfl) (by kernel_rfl) (by kernel_rfl) [] (by kernel_rfl) (fun _ _ _ h => h) rfl rfl (by decide) (fun _ h => h.upto trivial) (qt_nilCheck rfl rfl) ?_
      refine dg_q (i := 2) rfl (by kernel_rfl) (by kernel_rfl) (by kernel_rfl) [] (by kernel_rfl) (fun _ _ _ h => h) rfl rfl (by decide) (fun _ h => h.upto trivial) (qt_fieldAddr rfl rfl tyf_impl_Ring_0) ?_
      refine dg_q (i := 3) rfl (by kernel_rfl) (by kernel_rfl) (by kernel_rfl) [] (by kernel_rfl) (fun _ _ _ h => h) rfl rfl (by decide) (fun _ h => h.upto trivial) (qt_load1 rfl rfl ty1_sl_impl_Pt (by first | exact rdOld0 h1c hb1 | exact rdOld0 h2c hb2)) ?_
      refine dg_q (i := 4) rfl (by kernel_rfl) (by kernel_rfl) (by kernel_rfl) [] (by kernel_rfl) (fun _ _ _ h => h) rfl rfl (by decide) (fun _ h => h.upto trivial) (qt_len rfl rfl tyl_sl_impl_Pt) ?_
      refine dg_q (i := 5) rfl (by kernel_rfl) (by kernel_rfl) (by kernel_rfl) [] (by kernel_rfl) (fun _ _ _ h => h) rfl rfl (by decide) (fun _ h => h.upto trivial) (qt_move rfl rfl) ?_
      refine dg_q (i := 6) rfl (by kernel_rfl) (by kernel_rfl) (by kernel_rfl) [] (by kernel_rfl) (fun _ _ _ h => h) rfl rfl (by decide) (fun _ h => h.upto trivial) (qt_nilCheck rfl rfl) ?_
      refine dg_q (i := 7) rfl (by kernel_rfl) (by kernel_rfl) (by kernel_rfl) [] (by kernel_rfl) (fun _ _ _ h => h) rfl rfl (by decide) (fun _ h => h.upto trivial) (qt_fieldAddr rfl rfl tyf_impl_Ring_0) ?_
      refine dg_q (i := 8) rfl (by kernel_rfl) (by kernel_rfl) (by kernel_rfl) [] (by kernel_rfl) (fun _ _ _ h => h) rfl rfl (by decide) (fun _ h => h.upto trivial) (qt_load1 rfl rfl ty1_sl_impl_Pt (by first | exact rdOld0 h1c hb1 | exact rdOld0 h2c hb2)) ?_
      refine dg_q (i := 9) rfl (by kernel_rfl) (by kernel_rfl) (by kernel_rfl) [] (by kernel_rfl) (fun _ _ _ h => h) rfl rfl (by decide) (fun _ h => h.upto trivial) (qt_len rfl rfl tyl_sl_impl_Pt) ?_
      refine dg_q (i := 10) rfl (by kernel_rfl) (by kernel_rfl) (by kernel_rfl) [] (by kernel_rfl) (fun _ _ _ h => h) rfl rfl (by decide) (fun _ h => h.upto trivial) (qt_lss rfl rfl rfl) ?_
      refine dg_q (i := 11) rfl (by kernel_rfl) (by kernel_rfl) (by kernel_rfl) [] (by kernel_rfl) (fun _ _ _ h => h) rfl rfl (by decide) (fun _ h => h.upto trivial) (qt_assign rfl rfl) ?_
      refine dg_done (by kernel_rfl) ?_
      refine norm_then ?_
      refine at_retc ?_
      refine at_ret1 rfl (.tmp rfl) ?_
      intro w' hs
      refine ⟨?_, hs.fin⟩
      unfold lexL
      rw [← hk3]
      by_cases hkn : k < n
      · rw [lexC_out (by omega) (by omega)]; exact congrArg (fun b => Ending.returned (Value.bool b)) (decide_eq_decide.2 (by omega))
      · rw [lexC_end (by omega) (by omega)]; split <;> exact congrArg (fun b => Ending.returned (Value.bool b)) (decide_eq_decide.2 (by omega))
end Go.Proofs.Ytbdlbemlgghgbaa
