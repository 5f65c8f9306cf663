/- A point in a region: the program's and the reference's. -/
import Derived.Test.YtadkfbkompamcaaWind2
import Derived.Test.YtadkfbkompamcaaWind3
import Derived.Test.YtadkfbkompamcaaValidRegion
import Derived.Test.YtadkfbkompamcaaEdgesOf
namespace Go.Proofs.Ytadkfbkompamcaa
open Go Go.RowKit
set_option linter.unusedVariables false
set_option linter.unusedSimpArgs false
set_option maxRecDepth 100000
set_option maxHeartbeats 4000000

/-! ### New rows -/
theorem row_slice {w : World} {B T s n : Nat} {v : Value} {xs : List Value} (h : w.ownsRow B T s v n xs) : ∃ x : Option Addr × Nat, v = .slice x.1 n x.2 := by
  rcases h.2 with ⟨rfl, rfl⟩ | ⟨g, cap, cur, rfl, _⟩
  · exact ⟨(none, 0), rfl⟩
  · exact ⟨(some ⟨g, 0, none⟩, cap), rfl⟩
abbrev rowR (B T s n : Nat) (xs : List Value) (x : Option Addr × Nat) : Res := .row B T s (.slice x.1 n x.2) n xs
theorem newRow {P : Program} {f : FuncId} {args : Array Value} {w1 : World} {T s n : Nat} {xs : List Value} {X : Value → Prop} (h : Calls P f args w1 fun e w' => ∃ v, e = .returned v ∧ X v ∧ w'.ownsRow w1.heap.size T s v n xs ∧ Over w1 w') :
    Calls P f args w1 fun e w' => ∃ x : Option Addr × Nat, e = .returned (.slice x.1 n x.2) ∧ Over w1 w' ∧ (rowR 0 T s n xs x).P w' ∧ (∀ b, (rowR 0 T s n xs x).F b → w1.heap.size ≤ b) ∧ (rowR 0 T s n xs x).B = 0 ∧ X (.slice x.1 n x.2) := by
  refine h.mono ?_
  rintro e w' ⟨v, rfl, hX, hr, hO⟩
  obtain ⟨x, rfl⟩ := row_slice hr
  exact ⟨x, rfl, hO, row_low hr (Nat.zero_le _), fun b hb => (hr.lt b hb).1, rfl, hX⟩
theorem newRow' {P : Program} {f : FuncId} {args : Array Value} {w1 : World} {T s n : Nat} {xs : List Value} (h : Calls P f args w1 fun e w' => ∃ v, e = .returned v ∧ w'.ownsRow w1.heap.size T s v n xs ∧ Over w1 w') :
    Calls P f args w1 fun e w' => ∃ x : Option Addr × Nat, e = .returned (.slice x.1 n x.2) ∧ Over w1 w' ∧ (rowR 0 T s n xs x).P w' ∧ (∀ b, (rowR 0 T s n xs x).F b → w1.heap.size ≤ b) ∧ (rowR 0 T s n xs x).B = 0 ∧ True :=
  newRow (X := fun _ => True) (h.mono fun e w' ⟨v, h1, h2, h3⟩ => ⟨v, h1, trivial, h2, h3⟩)
section
variable {w : World} {w0 : Bs} {Rs : List Res}
/-- A new row of edges, as edges. -/
theorem rowLegs {k T n : Nat} {x : Option Addr × Nat} {ls : List Leg} (hk : Rs[k]? = some (rowR 0 T 4 n (ls.flatMap legCells) x)) (hn : ls.length = n) (w : World) (hs : St w0 Rs w) : Legs w x.1 n ls := by
  obtain ⟨A, c, e, hl, _⟩ := legs_of_row (hs.all k _ hk).1 hn
  injection e with e1 e2 e3
  exact e1 ▸ hl
end

/-! ### Whether a point is on an edge -/
def idxOn (h : Bool) (ls : List Leg) (x y : Int) : Int := if anyOn h ls x y = true then ((ls.findIdx fun l => onL (dblL h l) x y : Nat) : Int) else -1
theorem idxOn_at {h : Bool} {ls : List Leg} {x y : Int} {k : Nat} (hk : k < ls.length) (hn : noneTo h ls x y k) (h1 : onL (dblL h (lg ls k)) x y = true) : (k : Int) = idxOn h ls x y := by
  have : ls.findIdx (fun l => onL (dblL h l) x y) = k := (List.findIdx_eq hk).2 ⟨by rw [at_l hk]; exact h1, fun j hj => by rw [at_l (by omega)]; exact hn j hj⟩
  rw [idxOn, if_pos (anyOn_some hk h1), this]
theorem idxOn_none {h : Bool} {ls : List Leg} {x y : Int} (hk : noneTo h ls x y ls.length) : -1 = idxOn h ls x y := by
  rw [idxOn, if_neg (by rw [anyOn_none hk]; simp)]
theorem idxOn_ge (h : Bool) (ls : List Leg) (x y : Int) : decide (0 ≤ idxOn h ls x y) = anyOn h ls x y := by
  cases e : anyOn h ls x y <;> simp [idxOn, e]

abbrev onF (p q : Nat) : Value := .func (.func 130) #[] #[.pointer (some ⟨p, 0, none⟩), .pointer (some ⟨q, 0, none⟩)]
theorem IndexFunc_any (A : Option Addr) (n c : Nat) (ls : List Leg) (p q : Nat) (x y : Int) (hf : Bool) (w : World) (h : Legs w A n ls) (hn : n ≤ 1048576) (hok : ∀ l ∈ ls, legOk l) (hx : bdM x) (hy : bdM y)
    (h1 : w.heap[p]? = some (.cells [.bool hf].toArray 4 (0, 0))) (h2 : w.heap[q]? = some (.cells [.int .i64 x, .int .i64 y].toArray 27 (0, 0))) :
    Calls Try.prog 171 #[.slice A n c, onF p q] w fun e w' => e = .returned (.int .i64 (idxOn hf ls x y)) ∧ Over w w' := by
  have hl := h.1
  refine walk_from (m := 19) (Try.func171) rfl rfl (Nat.le_of_ble_eq_true rfl) ?_
  refine at_seq ?_
  refine at_region ?_
  refine at_q rfl rfl (by decide) (qt_assign rfl rfl) ?_
  refine at_end ?_
  refine at_seq ?_
  refine at_seq ?_
  refine at_region ?_
  refine at_q rfl rfl (by decide) (qt_move rfl rfl) ?_
  refine at_q rfl rfl (by decide) (qt_len rfl rfl tyl_sl_impl_leg) ?_
  refine at_q rfl rfl (by decide) (qt_move rfl rfl) ?_
  refine at_end ?_
  refine at_block ?_
  refine at_loopk (X := Nat) (fun k => k ≤ n ∧ noneTo hf ls x y k) (fun k => n - k) (fun k => [(8, .int .i64 (k : Int))]) (C := [(0, _), (1, _), (4, _), (7, _)]) ⟨rfl, rfl, rfl, rfl, trivial⟩ 0 (⟨Nat.zero_le _, fun j hj => absurd hj (by omega)⟩) ⟨rfl, rfl, rfl, rfl, rfl, trivial⟩ ?_
  intro k hk L hL
  refine at_envE (by simp only [List.nil_append, List.cons_append]; rfl) ?_
  refine at_seq ?_
  refine at_region ?_
  refine at_q rfl rfl (by decide) (qt_lss rfl rfl rfl) ?_
  refine at_end ?_
  refine at_seq ?_
  refine at_cond rfl (fun c1 => ?_) (fun c1 => ?_)
  · try simp only [decide_eq_true_eq, decide_eq_false_iff_not, beq_iff_eq, beq_eq_false_iff_ne, Bool.not_eq_true', Bool.not_eq_false', Bool.not_true, Bool.not_false, Int.not_lt, Int.not_le, ne_eq, Nat.not_lt, Nat.not_le] at c1
    have hlt : k < n := (by omega)
    obtain ⟨bb, oo, rfl⟩ := h.form (by omega)
    refine at_skip ?_
    refine norm_then ?_
    refine at_seq ?_
    refine at_block ?_
    refine at_seq ?_
    refine at_region ?_
    refine at_q rfl rfl (by decide) (qt_move rfl rfl) ?_
    refine at_q rfl rfl (by decide) (qt_assign rfl rfl) ?_
    refine at_end ?_
    refine at_seq ?_
    refine at_region ?_
    refine at_q rfl rfl (by decide) (qt_move rfl rfl) ?_
    refine at_q rfl rfl (by decide) (qt_move rfl rfl) ?_
    refine at_q rfl rfl (by decide) (qt_move rfl rfl) ?_
    refine at_q rfl rfl (by decide) (qt_index rfl rfl rfl tyl_sl_impl_leg (by omega)) ?_
    refine at_q rfl rfl (by decide) (qt_loadS rfl rfl tys_impl_leg rfl (rdLeg (fun w' hs => h.over hs.fin) hlt)) ?_
    refine at_q rfl rfl (by decide) (qt_callv ok_impl_onEdges_1 rfl rfl rfl (fun w1 hs => onEdges1_any (lg ls k) p q x y hf w1 (lg_ok hok (by omega)) hx hy ((hs.fin.out.block _ (lt_of_some h1)).trans h1) ((hs.fin.out.block _ (lt_of_some h2)).trans h2))) ?_
    refine at_end ?_
    refine at_cond rfl (fun c2 => ?_) (fun c2 => ?_)
    · try simp only [decide_eq_true_eq, decide_eq_false_iff_not, beq_iff_eq, beq_eq_false_iff_ne, Bool.not_eq_true', Bool.not_eq_false', Bool.not_true, Bool.not_false, Int.not_lt, Int.not_le, ne_eq, Nat.not_lt, Nat.not_le] at c2
      refine at_seq ?_
      refine at_region ?_
      refine at_q rfl rfl (by decide) (qt_move rfl rfl) ?_
      refine at_q rfl rfl (by decide) (qt_assign rfl rfl) ?_
      refine at_end ?_
      refine at_retc ?_
      refine pass_ret ?_
      refine then_ret ?_
      refine then_ret ?_
      refine pass_ret ?_
      refine then_ret ?_
      refine at_ret1 rfl (.tmp rfl) ?_
      intro w' hs
      exact ⟨retI (idxOn_at (show k < ls.length by omega) hk.2 c2), hs.fin⟩
    · try simp only [decide_eq_true_eq, decide_eq_false_iff_not, beq_iff_eq, beq_eq_false_iff_ne, Bool.not_eq_true', Bool.not_eq_false', Bool.not_true, Bool.not_false, Int.not_lt, Int.not_le, ne_eq, Nat.not_lt, Nat.not_le] at c2
      refine at_skip ?_
      refine norm_block ?_
      refine norm_then ?_
      refine at_region ?_
      refine at_q rfl rfl (by decide) (qt_add rfl rfl rfl (by omega) (by omega)) ?_
      refine at_q rfl rfl (by decide) (qt_move rfl rfl) ?_
      refine at_end ?_
      exact at_againk hL (k + 1) (⟨by omega, noneTo_succ hk.2 c2⟩) (by omega) ⟨vi (by omega), rfl, rfl, rfl, rfl, trivial⟩ (fun _ h => h.upto trivial)
  · try simp only [decide_eq_true_eq, decide_eq_false_iff_not, beq_iff_eq, beq_eq_false_iff_ne, Bool.not_eq_true', Bool.not_eq_false', Bool.not_true, Bool.not_false, Int.not_lt, Int.not_le, ne_eq, Nat.not_lt, Nat.not_le] at c1
    refine at_exit ?_
    refine pass_then (fun h => by cases h) ?_
    refine pass_then (fun h => by cases h) ?_
    refine pass_hit ?_
    refine norm_then ?_
    refine at_seq ?_
    refine at_region ?_
    refine at_q rfl rfl (by decide) (qt_assign rfl rfl) ?_
    refine at_end ?_
    refine at_retc ?_
    refine at_ret1 rfl (.tmp rfl) ?_
    intro w' hs
    exact ⟨retI (idxOn_none (by rw [hl, show n = k by omega]; exact hk.2)), hs.fin⟩
theorem ContainsFunc_any (A : Option Addr) (n c : Nat) (ls : List Leg) (p q : Nat) (x y : Int) (hf : Bool) (w : World) (h : Legs w A n ls) (hn : n ≤ 1048576) (hok : ∀ l ∈ ls, legOk l) (hx : bdM x) (hy : bdM y)
    (h1 : w.heap[p]? = some (.cells [.bool hf].toArray 4 (0, 0))) (h2 : w.heap[q]? = some (.cells [.int .i64 x, .int .i64 y].toArray 27 (0, 0))) :
    Calls Try.prog 129 #[.slice A n c, onF p q] w fun e w' => e = .returned (.bool (anyOn hf ls x y)) ∧ Over w w' := by
  refine walk_from (m := 9) (Try.func129) rfl rfl (Nat.le_of_ble_eq_true rfl) ?_
  refine at_seq ?_
  refine at_region ?_
  refine at_q rfl rfl (by decide) (qt_assign rfl rfl) ?_
  refine at_end ?_
  refine at_seq ?_
  refine at_region ?_
  refine at_q rfl rfl (by decide) (qt_move rfl rfl) ?_
  refine at_q rfl rfl (by decide) (qt_move rfl rfl) ?_
  refine at_q rfl rfl (by decide) (qt_call ok_slices_IndexFunc_sl_impl_leg_impl_leg rfl rfl (fun w1 hs => IndexFunc_any A n _ ls p q x y hf w1 (h.over hs.fin) hn hok hx hy ((hs.fin.out.block _ (lt_of_some h1)).trans h1) ((hs.fin.out.block _ (lt_of_some h2)).trans h2))) ?_
  refine at_q rfl rfl (by decide) (qt_geq rfl rfl rfl) ?_
  refine at_q rfl rfl (by decide) (qt_assign rfl rfl) ?_
  refine at_end ?_
  refine at_retc ?_
  refine at_ret1 rfl (.tmp rfl) ?_
  intro w' hs
  exact ⟨retB (idxOn_ge _ _ _ _), hs.fin⟩
theorem onEdges_any (A : Option Addr) (n c : Nat) (ls : List Leg) (x y : Int) (hf : Bool) (w : World) (h : Legs w A n ls) (hn : n ≤ 1048576) (hok : ∀ l ∈ ls, legOk l) (hx : bdM x) (hy : bdM y) :
    Calls Try.prog 87 #[.slice A n c, ptV x y, .bool hf] w fun e w' => e = .returned (.bool (anyOn hf ls x y)) ∧ Over w w' := by
  refine walk_from (m := 10) (Try.func87) rfl rfl (Nat.le_of_ble_eq_true rfl) ?_
  refine at_seq ?_
  refine at_region ?_
  refine at_op rfl ?_
  refine op_box rfl rfl (rfl) rfl (by decide) (fun b1 => ?_)
  refine at_rsE (by simp only [List.nil_append, List.cons_append, List.set_cons_zero, List.set_cons_succ, Value.cells, List.toList_toArray]; rfl) ?_
  refine at_op rfl ?_
  refine op_box rfl rfl (rfl) rfl (by decide) (fun b2 => ?_)
  refine at_rsE (by simp only [List.nil_append, List.cons_append, List.set_cons_zero, List.set_cons_succ, Value.cells, List.toList_toArray]; rfl) ?_
  refine at_q rfl rfl (by decide) (qt_assign rfl rfl) ?_
  refine at_end ?_
  refine at_seq ?_
  refine at_region ?_
  refine at_q rfl rfl (by decide) (qt_move rfl rfl) ?_
  refine at_q rfl rfl (by decide) (qt_makeFunc rfl rfl) ?_
  refine at_q rfl rfl (by decide) (qt_call ok_slices_ContainsFunc_sl_impl_leg_impl_leg rfl rfl (fun w1 hs => ContainsFunc_any A n _ ls _ _ x y hf w1 (h.over hs.fin) hn hok hx hy (hs.cel (k := 1) rfl) (hs.cel (k := 0) rfl))) ?_
  refine at_q rfl rfl (by decide) (qt_assign rfl rfl) ?_
  refine at_end ?_
  refine at_retc ?_
  refine at_ret1 rfl (.tmp rfl) ?_
  intro w' hs
  exact ⟨rfl, hs.fin⟩
end Go.Proofs.Ytadkfbkompamcaa
