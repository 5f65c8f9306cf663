/- Whether a point is on an edge: the program's and the reference's. -/
import Derived.Test.YtadkfbkompamcaaWind
namespace Go.Proofs.Ytadkfbkompamcaa
open Go Go.RowKit
set_option linter.unusedVariables false
set_option linter.unusedSimpArgs false
set_option maxRecDepth 100000
set_option maxHeartbeats 4000000

def onL (l : Leg) (x y : Int) : Bool := onB l.ax l.ay l.bx l.b_y x y
def anyOn (h : Bool) (ls : List Leg) (x y : Int) : Bool := ls.any fun l => onL (dblL h l) x y
def noneTo (h : Bool) (ls : List Leg) (x y : Int) (k : Nat) : Prop := ∀ j, j < k → onL (dblL h (lg ls j)) x y = false
theorem noneTo_succ {h : Bool} {ls : List Leg} {x y : Int} {k : Nat} (hk : noneTo h ls x y k) (h1 : onL (dblL h (lg ls k)) x y = false) : noneTo h ls x y (k + 1) := fun j hj => by
  by_cases e : j = k
  · exact e ▸ h1
  · exact hk j (by omega)
theorem anyOn_none {h : Bool} {ls : List Leg} {x y : Int} (hk : noneTo h ls x y ls.length) : anyOn h ls x y = false := by
  unfold anyOn
  rw [List.any_eq_false]
  intro l hl
  obtain ⟨j, hj, rfl⟩ := List.getElem_of_mem hl
  rw [at_l hj]
  simpa using hk j hj
theorem anyOn_some {h : Bool} {ls : List Leg} {x y : Int} {k : Nat} (hk : k < ls.length) (h1 : onL (dblL h (lg ls k)) x y = true) : anyOn h ls x y = true := by
  unfold anyOn
  rw [List.any_eq_true]
  exact ⟨ls[k], List.getElem_mem hk, by rw [at_l hk]; exact h1⟩

theorem dblL_f (l : Leg) : dblL false l = l := by simp [dblL]
theorem dblL_t (l : Leg) : dblL true l = ⟨2 * l.ax, 2 * l.ay, 2 * l.bx, 2 * l.b_y⟩ := by simp [dblL]
theorem anyOnF_some {ls : List Leg} {x y : Int} {k : Nat} (hk : k < ls.length) (h1 : onB (lg ls k).ax (lg ls k).ay (lg ls k).bx (lg ls k).b_y x y = true) : anyOn false ls x y = true :=
  anyOn_some hk (by rw [dblL_f]; exact h1)
theorem noneF_succ {ls : List Leg} {x y : Int} {k : Nat} (hk : noneTo false ls x y k) (h1 : onB (lg ls k).ax (lg ls k).ay (lg ls k).bx (lg ls k).b_y x y = false) : noneTo false ls x y (k + 1) :=
  noneTo_succ hk (by rw [dblL_f]; exact h1)

theorem l14OnAny_any (A : Option Addr) (n c : Nat) (ls : List Leg) (x y : Int) (w : World) (h : Legs w A n ls) (hn : n ≤ 1048576) (hok : ∀ l ∈ ls, legOk l) (hx : bdM x) (hy : bdM y) :
    Calls Try.prog 83 #[.slice A n c, ptV x y] w fun e w' => e = .returned (.bool (anyOn false ls x y)) ∧ Over w w' := by
  have hl := h.1
  refine walk_from (m := 24) (Try.func83) rfl rfl (Nat.le_of_ble_eq_true rfl) ?_
  refine at_seq ?_
  refine at_region ?_
  refine at_op rfl ?_
  refine op_box rfl rfl (rfl) rfl (by decide) (fun b1 => ?_)
  refine at_rsE (by simp only [List.nil_append, List.cons_append, List.set_cons_zero, List.set_cons_succ, Value.cells, List.toList_toArray]; rfl) ?_
  refine at_q rfl rfl (by decide) (qt_assign rfl rfl) ?_
  refine at_end ?_
  refine at_seq ?_
  refine at_seq ?_
  refine at_region ?_
  refine at_q rfl rfl (by decide) (qt_assign rfl rfl) ?_
  refine at_end ?_
  refine at_block ?_
  refine at_loopk (X := Nat) (fun k => k ≤ n ∧ noneTo false ls x y k) (fun k => n - k) (fun k => [(5, .int .i64 (k : Int))]) (C := [(0, _), (3, _), (4, _)]) ⟨rfl, rfl, rfl, trivial⟩ 0 (⟨Nat.zero_le _, fun j hj => absurd hj (by omega)⟩) ⟨rfl, rfl, rfl, rfl, trivial⟩ ?_
  intro k hk L hL
  refine at_envE (by simp only [List.nil_append, List.cons_append]; rfl) ?_
  refine at_seq ?_
  refine at_seq ?_
  refine at_region ?_
  refine at_q rfl rfl (by decide) (qt_move rfl rfl) ?_
  refine at_q rfl rfl (by decide) (qt_move rfl rfl) ?_
  refine at_q rfl rfl (by decide) (qt_len rfl rfl tyl_sl_spec_l13Edge) ?_
  refine at_q rfl rfl (by decide) (qt_lss rfl rfl rfl) ?_
  refine at_end ?_
  refine at_cond rfl (fun c1 => ?_) (fun c1 => ?_)
  · try simp only [decide_eq_true_eq, decide_eq_false_iff_not, beq_iff_eq, beq_eq_false_iff_ne, Bool.not_eq_true', Bool.not_eq_false', Bool.not_true, Bool.not_false, Int.not_lt, Int.not_le, ne_eq, Nat.not_lt, Nat.not_le] at c1
    have hlt : k < n := (by omega)
    obtain ⟨bb, oo, rfl⟩ := h.form (by omega)
    obtain ⟨d1, d2, d3, d4⟩ := leg_bd (lg_ok hok (show k < ls.length by omega))
    refine at_skip ?_
    refine norm_then ?_
    refine at_seq ?_
    refine at_block ?_
    refine at_seq ?_
    refine dg_start mixed rfl ?_
    refine dg_phase 12 ?_
    refine dg_q (i := 0) rfl (by kernel_rfl) (by kernel_rfl) (by kernel_rfl) [] (by kernel_rfl) (fun _ _ _ h => h) rfl rfl (by decide) (fun _ h => h.upto ⟨rfl, trivial⟩) (qt_move rfl rfl) ?_
    refine dg_q (i := 1) rfl (by kernel_rfl) (by kernel_rfl) (by kernel_rfl) [] (by kernel_rfl) (fun _ _ _ h => h) rfl rfl (by decide) (fun _ h => h.upto ⟨rfl, trivial⟩) (qt_move rfl rfl) ?_
    refine dg_q (i := 2) rfl (by kernel_rfl) (by kernel_rfl) (by kernel_rfl) [] (by kernel_rfl) (fun _ _ _ h => h) rfl rfl (by decide) (fun _ h => h.upto ⟨rfl, trivial⟩) (qt_index rfl rfl rfl tyl_sl_spec_l13Edge (by omega)) ?_
    refine dg_q (i := 3) rfl (by kernel_rfl) (by kernel_rfl) (by kernel_rfl) [] (by kernel_rfl) (fun _ _ _ h => h) rfl rfl (by decide) (fun _ h => h.upto ⟨rfl, trivial⟩) (qt_fieldAddr rfl rfl tyf_spec_l13Edge_0) ?_
    refine dg_q (i := 4) rfl (by kernel_rfl) (by kernel_rfl) (by kernel_rfl) [] (by kernel_rfl) (fun _ _ _ h => h) rfl rfl (by decide) (fun _ h => h.upto ⟨rfl, trivial⟩) (qt_loadS rfl rfl tys_impl_Pt rfl (rdLegA (b := bb) (o := oo) (j := k) (fun w' hs => h.over hs.fin) hlt)) ?_
    refine dg_q (i := 5) rfl (by kernel_rfl) (by kernel_rfl) (by kernel_rfl) [] (by kernel_rfl) (fun _ _ _ h => h) rfl rfl (by decide) (fun _ h => h.upto ⟨rfl, trivial⟩) (qt_move rfl rfl) ?_
    refine dg_q (i := 6) rfl (by kernel_rfl) (by kernel_rfl) (by kernel_rfl) [] (by kernel_rfl) (fun _ _ _ h => h) rfl rfl (by decide) (fun _ h => h.upto ⟨rfl, trivial⟩) (qt_move rfl rfl) ?_
    refine dg_q (i := 7) rfl (by kernel_rfl) (by kernel_rfl) (by kernel_rfl) [] (by kernel_rfl) (fun _ _ _ h => h) rfl rfl (by decide) (fun _ h => h.upto ⟨rfl, trivial⟩) (qt_index rfl rfl rfl tyl_sl_spec_l13Edge (by omega)) ?_
    refine dg_q (i := 8) rfl (by kernel_rfl) (by kernel_rfl) (by kernel_rfl) [] (by kernel_rfl) (fun _ _ _ h => h) rfl rfl (by decide) (fun _ h => h.upto ⟨rfl, trivial⟩) (qt_fieldAddr rfl rfl tyf_spec_l13Edge_1) ?_
    refine dg_q (i := 9) rfl (by kernel_rfl) (by kernel_rfl) (by kernel_rfl) [] (by kernel_rfl) (fun _ _ _ h => h) rfl rfl (by decide) (fun _ h => h.upto ⟨rfl, trivial⟩) (qt_loadS rfl rfl tys_impl_Pt rfl (rdLegB (b := bb) (o := oo) (j := k) (fun w' hs => h.over hs.fin) hlt)) ?_
    refine dg_q (i := 10) rfl (by kernel_rfl) (by kernel_rfl) (by kernel_rfl) [] (by kernel_rfl) (fun _ _ _ h => h) rfl rfl (by decide) (fun _ h => h.upto ⟨rfl, trivial⟩) (qt_loadS rfl rfl tys_impl_Pt rfl (rdAll (k := 0) rfl)) ?_
    refine dg_q (i := 11) rfl (by kernel_rfl) (by kernel_rfl) (by kernel_rfl) [] (by kernel_rfl) (fun _ _ _ h => h) rfl rfl (by decide) (fun _ h => h.upto ⟨rfl, trivial⟩) (qt_call ok_spec_l03On rfl rfl (fun w h => l03On_any _ _ _ _ _ _ w d1 d2 d3 d4 hx hy)) ?_
    refine dg_done (by kernel_rfl) ?_
    refine norm_then ?_
    refine at_cond rfl (fun c2 => ?_) (fun c2 => ?_)
    · try simp only [decide_eq_true_eq, decide_eq_false_iff_not, beq_iff_eq, beq_eq_false_iff_ne, Bool.not_eq_true', Bool.not_eq_false', Bool.not_true, Bool.not_false, Int.not_lt, Int.not_le, ne_eq, Nat.not_lt, Nat.not_le] at c2
      refine at_seq ?_
      refine at_region ?_
      refine at_q rfl rfl (by decide) (qt_assign rfl rfl) ?_
      refine at_end ?_
      refine at_retc ?_
      refine pass_ret ?_
      refine then_ret ?_
      refine then_ret ?_
      refine pass_ret ?_
      refine then_ret ?_
      refine at_ret1 rfl (.tmp rfl) ?_
      intro w' hs
      exact ⟨retB (anyOnF_some (show k < ls.length by omega) c2).symm, hs.fin⟩
    · try simp only [decide_eq_true_eq, decide_eq_false_iff_not, beq_iff_eq, beq_eq_false_iff_ne, Bool.not_eq_true', Bool.not_eq_false', Bool.not_true, Bool.not_false, Int.not_lt, Int.not_le, ne_eq, Nat.not_lt, Nat.not_le] at c2
      refine at_skip ?_
      refine norm_block ?_
      refine norm_then ?_
      refine at_region ?_
      refine at_q rfl rfl (by decide) (qt_move rfl rfl) ?_
      refine at_q rfl rfl (by decide) (qt_add rfl rfl rfl (by omega) (by omega)) ?_
      refine at_q rfl rfl (by decide) (qt_assign rfl rfl) ?_
      refine at_end ?_
      exact at_againk hL (k + 1) (⟨by omega, noneF_succ hk.2 c2⟩) (by omega) ⟨vi (by omega), rfl, rfl, rfl, trivial⟩ (fun _ h => h.upto ⟨rfl, trivial⟩)
  · try simp only [decide_eq_true_eq, decide_eq_false_iff_not, beq_iff_eq, beq_eq_false_iff_ne, Bool.not_eq_true', Bool.not_eq_false', Bool.not_true, Bool.not_false, Int.not_lt, Int.not_le, ne_eq, Nat.not_lt, Nat.not_le] at c1
    refine at_exit ?_
    refine pass_then (fun h => by cases h) ?_
    refine pass_then (fun h => by cases h) ?_
    refine pass_hit ?_
    refine norm_then ?_
    refine at_seq ?_
    refine at_region ?_
    refine at_q rfl rfl (by decide) (qt_assign rfl rfl) ?_
    refine at_end ?_
    refine at_retc ?_
    refine at_ret1 rfl (.tmp rfl) ?_
    intro w' hs
    exact ⟨retB (anyOn_none (by rw [hl, show n = k by omega]; exact hk.2)).symm, hs.fin⟩

theorem onEdges1_any (l : Leg) (b1_ b2_ : Nat) (x y : Int) (hf : Bool) (w : World) (hl : legOk l) (hx : bdM x) (hy : bdM y) (h1 : w.heap[b1_]? = some (.cells [.bool hf].toArray 4 (0, 0))) (h2 : w.heap[b2_]? = some (.cells [.int .i64 x, .int .i64 y].toArray 27 (0, 0))) :
    Calls Try.prog 130 #[.agg #[.int .i64 l.ax, .int .i64 l.ay, .int .i64 l.bx, .int .i64 l.b_y], .pointer (some ⟨b1_, 0, none⟩), .pointer (some ⟨b2_, 0, none⟩)] w fun e w' => e = .returned (.bool (onL (dblL hf l) x y)) ∧ Over w w' := by
  have m1 : ∀ {Rs}, ∀ w', St ⟨w, []⟩ Rs w' → w'.cell? ⟨b1_, 0, none⟩ = some (.bool hf) := fun w' hs => (cell_of_row w' b1_ 0 _ _ (0, 0) ((hs.fin.out.block _ (lt_of_some h1)).trans h1)).trans rfl
  have m2 : ∀ {Rs}, ∀ w', St ⟨w, []⟩ Rs w' → ∀ q v, [Value.int .i64 x, Value.int .i64 y][q]? = some v → w'.cell? ⟨b2_, 0 + q, none⟩ = some v := fun w' hs q v hv => by
    rw [cell_of_row w' b2_ _ _ _ (0, 0) ((hs.fin.out.block _ (lt_of_some h2)).trans h2), Nat.zero_add]
    simpa using hv
  obtain ⟨d1, d2, d3, d4⟩ := leg_bd hl
  obtain ⟨f1, f2, f3, f4⟩ := leg_bd2 hl
  obtain ⟨⟨e1, e2⟩, ⟨e3, e4⟩, ⟨e5, e6⟩, e7, e8⟩ := hl
  refine walk_from (m := 20) (Try.func130) rfl rfl (Nat.le_of_ble_eq_true rfl) ?_
  refine at_seq ?_
  refine at_region ?_
  refine at_op rfl ?_
  refine op_box rfl rfl (rfl) rfl (by decide) (fun b1 => ?_)
  refine at_rsE (by simp only [List.nil_append, List.cons_append, List.set_cons_zero, List.set_cons_succ, Value.cells, List.toList_toArray]; rfl) ?_
  refine at_q rfl rfl (by decide) (qt_assign rfl rfl) ?_
  refine at_end ?_
  refine at_seq ?_
  refine at_seq ?_
  refine at_region ?_
  refine at_q rfl rfl (by decide) (qt_load1 rfl rfl ty1_bool (m1)) ?_
  refine at_end ?_
  refine at_cond rfl (fun c1 => ?_) (fun c1 => ?_)
  · try simp only [decide_eq_true_eq, decide_eq_false_iff_not, beq_iff_eq, beq_eq_false_iff_ne, Bool.not_eq_true', Bool.not_eq_false', Bool.not_true, Bool.not_false, Int.not_lt, Int.not_le, ne_eq, Nat.not_lt, Nat.not_le] at c1
    refine at_seq ?_
    refine dg_start mixed rfl ?_
    refine dg_phase 9 ?_
    refine dg_q (i := 0) rfl (by kernel_rfl) (by kernel_rfl) (by kernel_rfl) [] (by kernel_rfl) (fun _ _ _ h => h) rfl rfl (by decide) (fun _ h => h.upto ⟨rfl, trivial⟩) (qt_fieldAddr rfl rfl tyf_impl_leg_0) ?_
    refine dg_q (i := 1) rfl (by kernel_rfl) (by kernel_rfl) (by kernel_rfl) [] (by kernel_rfl) (fun _ _ _ h => h) rfl rfl (by decide) (fun _ h => h.upto ⟨rfl, trivial⟩) (qt_loadS rfl rfl tys_impl_Pt rfl (rd2 (k := 0) rfl rfl rfl)) ?_
    refine dg_q (i := 2) rfl (by kernel_rfl) (by kernel_rfl) (by kernel_rfl) [] (by kernel_rfl) (fun _ _ _ h => h) rfl rfl (by decide) (fun _ h => h.upto ⟨rfl, trivial⟩) (qt_call ok_impl_double rfl rfl (fun w h => double_any _ _ w ⟨by omega, by omega⟩ ⟨by omega, by omega⟩)) ?_
    refine dg_q (i := 3) rfl (by kernel_rfl) (by kernel_rfl) (by kernel_rfl) [] (by kernel_rfl) (fun _ _ _ h => h) rfl rfl (by decide) (fun _ h => h.upto ⟨rfl, trivial⟩) (qt_fieldAddr rfl rfl tyf_impl_leg_1) ?_
    refine dg_q (i := 4) rfl (by kernel_rfl) (by kernel_rfl) (by kernel_rfl) [] (by kernel_rfl) (fun _ _ _ h => h) rfl rfl (by decide) (fun _ h => h.upto ⟨rfl, trivial⟩) (qt_loadS rfl rfl tys_impl_Pt rfl (rd2 (k := 0) rfl rfl rfl)) ?_
    refine dg_q (i := 5) rfl (by kernel_rfl) (by kernel_rfl) (by kernel_rfl) [] (by kernel_rfl) (fun _ _ _ h => h) rfl rfl (by decide) (fun _ h => h.upto ⟨rfl, trivial⟩) (qt_call ok_impl_double rfl rfl (fun w h => double_any _ _ w ⟨by omega, by omega⟩ ⟨by omega, by omega⟩)) ?_
    refine dg_q (i := 6) rfl (by kernel_rfl) (by kernel_rfl) (by kernel_rfl) [] (by kernel_rfl) (fun _ _ _ h => h) rfl rfl (by decide) (fun _ h => h.upto ⟨rfl, trivial⟩) (qt_loadS rfl rfl tys_impl_Pt rfl (m2)) ?_
    refine dg_q (i := 7) rfl (by kernel_rfl) (by kernel_rfl) (by kernel_rfl) [] (by kernel_rfl) (fun _ _ _ h => h) rfl rfl (by decide) (fun _ h => h.upto ⟨rfl, trivial⟩) (qt_call ok_impl_onSegment rfl rfl (fun w h => onSegment_any _ _ _ _ _ _ w (by first | exact d1 | exact f1) (by first | exact d2 | exact f2) (by first | exact d3 | exact f3) (by first | exact d4 | exact f4) hx hy)) ?_
    refine dg_q (i := 8) rfl (by kernel_rfl) (by kernel_rfl) (by kernel_rfl) [] (by kernel_rfl) (fun _ _ _ h => h) rfl rfl (by decide) (fun _ h => h.upto ⟨rfl, trivial⟩) (qt_assign rfl rfl) ?_
    refine dg_done (by kernel_rfl) ?_
    refine norm_then ?_
    refine at_retc ?_
    refine then_ret ?_
    refine at_ret1 rfl (.tmp rfl) ?_
    intro w' hs
    exact ⟨retB (by rw [c1, dblL_t]; rfl), hs.fin⟩
  · try simp only [decide_eq_true_eq, decide_eq_false_iff_not, beq_iff_eq, beq_eq_false_iff_ne, Bool.not_eq_true', Bool.not_eq_false', Bool.not_true, Bool.not_false, Int.not_lt, Int.not_le, ne_eq, Nat.not_lt, Nat.not_le] at c1
    refine at_skip ?_
    refine norm_then ?_
    refine at_seq ?_
    refine at_region ?_
    refine at_q rfl rfl (by decide) (qt_fieldAddr rfl rfl tyf_impl_leg_0) ?_
    refine at_q rfl rfl (by decide) (qt_loadS rfl rfl tys_impl_Pt rfl (rd2 (k := 0) rfl rfl rfl)) ?_
    refine at_q rfl rfl (by decide) (qt_fieldAddr rfl rfl tyf_impl_leg_1) ?_
    refine at_q rfl rfl (by decide) (qt_loadS rfl rfl tys_impl_Pt rfl (rd2 (k := 0) rfl rfl rfl)) ?_
    refine at_q rfl rfl (by decide) (qt_loadS rfl rfl tys_impl_Pt rfl (m2)) ?_
    refine at_q rfl rfl (by decide) (qt_call ok_impl_onSegment rfl rfl (fun w h => onSegment_any _ _ _ _ _ _ w (by first | exact d1 | exact f1) (by first | exact d2 | exact f2) (by first | exact d3 | exact f3) (by first | exact d4 | exact f4) hx hy)) ?_
    refine at_q rfl rfl (by decide) (qt_assign rfl rfl) ?_
    refine at_end ?_
    refine at_retc ?_
    refine at_ret1 rfl (.tmp rfl) ?_
    intro w' hs
    exact ⟨retB (by rw [c1, dblL_f]; rfl), hs.fin⟩
end Go.Proofs.Ytadkfbkompamcaa
