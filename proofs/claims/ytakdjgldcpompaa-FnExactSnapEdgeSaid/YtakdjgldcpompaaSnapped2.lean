/- How two segments meet, the reference's way; snapped regions. -/
import Derived.Test.YtakdjgldcpompaaMeet
import Derived.Test.YtakdjgldcpompaaSnapped
import Derived.Test.YtakdjgldcpompaaLex
namespace Go.Proofs.Ytakdjgldcpompaa
open Go Go.RowKit
set_option linter.unusedVariables false
set_option linter.unusedSimpArgs false
set_option maxRecDepth 100000
set_option maxHeartbeats 4000000
set_option linter.unusedVariables false

theorem l03Sign_any (n : Int) (w : World) : Calls Try.prog 81 #[.int .i64 n] w fun e w' => e = .returned (.int .i64 (sgn n)) ∧ Over w w' := by
  refine walk_from (m := 9) (Try.func81) rfl rfl (Nat.le_of_ble_eq_true rfl) ?_
  refine at_seq ?_
  refine at_region ?_
  refine at_q rfl rfl (by decide) (qt_assign rfl rfl) ?_
  refine at_end ?_
  refine at_seq ?_
  refine at_block ?_
  refine at_seq ?_
  refine at_region ?_
  refine at_q rfl rfl (by decide) (qt_move rfl rfl) ?_
  refine at_q rfl rfl (by decide) (qt_gtr rfl rfl rfl) ?_
  refine at_q rfl rfl (by decide) (qt_assign rfl rfl) ?_
  refine at_end ?_
  refine at_cond rfl (fun c1 => ?_) (fun c1 => ?_)
  · try simp only [decide_eq_true_eq, decide_eq_false_iff_not, beq_iff_eq, beq_eq_false_iff_ne, Bool.not_eq_true', Bool.not_eq_false', Bool.not_true, Bool.not_false, Int.not_lt, Int.not_le, ne_eq, Nat.not_lt, Nat.not_le] at c1
    refine at_seq ?_
    refine at_region ?_
    refine at_q rfl rfl (by decide) (qt_assign rfl rfl) ?_
    refine at_end ?_
    refine at_retc ?_
    refine pass_ret ?_
    refine then_ret ?_
    refine at_ret1 rfl (.tmp rfl) ?_
    intro w' hs
    exact ⟨retI (by have := sgn3 n; omega), hs.fin⟩
  · try simp only [decide_eq_true_eq, decide_eq_false_iff_not, beq_iff_eq, beq_eq_false_iff_ne, Bool.not_eq_true', Bool.not_eq_false', Bool.not_true, Bool.not_false, Int.not_lt, Int.not_le, ne_eq, Nat.not_lt, Nat.not_le] at c1
    refine at_seq ?_
    refine at_region ?_
    refine at_q rfl rfl (by decide) (qt_move rfl rfl) ?_
    refine at_q rfl rfl (by decide) (qt_lss rfl rfl rfl) ?_
    refine at_q rfl rfl (by decide) (qt_assign rfl rfl) ?_
    refine at_end ?_
    refine at_cond rfl (fun c2 => ?_) (fun c2 => ?_)
    · try simp only [decide_eq_true_eq, decide_eq_false_iff_not, beq_iff_eq, beq_eq_false_iff_ne, Bool.not_eq_true', Bool.not_eq_false', Bool.not_true, Bool.not_false, Int.not_lt, Int.not_le, ne_eq, Nat.not_lt, Nat.not_le] at c2
      refine at_seq ?_
      refine at_region ?_
      refine at_q rfl rfl (by decide) (qt_assign rfl rfl) ?_
      refine at_end ?_
      refine at_retc ?_
      refine pass_ret ?_
      refine then_ret ?_
      refine at_ret1 rfl (.tmp rfl) ?_
      intro w' hs
      exact ⟨retI (by have := sgn3 n; omega), hs.fin⟩
    · try simp only [decide_eq_true_eq, decide_eq_false_iff_not, beq_iff_eq, beq_eq_false_iff_ne, Bool.not_eq_true', Bool.not_eq_false', Bool.not_true, Bool.not_false, Int.not_lt, Int.not_le, ne_eq, Nat.not_lt, Nat.not_le] at c2
      refine at_skip ?_
      refine norm_block ?_
      refine norm_then ?_
      refine at_seq ?_
      refine at_region ?_
      refine at_q rfl rfl (by decide) (qt_assign rfl rfl) ?_
      refine at_end ?_
      refine at_retc ?_
      refine at_ret1 rfl (.tmp rfl) ?_
      intro w' hs
      exact ⟨retI (by have := sgn3 n; omega), hs.fin⟩
theorem l03On_p (a b c : Pn) (w : World) (ha : bd2 a) (hb : bd2 b) (hc : bd2 c) : Calls Try.prog 94 #[pV a, pV b, pV c] w fun e w' => e = .returned (.bool (on2 a b c)) ∧ Over w w' := by
  obtain ⟨a1, a2⟩ := bd2_wide ha; obtain ⟨b1, b2⟩ := bd2_wide hb; obtain ⟨c1, c2⟩ := bd2_wide hc
  exact l03On_any a.1 a.2 b.1 b.2 c.1 c.2 w a1 a2 b1 b2 c1 c2
theorem l03Turn_p (a b c : Pn) (w : World) (ha : bd2 a) (hb : bd2 b) (hc : bd2 c) : Calls Try.prog 82 #[pV a, pV b, pV c] w fun e w' => e = .returned (.int .i64 (tn a b c)) ∧ Over w w' := by
  obtain ⟨a1, a2⟩ := bd2_wide ha; obtain ⟨b1, b2⟩ := bd2_wide hb; obtain ⟨c1, c2⟩ := bd2_wide hc
  exact l03Turn_any a.1 a.2 b.1 b.2 c.1 c.2 w a1.1 a1.2 a2.1 a2.2 b1.1 b1.2 b2.1 b2.2 c1.1 c1.2 c2.1 c2.2
section
variable {w0 : Bs} {Rs : List Res}
/-- A point of a slice of points, in all worlds in which it reads so. -/
theorem rdPtsR {b o m j : Nat} {xs : List (Int × Int)} (h : ∀ w, St w0 Rs w → Pts w (some ⟨b, o, none⟩) m xs) (hj : j < m) : ∀ w', St w0 Rs w' → ∀ q v, [Value.int .i64 (px xs j), Value.int .i64 (py xs j)][q]? = some v → w'.cell? ⟨b, o + j * 2 + q, none⟩ = some v := fun w' hs q v hv => by
  obtain ⟨b', o', e, _, h1, h2⟩ := (h w' hs).at_ hj
  injection e with e
  injection e with e1 e2 _
  subst e1 e2
  match q, hv with
  | 0, hv => simp at hv; subst hv; exact h1
  | 1, hv => simp at hv; subst hv; exact h2
end
def four (a b c d : Pn) (i : Nat) : Pn := [a, b, c, d].getD i (0, 0)
theorem four_bd {a b c d : Pn} (ha : bd2 a) (hb : bd2 b) (hc : bd2 c) (hd : bd2 d) {i : Nat} (hi : i < 4) : bd2 (four a b c d i) := by
  match i, hi with
  | 0, _ => exact ha
  | 1, _ => exact hb
  | 2, _ => exact hc
  | 3, _ => exact hd
theorem four_cells_ (a b c d : Pn) {i : Nat} (hi : i < 4) : [Value.int .i64 a.1, .int .i64 a.2, .int .i64 b.1, .int .i64 b.2, .int .i64 c.1, .int .i64 c.2, .int .i64 d.1, .int .i64 d.2][0 + i * 2]? = some (.int .i64 (four a b c d i).1) ∧
    [Value.int .i64 a.1, .int .i64 a.2, .int .i64 b.1, .int .i64 b.2, .int .i64 c.1, .int .i64 c.2, .int .i64 d.1, .int .i64 d.2][0 + i * 2 + 1]? = some (.int .i64 (four a b c d i).2) := by
  match i, hi with
  | 0, _ => exact ⟨rfl, rfl⟩
  | 1, _ => exact ⟨rfl, rfl⟩
  | 2, _ => exact ⟨rfl, rfl⟩
  | 3, _ => exact ⟨rfl, rfl⟩
/-- The ends found among the first i. -/
def endsK (a b c d : Pn) : Nat → List Pn
  | 0 => []
  | i + 1 => addE a b c d (endsK a b c d i) (four a b c d i)
theorem endsK_all (a b c d : Pn) : endsK a b c d 4 = endsM a b c d := rfl
theorem endsK_len (a b c d : Pn) : ∀ i, (endsK a b c d i).length ≤ i
  | 0 => by simp [endsK]
  | i + 1 => by
    have := endsK_len a b c d i
    simp only [endsK, addE]
    split
    · simp; omega
    · omega
theorem contains_step {es : List Pn} {k : Nat} (hk : k < es.length) (p : Pn) : (es.take (k + 1)).contains p = ((es.take k).contains p || (px es k == p.1 && py es k == p.2)) := by
  rw [List.take_succ_eq_append_getElem hk]
  rw [Bool.eq_iff_iff]
  simp only [List.contains_eq_mem, List.mem_append, List.mem_singleton, decide_eq_true_eq, Bool.or_eq_true, Bool.and_eq_true, beq_iff_eq]
  rw [at_p hk]
  obtain ⟨x, y⟩ := p
  simp only [Prod.mk.injEq]
  constructor
  · rintro (h | h)
    · exact .inl h
    · exact .inr ⟨h.1.symm, h.2.symm⟩
  · rintro (h | h)
    · exact .inl h
    · exact .inr ⟨h.1.symm, h.2.symm⟩
theorem endsK_step {a b c d : Pn} {i : Nat} {t : Bool} (h : t = (!((endsK a b c d i).contains (four a b c d i)) && bothM a b c d (four a b c d i))) : endsK a b c d (i + 1) = if t = true then endsK a b c d i ++ [four a b c d i] else endsK a b c d i := by rw [h]; rfl
theorem l03Ends_any (a b c d : Pn) (w : World) (ha : bd2 a) (hb : bd2 b) (hc : bd2 c) (hd : bd2 d) : Calls Try.prog 80 #[pV a, pV b, pV c, pV d] w fun e w' => ∃ v, e = .returned v ∧ w'.ownsRow w.heap.size 29 2 v (endsM a b c d).length ((endsM a b c d).flatMap ptCells) ∧ Over w w' := by
  refine walk_from (m := 63) (Try.func80) rfl rfl (Nat.le_of_ble_eq_true rfl) ?_
  refine at_seq ?_
  refine at_region ?_
  refine at_op rfl ?_
  refine op_box rfl rfl (rfl) rfl (by decide) (fun b1 => ?_)
  refine at_rsE (by simp only [List.nil_append, List.cons_append, List.set_cons_zero, List.set_cons_succ, Value.cells, List.toList_toArray]; rfl) ?_
  refine at_op rfl ?_
  refine op_box rfl rfl (rfl) rfl (by decide) (fun b2 => ?_)
  refine at_rsE (by simp only [List.nil_append, List.cons_append, List.set_cons_zero, List.set_cons_succ, Value.cells, List.toList_toArray]; rfl) ?_
  refine at_op rfl ?_
  refine op_box rfl rfl (rfl) rfl (by decide) (fun b3 => ?_)
  refine at_rsE (by simp only [List.nil_append, List.cons_append, List.set_cons_zero, List.set_cons_succ, Value.cells, List.toList_toArray]; rfl) ?_
  refine at_op rfl ?_
  refine op_box rfl rfl (rfl) rfl (by decide) (fun b4 => ?_)
  refine at_rsE (by simp only [List.nil_append, List.cons_append, List.set_cons_zero, List.set_cons_succ, Value.cells, List.toList_toArray]; rfl) ?_
  refine at_q rfl rfl (by decide) (qt_assign rfl rfl) ?_
  refine at_end ?_
  refine at_seq ?_
  refine at_region ?_
  refine at_op rfl ?_
  refine op_buildSlice rfl rfl (bsl_sl_impl_Pt_0) rfl (by decide) (fun b5 => ?_)
  refine at_rowN 4 2 rfl rfl ?_
  refine at_rsE (by simp only [List.nil_append, List.cons_append, List.set_cons_zero, List.set_cons_succ, Value.cells, List.toList_toArray]; rfl) ?_
  refine at_q rfl rfl (by decide) (qt_assign rfl rfl) ?_
  refine at_end ?_
  refine at_seq ?_
  refine at_region ?_
  refine at_q rfl rfl (by decide) (qt_loadS rfl rfl tys_impl_Pt rfl (rdAll (k := 0) rfl)) ?_
  refine at_q rfl rfl (by decide) (qt_loadS rfl rfl tys_impl_Pt rfl (rdAll (k := 1) rfl)) ?_
  refine at_q rfl rfl (by decide) (qt_loadS rfl rfl tys_impl_Pt rfl (rdAll (k := 2) rfl)) ?_
  refine at_q rfl rfl (by decide) (qt_loadS rfl rfl tys_impl_Pt rfl (rdAll (k := 3) rfl)) ?_
  refine at_op rfl ?_
  refine op_buildSlice rfl rfl (bsl_sl_impl_Pt_4_0_1_2_3 rfl rfl rfl rfl) rfl (by decide) (fun b6 => ?_)
  refine at_rsE (by simp only [List.nil_append, List.cons_append, List.set_cons_zero, List.set_cons_succ, Value.cells, List.toList_toArray]; rfl) ?_
  refine at_q rfl rfl (by decide) (qt_assign rfl rfl) ?_
  refine at_end ?_
  refine at_seq ?_
  refine at_seq ?_
  refine at_region ?_
  refine at_q rfl rfl (by decide) (qt_assign rfl rfl) ?_
  refine at_end ?_
  refine at_block ?_
  refine at_loopc (X := Nat × Option Addr × Nat) (fun x => x.1 ≤ 4) (fun x => 4 - x.1) (fun x => [(11, .int .i64 (x.1 : Int)), (9, .slice x.2.1 (endsK a b c d x.1).length x.2.2)]) (C := [(4, _), (5, _), (6, _), (7, _), (8, _), (10, _)]) ⟨rfl, rfl, rfl, rfl, rfl, rfl, trivial⟩ (fun x => [.cel b1 29 [.int .i64 a.1, .int .i64 a.2], .cel b2 29 [.int .i64 b.1, .int .i64 b.2], .cel b3 29 [.int .i64 c.1, .int .i64 c.2], .cel b4 29 [.int .i64 d.1, .int .i64 d.2], rowR (Bs.N ⟨w, []⟩) 29 2 (endsK a b c d x.1).length ((endsK a b c d x.1).flatMap ptCells) x.2, .cel b6 29 [.int .i64 a.1, .int .i64 a.2, .int .i64 b.1, .int .i64 b.2, .int .i64 c.1, .int .i64 c.2, .int .i64 d.1, .int .i64 d.2]]) (0, some ⟨b5, 0, none⟩, 0) (Nat.zero_le _) ⟨rfl, rfl, rfl, rfl, rfl, rfl, rfl, rfl, trivial⟩ (fun _ h => h) ?_
  intro ⟨i, eA, ec⟩ hx L hL1
  refine at_envE (by simp only [List.nil_append, List.cons_append]; rfl) ?_
  refine at_rsE (by first | (dsimp only; done) | (dsimp only; rfl) | rfl) ?_
  have hi : i ≤ 4 := hx
  have hel := endsK_len a b c d i
  obtain ⟨es, hes⟩ : ∃ es, endsK a b c d i = es := ⟨_, rfl⟩
  rw [hes] at hel
  simp only [hes]
  refine at_seq ?_
  refine at_seq ?_
  refine at_region ?_
  refine at_q rfl rfl (by decide) (qt_move rfl rfl) ?_
  refine at_q rfl rfl (by decide) (qt_lss rfl rfl rfl) ?_
  refine at_end ?_
  refine at_cond rfl (fun c1 => ?_) (fun c1 => ?_)
  · try simp only [decide_eq_true_eq, decide_eq_false_iff_not, beq_iff_eq, beq_eq_false_iff_ne, Bool.not_eq_true', Bool.not_eq_false', Bool.not_true, Bool.not_false, Int.not_lt, Int.not_le, ne_eq, Nat.not_lt, Nat.not_le] at c1
    have hlt : i < 4 := (by omega)
    obtain ⟨p, hp⟩ : ∃ p, four a b c d i = p := ⟨_, rfl⟩
    have hpb : bd2 p := hp ▸ four_bd ha hb hc hd hlt
    obtain ⟨f1, f2⟩ := four_cells_ a b c d hlt
    rw [hp] at f1 f2
    refine at_skip ?_
    refine norm_then ?_
    refine at_seq ?_
    refine at_block ?_
    refine at_seq ?_
    refine at_region ?_
    refine at_q rfl rfl (by decide) (qt_move rfl rfl) ?_
    refine at_q rfl rfl (by decide) (qt_move rfl rfl) ?_
    refine at_q rfl rfl (by decide) (qt_index rfl rfl rfl tyl_sl_impl_Pt (by omega)) ?_
    refine at_q rfl rfl (by decide) (qt_loadS rfl rfl tys_impl_Pt rfl (rd2 (k := 5) rfl f1 f2)) ?_
    refine at_op rfl ?_
    refine op_alloc rfl tyz_impl_Pt rfl (by decide) (fun b7 => ?_)
    refine at_rsE (by simp only [List.nil_append, List.cons_append, List.set_cons_zero, List.set_cons_succ, Value.cells, List.toList_toArray]; rfl) ?_
    refine at_op rfl ?_
    refine op_storeAll' (k := 6) rfl rfl rfl rfl (rfl) (by rfl) tyz_impl_Pt.szx rfl rfl rfl ?_
    refine at_rsE (by simp only [List.nil_append, List.cons_append, List.set_cons_zero, List.set_cons_succ, Value.cells, List.toList_toArray]; rfl) ?_
    refine at_end ?_
    refine at_seq ?_
    refine at_region ?_
    refine at_q rfl rfl (by decide) (qt_assign rfl rfl) ?_
    refine at_end ?_
    refine at_seq ?_
    refine at_seq ?_
    refine at_region ?_
    refine at_q rfl rfl (by decide) (qt_assign rfl rfl) ?_
    refine at_end ?_
    refine at_block ?_
    refine at_loopk (X := Nat) (fun k => k ≤ es.length) (fun k => es.length - k) (fun k => [(14, .int .i64 (k : Int)), (13, .bool ((es.take k).contains p))]) (C := [(4, _), (5, _), (6, _), (7, _), (8, _), (10, _), (11, _), (9, _), (21, _), (22, _), (25, _), (26, _), (27, _), (28, _), (12, _)]) ⟨rfl, rfl, rfl, rfl, rfl, rfl, rfl, rfl, rfl, rfl, rfl, rfl, rfl, rfl, rfl, trivial⟩ 0 (Nat.zero_le _) ⟨rfl, rfl, rfl, rfl, rfl, rfl, rfl, rfl, rfl, rfl, rfl, rfl, rfl, rfl, rfl, rfl, rfl, trivial⟩ ?_
    intro k hk L hL2
    refine at_envE (by simp only [List.nil_append, List.cons_append]; rfl) ?_
    refine at_seq ?_
    refine at_seq ?_
    refine at_region ?_
    refine at_q rfl rfl (by decide) (qt_move rfl rfl) ?_
    refine at_q rfl rfl (by decide) (qt_move rfl rfl) ?_
    refine at_q rfl rfl (by decide) (qt_len rfl rfl tyl_sl_impl_Pt) ?_
    refine at_q rfl rfl (by decide) (qt_lss rfl rfl rfl) ?_
    refine at_end ?_
    refine at_cond rfl (fun c2 => ?_) (fun c2 => ?_)
    · try simp only [decide_eq_true_eq, decide_eq_false_iff_not, beq_iff_eq, beq_eq_false_iff_ne, Bool.not_eq_true', Bool.not_eq_false', Bool.not_true, Bool.not_false, Int.not_lt, Int.not_le, ne_eq, Nat.not_lt, Nat.not_le] at c2
      have hkt : k < es.length := (by omega)
      have hcs := contains_step hkt p
      refine at_fact (fun w hs => rowSome (k := 4) rfl hs (by omega)) ?_
      rintro ⟨eg, rfl⟩
      refine at_skip ?_
      refine norm_then ?_
      refine at_seq ?_
      refine at_block ?_
      refine dg_start mixed rfl ?_
      refine dg_phase 10 ?_
      refine dg_q (i := 0) rfl (by kernel_rfl) (by kernel_rfl) (by kernel_rfl) [] (by kernel_rfl) (fun _ _ _ h => h) rfl rfl (by decide) (fun _ h => h.upto ⟨rfl, rfl, rfl, rfl, rfl, rfl, rfl, trivial⟩) (qt_move rfl rfl) ?_
      refine dg_q (i := 1) rfl (by kernel_rfl) (by kernel_rfl) (by kernel_rfl) [] (by kernel_rfl) (fun _ _ _ h => h) rfl rfl (by decide) (fun _ h => h.upto ⟨rfl, rfl, rfl, rfl, rfl, rfl, rfl, trivial⟩) (qt_move rfl rfl) ?_
      refine at_bsplit 36 rfl (fun g1 => ?_) (fun g1 => ?_)
      · try simp only [decide_eq_true_eq, decide_eq_false_iff_not, beq_iff_eq, beq_eq_false_iff_ne, Bool.not_eq_true', Bool.not_eq_false', Bool.not_true, Bool.not_false, Int.not_lt, Int.not_le, ne_eq, Nat.not_lt, Nat.not_le] at g1
        refine dg_off (i := 2) rfl (by kernel_rfl) (by kernel_rfl) (by kernel_rfl) [] (by kernel_rfl) (fun _ _ _ h => h) rfl rfl rfl rfl (by decide) rfl (by decide) (fun _ h => h.upto ⟨rfl, rfl, rfl, rfl, rfl, rfl, rfl, trivial⟩) ?_
        refine dg_off (i := 3) rfl (by kernel_rfl) (by kernel_rfl) (by kernel_rfl) [] (by kernel_rfl) (fun _ _ _ h => h) rfl rfl rfl rfl (by decide) rfl (by decide) (fun _ h => h.upto ⟨rfl, rfl, rfl, rfl, rfl, rfl, rfl, trivial⟩) ?_
        refine dg_off (i := 4) rfl (by kernel_rfl) (by kernel_rfl) (by kernel_rfl) [] (by kernel_rfl) (fun _ _ _ h => h) rfl rfl rfl rfl (by decide) rfl (by decide) (fun _ h => h.upto ⟨rfl, rfl, rfl, rfl, rfl, rfl, rfl, trivial⟩) ?_
        refine dg_off (i := 5) rfl (by kernel_rfl) (by kernel_rfl) (by kernel_rfl) [] (by kernel_rfl) (fun _ _ _ h => h) rfl rfl rfl rfl (by decide) rfl (by decide) (fun _ h => h.upto ⟨rfl, rfl, rfl, rfl, rfl, rfl, rfl, trivial⟩) ?_
        refine dg_off (i := 6) rfl (by kernel_rfl) (by kernel_rfl) (by kernel_rfl) [] (by kernel_rfl) (fun _ _ _ h => h) rfl rfl rfl rfl (by decide) rfl (by decide) (fun _ h => h.upto ⟨rfl, rfl, rfl, rfl, rfl, rfl, rfl, trivial⟩) ?_
        refine dg_off (i := 7) rfl (by kernel_rfl) (by kernel_rfl) (by kernel_rfl) [] (by kernel_rfl) (fun _ _ _ h => h) rfl rfl rfl rfl (by decide) rfl (by decide) (fun _ h => h.upto ⟨rfl, rfl, rfl, rfl, rfl, rfl, rfl, trivial⟩) ?_
        refine dg_q (i := 8) rfl (by kernel_rfl) (by kernel_rfl) (by kernel_rfl) [] (by kernel_rfl) (fun _ _ _ h => h) rfl rfl (by decide) (fun _ h => h.upto ⟨rfl, rfl, rfl, rfl, rfl, rfl, rfl, trivial⟩) (qt_pickT rfl rfl rfl) ?_
        refine dg_q (i := 9) rfl (by kernel_rfl) (by kernel_rfl) (by kernel_rfl) [] (by kernel_rfl) (fun _ _ _ h => h) rfl rfl (by decide) (fun _ h => h.upto ⟨rfl, rfl, rfl, rfl, rfl, rfl, rfl, trivial⟩) (qt_assign rfl rfl) ?_
        refine dg_done (by kernel_rfl) ?_
        refine norm_block ?_
        refine norm_then ?_
        refine at_region ?_
        refine at_q rfl rfl (by decide) (qt_move rfl rfl) ?_
        refine at_q rfl rfl (by decide) (qt_add rfl rfl rfl (by omega) (by omega)) ?_
        refine at_q rfl rfl (by decide) (qt_assign rfl rfl) ?_
        refine at_end ?_
        exact at_againk hL2 (k + 1) (by omega) (by omega) ⟨vi (by omega), vb (by rw [hcs, g1]; rfl), rfl, rfl, rfl, rfl, rfl, rfl, rfl, rfl, rfl, rfl, rfl, rfl, rfl, rfl, rfl, trivial⟩ (fun _ h => h.upto ⟨rfl, rfl, rfl, rfl, rfl, rfl, rfl, trivial⟩)
      · try simp only [decide_eq_true_eq, decide_eq_false_iff_not, beq_iff_eq, beq_eq_false_iff_ne, Bool.not_eq_true', Bool.not_eq_false', Bool.not_true, Bool.not_false, Int.not_lt, Int.not_le, ne_eq, Nat.not_lt, Nat.not_le] at g1
        refine dg_qg (i := 2) rfl (by kernel_rfl) (by kernel_rfl) (by kernel_rfl) [] (by kernel_rfl) (fun _ _ _ h => h) rfl rfl rfl rfl rfl (by decide) (fun _ h => h.upto ⟨rfl, rfl, rfl, rfl, rfl, rfl, rfl, trivial⟩) (qt_move rfl rfl) ?_
        refine dg_qg (i := 3) rfl (by kernel_rfl) (by kernel_rfl) (by kernel_rfl) [] (by kernel_rfl) (fun _ _ _ h => h) rfl rfl rfl rfl rfl (by decide) (fun _ h => h.upto ⟨rfl, rfl, rfl, rfl, rfl, rfl, rfl, trivial⟩) (qt_move rfl rfl) ?_
        refine dg_qg (i := 4) rfl (by kernel_rfl) (by kernel_rfl) (by kernel_rfl) [] (by kernel_rfl) (fun _ _ _ h => h) rfl rfl rfl rfl rfl (by decide) (fun _ h => h.upto ⟨rfl, rfl, rfl, rfl, rfl, rfl, rfl, trivial⟩) (qt_index rfl rfl rfl tyl_sl_impl_Pt (by omega)) ?_
        refine dg_qg (i := 5) rfl (by kernel_rfl) (by kernel_rfl) (by kernel_rfl) [] (by kernel_rfl) (fun _ _ _ h => h) rfl rfl rfl rfl rfl (by decide) (fun _ h => h.upto ⟨rfl, rfl, rfl, rfl, rfl, rfl, rfl, trivial⟩) (qt_loadS rfl rfl tys_impl_Pt rfl (rdPtsR (fun w' hs => ptsRow (hs.all 4 _ rfl).1 rfl) hkt)) ?_
        refine dg_qg (i := 6) rfl (by kernel_rfl) (by kernel_rfl) (by kernel_rfl) [] (by kernel_rfl) (fun _ _ _ h => h) rfl rfl rfl rfl rfl (by decide) (fun _ h => h.upto ⟨rfl, rfl, rfl, rfl, rfl, rfl, rfl, trivial⟩) (qt_loadS rfl rfl tys_impl_Pt rfl (rdAll (k := 6) rfl)) ?_
        refine dg_qg (i := 7) rfl (by kernel_rfl) (by kernel_rfl) (by kernel_rfl) [] (by kernel_rfl) (fun _ _ _ h => h) rfl rfl rfl rfl rfl (by decide) (fun _ h => h.upto ⟨rfl, rfl, rfl, rfl, rfl, rfl, rfl, trivial⟩) (qt_eqlS_impl_Pt rfl rfl rfl) ?_
        refine dg_q (i := 8) rfl (by kernel_rfl) (by kernel_rfl) (by kernel_rfl) [] (by kernel_rfl) (fun _ _ _ h => h) rfl rfl (by decide) (fun _ h => h.upto ⟨rfl, rfl, rfl, rfl, rfl, rfl, rfl, trivial⟩) (qt_pickF rfl rfl rfl) ?_
        refine dg_q (i := 9) rfl (by kernel_rfl) (by kernel_rfl) (by kernel_rfl) [] (by kernel_rfl) (fun _ _ _ h => h) rfl rfl (by decide) (fun _ h => h.upto ⟨rfl, rfl, rfl, rfl, rfl, rfl, rfl, trivial⟩) (qt_assign rfl rfl) ?_
        refine dg_done (by kernel_rfl) ?_
        refine norm_block ?_
        refine norm_then ?_
        refine at_region ?_
        refine at_q rfl rfl (by decide) (qt_move rfl rfl) ?_
        refine at_q rfl rfl (by decide) (qt_add rfl rfl rfl (by omega) (by omega)) ?_
        refine at_q rfl rfl (by decide) (qt_assign rfl rfl) ?_
        refine at_end ?_
        exact at_againk hL2 (k + 1) (by omega) (by omega) ⟨vi (by omega), vb (by rw [hcs, g1]; rfl), rfl, rfl, rfl, rfl, rfl, rfl, rfl, rfl, rfl, rfl, rfl, rfl, rfl, rfl, rfl, trivial⟩ (fun _ h => h.upto ⟨rfl, rfl, rfl, rfl, rfl, rfl, rfl, trivial⟩)
    · try simp only [decide_eq_true_eq, decide_eq_false_iff_not, beq_iff_eq, beq_eq_false_iff_ne, Bool.not_eq_true', Bool.not_eq_false', Bool.not_true, Bool.not_false, Int.not_lt, Int.not_le, ne_eq, Nat.not_lt, Nat.not_le] at c2
      have hke : k = es.length := (by omega)
      subst hke
      rw [List.take_length]
      refine at_exit ?_
      refine pass_then (fun h => by cases h) ?_
      refine pass_then (fun h => by cases h) ?_
      refine pass_hit ?_
      refine norm_then ?_
      refine at_cutE [(57, .bool (!(es.contains p) && bothM a b c d p))] (C := [(4, _), (5, _), (6, _), (7, _), (8, _), (10, _), (11, _), (9, _), (21, _), (22, _), (25, _), (26, _), (27, _), (28, _), (12, _), (14, _), (13, _), (29, _), (30, _), (31, _), (32, _)])  ⟨rfl, rfl, rfl, rfl, rfl, rfl, rfl, rfl, rfl, rfl, rfl, rfl, rfl, rfl, rfl, rfl, rfl, rfl, rfl, rfl, rfl, trivial⟩ (fun L hC_cut_12 => ?_) ?_
      · refine at_region ?_
        refine at_q rfl rfl (by decide) (qt_move rfl rfl) ?_
        refine at_q rfl rfl (by decide) (qt_not rfl rfl) ?_
        refine at_q rfl rfl (by decide) (qt_move rfl rfl) ?_
        refine at_bsplit 46 rfl (fun g2 => ?_) (fun g2 => ?_)
        · try simp only [decide_eq_true_eq, decide_eq_false_iff_not, beq_iff_eq, beq_eq_false_iff_ne, Bool.not_eq_true', Bool.not_eq_false', Bool.not_true, Bool.not_false, Int.not_lt, Int.not_le, ne_eq, Nat.not_lt, Nat.not_le] at g2
          refine at_on rfl rfl rfl rfl ?_
          refine op_q rfl (by decide) (qt_loadS rfl rfl tys_impl_Pt rfl (rdAll (k := 0) rfl)) ?_
          refine at_on rfl rfl rfl rfl ?_
          refine op_q rfl (by decide) (qt_loadS rfl rfl tys_impl_Pt rfl (rdAll (k := 1) rfl)) ?_
          refine at_on rfl rfl rfl rfl ?_
          refine op_q rfl (by decide) (qt_loadS rfl rfl tys_impl_Pt rfl (rdAll (k := 6) rfl)) ?_
          refine at_on rfl rfl rfl rfl ?_
          refine op_q rfl (by decide) (qt_call ok_spec_l03On rfl rfl (fun w h => l03On_p a b p w ha hb hpb)) ?_
          refine at_q rfl rfl (by decide) (qt_pickT rfl rfl rfl) ?_
          refine at_q rfl rfl (by decide) (qt_move rfl rfl) ?_
          refine at_bsplit 52 rfl (fun g3 => ?_) (fun g3 => ?_)
          · try simp only [decide_eq_true_eq, decide_eq_false_iff_not, beq_iff_eq, beq_eq_false_iff_ne, Bool.not_eq_true', Bool.not_eq_false', Bool.not_true, Bool.not_false, Int.not_lt, Int.not_le, ne_eq, Nat.not_lt, Nat.not_le] at g3
            refine at_on rfl rfl rfl rfl ?_
            refine op_q rfl (by decide) (qt_loadS rfl rfl tys_impl_Pt rfl (rdAll (k := 2) rfl)) ?_
            refine at_on rfl rfl rfl rfl ?_
            refine op_q rfl (by decide) (qt_loadS rfl rfl tys_impl_Pt rfl (rdAll (k := 3) rfl)) ?_
            refine at_on rfl rfl rfl rfl ?_
            refine op_q rfl (by decide) (qt_loadS rfl rfl tys_impl_Pt rfl (rdAll (k := 6) rfl)) ?_
            refine at_on rfl rfl rfl rfl ?_
            refine op_q rfl (by decide) (qt_call ok_spec_l03On rfl rfl (fun w h => l03On_p c d p w hc hd hpb)) ?_
            refine at_q rfl rfl (by decide) (qt_pickT rfl rfl rfl) ?_
            refine at_end ?_
            exact at_meet hC_cut_12 ⟨vb (by rw [bothM]; simp only [*, Bool.not_true, Bool.not_false, Bool.true_and, Bool.false_and]), rfl, rfl, rfl, rfl, rfl, rfl, rfl, rfl, rfl, rfl, rfl, rfl, rfl, rfl, rfl, rfl, rfl, rfl, rfl, rfl, rfl, trivial⟩ (fun _ h => h.upto ⟨rfl, rfl, rfl, rfl, rfl, rfl, rfl, trivial⟩)
          · try simp only [decide_eq_true_eq, decide_eq_false_iff_not, beq_iff_eq, beq_eq_false_iff_ne, Bool.not_eq_true', Bool.not_eq_false', Bool.not_true, Bool.not_false, Int.not_lt, Int.not_le, ne_eq, Nat.not_lt, Nat.not_le] at g3
            refine at_off rfl rfl rfl rfl (by decide) rfl (by decide) ?_
            refine at_off rfl rfl rfl rfl (by decide) rfl (by decide) ?_
            refine at_off rfl rfl rfl rfl (by decide) rfl (by decide) ?_
            refine at_off rfl rfl rfl rfl (by decide) rfl (by decide) ?_
            refine at_q rfl rfl (by decide) (qt_pickF rfl rfl rfl) ?_
            refine at_end ?_
            exact at_meet hC_cut_12 ⟨vb (by rw [bothM]; simp only [*, Bool.not_true, Bool.not_false, Bool.true_and, Bool.false_and]), rfl, rfl, rfl, rfl, rfl, rfl, rfl, rfl, rfl, rfl, rfl, rfl, rfl, rfl, rfl, rfl, rfl, rfl, rfl, rfl, rfl, trivial⟩ (fun _ h => h.upto ⟨rfl, rfl, rfl, rfl, rfl, rfl, rfl, trivial⟩)
        · try simp only [decide_eq_true_eq, decide_eq_false_iff_not, beq_iff_eq, beq_eq_false_iff_ne, Bool.not_eq_true', Bool.not_eq_false', Bool.not_true, Bool.not_false, Int.not_lt, Int.not_le, ne_eq, Nat.not_lt, Nat.not_le] at g2
          refine at_off rfl rfl rfl rfl (by decide) rfl (by decide) ?_
          refine at_off rfl rfl rfl rfl (by decide) rfl (by decide) ?_
          refine at_off rfl rfl rfl rfl (by decide) rfl (by decide) ?_
          refine at_off rfl rfl rfl rfl (by decide) rfl (by decide) ?_
          refine at_q rfl rfl (by decide) (qt_pickF rfl rfl rfl) ?_
          refine at_q rfl rfl (by decide) (qt_move rfl rfl) ?_
          refine at_off rfl rfl rfl rfl (by decide) rfl (by decide) ?_
          refine at_off rfl rfl rfl rfl (by decide) rfl (by decide) ?_
          refine at_off rfl rfl rfl rfl (by decide) rfl (by decide) ?_
          refine at_off rfl rfl rfl rfl (by decide) rfl (by decide) ?_
          refine at_q rfl rfl (by decide) (qt_pickF rfl rfl rfl) ?_
          refine at_end ?_
          exact at_meet hC_cut_12 ⟨vb (by rw [bothM]; simp only [*, Bool.not_true, Bool.not_false, Bool.true_and, Bool.false_and]), rfl, rfl, rfl, rfl, rfl, rfl, rfl, rfl, rfl, rfl, rfl, rfl, rfl, rfl, rfl, rfl, rfl, rfl, rfl, rfl, rfl, trivial⟩ (fun _ h => h.upto ⟨rfl, rfl, rfl, rfl, rfl, rfl, rfl, trivial⟩)
      · refine at_envE (by simp only [List.nil_append, List.cons_append]; rfl) ?_
        refine at_cond rfl (fun c3 => ?_) (fun c3 => ?_)
        · try simp only [decide_eq_true_eq, decide_eq_false_iff_not, beq_iff_eq, beq_eq_false_iff_ne, Bool.not_eq_true', Bool.not_eq_false', Bool.not_true, Bool.not_false, Int.not_lt, Int.not_le, ne_eq, Nat.not_lt, Nat.not_le] at c3
          have hst := endsK_step (a := a) (b := b) (c := c) (d := d) (i := i) (t := true) (by rw [hes, hp, c3])
          rw [if_pos rfl, hes, hp] at hst
          refine at_region ?_
          refine at_q rfl rfl (by decide) (qt_move rfl rfl) ?_
          refine at_q rfl rfl (by decide) (qt_loadS rfl rfl tys_impl_Pt rfl (rdAll (k := 6) rfl)) ?_
          refine at_op rfl ?_
          refine op_buildSlice rfl rfl (bsl_sl_impl_Pt_1_0 rfl) rfl (by decide) (fun b8 => ?_)
          refine at_rsE (by simp only [List.nil_append, List.cons_append, List.set_cons_zero, List.set_cons_succ, Value.cells, List.toList_toArray]; rfl) ?_
          refine at_op rfl ?_
          refine op_appendR (k := 4) rfl tyl_sl_impl_Pt tyz_impl_Pt (by decide) rfl (by decide) rfl rfl rfl (fun w' hs => src_cel hs (k := 7) rfl rfl) (by simp [Value.oneCell']) (by unfold maxLen; omega) (by omega) (Nat.le_refl _) (fun r1 => ?_)
          refine at_rsE (by simp only [List.nil_append, List.cons_append, List.set_cons_zero, List.set_cons_succ, Value.cells, List.toList_toArray]; rfl) ?_
          refine at_q rfl rfl (by decide) (qt_assign rfl rfl) ?_
          refine at_nil ?_
          refine norm_block ?_
          refine norm_then ?_
          refine at_region ?_
          refine at_q rfl rfl (by decide) (qt_move rfl rfl) ?_
          refine at_q rfl rfl (by decide) (qt_add rfl rfl rfl (by omega) (by omega)) ?_
          refine at_q rfl rfl (by decide) (qt_assign rfl rfl) ?_
          refine at_end ?_
          exact at_againc hL1 ((i + 1, r1)) ((show i + 1 ≤ 4 by omega)) (by simp only; omega) ⟨vi (by omega), by simp only [hst, List.length_append]; rfl, rfl, rfl, rfl, rfl, rfl, rfl, trivial⟩ (fun _ h => h.upto ⟨rfl, rfl, rfl, rfl, by simp only [hst, List.flatMap_append, List.length_append]; rfl, rfl, trivial⟩)
        · try simp only [decide_eq_true_eq, decide_eq_false_iff_not, beq_iff_eq, beq_eq_false_iff_ne, Bool.not_eq_true', Bool.not_eq_false', Bool.not_true, Bool.not_false, Int.not_lt, Int.not_le, ne_eq, Nat.not_lt, Nat.not_le] at c3
          have hst := endsK_step (a := a) (b := b) (c := c) (d := d) (i := i) (t := false) (by rw [hes, hp, c3])
          rw [if_neg (by simp), hes] at hst
          refine at_skip ?_
          refine norm_block ?_
          refine norm_then ?_
          refine at_region ?_
          refine at_q rfl rfl (by decide) (qt_move rfl rfl) ?_
          refine at_q rfl rfl (by decide) (qt_add rfl rfl rfl (by omega) (by omega)) ?_
          refine at_q rfl rfl (by decide) (qt_assign rfl rfl) ?_
          refine at_end ?_
          exact at_againc hL1 ((i + 1, eA, ec)) ((show i + 1 ≤ 4 by omega)) (by simp only; omega) ⟨vi (by omega), by simp only [hst]; rfl, rfl, rfl, rfl, rfl, rfl, rfl, trivial⟩ (fun _ h => h.upto ⟨rfl, rfl, rfl, rfl, by simp only [hst], rfl, trivial⟩)
  · try simp only [decide_eq_true_eq, decide_eq_false_iff_not, beq_iff_eq, beq_eq_false_iff_ne, Bool.not_eq_true', Bool.not_eq_false', Bool.not_true, Bool.not_false, Int.not_lt, Int.not_le, ne_eq, Nat.not_lt, Nat.not_le] at c1
    have hie : i = 4 := (by omega)
    subst hie
    rw [endsK_all] at hes
    refine at_exit ?_
    refine pass_then (fun h => by cases h) ?_
    refine pass_then (fun h => by cases h) ?_
    refine pass_hit ?_
    refine norm_then ?_
    refine at_seq ?_
    refine at_region ?_
    refine at_q rfl rfl (by decide) (qt_move rfl rfl) ?_
    refine at_q rfl rfl (by decide) (qt_assign rfl rfl) ?_
    refine at_end ?_
    refine at_retc ?_
    refine at_ret1 rfl (.tmp rfl) ?_
    intro w' hs
    exact ⟨_, rfl, by rw [hes]; exact (hs.all 4 _ rfl).1, hs.fin⟩

theorem meetS_len {a b c d : Pn} : ((endsM a b c d).length = 0 → meetS a b c d = if strictM a b c d = true then 2 else 0) ∧ ((endsM a b c d).length = 1 → meetS a b c d = 1) ∧ (¬ (endsM a b c d).length = 0 → ¬ (endsM a b c d).length = 1 → meetS a b c d = 3) := by
  unfold meetS
  refine ⟨fun h => by rw [if_pos h], fun h => by rw [if_neg (by omega), if_pos h], fun h h' => by rw [if_neg h, if_neg h']⟩
theorem l03Meeting_any (a b c d : Pn) (w : World) (ha : bd2 a) (hb : bd2 b) (hc : bd2 c) (hd : bd2 d) : Calls Try.prog 62 #[pV a, pV b, pV c, pV d] w fun e w' => e = .returned (.int .i64 (meetS a b c d)) ∧ Over w w' := by
  have m1 := sgn_mul_bd (tn a b c) (tn a b d)
  have m2 := sgn_mul_bd (tn c d a) (tn c d b)
  have hl := @meetS_len a b c d
  refine walk_from (m := 45) (Try.func62) rfl rfl (Nat.le_of_ble_eq_true rfl) ?_
  refine at_seq ?_
  refine at_region ?_
  refine at_op rfl ?_
  refine op_box rfl rfl (rfl) rfl (by decide) (fun b1 => ?_)
  refine at_rsE (by simp only [List.nil_append, List.cons_append, List.set_cons_zero, List.set_cons_succ, Value.cells, List.toList_toArray]; rfl) ?_
  refine at_op rfl ?_
  refine op_box rfl rfl (rfl) rfl (by decide) (fun b2 => ?_)
  refine at_rsE (by simp only [List.nil_append, List.cons_append, List.set_cons_zero, List.set_cons_succ, Value.cells, List.toList_toArray]; rfl) ?_
  refine at_op rfl ?_
  refine op_box rfl rfl (rfl) rfl (by decide) (fun b3 => ?_)
  refine at_rsE (by simp only [List.nil_append, List.cons_append, List.set_cons_zero, List.set_cons_succ, Value.cells, List.toList_toArray]; rfl) ?_
  refine at_op rfl ?_
  refine op_box rfl rfl (rfl) rfl (by decide) (fun b4 => ?_)
  refine at_rsE (by simp only [List.nil_append, List.cons_append, List.set_cons_zero, List.set_cons_succ, Value.cells, List.toList_toArray]; rfl) ?_
  refine at_q rfl rfl (by decide) (qt_assign rfl rfl) ?_
  refine at_end ?_
  refine at_seq ?_
  refine at_seq ?_
  refine at_region ?_
  refine at_q rfl rfl (by decide) (qt_loadS rfl rfl tys_impl_Pt rfl (rdAll (k := 0) rfl)) ?_
  refine at_q rfl rfl (by decide) (qt_loadS rfl rfl tys_impl_Pt rfl (rdAll (k := 1) rfl)) ?_
  refine at_q rfl rfl (by decide) (qt_loadS rfl rfl tys_impl_Pt rfl (rdAll (k := 2) rfl)) ?_
  refine at_q rfl rfl (by decide) (qt_loadS rfl rfl tys_impl_Pt rfl (rdAll (k := 3) rfl)) ?_
  refine at_op rfl ?_
  refine op_call ok_spec_l03Ends (v := fun x => .slice x.1 _ x.2) (r := fun x => rowR 0 29 2 _ _ x) (H := fun _ => True) rfl rfl rfl (by decide) (fun w1 hs => newRow' (l03Ends_any a b c d w1 ha hb hc hd)) ?_
  rintro ⟨eA, ec⟩ -
  refine at_rsE (by simp only [List.nil_append, List.cons_append, List.set_cons_zero, List.set_cons_succ, Value.cells, List.toList_toArray]; rfl) ?_
  refine at_q rfl rfl (by decide) (qt_len rfl rfl tyl_sl_impl_Pt) ?_
  refine at_end ?_
  refine at_block ?_
  refine at_seq ?_
  refine at_region ?_
  refine at_q rfl rfl (by decide) (qt_eql rfl rfl rfl) ?_
  refine at_q rfl rfl (by decide) (qt_assign rfl rfl) ?_
  refine at_end ?_
  refine at_cond rfl (fun c1 => ?_) (fun c1 => ?_)
  · try simp only [decide_eq_true_eq, decide_eq_false_iff_not, beq_iff_eq, beq_eq_false_iff_ne, Bool.not_eq_true', Bool.not_eq_false', Bool.not_true, Bool.not_false, Int.not_lt, Int.not_le, ne_eq, Nat.not_lt, Nat.not_le] at c1
    refine at_seq ?_
    refine at_cutE [(42, .bool (strictM a b c d))] (C := [(8, _)])  ⟨rfl, trivial⟩ (fun L hC_cut_3 => ?_) ?_
    · refine dg_start mixed rfl ?_
      refine dg_phase 26 ?_
      refine dg_q (i := 0) rfl (by kernel_rfl) (by kernel_rfl) (by kernel_rfl) [] (by kernel_rfl) (fun _ _ _ h => h) rfl rfl (by decide) (fun _ h => h.upto ⟨rfl, rfl, rfl, rfl, rfl, trivial⟩) (qt_loadS rfl rfl tys_impl_Pt rfl (rdAll (k := 0) rfl)) ?_
      refine dg_q (i := 1) rfl (by kernel_rfl) (by kernel_rfl) (by kernel_rfl) [] (by kernel_rfl) (fun _ _ _ h => h) rfl rfl (by decide) (fun _ h => h.upto ⟨rfl, rfl, rfl, rfl, rfl, trivial⟩) (qt_loadS rfl rfl tys_impl_Pt rfl (rdAll (k := 1) rfl)) ?_
      refine dg_q (i := 2) rfl (by kernel_rfl) (by kernel_rfl) (by kernel_rfl) [] (by kernel_rfl) (fun _ _ _ h => h) rfl rfl (by decide) (fun _ h => h.upto ⟨rfl, rfl, rfl, rfl, rfl, trivial⟩) (qt_loadS rfl rfl tys_impl_Pt rfl (rdAll (k := 2) rfl)) ?_
      refine dg_q (i := 3) rfl (by kernel_rfl) (by kernel_rfl) (by kernel_rfl) [] (by kernel_rfl) (fun _ _ _ h => h) rfl rfl (by decide) (fun _ h => h.upto ⟨rfl, rfl, rfl, rfl, rfl, trivial⟩) (qt_call ok_spec_l03Turn rfl rfl (fun w h => l03Turn_p _ _ _ w (by assumption) (by assumption) (by assumption))) ?_
      refine dg_q (i := 4) rfl (by kernel_rfl) (by kernel_rfl) (by kernel_rfl) [] (by kernel_rfl) (fun _ _ _ h => h) rfl rfl (by decide) (fun _ h => h.upto ⟨rfl, rfl, rfl, rfl, rfl, trivial⟩) (qt_call ok_spec_l03Sign rfl rfl (fun w h => l03Sign_any _ w)) ?_
      refine dg_q (i := 5) rfl (by kernel_rfl) (by kernel_rfl) (by kernel_rfl) [] (by kernel_rfl) (fun _ _ _ h => h) rfl rfl (by decide) (fun _ h => h.upto ⟨rfl, rfl, rfl, rfl, rfl, trivial⟩) (qt_loadS rfl rfl tys_impl_Pt rfl (rdAll (k := 0) rfl)) ?_
      refine dg_q (i := 6) rfl (by kernel_rfl) (by kernel_rfl) (by kernel_rfl) [] (by kernel_rfl) (fun _ _ _ h => h) rfl rfl (by decide) (fun _ h => h.upto ⟨rfl, rfl, rfl, rfl, rfl, trivial⟩) (qt_loadS rfl rfl tys_impl_Pt rfl (rdAll (k := 1) rfl)) ?_
      refine dg_q (i := 7) rfl (by kernel_rfl) (by kernel_rfl) (by kernel_rfl) [] (by kernel_rfl) (fun _ _ _ h => h) rfl rfl (by decide) (fun _ h => h.upto ⟨rfl, rfl, rfl, rfl, rfl, trivial⟩) (qt_loadS rfl rfl tys_impl_Pt rfl (rdAll (k := 3) rfl)) ?_
      refine dg_q (i := 8) rfl (by kernel_rfl) (by kernel_rfl) (by kernel_rfl) [] (by kernel_rfl) (fun _ _ _ h => h) rfl rfl (by decide) (fun _ h => h.upto ⟨rfl, rfl, rfl, rfl, rfl, trivial⟩) (qt_call ok_spec_l03Turn rfl rfl (fun w h => l03Turn_p _ _ _ w (by assumption) (by assumption) (by assumption))) ?_
      refine dg_q (i := 9) rfl (by kernel_rfl) (by kernel_rfl) (by kernel_rfl) [] (by kernel_rfl) (fun _ _ _ h => h) rfl rfl (by decide) (fun _ h => h.upto ⟨rfl, rfl, rfl, rfl, rfl, trivial⟩) (qt_call ok_spec_l03Sign rfl rfl (fun w h => l03Sign_any _ w)) ?_
      refine dg_q (i := 10) rfl (by kernel_rfl) (by kernel_rfl) (by kernel_rfl) [] (by kernel_rfl) (fun _ _ _ h => h) rfl rfl (by decide) (fun _ h => h.upto ⟨rfl, rfl, rfl, rfl, rfl, trivial⟩) (qt_mul rfl rfl rfl (by omega) (by omega)) ?_
      refine dg_q (i := 11) rfl (by kernel_rfl) (by kernel_rfl) (by kernel_rfl) [] (by kernel_rfl) (fun _ _ _ h => h) rfl rfl (by decide) (fun _ h => h.upto ⟨rfl, rfl, rfl, rfl, rfl, trivial⟩) (qt_lss rfl rfl rfl) ?_
      refine dg_q (i := 12) rfl (by kernel_rfl) (by kernel_rfl) (by kernel_rfl) [] (by kernel_rfl) (fun _ _ _ h => h) rfl rfl (by decide) (fun _ h => h.upto ⟨rfl, rfl, rfl, rfl, rfl, trivial⟩) (qt_move rfl rfl) ?_
      refine at_bsplit 29 rfl (fun g1 => ?_) (fun g1 => ?_)
      · try simp only [decide_eq_true_eq, decide_eq_false_iff_not, beq_iff_eq, beq_eq_false_iff_ne, Bool.not_eq_true', Bool.not_eq_false', Bool.not_true, Bool.not_false, Int.not_lt, Int.not_le, ne_eq, Nat.not_lt, Nat.not_le] at g1
        refine dg_qg (i := 13) rfl (by kernel_rfl) (by kernel_rfl) (by kernel_rfl) [] (by kernel_rfl) (fun _ _ _ h => h) rfl rfl rfl rfl rfl (by decide) (fun _ h => h.upto ⟨rfl, rfl, rfl, rfl, rfl, trivial⟩) (qt_loadS rfl rfl tys_impl_Pt rfl (rdAll (k := 2) rfl)) ?_
        refine dg_qg (i := 14) rfl (by kernel_rfl) (by kernel_rfl) (by kernel_rfl) [] (by kernel_rfl) (fun _ _ _ h => h) rfl rfl rfl rfl rfl (by decide) (fun _ h => h.upto ⟨rfl, rfl, rfl, rfl, rfl, trivial⟩) (qt_loadS rfl rfl tys_impl_Pt rfl (rdAll (k := 3) rfl)) ?_
        refine dg_qg (i := 15) rfl (by kernel_rfl) (by kernel_rfl) (by kernel_rfl) [] (by kernel_rfl) (fun _ _ _ h => h) rfl rfl rfl rfl rfl (by decide) (fun _ h => h.upto ⟨rfl, rfl, rfl, rfl, rfl, trivial⟩) (qt_loadS rfl rfl tys_impl_Pt rfl (rdAll (k := 0) rfl)) ?_
        refine dg_qg (i := 16) rfl (by kernel_rfl) (by kernel_rfl) (by kernel_rfl) [] (by kernel_rfl) (fun _ _ _ h => h) rfl rfl rfl rfl rfl (by decide) (fun _ h => h.upto ⟨rfl, rfl, rfl, rfl, rfl, trivial⟩) (qt_call ok_spec_l03Turn rfl rfl (fun w h => l03Turn_p _ _ _ w (by assumption) (by assumption) (by assumption))) ?_
        refine dg_qg (i := 17) rfl (by kernel_rfl) (by kernel_rfl) (by kernel_rfl) [] (by kernel_rfl) (fun _ _ _ h => h) rfl rfl rfl rfl rfl (by decide) (fun _ h => h.upto ⟨rfl, rfl, rfl, rfl, rfl, trivial⟩) (qt_call ok_spec_l03Sign rfl rfl (fun w h => l03Sign_any _ w)) ?_
        refine dg_qg (i := 18) rfl (by kernel_rfl) (by kernel_rfl) (by kernel_rfl) [] (by kernel_rfl) (fun _ _ _ h => h) rfl rfl rfl rfl rfl (by decide) (fun _ h => h.upto ⟨rfl, rfl, rfl, rfl, rfl, trivial⟩) (qt_loadS rfl rfl tys_impl_Pt rfl (rdAll (k := 2) rfl)) ?_
        refine dg_qg (i := 19) rfl (by kernel_rfl) (by kernel_rfl) (by kernel_rfl) [] (by kernel_rfl) (fun _ _ _ h => h) rfl rfl rfl rfl rfl (by decide) (fun _ h => h.upto ⟨rfl, rfl, rfl, rfl, rfl, trivial⟩) (qt_loadS rfl rfl tys_impl_Pt rfl (rdAll (k := 3) rfl)) ?_
        refine dg_qg (i := 20) rfl (by kernel_rfl) (by kernel_rfl) (by kernel_rfl) [] (by kernel_rfl) (fun _ _ _ h => h) rfl rfl rfl rfl rfl (by decide) (fun _ h => h.upto ⟨rfl, rfl, rfl, rfl, rfl, trivial⟩) (qt_loadS rfl rfl tys_impl_Pt rfl (rdAll (k := 1) rfl)) ?_
        refine dg_qg (i := 21) rfl (by kernel_rfl) (by kernel_rfl) (by kernel_rfl) [] (by kernel_rfl) (fun _ _ _ h => h) rfl rfl rfl rfl rfl (by decide) (fun _ h => h.upto ⟨rfl, rfl, rfl, rfl, rfl, trivial⟩) (qt_call ok_spec_l03Turn rfl rfl (fun w h => l03Turn_p _ _ _ w (by assumption) (by assumption) (by assumption))) ?_
        refine dg_qg (i := 22) rfl (by kernel_rfl) (by kernel_rfl) (by kernel_rfl) [] (by kernel_rfl) (fun _ _ _ h => h) rfl rfl rfl rfl rfl (by decide) (fun _ h => h.upto ⟨rfl, rfl, rfl, rfl, rfl, trivial⟩) (qt_call ok_spec_l03Sign rfl rfl (fun w h => l03Sign_any _ w)) ?_
        refine dg_qg (i := 23) rfl (by kernel_rfl) (by kernel_rfl) (by kernel_rfl) [] (by kernel_rfl) (fun _ _ _ h => h) rfl rfl rfl rfl rfl (by decide) (fun _ h => h.upto ⟨rfl, rfl, rfl, rfl, rfl, trivial⟩) (qt_mul rfl rfl rfl (by omega) (by omega)) ?_
        refine dg_qg (i := 24) rfl (by kernel_rfl) (by kernel_rfl) (by kernel_rfl) [] (by kernel_rfl) (fun _ _ _ h => h) rfl rfl rfl rfl rfl (by decide) (fun _ h => h.upto ⟨rfl, rfl, rfl, rfl, rfl, trivial⟩) (qt_lss rfl rfl rfl) ?_
        refine dg_q (i := 25) rfl (by kernel_rfl) (by kernel_rfl) (by kernel_rfl) [] (by kernel_rfl) (fun _ _ _ h => h) rfl rfl (by decide) (fun _ h => h.upto ⟨rfl, rfl, rfl, rfl, rfl, trivial⟩) (qt_pickT rfl rfl rfl) ?_
        refine dg_done (by kernel_rfl) ?_
        refine norm_then ?_
        exact at_meet hC_cut_3 ⟨vb (by simp [strictM, *] <;> omega), rfl, trivial⟩ (fun _ h => h.upto ⟨rfl, rfl, rfl, rfl, rfl, trivial⟩)
      · try simp only [decide_eq_true_eq, decide_eq_false_iff_not, beq_iff_eq, beq_eq_false_iff_ne, Bool.not_eq_true', Bool.not_eq_false', Bool.not_true, Bool.not_false, Int.not_lt, Int.not_le, ne_eq, Nat.not_lt, Nat.not_le] at g1
        refine dg_off (i := 13) rfl (by kernel_rfl) (by kernel_rfl) (by kernel_rfl) [] (by kernel_rfl) (fun _ _ _ h => h) rfl rfl rfl rfl (by decide) rfl (by decide) (fun _ h => h.upto ⟨rfl, rfl, rfl, rfl, rfl, trivial⟩) ?_
        refine dg_off (i := 14) rfl (by kernel_rfl) (by kernel_rfl) (by kernel_rfl) [] (by kernel_rfl) (fun _ _ _ h => h) rfl rfl rfl rfl (by decide) rfl (by decide) (fun _ h => h.upto ⟨rfl, rfl, rfl, rfl, rfl, trivial⟩) ?_
        refine dg_off (i := 15) rfl (by kernel_rfl) (by kernel_rfl) (by kernel_rfl) [] (by kernel_rfl) (fun _ _ _ h => h) rfl rfl rfl rfl (by decide) rfl (by decide) (fun _ h => h.upto ⟨rfl, rfl, rfl, rfl, rfl, trivial⟩) ?_
        refine dg_off (i := 16) rfl (by kernel_rfl) (by kernel_rfl) (by kernel_rfl) [] (by kernel_rfl) (fun _ _ _ h => h) rfl rfl rfl rfl (by decide) rfl (by decide) (fun _ h => h.upto ⟨rfl, rfl, rfl, rfl, rfl, trivial⟩) ?_
        refine dg_off (i := 17) rfl (by kernel_rfl) (by kernel_rfl) (by kernel_rfl) [] (by kernel_rfl) (fun _ _ _ h => h) rfl rfl rfl rfl (by decide) rfl (by decide) (fun _ h => h.upto ⟨rfl, rfl, rfl, rfl, rfl, trivial⟩) ?_
        refine dg_off (i := 18) rfl (by kernel_rfl) (by kernel_rfl) (by kernel_rfl) [] (by kernel_rfl) (fun _ _ _ h => h) rfl rfl rfl rfl (by decide) rfl (by decide) (fun _ h => h.upto ⟨rfl, rfl, rfl, rfl, rfl, trivial⟩) ?_
        refine dg_off (i := 19) rfl (by kernel_rfl) (by kernel_rfl) (by kernel_rfl) [] (by kernel_rfl) (fun _ _ _ h => h) rfl rfl rfl rfl (by decide) rfl (by decide) (fun _ h => h.upto ⟨rfl, rfl, rfl, rfl, rfl, trivial⟩) ?_
        refine dg_off (i := 20) rfl (by kernel_rfl) (by kernel_rfl) (by kernel_rfl) [] (by kernel_rfl) (fun _ _ _ h => h) rfl rfl rfl rfl (by decide) rfl (by decide) (fun _ h => h.upto ⟨rfl, rfl, rfl, rfl, rfl, trivial⟩) ?_
        refine dg_off (i := 21) rfl (by kernel_rfl) (by kernel_rfl) (by kernel_rfl) [] (by kernel_rfl) (fun _ _ _ h => h) rfl rfl rfl rfl (by decide) rfl (by decide) (fun _ h => h.upto ⟨rfl, rfl, rfl, rfl, rfl, trivial⟩) ?_
        refine dg_off (i := 22) rfl (by kernel_rfl) (by kernel_rfl) (by kernel_rfl) [] (by kernel_rfl) (fun _ _ _ h => h) rfl rfl rfl rfl (by decide) rfl (by decide) (fun _ h => h.upto ⟨rfl, rfl, rfl, rfl, rfl, trivial⟩) ?_
        refine dg_off (i := 23) rfl (by kernel_rfl) (by kernel_rfl) (by kernel_rfl) [] (by kernel_rfl) (fun _ _ _ h => h) rfl rfl rfl rfl (by decide) rfl (by decide) (fun _ h => h.upto ⟨rfl, rfl, rfl, rfl, rfl, trivial⟩) ?_
        refine dg_off (i := 24) rfl (by kernel_rfl) (by kernel_rfl) (by kernel_rfl) [] (by kernel_rfl) (fun _ _ _ h => h) rfl rfl rfl rfl (by decide) rfl (by decide) (fun _ h => h.upto ⟨rfl, rfl, rfl, rfl, rfl, trivial⟩) ?_
        refine dg_q (i := 25) rfl (by kernel_rfl) (by kernel_rfl) (by kernel_rfl) [] (by kernel_rfl) (fun _ _ _ h => h) rfl rfl (by decide) (fun _ h => h.upto ⟨rfl, rfl, rfl, rfl, rfl, trivial⟩) (qt_pickF rfl rfl rfl) ?_
        refine dg_done (by kernel_rfl) ?_
        refine norm_then ?_
        exact at_meet hC_cut_3 ⟨vb (by simp [strictM, *] <;> omega), rfl, trivial⟩ (fun _ h => h.upto ⟨rfl, rfl, rfl, rfl, rfl, trivial⟩)
    · refine at_envE (by simp only [List.nil_append, List.cons_append]; rfl) ?_
      refine at_cond rfl (fun c2 => ?_) (fun c2 => ?_)
      · try simp only [decide_eq_true_eq, decide_eq_false_iff_not, beq_iff_eq, beq_eq_false_iff_ne, Bool.not_eq_true', Bool.not_eq_false', Bool.not_true, Bool.not_false, Int.not_lt, Int.not_le, ne_eq, Nat.not_lt, Nat.not_le] at c2
        refine at_seq ?_
        refine at_region ?_
        refine at_q rfl rfl (by decide) (qt_assign rfl rfl) ?_
        refine at_end ?_
        refine at_retc ?_
        refine then_ret ?_
        refine pass_ret ?_
        refine then_ret ?_
        refine at_ret1 rfl (.tmp rfl) ?_
        intro w' hs
        exact ⟨retI (by rw [hl.1 (by omega), if_pos (by assumption)]), hs.fin⟩
      · try simp only [decide_eq_true_eq, decide_eq_false_iff_not, beq_iff_eq, beq_eq_false_iff_ne, Bool.not_eq_true', Bool.not_eq_false', Bool.not_true, Bool.not_false, Int.not_lt, Int.not_le, ne_eq, Nat.not_lt, Nat.not_le] at c2
        refine at_skip ?_
        refine norm_then ?_
        refine at_seq ?_
        refine at_region ?_
        refine at_q rfl rfl (by decide) (qt_assign rfl rfl) ?_
        refine at_end ?_
        refine at_retc ?_
        refine pass_ret ?_
        refine then_ret ?_
        refine at_ret1 rfl (.tmp rfl) ?_
        intro w' hs
        exact ⟨retI (by rw [hl.1 (by omega), if_neg (by simp [*])]), hs.fin⟩
  · try simp only [decide_eq_true_eq, decide_eq_false_iff_not, beq_iff_eq, beq_eq_false_iff_ne, Bool.not_eq_true', Bool.not_eq_false', Bool.not_true, Bool.not_false, Int.not_lt, Int.not_le, ne_eq, Nat.not_lt, Nat.not_le] at c1
    refine at_seq ?_
    refine at_region ?_
    refine at_q rfl rfl (by decide) (qt_eql rfl rfl rfl) ?_
    refine at_q rfl rfl (by decide) (qt_assign rfl rfl) ?_
    refine at_end ?_
    refine at_cond rfl (fun c3 => ?_) (fun c3 => ?_)
    · try simp only [decide_eq_true_eq, decide_eq_false_iff_not, beq_iff_eq, beq_eq_false_iff_ne, Bool.not_eq_true', Bool.not_eq_false', Bool.not_true, Bool.not_false, Int.not_lt, Int.not_le, ne_eq, Nat.not_lt, Nat.not_le] at c3
      refine at_seq ?_
      refine at_region ?_
      refine at_q rfl rfl (by decide) (qt_assign rfl rfl) ?_
      refine at_end ?_
      refine at_retc ?_
      refine pass_ret ?_
      refine then_ret ?_
      refine at_ret1 rfl (.tmp rfl) ?_
      intro w' hs
      exact ⟨retI (by rw [hl.2.1 (by omega)]), hs.fin⟩
    · try simp only [decide_eq_true_eq, decide_eq_false_iff_not, beq_iff_eq, beq_eq_false_iff_ne, Bool.not_eq_true', Bool.not_eq_false', Bool.not_true, Bool.not_false, Int.not_lt, Int.not_le, ne_eq, Nat.not_lt, Nat.not_le] at c3
      refine at_skip ?_
      refine norm_block ?_
      refine norm_then ?_
      refine at_seq ?_
      refine at_region ?_
      refine at_q rfl rfl (by decide) (qt_assign rfl rfl) ?_
      refine at_end ?_
      refine at_retc ?_
      refine at_ret1 rfl (.tmp rfl) ?_
      intro w' hs
      exact ⟨retI (by rw [hl.2.2 (by omega) (by omega)]), hs.fin⟩

section
variable {w : World} {Rs : List Res}
/-- The four cells of an edge that came in. -/
theorem rdL4 {b o : Nat} {l : Leg} (h : ∀ q v, (legCells l)[q]? = some v → w.cell? ⟨b, o + q, none⟩ = some v) (hb : b < w.heap.size) :
    (∀ w', St ⟨w, []⟩ Rs w' → w'.cell? ⟨b, o + 0 + 0, none⟩ = some (.int .i64 l.ax)) ∧ (∀ w', St ⟨w, []⟩ Rs w' → w'.cell? ⟨b, o + 0 + 1, none⟩ = some (.int .i64 l.ay)) ∧
    (∀ w', St ⟨w, []⟩ Rs w' → w'.cell? ⟨b, o + 2 + 0, none⟩ = some (.int .i64 l.bx)) ∧ (∀ w', St ⟨w, []⟩ Rs w' → w'.cell? ⟨b, o + 2 + 1, none⟩ = some (.int .i64 l.b_y)) :=
  ⟨rdOld (h 0 _ rfl) hb, rdOld (h 1 _ rfl) hb, rdOld (h 2 _ rfl) hb, rdOld (h 3 _ rfl) hb⟩
end
theorem l13Apart_any (b1_ o1 b2_ o2 : Nat) (e f : Leg) (w : World) (h1 : ∀ q v, (legCells e)[q]? = some v → w.cell? ⟨b1_, o1 + q, none⟩ = some v) (h2 : ∀ q v, (legCells f)[q]? = some v → w.cell? ⟨b2_, o2 + q, none⟩ = some v) (hb1 : b1_ < w.heap.size) (hb2 : b2_ < w.heap.size) :
    Calls Try.prog 61 #[.pointer (some ⟨b1_, o1, none⟩), .pointer (some ⟨b2_, o2, none⟩)] w fun r w' => r = .returned (.bool (apartM (lA e) (lB e) (lA f) (lB f))) ∧ Over w w' := by
  refine walk_from (m := 103) (Try.func61) rfl rfl (Nat.le_of_ble_eq_true rfl) ?_
  refine at_seq ?_
  refine at_region ?_
  refine at_q rfl rfl (by decide) (qt_assign rfl rfl) ?_
  refine at_end ?_
  refine at_seq ?_
  refine lx_start mixed (by kernel_rfl) (fun _ _ d _ _ h => by cases d <;> exact h) ?_
  refine lx_q rfl rfl (by decide) (qt_move rfl rfl) ?_
  refine lx_q rfl rfl (by decide) (qt_nilCheck rfl rfl) ?_
  refine lx_q rfl rfl (by decide) (qt_fieldAddr rfl rfl tyf_spec_l13Edge_0) ?_
  refine lx_q rfl rfl (by decide) (qt_fieldAddr rfl rfl tyf_impl_Pt_0) ?_
  refine lx_q rfl rfl (by decide) (qt_load1 rfl rfl ty1_int64 (by first | exact (rdL4 h1 hb1).1 | exact (rdL4 h1 hb1).2.1 | exact (rdL4 h1 hb1).2.2.1 | exact (rdL4 h1 hb1).2.2.2 | exact (rdL4 h2 hb2).1 | exact (rdL4 h2 hb2).2.1 | exact (rdL4 h2 hb2).2.2.1 | exact (rdL4 h2 hb2).2.2.2)) ?_
  refine lx_q rfl rfl (by decide) (qt_move rfl rfl) ?_
  refine lx_q rfl rfl (by decide) (qt_nilCheck rfl rfl) ?_
  refine lx_q rfl rfl (by decide) (qt_fieldAddr rfl rfl tyf_spec_l13Edge_1) ?_
  refine lx_q rfl rfl (by decide) (qt_fieldAddr rfl rfl tyf_impl_Pt_0) ?_
  refine lx_q rfl rfl (by decide) (qt_load1 rfl rfl ty1_int64 (by first | exact (rdL4 h1 hb1).1 | exact (rdL4 h1 hb1).2.1 | exact (rdL4 h1 hb1).2.2.1 | exact (rdL4 h1 hb1).2.2.2 | exact (rdL4 h2 hb2).1 | exact (rdL4 h2 hb2).2.1 | exact (rdL4 h2 hb2).2.2.1 | exact (rdL4 h2 hb2).2.2.2)) ?_
  refine lx_q rfl rfl (by decide) (qt_call ok_spec_l00Max rfl rfl (fun w h => Calls.still (l00Max_any _ _ w))) ?_
  refine lx_q rfl rfl (by decide) (qt_move rfl rfl) ?_
  refine lx_q rfl rfl (by decide) (qt_nilCheck rfl rfl) ?_
  refine lx_q rfl rfl (by decide) (qt_fieldAddr rfl rfl tyf_spec_l13Edge_0) ?_
  refine lx_q rfl rfl (by decide) (qt_fieldAddr rfl rfl tyf_impl_Pt_0) ?_
  refine lx_q rfl rfl (by decide) (qt_load1 rfl rfl ty1_int64 (by first | exact (rdL4 h1 hb1).1 | exact (rdL4 h1 hb1).2.1 | exact (rdL4 h1 hb1).2.2.1 | exact (rdL4 h1 hb1).2.2.2 | exact (rdL4 h2 hb2).1 | exact (rdL4 h2 hb2).2.1 | exact (rdL4 h2 hb2).2.2.1 | exact (rdL4 h2 hb2).2.2.2)) ?_
  refine lx_q rfl rfl (by decide) (qt_move rfl rfl) ?_
  refine lx_q rfl rfl (by decide) (qt_nilCheck rfl rfl) ?_
  refine lx_q rfl rfl (by decide) (qt_fieldAddr rfl rfl tyf_spec_l13Edge_1) ?_
  refine lx_q rfl rfl (by decide) (qt_fieldAddr rfl rfl tyf_impl_Pt_0) ?_
  refine lx_q rfl rfl (by decide) (qt_load1 rfl rfl ty1_int64 (by first | exact (rdL4 h1 hb1).1 | exact (rdL4 h1 hb1).2.1 | exact (rdL4 h1 hb1).2.2.1 | exact (rdL4 h1 hb1).2.2.2 | exact (rdL4 h2 hb2).1 | exact (rdL4 h2 hb2).2.1 | exact (rdL4 h2 hb2).2.2.1 | exact (rdL4 h2 hb2).2.2.2)) ?_
  refine lx_q rfl rfl (by decide) (qt_call ok_spec_l00Min rfl rfl (fun w h => Calls.still (l00Min_any _ _ w))) ?_
  refine lx_q rfl rfl (by decide) (qt_lss rfl rfl rfl) ?_
  refine lx_q rfl rfl (by decide) (qt_move rfl rfl) ?_
  refine lx_bsplit 28 rfl (fun g1 => ?_) (fun g1 => ?_)
  · try simp only [decide_eq_true_eq, decide_eq_false_iff_not, beq_iff_eq, beq_eq_false_iff_ne, Bool.not_eq_true', Bool.not_eq_false', Bool.not_true, Bool.not_false, Int.not_lt, Int.not_le, ne_eq, Nat.not_lt, Nat.not_le] at g1
    refine lx_off rfl rfl rfl rfl (by decide) rfl (by decide) ?_
    refine lx_off rfl rfl rfl rfl (by decide) rfl (by decide) ?_
    refine lx_off rfl rfl rfl rfl (by decide) rfl (by decide) ?_
    refine lx_off rfl rfl rfl rfl (by decide) rfl (by decide) ?_
    refine lx_off rfl rfl rfl rfl (by decide) rfl (by decide) ?_
    refine lx_off rfl rfl rfl rfl (by decide) rfl (by decide) ?_
    refine lx_off rfl rfl rfl rfl (by decide) rfl (by decide) ?_
    refine lx_off rfl rfl rfl rfl (by decide) rfl (by decide) ?_
    refine lx_off rfl rfl rfl rfl (by decide) rfl (by decide) ?_
    refine lx_off rfl rfl rfl rfl (by decide) rfl (by decide) ?_
    refine lx_off rfl rfl rfl rfl (by decide) rfl (by decide) ?_
    refine lx_off rfl rfl rfl rfl (by decide) rfl (by decide) ?_
    refine lx_off rfl rfl rfl rfl (by decide) rfl (by decide) ?_
    refine lx_off rfl rfl rfl rfl (by decide) rfl (by decide) ?_
    refine lx_off rfl rfl rfl rfl (by decide) rfl (by decide) ?_
    refine lx_off rfl rfl rfl rfl (by decide) rfl (by decide) ?_
    refine lx_off rfl rfl rfl rfl (by decide) rfl (by decide) ?_
    refine lx_off rfl rfl rfl rfl (by decide) rfl (by decide) ?_
    refine lx_off rfl rfl rfl rfl (by decide) rfl (by decide) ?_
    refine lx_off rfl rfl rfl rfl (by decide) rfl (by decide) ?_
    refine lx_off rfl rfl rfl rfl (by decide) rfl (by decide) ?_
    refine lx_off rfl rfl rfl rfl (by decide) rfl (by decide) ?_
    refine lx_off rfl rfl rfl rfl (by decide) rfl (by decide) ?_
    refine lx_q rfl rfl (by decide) (qt_pickT rfl rfl rfl) ?_
    refine lx_q rfl rfl (by decide) (qt_move rfl rfl) ?_
    refine lx_off rfl rfl rfl rfl (by decide) rfl (by decide) ?_
    refine lx_off rfl rfl rfl rfl (by decide) rfl (by decide) ?_
    refine lx_off rfl rfl rfl rfl (by decide) rfl (by decide) ?_
    refine lx_off rfl rfl rfl rfl (by decide) rfl (by decide) ?_
    refine lx_off rfl rfl rfl rfl (by decide) rfl (by decide) ?_
    refine lx_off rfl rfl rfl rfl (by decide) rfl (by decide) ?_
    refine lx_off rfl rfl rfl rfl (by decide) rfl (by decide) ?_
    refine lx_off rfl rfl rfl rfl (by decide) rfl (by decide) ?_
    refine lx_off rfl rfl rfl rfl (by decide) rfl (by decide) ?_
    refine lx_off rfl rfl rfl rfl (by decide) rfl (by decide) ?_
    refine lx_off rfl rfl rfl rfl (by decide) rfl (by decide) ?_
    refine lx_off rfl rfl rfl rfl (by decide) rfl (by decide) ?_
    refine lx_off rfl rfl rfl rfl (by decide) rfl (by decide) ?_
    refine lx_off rfl rfl rfl rfl (by decide) rfl (by decide) ?_
    refine lx_off rfl rfl rfl rfl (by decide) rfl (by decide) ?_
    refine lx_off rfl rfl rfl rfl (by decide) rfl (by decide) ?_
    refine lx_off rfl rfl rfl rfl (by decide) rfl (by decide) ?_
    refine lx_off rfl rfl rfl rfl (by decide) rfl (by decide) ?_
    refine lx_off rfl rfl rfl rfl (by decide) rfl (by decide) ?_
    refine lx_off rfl rfl rfl rfl (by decide) rfl (by decide) ?_
    refine lx_off rfl rfl rfl rfl (by decide) rfl (by decide) ?_
    refine lx_off rfl rfl rfl rfl (by decide) rfl (by decide) ?_
    refine lx_off rfl rfl rfl rfl (by decide) rfl (by decide) ?_
    refine lx_q rfl rfl (by decide) (qt_pickT rfl rfl rfl) ?_
    refine lx_q rfl rfl (by decide) (qt_move rfl rfl) ?_
    refine lx_off rfl rfl rfl rfl (by decide) rfl (by decide) ?_
    refine lx_off rfl rfl rfl rfl (by decide) rfl (by decide) ?_
    refine lx_off rfl rfl rfl rfl (by decide) rfl (by decide) ?_
    refine lx_off rfl rfl rfl rfl (by decide) rfl (by decide) ?_
    refine lx_off rfl rfl rfl rfl (by decide) rfl (by decide) ?_
    refine lx_off rfl rfl rfl rfl (by decide) rfl (by decide) ?_
    refine lx_off rfl rfl rfl rfl (by decide) rfl (by decide) ?_
    refine lx_off rfl rfl rfl rfl (by decide) rfl (by decide) ?_
    refine lx_off rfl rfl rfl rfl (by decide) rfl (by decide) ?_
    refine lx_off rfl rfl rfl rfl (by decide) rfl (by decide) ?_
    refine lx_off rfl rfl rfl rfl (by decide) rfl (by decide) ?_
    refine lx_off rfl rfl rfl rfl (by decide) rfl (by decide) ?_
    refine lx_off rfl rfl rfl rfl (by decide) rfl (by decide) ?_
    refine lx_off rfl rfl rfl rfl (by decide) rfl (by decide) ?_
    refine lx_off rfl rfl rfl rfl (by decide) rfl (by decide) ?_
    refine lx_off rfl rfl rfl rfl (by decide) rfl (by decide) ?_
    refine lx_off rfl rfl rfl rfl (by decide) rfl (by decide) ?_
    refine lx_off rfl rfl rfl rfl (by decide) rfl (by decide) ?_
    refine lx_off rfl rfl rfl rfl (by decide) rfl (by decide) ?_
    refine lx_off rfl rfl rfl rfl (by decide) rfl (by decide) ?_
    refine lx_off rfl rfl rfl rfl (by decide) rfl (by decide) ?_
    refine lx_off rfl rfl rfl rfl (by decide) rfl (by decide) ?_
    refine lx_off rfl rfl rfl rfl (by decide) rfl (by decide) ?_
    refine lx_q rfl rfl (by decide) (qt_pickT rfl rfl rfl) ?_
    refine lx_q rfl rfl (by decide) (qt_assign rfl rfl) ?_
    refine lx_end ?_
    refine norm_then ?_
    refine at_retc ?_
    refine at_ret1 rfl (.tmp rfl) ?_
    intro w' hs
    exact ⟨retB (by rw [Bool.eq_iff_iff]; simp only [apartM, Bool.or_eq_true, decide_eq_true_eq, true_iff]; simp only [lA, lB]; omega), hs.fin⟩
  · try simp only [decide_eq_true_eq, decide_eq_false_iff_not, beq_iff_eq, beq_eq_false_iff_ne, Bool.not_eq_true', Bool.not_eq_false', Bool.not_true, Bool.not_false, Int.not_lt, Int.not_le, ne_eq, Nat.not_lt, Nat.not_le] at g1
    refine lx_qg rfl rfl rfl rfl rfl (by decide) (qt_move rfl rfl) ?_
    refine lx_qg rfl rfl rfl rfl rfl (by decide) (qt_nilCheck rfl rfl) ?_
    refine lx_qg rfl rfl rfl rfl rfl (by decide) (qt_fieldAddr rfl rfl tyf_spec_l13Edge_0) ?_
    refine lx_qg rfl rfl rfl rfl rfl (by decide) (qt_fieldAddr rfl rfl tyf_impl_Pt_0) ?_
    refine lx_qg rfl rfl rfl rfl rfl (by decide) (qt_load1 rfl rfl ty1_int64 (by first | exact (rdL4 h1 hb1).1 | exact (rdL4 h1 hb1).2.1 | exact (rdL4 h1 hb1).2.2.1 | exact (rdL4 h1 hb1).2.2.2 | exact (rdL4 h2 hb2).1 | exact (rdL4 h2 hb2).2.1 | exact (rdL4 h2 hb2).2.2.1 | exact (rdL4 h2 hb2).2.2.2)) ?_
    refine lx_qg rfl rfl rfl rfl rfl (by decide) (qt_move rfl rfl) ?_
    refine lx_qg rfl rfl rfl rfl rfl (by decide) (qt_nilCheck rfl rfl) ?_
    refine lx_qg rfl rfl rfl rfl rfl (by decide) (qt_fieldAddr rfl rfl tyf_spec_l13Edge_1) ?_
    refine lx_qg rfl rfl rfl rfl rfl (by decide) (qt_fieldAddr rfl rfl tyf_impl_Pt_0) ?_
    refine lx_qg rfl rfl rfl rfl rfl (by decide) (qt_load1 rfl rfl ty1_int64 (by first | exact (rdL4 h1 hb1).1 | exact (rdL4 h1 hb1).2.1 | exact (rdL4 h1 hb1).2.2.1 | exact (rdL4 h1 hb1).2.2.2 | exact (rdL4 h2 hb2).1 | exact (rdL4 h2 hb2).2.1 | exact (rdL4 h2 hb2).2.2.1 | exact (rdL4 h2 hb2).2.2.2)) ?_
    refine lx_qg rfl rfl rfl rfl rfl (by decide) (qt_call ok_spec_l00Max rfl rfl (fun w h => Calls.still (l00Max_any _ _ w))) ?_
    refine lx_qg rfl rfl rfl rfl rfl (by decide) (qt_move rfl rfl) ?_
    refine lx_qg rfl rfl rfl rfl rfl (by decide) (qt_nilCheck rfl rfl) ?_
    refine lx_qg rfl rfl rfl rfl rfl (by decide) (qt_fieldAddr rfl rfl tyf_spec_l13Edge_0) ?_
    refine lx_qg rfl rfl rfl rfl rfl (by decide) (qt_fieldAddr rfl rfl tyf_impl_Pt_0) ?_
    refine lx_qg rfl rfl rfl rfl rfl (by decide) (qt_load1 rfl rfl ty1_int64 (by first | exact (rdL4 h1 hb1).1 | exact (rdL4 h1 hb1).2.1 | exact (rdL4 h1 hb1).2.2.1 | exact (rdL4 h1 hb1).2.2.2 | exact (rdL4 h2 hb2).1 | exact (rdL4 h2 hb2).2.1 | exact (rdL4 h2 hb2).2.2.1 | exact (rdL4 h2 hb2).2.2.2)) ?_
    refine lx_qg rfl rfl rfl rfl rfl (by decide) (qt_move rfl rfl) ?_
    refine lx_qg rfl rfl rfl rfl rfl (by decide) (qt_nilCheck rfl rfl) ?_
    refine lx_qg rfl rfl rfl rfl rfl (by decide) (qt_fieldAddr rfl rfl tyf_spec_l13Edge_1) ?_
    refine lx_qg rfl rfl rfl rfl rfl (by decide) (qt_fieldAddr rfl rfl tyf_impl_Pt_0) ?_
    refine lx_qg rfl rfl rfl rfl rfl (by decide) (qt_load1 rfl rfl ty1_int64 (by first | exact (rdL4 h1 hb1).1 | exact (rdL4 h1 hb1).2.1 | exact (rdL4 h1 hb1).2.2.1 | exact (rdL4 h1 hb1).2.2.2 | exact (rdL4 h2 hb2).1 | exact (rdL4 h2 hb2).2.1 | exact (rdL4 h2 hb2).2.2.1 | exact (rdL4 h2 hb2).2.2.2)) ?_
    refine lx_qg rfl rfl rfl rfl rfl (by decide) (qt_call ok_spec_l00Min rfl rfl (fun w h => Calls.still (l00Min_any _ _ w))) ?_
    refine lx_qg rfl rfl rfl rfl rfl (by decide) (qt_lss rfl rfl rfl) ?_
    refine lx_q rfl rfl (by decide) (qt_pickF rfl rfl rfl) ?_
    refine lx_q rfl rfl (by decide) (qt_move rfl rfl) ?_
    refine lx_bsplit 53 rfl (fun g2 => ?_) (fun g2 => ?_)
    · try simp only [decide_eq_true_eq, decide_eq_false_iff_not, beq_iff_eq, beq_eq_false_iff_ne, Bool.not_eq_true', Bool.not_eq_false', Bool.not_true, Bool.not_false, Int.not_lt, Int.not_le, ne_eq, Nat.not_lt, Nat.not_le] at g2
      refine lx_off rfl rfl rfl rfl (by decide) rfl (by decide) ?_
      refine lx_off rfl rfl rfl rfl (by decide) rfl (by decide) ?_
      refine lx_off rfl rfl rfl rfl (by decide) rfl (by decide) ?_
      refine lx_off rfl rfl rfl rfl (by decide) rfl (by decide) ?_
      refine lx_off rfl rfl rfl rfl (by decide) rfl (by decide) ?_
      refine lx_off rfl rfl rfl rfl (by decide) rfl (by decide) ?_
      refine lx_off rfl rfl rfl rfl (by decide) rfl (by decide) ?_
      refine lx_off rfl rfl rfl rfl (by decide) rfl (by decide) ?_
      refine lx_off rfl rfl rfl rfl (by decide) rfl (by decide) ?_
      refine lx_off rfl rfl rfl rfl (by decide) rfl (by decide) ?_
      refine lx_off rfl rfl rfl rfl (by decide) rfl (by decide) ?_
      refine lx_off rfl rfl rfl rfl (by decide) rfl (by decide) ?_
      refine lx_off rfl rfl rfl rfl (by decide) rfl (by decide) ?_
      refine lx_off rfl rfl rfl rfl (by decide) rfl (by decide) ?_
      refine lx_off rfl rfl rfl rfl (by decide) rfl (by decide) ?_
      refine lx_off rfl rfl rfl rfl (by decide) rfl (by decide) ?_
      refine lx_off rfl rfl rfl rfl (by decide) rfl (by decide) ?_
      refine lx_off rfl rfl rfl rfl (by decide) rfl (by decide) ?_
      refine lx_off rfl rfl rfl rfl (by decide) rfl (by decide) ?_
      refine lx_off rfl rfl rfl rfl (by decide) rfl (by decide) ?_
      refine lx_off rfl rfl rfl rfl (by decide) rfl (by decide) ?_
      refine lx_off rfl rfl rfl rfl (by decide) rfl (by decide) ?_
      refine lx_off rfl rfl rfl rfl (by decide) rfl (by decide) ?_
      refine lx_q rfl rfl (by decide) (qt_pickT rfl rfl rfl) ?_
      refine lx_q rfl rfl (by decide) (qt_move rfl rfl) ?_
      refine lx_off rfl rfl rfl rfl (by decide) rfl (by decide) ?_
      refine lx_off rfl rfl rfl rfl (by decide) rfl (by decide) ?_
      refine lx_off rfl rfl rfl rfl (by decide) rfl (by decide) ?_
      refine lx_off rfl rfl rfl rfl (by decide) rfl (by decide) ?_
      refine lx_off rfl rfl rfl rfl (by decide) rfl (by decide) ?_
      refine lx_off rfl rfl rfl rfl (by decide) rfl (by decide) ?_
      refine lx_off rfl rfl rfl rfl (by decide) rfl (by decide) ?_
      refine lx_off rfl rfl rfl rfl (by decide) rfl (by decide) ?_
      refine lx_off rfl rfl rfl rfl (by decide) rfl (by decide) ?_
      refine lx_off rfl rfl rfl rfl (by decide) rfl (by decide) ?_
      refine lx_off rfl rfl rfl rfl (by decide) rfl (by decide) ?_
      refine lx_off rfl rfl rfl rfl (by decide) rfl (by decide) ?_
      refine lx_off rfl rfl rfl rfl (by decide) rfl (by decide) ?_
      refine lx_off rfl rfl rfl rfl (by decide) rfl (by decide) ?_
      refine lx_off rfl rfl rfl rfl (by decide) rfl (by decide) ?_
      refine lx_off rfl rfl rfl rfl (by decide) rfl (by decide) ?_
      refine lx_off rfl rfl rfl rfl (by decide) rfl (by decide) ?_
      refine lx_off rfl rfl rfl rfl (by decide) rfl (by decide) ?_
      refine lx_off rfl rfl rfl rfl (by decide) rfl (by decide) ?_
      refine lx_off rfl rfl rfl rfl (by decide) rfl (by decide) ?_
      refine lx_off rfl rfl rfl rfl (by decide) rfl (by decide) ?_
      refine lx_off rfl rfl rfl rfl (by decide) rfl (by decide) ?_
      refine lx_off rfl rfl rfl rfl (by decide) rfl (by decide) ?_
      refine lx_q rfl rfl (by decide) (qt_pickT rfl rfl rfl) ?_
      refine lx_q rfl rfl (by decide) (qt_assign rfl rfl) ?_
      refine lx_end ?_
      refine norm_then ?_
      refine at_retc ?_
      refine at_ret1 rfl (.tmp rfl) ?_
      intro w' hs
      exact ⟨retB (by rw [Bool.eq_iff_iff]; simp only [apartM, Bool.or_eq_true, decide_eq_true_eq, true_iff]; simp only [lA, lB]; omega), hs.fin⟩
    · try simp only [decide_eq_true_eq, decide_eq_false_iff_not, beq_iff_eq, beq_eq_false_iff_ne, Bool.not_eq_true', Bool.not_eq_false', Bool.not_true, Bool.not_false, Int.not_lt, Int.not_le, ne_eq, Nat.not_lt, Nat.not_le] at g2
      refine lx_qg rfl rfl rfl rfl rfl (by decide) (qt_move rfl rfl) ?_
      refine lx_qg rfl rfl rfl rfl rfl (by decide) (qt_nilCheck rfl rfl) ?_
      refine lx_qg rfl rfl rfl rfl rfl (by decide) (qt_fieldAddr rfl rfl tyf_spec_l13Edge_0) ?_
      refine lx_qg rfl rfl rfl rfl rfl (by decide) (qt_fieldAddr rfl rfl tyf_impl_Pt_1) ?_
      refine lx_qg rfl rfl rfl rfl rfl (by decide) (qt_load1 rfl rfl ty1_int64 (by first | exact (rdL4 h1 hb1).1 | exact (rdL4 h1 hb1).2.1 | exact (rdL4 h1 hb1).2.2.1 | exact (rdL4 h1 hb1).2.2.2 | exact (rdL4 h2 hb2).1 | exact (rdL4 h2 hb2).2.1 | exact (rdL4 h2 hb2).2.2.1 | exact (rdL4 h2 hb2).2.2.2)) ?_
      refine lx_qg rfl rfl rfl rfl rfl (by decide) (qt_move rfl rfl) ?_
      refine lx_qg rfl rfl rfl rfl rfl (by decide) (qt_nilCheck rfl rfl) ?_
      refine lx_qg rfl rfl rfl rfl rfl (by decide) (qt_fieldAddr rfl rfl tyf_spec_l13Edge_1) ?_
      refine lx_qg rfl rfl rfl rfl rfl (by decide) (qt_fieldAddr rfl rfl tyf_impl_Pt_1) ?_
      refine lx_qg rfl rfl rfl rfl rfl (by decide) (qt_load1 rfl rfl ty1_int64 (by first | exact (rdL4 h1 hb1).1 | exact (rdL4 h1 hb1).2.1 | exact (rdL4 h1 hb1).2.2.1 | exact (rdL4 h1 hb1).2.2.2 | exact (rdL4 h2 hb2).1 | exact (rdL4 h2 hb2).2.1 | exact (rdL4 h2 hb2).2.2.1 | exact (rdL4 h2 hb2).2.2.2)) ?_
      refine lx_qg rfl rfl rfl rfl rfl (by decide) (qt_call ok_spec_l00Max rfl rfl (fun w h => Calls.still (l00Max_any _ _ w))) ?_
      refine lx_qg rfl rfl rfl rfl rfl (by decide) (qt_move rfl rfl) ?_
      refine lx_qg rfl rfl rfl rfl rfl (by decide) (qt_nilCheck rfl rfl) ?_
      refine lx_qg rfl rfl rfl rfl rfl (by decide) (qt_fieldAddr rfl rfl tyf_spec_l13Edge_0) ?_
      refine lx_qg rfl rfl rfl rfl rfl (by decide) (qt_fieldAddr rfl rfl tyf_impl_Pt_1) ?_
      refine lx_qg rfl rfl rfl rfl rfl (by decide) (qt_load1 rfl rfl ty1_int64 (by first | exact (rdL4 h1 hb1).1 | exact (rdL4 h1 hb1).2.1 | exact (rdL4 h1 hb1).2.2.1 | exact (rdL4 h1 hb1).2.2.2 | exact (rdL4 h2 hb2).1 | exact (rdL4 h2 hb2).2.1 | exact (rdL4 h2 hb2).2.2.1 | exact (rdL4 h2 hb2).2.2.2)) ?_
      refine lx_qg rfl rfl rfl rfl rfl (by decide) (qt_move rfl rfl) ?_
      refine lx_qg rfl rfl rfl rfl rfl (by decide) (qt_nilCheck rfl rfl) ?_
      refine lx_qg rfl rfl rfl rfl rfl (by decide) (qt_fieldAddr rfl rfl tyf_spec_l13Edge_1) ?_
      refine lx_qg rfl rfl rfl rfl rfl (by decide) (qt_fieldAddr rfl rfl tyf_impl_Pt_1) ?_
      refine lx_qg rfl rfl rfl rfl rfl (by decide) (qt_load1 rfl rfl ty1_int64 (by first | exact (rdL4 h1 hb1).1 | exact (rdL4 h1 hb1).2.1 | exact (rdL4 h1 hb1).2.2.1 | exact (rdL4 h1 hb1).2.2.2 | exact (rdL4 h2 hb2).1 | exact (rdL4 h2 hb2).2.1 | exact (rdL4 h2 hb2).2.2.1 | exact (rdL4 h2 hb2).2.2.2)) ?_
      refine lx_qg rfl rfl rfl rfl rfl (by decide) (qt_call ok_spec_l00Min rfl rfl (fun w h => Calls.still (l00Min_any _ _ w))) ?_
      refine lx_qg rfl rfl rfl rfl rfl (by decide) (qt_lss rfl rfl rfl) ?_
      refine lx_q rfl rfl (by decide) (qt_pickF rfl rfl rfl) ?_
      refine lx_q rfl rfl (by decide) (qt_move rfl rfl) ?_
      refine lx_bsplit 78 rfl (fun g3 => ?_) (fun g3 => ?_)
      · try simp only [decide_eq_true_eq, decide_eq_false_iff_not, beq_iff_eq, beq_eq_false_iff_ne, Bool.not_eq_true', Bool.not_eq_false', Bool.not_true, Bool.not_false, Int.not_lt, Int.not_le, ne_eq, Nat.not_lt, Nat.not_le] at g3
        refine lx_off rfl rfl rfl rfl (by decide) rfl (by decide) ?_
        refine lx_off rfl rfl rfl rfl (by decide) rfl (by decide) ?_
        refine lx_off rfl rfl rfl rfl (by decide) rfl (by decide) ?_
        refine lx_off rfl rfl rfl rfl (by decide) rfl (by decide) ?_
        refine lx_off rfl rfl rfl rfl (by decide) rfl (by decide) ?_
        refine lx_off rfl rfl rfl rfl (by decide) rfl (by decide) ?_
        refine lx_off rfl rfl rfl rfl (by decide) rfl (by decide) ?_
        refine lx_off rfl rfl rfl rfl (by decide) rfl (by decide) ?_
        refine lx_off rfl rfl rfl rfl (by decide) rfl (by decide) ?_
        refine lx_off rfl rfl rfl rfl (by decide) rfl (by decide) ?_
        refine lx_off rfl rfl rfl rfl (by decide) rfl (by decide) ?_
        refine lx_off rfl rfl rfl rfl (by decide) rfl (by decide) ?_
        refine lx_off rfl rfl rfl rfl (by decide) rfl (by decide) ?_
        refine lx_off rfl rfl rfl rfl (by decide) rfl (by decide) ?_
        refine lx_off rfl rfl rfl rfl (by decide) rfl (by decide) ?_
        refine lx_off rfl rfl rfl rfl (by decide) rfl (by decide) ?_
        refine lx_off rfl rfl rfl rfl (by decide) rfl (by decide) ?_
        refine lx_off rfl rfl rfl rfl (by decide) rfl (by decide) ?_
        refine lx_off rfl rfl rfl rfl (by decide) rfl (by decide) ?_
        refine lx_off rfl rfl rfl rfl (by decide) rfl (by decide) ?_
        refine lx_off rfl rfl rfl rfl (by decide) rfl (by decide) ?_
        refine lx_off rfl rfl rfl rfl (by decide) rfl (by decide) ?_
        refine lx_off rfl rfl rfl rfl (by decide) rfl (by decide) ?_
        refine lx_q rfl rfl (by decide) (qt_pickT rfl rfl rfl) ?_
        refine lx_q rfl rfl (by decide) (qt_assign rfl rfl) ?_
        refine lx_end ?_
        refine norm_then ?_
        refine at_retc ?_
        refine at_ret1 rfl (.tmp rfl) ?_
        intro w' hs
        exact ⟨retB (by rw [Bool.eq_iff_iff]; simp only [apartM, Bool.or_eq_true, decide_eq_true_eq, true_iff]; simp only [lA, lB]; omega), hs.fin⟩
      · try simp only [decide_eq_true_eq, decide_eq_false_iff_not, beq_iff_eq, beq_eq_false_iff_ne, Bool.not_eq_true', Bool.not_eq_false', Bool.not_true, Bool.not_false, Int.not_lt, Int.not_le, ne_eq, Nat.not_lt, Nat.not_le] at g3
        refine lx_qg rfl rfl rfl rfl rfl (by decide) (qt_move rfl rfl) ?_
        refine lx_qg rfl rfl rfl rfl rfl (by decide) (qt_nilCheck rfl rfl) ?_
        refine lx_qg rfl rfl rfl rfl rfl (by decide) (qt_fieldAddr rfl rfl tyf_spec_l13Edge_0) ?_
        refine lx_qg rfl rfl rfl rfl rfl (by decide) (qt_fieldAddr rfl rfl tyf_impl_Pt_1) ?_
        refine lx_qg rfl rfl rfl rfl rfl (by decide) (qt_load1 rfl rfl ty1_int64 (by first | exact (rdL4 h1 hb1).1 | exact (rdL4 h1 hb1).2.1 | exact (rdL4 h1 hb1).2.2.1 | exact (rdL4 h1 hb1).2.2.2 | exact (rdL4 h2 hb2).1 | exact (rdL4 h2 hb2).2.1 | exact (rdL4 h2 hb2).2.2.1 | exact (rdL4 h2 hb2).2.2.2)) ?_
        refine lx_qg rfl rfl rfl rfl rfl (by decide) (qt_move rfl rfl) ?_
        refine lx_qg rfl rfl rfl rfl rfl (by decide) (qt_nilCheck rfl rfl) ?_
        refine lx_qg rfl rfl rfl rfl rfl (by decide) (qt_fieldAddr rfl rfl tyf_spec_l13Edge_1) ?_
        refine lx_qg rfl rfl rfl rfl rfl (by decide) (qt_fieldAddr rfl rfl tyf_impl_Pt_1) ?_
        refine lx_qg rfl rfl rfl rfl rfl (by decide) (qt_load1 rfl rfl ty1_int64 (by first | exact (rdL4 h1 hb1).1 | exact (rdL4 h1 hb1).2.1 | exact (rdL4 h1 hb1).2.2.1 | exact (rdL4 h1 hb1).2.2.2 | exact (rdL4 h2 hb2).1 | exact (rdL4 h2 hb2).2.1 | exact (rdL4 h2 hb2).2.2.1 | exact (rdL4 h2 hb2).2.2.2)) ?_
        refine lx_qg rfl rfl rfl rfl rfl (by decide) (qt_call ok_spec_l00Max rfl rfl (fun w h => Calls.still (l00Max_any _ _ w))) ?_
        refine lx_qg rfl rfl rfl rfl rfl (by decide) (qt_move rfl rfl) ?_
        refine lx_qg rfl rfl rfl rfl rfl (by decide) (qt_nilCheck rfl rfl) ?_
        refine lx_qg rfl rfl rfl rfl rfl (by decide) (qt_fieldAddr rfl rfl tyf_spec_l13Edge_0) ?_
        refine lx_qg rfl rfl rfl rfl rfl (by decide) (qt_fieldAddr rfl rfl tyf_impl_Pt_1) ?_
        refine lx_qg rfl rfl rfl rfl rfl (by decide) (qt_load1 rfl rfl ty1_int64 (by first | exact (rdL4 h1 hb1).1 | exact (rdL4 h1 hb1).2.1 | exact (rdL4 h1 hb1).2.2.1 | exact (rdL4 h1 hb1).2.2.2 | exact (rdL4 h2 hb2).1 | exact (rdL4 h2 hb2).2.1 | exact (rdL4 h2 hb2).2.2.1 | exact (rdL4 h2 hb2).2.2.2)) ?_
        refine lx_qg rfl rfl rfl rfl rfl (by decide) (qt_move rfl rfl) ?_
        refine lx_qg rfl rfl rfl rfl rfl (by decide) (qt_nilCheck rfl rfl) ?_
        refine lx_qg rfl rfl rfl rfl rfl (by decide) (qt_fieldAddr rfl rfl tyf_spec_l13Edge_1) ?_
        refine lx_qg rfl rfl rfl rfl rfl (by decide) (qt_fieldAddr rfl rfl tyf_impl_Pt_1) ?_
        refine lx_qg rfl rfl rfl rfl rfl (by decide) (qt_load1 rfl rfl ty1_int64 (by first | exact (rdL4 h1 hb1).1 | exact (rdL4 h1 hb1).2.1 | exact (rdL4 h1 hb1).2.2.1 | exact (rdL4 h1 hb1).2.2.2 | exact (rdL4 h2 hb2).1 | exact (rdL4 h2 hb2).2.1 | exact (rdL4 h2 hb2).2.2.1 | exact (rdL4 h2 hb2).2.2.2)) ?_
        refine lx_qg rfl rfl rfl rfl rfl (by decide) (qt_call ok_spec_l00Min rfl rfl (fun w h => Calls.still (l00Min_any _ _ w))) ?_
        refine lx_qg rfl rfl rfl rfl rfl (by decide) (qt_lss rfl rfl rfl) ?_
        refine lx_q rfl rfl (by decide) (qt_pickF rfl rfl rfl) ?_
        refine lx_q rfl rfl (by decide) (qt_assign rfl rfl) ?_
        refine lx_end ?_
        refine norm_then ?_
        refine at_retc ?_
        refine at_ret1 rfl (.tmp rfl) ?_
        intro w' hs
        exact ⟨retB (by rw [Bool.eq_iff_iff]; simp only [apartM, Bool.or_eq_true, decide_eq_true_eq, true_iff]; simp only [lA, lB]; omega), hs.fin⟩
def psL (e f : Leg) : Bool := pairS (lA e) (lB e) (lA f) (lB f)
theorem psL_pairL {e f : Leg} (he : legOk e) (hf : legOk f) (ne : lA e ≠ lB e) (nf : lA f ≠ lB f) : psL e f = pairL e f := (pair_same (lA_ok he) (lB_ok he) (lA_ok hf) (lB_ok hf) ne nf).symm
def touchNo (e f : Leg) : Bool := !(e.ax == f.ax && e.ay == f.ay) && !(e.ax == f.bx && e.ay == f.b_y) && !(e.bx == f.ax && e.b_y == f.ay) && !(e.bx == f.bx && e.b_y == f.b_y)
def lapNo (e f : Leg) : Bool := !((e.ax == f.ax && e.ay == f.ay) && (e.bx == f.bx && e.b_y == f.b_y)) && !((e.ax == f.bx && e.ay == f.b_y) && (e.bx == f.ax && e.b_y == f.ay))
theorem ps_apart {e f : Leg} (h : apartM (lA e) (lB e) (lA f) (lB f) = true) : psL e f = true := by rw [psL, pairS, if_pos h]
theorem ps_cross {e f : Leg} (h : apartM (lA e) (lB e) (lA f) (lB f) = false) (m : meetS (lA e) (lB e) (lA f) (lB f) = 2) : psL e f = false := by rw [psL, pairS, if_neg (by rw [h]; simp), if_pos m]
theorem ps_touch {e f : Leg} (h : apartM (lA e) (lB e) (lA f) (lB f) = false) (m : meetS (lA e) (lB e) (lA f) (lB f) = 1) : psL e f = !touchNo e f := by
  rw [psL, pairS, if_neg (by rw [h]; simp), if_neg (by rw [m]; decide), if_pos m]
  congr 1
  rw [Bool.eq_iff_iff]
  simp only [touchNo, Bool.and_eq_true, decide_eq_true_eq, Bool.not_eq_true', Bool.and_eq_false_iff, beq_eq_false_iff_ne, ne_eq]
  simp only [lA, lB, Prod.mk.injEq]
  omega
theorem ps_lap {e f : Leg} (h : apartM (lA e) (lB e) (lA f) (lB f) = false) (m : meetS (lA e) (lB e) (lA f) (lB f) = 3) : psL e f = !lapNo e f := by
  rw [psL, pairS, if_neg (by rw [h]; simp), if_neg (by rw [m]; decide), if_neg (by rw [m]; decide), if_pos m]
  rw [Bool.eq_iff_iff]
  have hb : ∀ P Q : Bool, (!(!P && !Q)) = (P || Q) := by decide
  simp only [lapNo, hb, Bool.or_eq_true, Bool.and_eq_true, decide_eq_true_eq, beq_iff_eq]
  simp only [lA, lB, Prod.mk.injEq]
theorem ps_none {e f : Leg} (h : apartM (lA e) (lB e) (lA f) (lB f) = false) (m2 : ¬ meetS (lA e) (lB e) (lA f) (lB f) = 2) (m1 : ¬ meetS (lA e) (lB e) (lA f) (lB f) = 1) (m3 : ¬ meetS (lA e) (lB e) (lA f) (lB f) = 3) : psL e f = true := by rw [psL, pairS, if_neg (by rw [h]; simp), if_neg m2, if_neg m1, if_neg m3]
theorem lg_ne {ls : List Leg} (h : ∀ l ∈ ls, lA l ≠ lB l) {k : Nat} (hk : k < ls.length) : lA (lg ls k) ≠ lB (lg ls k) := by
  rw [← at_l hk]
  exact h _ (List.getElem_mem hk)
theorem rowLt {w : World} {w0 : Bs} {Rs : List Res} {k B T s n g c : Nat} {xs : List Value} (hk : Rs[k]? = some (rowR B T s n xs (some ⟨g, 0, none⟩, c))) (hs : St w0 Rs w) (_hn : 0 < n) : g < w.heap.size := by
  have h : w.ownsRow B T s (.slice (some ⟨g, 0, none⟩) n c) n xs := (hs.all k _ hk).1
  exact (h.lt g rfl).2
theorem specIsSnapped_any (A : Option Addr) (n c : Nat) (rs : List Ring_) (w : World) (h : Rings w A n rs) (ht : (total rs : Int) ≤ 1048577) :
    Calls Try.prog 32 #[regV A n c] w fun e w' => e = .returned (.bool (isnB rs)) ∧ Over w w' := by
  have hl := h.1
  refine walk_from (m := 140) (Try.func32) rfl rfl (Nat.le_of_ble_eq_true rfl) ?_
  refine at_seq ?_
  refine at_region ?_
  refine at_op rfl ?_
  refine op_box rfl rfl (rfl) rfl (by decide) (fun b1 => ?_)
  refine at_rsE (by simp only [List.nil_append, List.cons_append, List.set_cons_zero, List.set_cons_succ, Value.cells, List.toList_toArray]; rfl) ?_
  refine at_q rfl rfl (by decide) (qt_assign rfl rfl) ?_
  refine at_end ?_
  refine at_seq ?_
  refine at_seq ?_
  refine at_region ?_
  refine at_q rfl rfl (by decide) (qt_call ok_spec_l13Ok rfl rfl (fun w1 hs => l13Ok_any _ _ A n c rs w1 (rd1 (k := 0) rfl rfl w1 hs) (lt_of_some (hs.cel (k := 0) rfl)) (h.over hs.fin) ht)) ?_
  refine at_q rfl rfl (by decide) (qt_not rfl rfl) ?_
  refine at_end ?_
  refine at_cond rfl (fun c1 => ?_) (fun c1 => ?_)
  · try simp only [decide_eq_true_eq, decide_eq_false_iff_not, beq_iff_eq, beq_eq_false_iff_ne, Bool.not_eq_true', Bool.not_eq_false', Bool.not_true, Bool.not_false, Int.not_lt, Int.not_le, ne_eq, Nat.not_lt, Nat.not_le] at c1
    refine at_seq ?_
    refine at_region ?_
    refine at_q rfl rfl (by decide) (qt_assign rfl rfl) ?_
    refine at_end ?_
    refine at_retc ?_
    refine then_ret ?_
    refine at_ret1 rfl (.tmp rfl) ?_
    intro w' hs
    exact ⟨by simp [isnB, c1], hs.fin⟩
  · try simp only [decide_eq_true_eq, decide_eq_false_iff_not, beq_iff_eq, beq_eq_false_iff_ne, Bool.not_eq_true', Bool.not_eq_false', Bool.not_true, Bool.not_false, Int.not_lt, Int.not_le, ne_eq, Nat.not_lt, Nat.not_le] at c1
    have hr : regionB rs = true := by simpa using c1
    have hok := regOk hr
    have hne := allTo_ne rs rs.length
    have hal := allLen hr
    have eB : isnB rs = snapAll (edgesAll rs) := by rw [isnB, hr]; rfl
    change ∀ l ∈ edgesAll rs, lA l ≠ lB l at hne
    refine at_skip ?_
    refine norm_then ?_
    refine at_seq ?_
    refine at_region ?_
    refine at_op rfl ?_
    refine op_call ok_spec_l13All (v := fun x => .slice x.1 _ x.2) (r := fun x => rowR 0 68 4 _ _ x) (H := fun _ => True) rfl rfl rfl (by decide) (fun w1 hs => newRow' ((l13All_any _ _ A n c rs w1 (rd1 (k := 0) rfl rfl w1 hs) (lt_of_some (hs.cel (k := 0) rfl)) (h.over hs.fin) ht).mono fun e w' ⟨v, h1, _, h2, h3⟩ => ⟨v, h1, h2, h3⟩)) ?_
    rintro ⟨eA, ec⟩ -
    refine at_rsE (by simp only [List.nil_append, List.cons_append, List.set_cons_zero, List.set_cons_succ, Value.cells, List.toList_toArray]; rfl) ?_
    refine at_q rfl rfl (by decide) (qt_assign rfl rfl) ?_
    refine at_end ?_
    refine at_seq ?_
    refine at_seq ?_
    obtain ⟨ls, hls⟩ : ∃ ls, edgesAll rs = ls := ⟨_, rfl⟩
    rw [hls] at hok hal eB hne
    rw [hls]
    refine at_region ?_
    refine at_q rfl rfl (by decide) (qt_assign rfl rfl) ?_
    refine at_end ?_
    refine at_block ?_
    refine at_loopc (X := Nat) (fun i => i ≤ ls.length ∧ ∀ q, q < i → ∀ k, k < q → pairL (lg ls q) (lg ls k) = true) (fun i => ls.length - i) (fun i => [(4, .int .i64 (i : Int))]) (C := [(2, _), (3, _)]) ⟨rfl, rfl, trivial⟩ (fun i => [.cel b1 44 [.slice A n c], rowR 0 68 4 ls.length (ls.flatMap legCells) (eA, ec)]) 0 (⟨Nat.zero_le _, fun q hq => absurd hq (by omega)⟩) ⟨rfl, rfl, rfl, trivial⟩ (fun _ h => h) ?_
    intro i hi L hL1
    refine at_envE (by simp only [List.nil_append, List.cons_append]; rfl) ?_
    refine at_rsE (by first | (dsimp only; done) | (dsimp only; rfl) | rfl) ?_
    refine at_seq ?_
    refine at_seq ?_
    refine at_region ?_
    refine at_q rfl rfl (by decide) (qt_move rfl rfl) ?_
    refine at_q rfl rfl (by decide) (qt_move rfl rfl) ?_
    refine at_q rfl rfl (by decide) (qt_len rfl rfl tyl_sl_spec_l13Edge) ?_
    refine at_q rfl rfl (by decide) (qt_lss rfl rfl rfl) ?_
    refine at_end ?_
    refine at_cond rfl (fun c2 => ?_) (fun c2 => ?_)
    · try simp only [decide_eq_true_eq, decide_eq_false_iff_not, beq_iff_eq, beq_eq_false_iff_ne, Bool.not_eq_true', Bool.not_eq_false', Bool.not_true, Bool.not_false, Int.not_lt, Int.not_le, ne_eq, Nat.not_lt, Nat.not_le] at c2
      have hlt : i < ls.length := (by omega)
      refine at_fact (fun w hs => rowSome (k := 1) rfl hs (by omega)) ?_
      rintro ⟨eg, rfl⟩
      refine at_skip ?_
      refine norm_then ?_
      refine at_seq ?_
      refine at_block ?_
      refine at_seq ?_
      refine at_region ?_
      refine at_q rfl rfl (by decide) (qt_assign rfl rfl) ?_
      refine at_end ?_
      refine at_block ?_
      refine at_loopc (X := Nat) (fun k => k ≤ i ∧ ∀ q, q < k → pairL (lg ls i) (lg ls q) = true) (fun k => i - k) (fun k => [(5, .int .i64 (k : Int))]) (C := [(2, _), (3, _), (4, _), (11, _), (12, _), (13, _), (14, _)]) ⟨rfl, rfl, rfl, rfl, rfl, rfl, rfl, trivial⟩ (fun k => [.cel b1 44 [.slice A n c], rowR 0 68 4 ls.length (ls.flatMap legCells) (some ⟨eg, 0, none⟩, ec)]) 0 (⟨Nat.zero_le _, fun q hq => absurd hq (by omega)⟩) ⟨rfl, rfl, rfl, rfl, rfl, rfl, rfl, rfl, trivial⟩ (fun _ h => h) ?_
      intro k hk L hL2
      refine at_envE (by simp only [List.nil_append, List.cons_append]; rfl) ?_
      refine at_rsE (by first | (dsimp only; done) | (dsimp only; rfl) | rfl) ?_
      refine at_seq ?_
      refine at_seq ?_
      refine at_region ?_
      refine at_q rfl rfl (by decide) (qt_move rfl rfl) ?_
      refine at_q rfl rfl (by decide) (qt_move rfl rfl) ?_
      refine at_q rfl rfl (by decide) (qt_lss rfl rfl rfl) ?_
      refine at_end ?_
      refine at_cond rfl (fun c3 => ?_) (fun c3 => ?_)
      · try simp only [decide_eq_true_eq, decide_eq_false_iff_not, beq_iff_eq, beq_eq_false_iff_ne, Bool.not_eq_true', Bool.not_eq_false', Bool.not_true, Bool.not_false, Int.not_lt, Int.not_le, ne_eq, Nat.not_lt, Nat.not_le] at c3
        have hkt : k < i := (by omega)
        have hkl : k < ls.length := (by omega)
        have epl := psL_pairL (lg_ok hok hlt) (lg_ok hok hkl) (lg_ne hne hlt) (lg_ne hne hkl)
        refine at_skip ?_
        refine norm_then ?_
        refine at_seq ?_
        refine at_block ?_
        refine at_seq ?_
        refine at_region ?_
        refine at_q rfl rfl (by decide) (qt_move rfl rfl) ?_
        refine at_q rfl rfl (by decide) (qt_move rfl rfl) ?_
        refine at_q rfl rfl (by decide) (qt_index rfl rfl rfl tyl_sl_spec_l13Edge (by omega)) ?_
        refine at_q rfl rfl (by decide) (qt_assign rfl rfl) ?_
        refine at_end ?_
        refine at_seq ?_
        refine at_region ?_
        refine at_q rfl rfl (by decide) (qt_move rfl rfl) ?_
        refine at_q rfl rfl (by decide) (qt_move rfl rfl) ?_
        refine at_q rfl rfl (by decide) (qt_index rfl rfl rfl tyl_sl_spec_l13Edge (by omega)) ?_
        refine at_q rfl rfl (by decide) (qt_assign rfl rfl) ?_
        refine at_end ?_
        refine at_seq ?_
        refine at_seq ?_
        refine at_region ?_
        refine at_q rfl rfl (by decide) (qt_move rfl rfl) ?_
        refine at_q rfl rfl (by decide) (qt_move rfl rfl) ?_
        refine at_q rfl rfl (by decide) (qt_call ok_spec_l13Apart rfl rfl (fun w1 hs => l13Apart_any eg _ eg _ (lg ls i) (lg ls k) w1 (rdLeg (fun w' hs => rowLegs (k := 1) rfl rfl w' hs) hlt w1 hs) (rdLeg (fun w' hs => rowLegs (k := 1) rfl rfl w' hs) hkl w1 hs) (rowLt (k := 1) rfl hs (by omega)) (rowLt (k := 1) rfl hs (by omega)))) ?_
        refine at_end ?_
        refine at_cond rfl (fun c4 => ?_) (fun c4 => ?_)
        · try simp only [decide_eq_true_eq, decide_eq_false_iff_not, beq_iff_eq, beq_eq_false_iff_ne, Bool.not_eq_true', Bool.not_eq_false', Bool.not_true, Bool.not_false, Int.not_lt, Int.not_le, ne_eq, Nat.not_lt, Nat.not_le] at c4
          refine at_exit ?_
          refine pass_then (fun h => by cases h) ?_
          refine pass_hit ?_
          refine norm_then ?_
          refine at_region ?_
          refine at_q rfl rfl (by decide) (qt_move rfl rfl) ?_
          refine at_q rfl rfl (by decide) (qt_add rfl rfl rfl (by omega) (by omega)) ?_
          refine at_q rfl rfl (by decide) (qt_assign rfl rfl) ?_
          refine at_end ?_
          exact at_againc hL2 (k + 1) (⟨by omega, lt_succ_all hk.2 (by rw [← epl]; exact ps_apart c4)⟩) (by omega) ⟨vi (by omega), rfl, rfl, rfl, rfl, rfl, rfl, rfl, trivial⟩ (fun _ h => h.upto ⟨rfl, rfl, trivial⟩)
        · try simp only [decide_eq_true_eq, decide_eq_false_iff_not, beq_iff_eq, beq_eq_false_iff_ne, Bool.not_eq_true', Bool.not_eq_false', Bool.not_true, Bool.not_false, Int.not_lt, Int.not_le, ne_eq, Nat.not_lt, Nat.not_le] at c4
          refine at_skip ?_
          refine norm_then ?_
          refine at_seq ?_
          refine dg_start mixed rfl ?_
          refine dg_phase 17 ?_
          refine dg_q (i := 0) rfl (by kernel_rfl) (by kernel_rfl) (by kernel_rfl) [] (by kernel_rfl) (fun _ _ _ h => h) rfl rfl (by decide) (fun _ h => h.upto ⟨rfl, rfl, trivial⟩) (qt_move rfl rfl) ?_
          refine dg_q (i := 1) rfl (by kernel_rfl) (by kernel_rfl) (by kernel_rfl) [] (by kernel_rfl) (fun _ _ _ h => h) rfl rfl (by decide) (fun _ h => h.upto ⟨rfl, rfl, trivial⟩) (qt_nilCheck rfl rfl) ?_
          refine dg_q (i := 2) rfl (by kernel_rfl) (by kernel_rfl) (by kernel_rfl) [] (by kernel_rfl) (fun _ _ _ h => h) rfl rfl (by decide) (fun _ h => h.upto ⟨rfl, rfl, trivial⟩) (qt_fieldAddr rfl rfl tyf_spec_l13Edge_0) ?_
          refine dg_q (i := 3) rfl (by kernel_rfl) (by kernel_rfl) (by kernel_rfl) [] (by kernel_rfl) (fun _ _ _ h => h) rfl rfl (by decide) (fun _ h => h.upto ⟨rfl, rfl, trivial⟩) (qt_loadS rfl rfl tys_impl_Pt rfl (by first | exact rdLegA (b := eg) (o := 0) (j := i) (fun w' hs => rowLegs (k := 1) rfl rfl w' hs) hlt | exact rdLegB (b := eg) (o := 0) (j := i) (fun w' hs => rowLegs (k := 1) rfl rfl w' hs) hlt | exact rdLegA (b := eg) (o := 0) (j := k) (fun w' hs => rowLegs (k := 1) rfl rfl w' hs) hkl | exact rdLegB (b := eg) (o := 0) (j := k) (fun w' hs => rowLegs (k := 1) rfl rfl w' hs) hkl)) ?_
          refine dg_q (i := 4) rfl (by kernel_rfl) (by kernel_rfl) (by kernel_rfl) [] (by kernel_rfl) (fun _ _ _ h => h) rfl rfl (by decide) (fun _ h => h.upto ⟨rfl, rfl, trivial⟩) (qt_move rfl rfl) ?_
          refine dg_q (i := 5) rfl (by kernel_rfl) (by kernel_rfl) (by kernel_rfl) [] (by kernel_rfl) (fun _ _ _ h => h) rfl rfl (by decide) (fun _ h => h.upto ⟨rfl, rfl, trivial⟩) (qt_nilCheck rfl rfl) ?_
          refine dg_q (i := 6) rfl (by kernel_rfl) (by kernel_rfl) (by kernel_rfl) [] (by kernel_rfl) (fun _ _ _ h => h) rfl rfl (by decide) (fun _ h => h.upto ⟨rfl, rfl, trivial⟩) (qt_fieldAddr rfl rfl tyf_spec_l13Edge_1) ?_
          refine dg_q (i := 7) rfl (by kernel_rfl) (by kernel_rfl) (by kernel_rfl) [] (by kernel_rfl) (fun _ _ _ h => h) rfl rfl (by decide) (fun _ h => h.upto ⟨rfl, rfl, trivial⟩) (qt_loadS rfl rfl tys_impl_Pt rfl (by first | exact rdLegA (b := eg) (o := 0) (j := i) (fun w' hs => rowLegs (k := 1) rfl rfl w' hs) hlt | exact rdLegB (b := eg) (o := 0) (j := i) (fun w' hs => rowLegs (k := 1) rfl rfl w' hs) hlt | exact rdLegA (b := eg) (o := 0) (j := k) (fun w' hs => rowLegs (k := 1) rfl rfl w' hs) hkl | exact rdLegB (b := eg) (o := 0) (j := k) (fun w' hs => rowLegs (k := 1) rfl rfl w' hs) hkl)) ?_
          refine dg_q (i := 8) rfl (by kernel_rfl) (by kernel_rfl) (by kernel_rfl) [] (by kernel_rfl) (fun _ _ _ h => h) rfl rfl (by decide) (fun _ h => h.upto ⟨rfl, rfl, trivial⟩) (qt_move rfl rfl) ?_
          refine dg_q (i := 9) rfl (by kernel_rfl) (by kernel_rfl) (by kernel_rfl) [] (by kernel_rfl) (fun _ _ _ h => h) rfl rfl (by decide) (fun _ h => h.upto ⟨rfl, rfl, trivial⟩) (qt_nilCheck rfl rfl) ?_
          refine dg_q (i := 10) rfl (by kernel_rfl) (by kernel_rfl) (by kernel_rfl) [] (by kernel_rfl) (fun _ _ _ h => h) rfl rfl (by decide) (fun _ h => h.upto ⟨rfl, rfl, trivial⟩) (qt_fieldAddr rfl rfl tyf_spec_l13Edge_0) ?_
          refine dg_q (i := 11) rfl (by kernel_rfl) (by kernel_rfl) (by kernel_rfl) [] (by kernel_rfl) (fun _ _ _ h => h) rfl rfl (by decide) (fun _ h => h.upto ⟨rfl, rfl, trivial⟩) (qt_loadS rfl rfl tys_impl_Pt rfl (by first | exact rdLegA (b := eg) (o := 0) (j := i) (fun w' hs => rowLegs (k := 1) rfl rfl w' hs) hlt | exact rdLegB (b := eg) (o := 0) (j := i) (fun w' hs => rowLegs (k := 1) rfl rfl w' hs) hlt | exact rdLegA (b := eg) (o := 0) (j := k) (fun w' hs => rowLegs (k := 1) rfl rfl w' hs) hkl | exact rdLegB (b := eg) (o := 0) (j := k) (fun w' hs => rowLegs (k := 1) rfl rfl w' hs) hkl)) ?_
          refine dg_q (i := 12) rfl (by kernel_rfl) (by kernel_rfl) (by kernel_rfl) [] (by kernel_rfl) (fun _ _ _ h => h) rfl rfl (by decide) (fun _ h => h.upto ⟨rfl, rfl, trivial⟩) (qt_move rfl rfl) ?_
          refine dg_q (i := 13) rfl (by kernel_rfl) (by kernel_rfl) (by kernel_rfl) [] (by kernel_rfl) (fun _ _ _ h => h) rfl rfl (by decide) (fun _ h => h.upto ⟨rfl, rfl, trivial⟩) (qt_nilCheck rfl rfl) ?_
          refine dg_q (i := 14) rfl (by kernel_rfl) (by kernel_rfl) (by kernel_rfl) [] (by kernel_rfl) (fun _ _ _ h => h) rfl rfl (by decide) (fun _ h => h.upto ⟨rfl, rfl, trivial⟩) (qt_fieldAddr rfl rfl tyf_spec_l13Edge_1) ?_
          refine dg_q (i := 15) rfl (by kernel_rfl) (by kernel_rfl) (by kernel_rfl) [] (by kernel_rfl) (fun _ _ _ h => h) rfl rfl (by decide) (fun _ h => h.upto ⟨rfl, rfl, trivial⟩) (qt_loadS rfl rfl tys_impl_Pt rfl (by first | exact rdLegA (b := eg) (o := 0) (j := i) (fun w' hs => rowLegs (k := 1) rfl rfl w' hs) hlt | exact rdLegB (b := eg) (o := 0) (j := i) (fun w' hs => rowLegs (k := 1) rfl rfl w' hs) hlt | exact rdLegA (b := eg) (o := 0) (j := k) (fun w' hs => rowLegs (k := 1) rfl rfl w' hs) hkl | exact rdLegB (b := eg) (o := 0) (j := k) (fun w' hs => rowLegs (k := 1) rfl rfl w' hs) hkl)) ?_
          refine dg_q (i := 16) rfl (by kernel_rfl) (by kernel_rfl) (by kernel_rfl) [] (by kernel_rfl) (fun _ _ _ h => h) rfl rfl (by decide) (fun _ h => h.upto ⟨rfl, rfl, trivial⟩) (qt_call ok_spec_l03Meeting rfl rfl (fun w1 hs => l03Meeting_any (lA (lg ls i)) (lB (lg ls i)) (lA (lg ls k)) (lB (lg ls k)) w1 (lA_ok (lg_ok hok hlt)) (lB_ok (lg_ok hok hlt)) (lA_ok (lg_ok hok hkl)) (lB_ok (lg_ok hok hkl)))) ?_
          refine dg_done (by kernel_rfl) ?_
          refine norm_then ?_
          refine at_block ?_
          refine at_seq ?_
          refine at_region ?_
          refine at_q rfl rfl (by decide) (qt_eql rfl rfl rfl) ?_
          refine at_q rfl rfl (by decide) (qt_assign rfl rfl) ?_
          refine at_end ?_
          refine at_cond rfl (fun c5 => ?_) (fun c5 => ?_)
          · try simp only [decide_eq_true_eq, decide_eq_false_iff_not, beq_iff_eq, beq_eq_false_iff_ne, Bool.not_eq_true', Bool.not_eq_false', Bool.not_true, Bool.not_false, Int.not_lt, Int.not_le, ne_eq, Nat.not_lt, Nat.not_le] at c5
            refine at_seq ?_
            refine at_region ?_
            refine at_q rfl rfl (by decide) (qt_assign rfl rfl) ?_
            refine at_end ?_
            refine at_retc ?_
            refine pass_ret ?_
            refine pass_ret ?_
            refine then_ret ?_
            refine then_ret ?_
            refine pass_ret ?_
            refine pass_ret ?_
            refine then_ret ?_
            refine then_ret ?_
            refine pass_ret ?_
            refine then_ret ?_
            refine at_ret1 rfl (.tmp rfl) ?_
            intro w' hs
            exact ⟨retB (by rw [eB]; exact snapAll_no hlt hkt (by rw [← epl]; exact ps_cross c4 c5)), hs.fin⟩
          · try simp only [decide_eq_true_eq, decide_eq_false_iff_not, beq_iff_eq, beq_eq_false_iff_ne, Bool.not_eq_true', Bool.not_eq_false', Bool.not_true, Bool.not_false, Int.not_lt, Int.not_le, ne_eq, Nat.not_lt, Nat.not_le] at c5
            refine at_seq ?_
            refine at_region ?_
            refine at_q rfl rfl (by decide) (qt_eql rfl rfl rfl) ?_
            refine at_q rfl rfl (by decide) (qt_assign rfl rfl) ?_
            refine at_end ?_
            refine at_cond rfl (fun c6 => ?_) (fun c6 => ?_)
            · try simp only [decide_eq_true_eq, decide_eq_false_iff_not, beq_iff_eq, beq_eq_false_iff_ne, Bool.not_eq_true', Bool.not_eq_false', Bool.not_true, Bool.not_false, Int.not_lt, Int.not_le, ne_eq, Nat.not_lt, Nat.not_le] at c6
              refine at_cutE [(93, .bool (touchNo (lg ls i) (lg ls k)))] (C := [(2, _), (3, _), (4, _), (11, _), (12, _), (13, _), (14, _), (5, _), (17, _), (18, _), (19, _), (22, _), (23, _), (24, _), (6, _), (25, _), (26, _), (27, _), (7, _), (28, _), (29, _), (30, _), (31, _), (32, _), (33, _), (34, _), (35, _), (36, _), (37, _), (38, _), (39, _), (40, _), (41, _), (42, _), (43, _), (44, _), (45, _), (46, _), (47, _), (49, _), (48, _), (51, _), (50, _)])  ⟨rfl, rfl, rfl, rfl, rfl, rfl, rfl, rfl, rfl, rfl, rfl, rfl, rfl, rfl, rfl, rfl, rfl, rfl, rfl, rfl, rfl, rfl, rfl, rfl, rfl, rfl, rfl, rfl, rfl, rfl, rfl, rfl, rfl, rfl, rfl, rfl, rfl, rfl, rfl, rfl, rfl, rfl, rfl, trivial⟩ (fun L hC_cut_17 => ?_) ?_
              · refine lx_start mixed (by kernel_rfl) (fun _ _ d _ _ h => by cases d <;> exact h) ?_
                refine lx_q rfl rfl (by decide) (qt_move rfl rfl) ?_
                refine lx_q rfl rfl (by decide) (qt_nilCheck rfl rfl) ?_
                refine lx_q rfl rfl (by decide) (qt_fieldAddr rfl rfl tyf_spec_l13Edge_0) ?_
                refine lx_q rfl rfl (by decide) (qt_loadS rfl rfl tys_impl_Pt rfl (by first | exact rdLegA (b := eg) (o := 0) (j := i) (fun w' hs => rowLegs (k := 1) rfl rfl w' hs) hlt | exact rdLegB (b := eg) (o := 0) (j := i) (fun w' hs => rowLegs (k := 1) rfl rfl w' hs) hlt | exact rdLegA (b := eg) (o := 0) (j := k) (fun w' hs => rowLegs (k := 1) rfl rfl w' hs) hkl | exact rdLegB (b := eg) (o := 0) (j := k) (fun w' hs => rowLegs (k := 1) rfl rfl w' hs) hkl)) ?_
                refine lx_q rfl rfl (by decide) (qt_move rfl rfl) ?_
                refine lx_q rfl rfl (by decide) (qt_nilCheck rfl rfl) ?_
                refine lx_q rfl rfl (by decide) (qt_fieldAddr rfl rfl tyf_spec_l13Edge_0) ?_
                refine lx_q rfl rfl (by decide) (qt_loadS rfl rfl tys_impl_Pt rfl (by first | exact rdLegA (b := eg) (o := 0) (j := i) (fun w' hs => rowLegs (k := 1) rfl rfl w' hs) hlt | exact rdLegB (b := eg) (o := 0) (j := i) (fun w' hs => rowLegs (k := 1) rfl rfl w' hs) hlt | exact rdLegA (b := eg) (o := 0) (j := k) (fun w' hs => rowLegs (k := 1) rfl rfl w' hs) hkl | exact rdLegB (b := eg) (o := 0) (j := k) (fun w' hs => rowLegs (k := 1) rfl rfl w' hs) hkl)) ?_
                refine lx_q rfl rfl (by decide) (qt_neqS_impl_Pt rfl rfl rfl) ?_
                refine lx_q rfl rfl (by decide) (qt_move rfl rfl) ?_
                refine lx_bsplit 61 rfl (fun g1 => ?_) (fun g1 => ?_)
                · try simp only [decide_eq_true_eq, decide_eq_false_iff_not, beq_iff_eq, beq_eq_false_iff_ne, Bool.not_eq_true', Bool.not_eq_false', Bool.not_true, Bool.not_false, Int.not_lt, Int.not_le, ne_eq, Nat.not_lt, Nat.not_le] at g1
                  refine lx_qg rfl rfl rfl rfl rfl (by decide) (qt_move rfl rfl) ?_
                  refine lx_qg rfl rfl rfl rfl rfl (by decide) (qt_nilCheck rfl rfl) ?_
                  refine lx_qg rfl rfl rfl rfl rfl (by decide) (qt_fieldAddr rfl rfl tyf_spec_l13Edge_0) ?_
                  refine lx_qg rfl rfl rfl rfl rfl (by decide) (qt_loadS rfl rfl tys_impl_Pt rfl (by first | exact rdLegA (b := eg) (o := 0) (j := i) (fun w' hs => rowLegs (k := 1) rfl rfl w' hs) hlt | exact rdLegB (b := eg) (o := 0) (j := i) (fun w' hs => rowLegs (k := 1) rfl rfl w' hs) hlt | exact rdLegA (b := eg) (o := 0) (j := k) (fun w' hs => rowLegs (k := 1) rfl rfl w' hs) hkl | exact rdLegB (b := eg) (o := 0) (j := k) (fun w' hs => rowLegs (k := 1) rfl rfl w' hs) hkl)) ?_
                  refine lx_qg rfl rfl rfl rfl rfl (by decide) (qt_move rfl rfl) ?_
                  refine lx_qg rfl rfl rfl rfl rfl (by decide) (qt_nilCheck rfl rfl) ?_
                  refine lx_qg rfl rfl rfl rfl rfl (by decide) (qt_fieldAddr rfl rfl tyf_spec_l13Edge_1) ?_
                  refine lx_qg rfl rfl rfl rfl rfl (by decide) (qt_loadS rfl rfl tys_impl_Pt rfl (by first | exact rdLegA (b := eg) (o := 0) (j := i) (fun w' hs => rowLegs (k := 1) rfl rfl w' hs) hlt | exact rdLegB (b := eg) (o := 0) (j := i) (fun w' hs => rowLegs (k := 1) rfl rfl w' hs) hlt | exact rdLegA (b := eg) (o := 0) (j := k) (fun w' hs => rowLegs (k := 1) rfl rfl w' hs) hkl | exact rdLegB (b := eg) (o := 0) (j := k) (fun w' hs => rowLegs (k := 1) rfl rfl w' hs) hkl)) ?_
                  refine lx_qg rfl rfl rfl rfl rfl (by decide) (qt_neqS_impl_Pt rfl rfl rfl) ?_
                  refine lx_q rfl rfl (by decide) (qt_pickT rfl rfl rfl) ?_
                  refine lx_q rfl rfl (by decide) (qt_move rfl rfl) ?_
                  refine lx_bsplit 72 rfl (fun g2 => ?_) (fun g2 => ?_)
                  · try simp only [decide_eq_true_eq, decide_eq_false_iff_not, beq_iff_eq, beq_eq_false_iff_ne, Bool.not_eq_true', Bool.not_eq_false', Bool.not_true, Bool.not_false, Int.not_lt, Int.not_le, ne_eq, Nat.not_lt, Nat.not_le] at g2
                    refine lx_qg rfl rfl rfl rfl rfl (by decide) (qt_move rfl rfl) ?_
                    refine lx_qg rfl rfl rfl rfl rfl (by decide) (qt_nilCheck rfl rfl) ?_
                    refine lx_qg rfl rfl rfl rfl rfl (by decide) (qt_fieldAddr rfl rfl tyf_spec_l13Edge_1) ?_
                    refine lx_qg rfl rfl rfl rfl rfl (by decide) (qt_loadS rfl rfl tys_impl_Pt rfl (by first | exact rdLegA (b := eg) (o := 0) (j := i) (fun w' hs => rowLegs (k := 1) rfl rfl w' hs) hlt | exact rdLegB (b := eg) (o := 0) (j := i) (fun w' hs => rowLegs (k := 1) rfl rfl w' hs) hlt | exact rdLegA (b := eg) (o := 0) (j := k) (fun w' hs => rowLegs (k := 1) rfl rfl w' hs) hkl | exact rdLegB (b := eg) (o := 0) (j := k) (fun w' hs => rowLegs (k := 1) rfl rfl w' hs) hkl)) ?_
                    refine lx_qg rfl rfl rfl rfl rfl (by decide) (qt_move rfl rfl) ?_
                    refine lx_qg rfl rfl rfl rfl rfl (by decide) (qt_nilCheck rfl rfl) ?_
                    refine lx_qg rfl rfl rfl rfl rfl (by decide) (qt_fieldAddr rfl rfl tyf_spec_l13Edge_0) ?_
                    refine lx_qg rfl rfl rfl rfl rfl (by decide) (qt_loadS rfl rfl tys_impl_Pt rfl (by first | exact rdLegA (b := eg) (o := 0) (j := i) (fun w' hs => rowLegs (k := 1) rfl rfl w' hs) hlt | exact rdLegB (b := eg) (o := 0) (j := i) (fun w' hs => rowLegs (k := 1) rfl rfl w' hs) hlt | exact rdLegA (b := eg) (o := 0) (j := k) (fun w' hs => rowLegs (k := 1) rfl rfl w' hs) hkl | exact rdLegB (b := eg) (o := 0) (j := k) (fun w' hs => rowLegs (k := 1) rfl rfl w' hs) hkl)) ?_
                    refine lx_qg rfl rfl rfl rfl rfl (by decide) (qt_neqS_impl_Pt rfl rfl rfl) ?_
                    refine lx_q rfl rfl (by decide) (qt_pickT rfl rfl rfl) ?_
                    refine lx_q rfl rfl (by decide) (qt_move rfl rfl) ?_
                    refine lx_bsplit 83 rfl (fun g3 => ?_) (fun g3 => ?_)
                    · try simp only [decide_eq_true_eq, decide_eq_false_iff_not, beq_iff_eq, beq_eq_false_iff_ne, Bool.not_eq_true', Bool.not_eq_false', Bool.not_true, Bool.not_false, Int.not_lt, Int.not_le, ne_eq, Nat.not_lt, Nat.not_le] at g3
                      refine lx_qg rfl rfl rfl rfl rfl (by decide) (qt_move rfl rfl) ?_
                      refine lx_qg rfl rfl rfl rfl rfl (by decide) (qt_nilCheck rfl rfl) ?_
                      refine lx_qg rfl rfl rfl rfl rfl (by decide) (qt_fieldAddr rfl rfl tyf_spec_l13Edge_1) ?_
                      refine lx_qg rfl rfl rfl rfl rfl (by decide) (qt_loadS rfl rfl tys_impl_Pt rfl (by first | exact rdLegA (b := eg) (o := 0) (j := i) (fun w' hs => rowLegs (k := 1) rfl rfl w' hs) hlt | exact rdLegB (b := eg) (o := 0) (j := i) (fun w' hs => rowLegs (k := 1) rfl rfl w' hs) hlt | exact rdLegA (b := eg) (o := 0) (j := k) (fun w' hs => rowLegs (k := 1) rfl rfl w' hs) hkl | exact rdLegB (b := eg) (o := 0) (j := k) (fun w' hs => rowLegs (k := 1) rfl rfl w' hs) hkl)) ?_
                      refine lx_qg rfl rfl rfl rfl rfl (by decide) (qt_move rfl rfl) ?_
                      refine lx_qg rfl rfl rfl rfl rfl (by decide) (qt_nilCheck rfl rfl) ?_
                      refine lx_qg rfl rfl rfl rfl rfl (by decide) (qt_fieldAddr rfl rfl tyf_spec_l13Edge_1) ?_
                      refine lx_qg rfl rfl rfl rfl rfl (by decide) (qt_loadS rfl rfl tys_impl_Pt rfl (by first | exact rdLegA (b := eg) (o := 0) (j := i) (fun w' hs => rowLegs (k := 1) rfl rfl w' hs) hlt | exact rdLegB (b := eg) (o := 0) (j := i) (fun w' hs => rowLegs (k := 1) rfl rfl w' hs) hlt | exact rdLegA (b := eg) (o := 0) (j := k) (fun w' hs => rowLegs (k := 1) rfl rfl w' hs) hkl | exact rdLegB (b := eg) (o := 0) (j := k) (fun w' hs => rowLegs (k := 1) rfl rfl w' hs) hkl)) ?_
                      refine lx_qg rfl rfl rfl rfl rfl (by decide) (qt_neqS_impl_Pt rfl rfl rfl) ?_
                      refine lx_q rfl rfl (by decide) (qt_pickT rfl rfl rfl) ?_
                      refine lx_end ?_
                      refine norm_then ?_
                      exact at_meet hC_cut_17 ⟨vb (by simp only [touchNo, *, Bool.not_true, Bool.not_false, Bool.true_and, Bool.false_and, Bool.and_false, Bool.and_true]), rfl, rfl, rfl, rfl, rfl, rfl, rfl, rfl, rfl, rfl, rfl, rfl, rfl, rfl, rfl, rfl, rfl, rfl, rfl, rfl, rfl, rfl, rfl, rfl, rfl, rfl, rfl, rfl, rfl, rfl, rfl, rfl, rfl, rfl, rfl, rfl, rfl, rfl, rfl, rfl, rfl, rfl, rfl, trivial⟩ (fun _ h => h.upto ⟨rfl, rfl, trivial⟩)
                    · try simp only [decide_eq_true_eq, decide_eq_false_iff_not, beq_iff_eq, beq_eq_false_iff_ne, Bool.not_eq_true', Bool.not_eq_false', Bool.not_true, Bool.not_false, Int.not_lt, Int.not_le, ne_eq, Nat.not_lt, Nat.not_le] at g3
                      refine lx_off rfl rfl rfl rfl (by decide) rfl (by decide) ?_
                      refine lx_off rfl rfl rfl rfl (by decide) rfl (by decide) ?_
                      refine lx_off rfl rfl rfl rfl (by decide) rfl (by decide) ?_
                      refine lx_off rfl rfl rfl rfl (by decide) rfl (by decide) ?_
                      refine lx_off rfl rfl rfl rfl (by decide) rfl (by decide) ?_
                      refine lx_off rfl rfl rfl rfl (by decide) rfl (by decide) ?_
                      refine lx_off rfl rfl rfl rfl (by decide) rfl (by decide) ?_
                      refine lx_off rfl rfl rfl rfl (by decide) rfl (by decide) ?_
                      refine lx_off rfl rfl rfl rfl (by decide) rfl (by decide) ?_
                      refine lx_q rfl rfl (by decide) (qt_pickF rfl rfl rfl) ?_
                      refine lx_end ?_
                      refine norm_then ?_
                      exact at_meet hC_cut_17 ⟨vb (by simp only [touchNo, *, Bool.not_true, Bool.not_false, Bool.true_and, Bool.false_and, Bool.and_false, Bool.and_true]), rfl, rfl, rfl, rfl, rfl, rfl, rfl, rfl, rfl, rfl, rfl, rfl, rfl, rfl, rfl, rfl, rfl, rfl, rfl, rfl, rfl, rfl, rfl, rfl, rfl, rfl, rfl, rfl, rfl, rfl, rfl, rfl, rfl, rfl, rfl, rfl, rfl, rfl, rfl, rfl, rfl, rfl, rfl, trivial⟩ (fun _ h => h.upto ⟨rfl, rfl, trivial⟩)
                  · try simp only [decide_eq_true_eq, decide_eq_false_iff_not, beq_iff_eq, beq_eq_false_iff_ne, Bool.not_eq_true', Bool.not_eq_false', Bool.not_true, Bool.not_false, Int.not_lt, Int.not_le, ne_eq, Nat.not_lt, Nat.not_le] at g2
                    refine lx_off rfl rfl rfl rfl (by decide) rfl (by decide) ?_
                    refine lx_off rfl rfl rfl rfl (by decide) rfl (by decide) ?_
                    refine lx_off rfl rfl rfl rfl (by decide) rfl (by decide) ?_
                    refine lx_off rfl rfl rfl rfl (by decide) rfl (by decide) ?_
                    refine lx_off rfl rfl rfl rfl (by decide) rfl (by decide) ?_
                    refine lx_off rfl rfl rfl rfl (by decide) rfl (by decide) ?_
                    refine lx_off rfl rfl rfl rfl (by decide) rfl (by decide) ?_
                    refine lx_off rfl rfl rfl rfl (by decide) rfl (by decide) ?_
                    refine lx_off rfl rfl rfl rfl (by decide) rfl (by decide) ?_
                    refine lx_q rfl rfl (by decide) (qt_pickF rfl rfl rfl) ?_
                    refine lx_q rfl rfl (by decide) (qt_move rfl rfl) ?_
                    refine lx_off rfl rfl rfl rfl (by decide) rfl (by decide) ?_
                    refine lx_off rfl rfl rfl rfl (by decide) rfl (by decide) ?_
                    refine lx_off rfl rfl rfl rfl (by decide) rfl (by decide) ?_
                    refine lx_off rfl rfl rfl rfl (by decide) rfl (by decide) ?_
                    refine lx_off rfl rfl rfl rfl (by decide) rfl (by decide) ?_
                    refine lx_off rfl rfl rfl rfl (by decide) rfl (by decide) ?_
                    refine lx_off rfl rfl rfl rfl (by decide) rfl (by decide) ?_
                    refine lx_off rfl rfl rfl rfl (by decide) rfl (by decide) ?_
                    refine lx_off rfl rfl rfl rfl (by decide) rfl (by decide) ?_
                    refine lx_q rfl rfl (by decide) (qt_pickF rfl rfl rfl) ?_
                    refine lx_end ?_
                    refine norm_then ?_
                    exact at_meet hC_cut_17 ⟨vb (by simp only [touchNo, *, Bool.not_true, Bool.not_false, Bool.true_and, Bool.false_and, Bool.and_false, Bool.and_true]), rfl, rfl, rfl, rfl, rfl, rfl, rfl, rfl, rfl, rfl, rfl, rfl, rfl, rfl, rfl, rfl, rfl, rfl, rfl, rfl, rfl, rfl, rfl, rfl, rfl, rfl, rfl, rfl, rfl, rfl, rfl, rfl, rfl, rfl, rfl, rfl, rfl, rfl, rfl, rfl, rfl, rfl, rfl, trivial⟩ (fun _ h => h.upto ⟨rfl, rfl, trivial⟩)
                · try simp only [decide_eq_true_eq, decide_eq_false_iff_not, beq_iff_eq, beq_eq_false_iff_ne, Bool.not_eq_true', Bool.not_eq_false', Bool.not_true, Bool.not_false, Int.not_lt, Int.not_le, ne_eq, Nat.not_lt, Nat.not_le] at g1
                  refine lx_off rfl rfl rfl rfl (by decide) rfl (by decide) ?_
                  refine lx_off rfl rfl rfl rfl (by decide) rfl (by decide) ?_
                  refine lx_off rfl rfl rfl rfl (by decide) rfl (by decide) ?_
                  refine lx_off rfl rfl rfl rfl (by decide) rfl (by decide) ?_
                  refine lx_off rfl rfl rfl rfl (by decide) rfl (by decide) ?_
                  refine lx_off rfl rfl rfl rfl (by decide) rfl (by decide) ?_
                  refine lx_off rfl rfl rfl rfl (by decide) rfl (by decide) ?_
                  refine lx_off rfl rfl rfl rfl (by decide) rfl (by decide) ?_
                  refine lx_off rfl rfl rfl rfl (by decide) rfl (by decide) ?_
                  refine lx_q rfl rfl (by decide) (qt_pickF rfl rfl rfl) ?_
                  refine lx_q rfl rfl (by decide) (qt_move rfl rfl) ?_
                  refine lx_off rfl rfl rfl rfl (by decide) rfl (by decide) ?_
                  refine lx_off rfl rfl rfl rfl (by decide) rfl (by decide) ?_
                  refine lx_off rfl rfl rfl rfl (by decide) rfl (by decide) ?_
                  refine lx_off rfl rfl rfl rfl (by decide) rfl (by decide) ?_
                  refine lx_off rfl rfl rfl rfl (by decide) rfl (by decide) ?_
                  refine lx_off rfl rfl rfl rfl (by decide) rfl (by decide) ?_
                  refine lx_off rfl rfl rfl rfl (by decide) rfl (by decide) ?_
                  refine lx_off rfl rfl rfl rfl (by decide) rfl (by decide) ?_
                  refine lx_off rfl rfl rfl rfl (by decide) rfl (by decide) ?_
                  refine lx_q rfl rfl (by decide) (qt_pickF rfl rfl rfl) ?_
                  refine lx_q rfl rfl (by decide) (qt_move rfl rfl) ?_
                  refine lx_off rfl rfl rfl rfl (by decide) rfl (by decide) ?_
                  refine lx_off rfl rfl rfl rfl (by decide) rfl (by decide) ?_
                  refine lx_off rfl rfl rfl rfl (by decide) rfl (by decide) ?_
                  refine lx_off rfl rfl rfl rfl (by decide) rfl (by decide) ?_
                  refine lx_off rfl rfl rfl rfl (by decide) rfl (by decide) ?_
                  refine lx_off rfl rfl rfl rfl (by decide) rfl (by decide) ?_
                  refine lx_off rfl rfl rfl rfl (by decide) rfl (by decide) ?_
                  refine lx_off rfl rfl rfl rfl (by decide) rfl (by decide) ?_
                  refine lx_off rfl rfl rfl rfl (by decide) rfl (by decide) ?_
                  refine lx_q rfl rfl (by decide) (qt_pickF rfl rfl rfl) ?_
                  refine lx_end ?_
                  refine norm_then ?_
                  exact at_meet hC_cut_17 ⟨vb (by simp only [touchNo, *, Bool.not_true, Bool.not_false, Bool.true_and, Bool.false_and, Bool.and_false, Bool.and_true]), rfl, rfl, rfl, rfl, rfl, rfl, rfl, rfl, rfl, rfl, rfl, rfl, rfl, rfl, rfl, rfl, rfl, rfl, rfl, rfl, rfl, rfl, rfl, rfl, rfl, rfl, rfl, rfl, rfl, rfl, rfl, rfl, rfl, rfl, rfl, rfl, rfl, rfl, rfl, rfl, rfl, rfl, rfl, trivial⟩ (fun _ h => h.upto ⟨rfl, rfl, trivial⟩)
              · refine at_envE (by simp only [List.nil_append, List.cons_append]; rfl) ?_
                refine at_cond rfl (fun c7 => ?_) (fun c7 => ?_)
                · try simp only [decide_eq_true_eq, decide_eq_false_iff_not, beq_iff_eq, beq_eq_false_iff_ne, Bool.not_eq_true', Bool.not_eq_false', Bool.not_true, Bool.not_false, Int.not_lt, Int.not_le, ne_eq, Nat.not_lt, Nat.not_le] at c7
                  refine at_seq ?_
                  refine at_region ?_
                  refine at_q rfl rfl (by decide) (qt_assign rfl rfl) ?_
                  refine at_end ?_
                  refine at_retc ?_
                  refine pass_ret ?_
                  refine pass_ret ?_
                  refine then_ret ?_
                  refine then_ret ?_
                  refine pass_ret ?_
                  refine pass_ret ?_
                  refine then_ret ?_
                  refine then_ret ?_
                  refine pass_ret ?_
                  refine then_ret ?_
                  refine at_ret1 rfl (.tmp rfl) ?_
                  intro w' hs
                  exact ⟨retB (by rw [eB]; exact snapAll_no hlt hkt (by rw [← epl, ps_touch c4 c6, c7]; rfl)), hs.fin⟩
                · try simp only [decide_eq_true_eq, decide_eq_false_iff_not, beq_iff_eq, beq_eq_false_iff_ne, Bool.not_eq_true', Bool.not_eq_false', Bool.not_true, Bool.not_false, Int.not_lt, Int.not_le, ne_eq, Nat.not_lt, Nat.not_le] at c7
                  refine at_skip ?_
                  refine norm_block ?_
                  refine norm_block ?_
                  refine norm_then ?_
                  refine at_region ?_
                  refine at_q rfl rfl (by decide) (qt_move rfl rfl) ?_
                  refine at_q rfl rfl (by decide) (qt_add rfl rfl rfl (by omega) (by omega)) ?_
                  refine at_q rfl rfl (by decide) (qt_assign rfl rfl) ?_
                  refine at_end ?_
                  exact at_againc hL2 (k + 1) (⟨by omega, lt_succ_all hk.2 (by rw [← epl, ps_touch c4 c6, c7]; rfl)⟩) (by omega) ⟨vi (by omega), rfl, rfl, rfl, rfl, rfl, rfl, rfl, trivial⟩ (fun _ h => h.upto ⟨rfl, rfl, trivial⟩)
            · try simp only [decide_eq_true_eq, decide_eq_false_iff_not, beq_iff_eq, beq_eq_false_iff_ne, Bool.not_eq_true', Bool.not_eq_false', Bool.not_true, Bool.not_false, Int.not_lt, Int.not_le, ne_eq, Nat.not_lt, Nat.not_le] at c6
              refine at_seq ?_
              refine at_region ?_
              refine at_q rfl rfl (by decide) (qt_eql rfl rfl rfl) ?_
              refine at_q rfl rfl (by decide) (qt_assign rfl rfl) ?_
              refine at_end ?_
              refine at_cond rfl (fun c8 => ?_) (fun c8 => ?_)
              · try simp only [decide_eq_true_eq, decide_eq_false_iff_not, beq_iff_eq, beq_eq_false_iff_ne, Bool.not_eq_true', Bool.not_eq_false', Bool.not_true, Bool.not_false, Int.not_lt, Int.not_le, ne_eq, Nat.not_lt, Nat.not_le] at c8
                refine at_cutE [(139, .bool (lapNo (lg ls i) (lg ls k)))] (C := [(2, _), (3, _), (4, _), (11, _), (12, _), (13, _), (14, _), (5, _), (17, _), (18, _), (19, _), (22, _), (23, _), (24, _), (6, _), (25, _), (26, _), (27, _), (7, _), (28, _), (29, _), (30, _), (31, _), (32, _), (33, _), (34, _), (35, _), (36, _), (37, _), (38, _), (39, _), (40, _), (41, _), (42, _), (43, _), (44, _), (45, _), (46, _), (47, _), (49, _), (48, _), (51, _), (50, _), (95, _), (94, _)])  ⟨rfl, rfl, rfl, rfl, rfl, rfl, rfl, rfl, rfl, rfl, rfl, rfl, rfl, rfl, rfl, rfl, rfl, rfl, rfl, rfl, rfl, rfl, rfl, rfl, rfl, rfl, rfl, rfl, rfl, rfl, rfl, rfl, rfl, rfl, rfl, rfl, rfl, rfl, rfl, rfl, rfl, rfl, rfl, rfl, rfl, trivial⟩ (fun L hC_cut_20 => ?_) ?_
                · refine lx_start mixed (by kernel_rfl) (fun _ _ d _ _ h => by cases d <;> exact h) ?_
                  refine lx_q rfl rfl (by decide) (qt_move rfl rfl) ?_
                  refine lx_q rfl rfl (by decide) (qt_nilCheck rfl rfl) ?_
                  refine lx_q rfl rfl (by decide) (qt_fieldAddr rfl rfl tyf_spec_l13Edge_0) ?_
                  refine lx_q rfl rfl (by decide) (qt_loadS rfl rfl tys_impl_Pt rfl (by first | exact rdLegA (b := eg) (o := 0) (j := i) (fun w' hs => rowLegs (k := 1) rfl rfl w' hs) hlt | exact rdLegB (b := eg) (o := 0) (j := i) (fun w' hs => rowLegs (k := 1) rfl rfl w' hs) hlt | exact rdLegA (b := eg) (o := 0) (j := k) (fun w' hs => rowLegs (k := 1) rfl rfl w' hs) hkl | exact rdLegB (b := eg) (o := 0) (j := k) (fun w' hs => rowLegs (k := 1) rfl rfl w' hs) hkl)) ?_
                  refine lx_q rfl rfl (by decide) (qt_move rfl rfl) ?_
                  refine lx_q rfl rfl (by decide) (qt_nilCheck rfl rfl) ?_
                  refine lx_q rfl rfl (by decide) (qt_fieldAddr rfl rfl tyf_spec_l13Edge_0) ?_
                  refine lx_q rfl rfl (by decide) (qt_loadS rfl rfl tys_impl_Pt rfl (by first | exact rdLegA (b := eg) (o := 0) (j := i) (fun w' hs => rowLegs (k := 1) rfl rfl w' hs) hlt | exact rdLegB (b := eg) (o := 0) (j := i) (fun w' hs => rowLegs (k := 1) rfl rfl w' hs) hlt | exact rdLegA (b := eg) (o := 0) (j := k) (fun w' hs => rowLegs (k := 1) rfl rfl w' hs) hkl | exact rdLegB (b := eg) (o := 0) (j := k) (fun w' hs => rowLegs (k := 1) rfl rfl w' hs) hkl)) ?_
                  refine lx_q rfl rfl (by decide) (qt_eqlS_impl_Pt rfl rfl rfl) ?_
                  refine lx_q rfl rfl (by decide) (qt_move rfl rfl) ?_
                  refine lx_bsplit 105 rfl (fun g4 => ?_) (fun g4 => ?_)
                  · try simp only [decide_eq_true_eq, decide_eq_false_iff_not, beq_iff_eq, beq_eq_false_iff_ne, Bool.not_eq_true', Bool.not_eq_false', Bool.not_true, Bool.not_false, Int.not_lt, Int.not_le, ne_eq, Nat.not_lt, Nat.not_le] at g4
                    refine lx_qg rfl rfl rfl rfl rfl (by decide) (qt_move rfl rfl) ?_
                    refine lx_qg rfl rfl rfl rfl rfl (by decide) (qt_nilCheck rfl rfl) ?_
                    refine lx_qg rfl rfl rfl rfl rfl (by decide) (qt_fieldAddr rfl rfl tyf_spec_l13Edge_1) ?_
                    refine lx_qg rfl rfl rfl rfl rfl (by decide) (qt_loadS rfl rfl tys_impl_Pt rfl (by first | exact rdLegA (b := eg) (o := 0) (j := i) (fun w' hs => rowLegs (k := 1) rfl rfl w' hs) hlt | exact rdLegB (b := eg) (o := 0) (j := i) (fun w' hs => rowLegs (k := 1) rfl rfl w' hs) hlt | exact rdLegA (b := eg) (o := 0) (j := k) (fun w' hs => rowLegs (k := 1) rfl rfl w' hs) hkl | exact rdLegB (b := eg) (o := 0) (j := k) (fun w' hs => rowLegs (k := 1) rfl rfl w' hs) hkl)) ?_
                    refine lx_qg rfl rfl rfl rfl rfl (by decide) (qt_move rfl rfl) ?_
                    refine lx_qg rfl rfl rfl rfl rfl (by decide) (qt_nilCheck rfl rfl) ?_
                    refine lx_qg rfl rfl rfl rfl rfl (by decide) (qt_fieldAddr rfl rfl tyf_spec_l13Edge_1) ?_
                    refine lx_qg rfl rfl rfl rfl rfl (by decide) (qt_loadS rfl rfl tys_impl_Pt rfl (by first | exact rdLegA (b := eg) (o := 0) (j := i) (fun w' hs => rowLegs (k := 1) rfl rfl w' hs) hlt | exact rdLegB (b := eg) (o := 0) (j := i) (fun w' hs => rowLegs (k := 1) rfl rfl w' hs) hlt | exact rdLegA (b := eg) (o := 0) (j := k) (fun w' hs => rowLegs (k := 1) rfl rfl w' hs) hkl | exact rdLegB (b := eg) (o := 0) (j := k) (fun w' hs => rowLegs (k := 1) rfl rfl w' hs) hkl)) ?_
                    refine lx_qg rfl rfl rfl rfl rfl (by decide) (qt_eqlS_impl_Pt rfl rfl rfl) ?_
                    refine lx_q rfl rfl (by decide) (qt_pickT rfl rfl rfl) ?_
                    refine lx_q rfl rfl (by decide) (qt_not rfl rfl) ?_
                    refine lx_q rfl rfl (by decide) (qt_move rfl rfl) ?_
                    refine lx_bsplit 117 rfl (fun g5 => ?_) (fun g5 => ?_)
                    · try simp only [decide_eq_true_eq, decide_eq_false_iff_not, beq_iff_eq, beq_eq_false_iff_ne, Bool.not_eq_true', Bool.not_eq_false', Bool.not_true, Bool.not_false, Int.not_lt, Int.not_le, ne_eq, Nat.not_lt, Nat.not_le] at g5
                      refine lx_qg rfl rfl rfl rfl rfl (by decide) (qt_move rfl rfl) ?_
                      refine lx_qg rfl rfl rfl rfl rfl (by decide) (qt_nilCheck rfl rfl) ?_
                      refine lx_qg rfl rfl rfl rfl rfl (by decide) (qt_fieldAddr rfl rfl tyf_spec_l13Edge_0) ?_
                      refine lx_qg rfl rfl rfl rfl rfl (by decide) (qt_loadS rfl rfl tys_impl_Pt rfl (by first | exact rdLegA (b := eg) (o := 0) (j := i) (fun w' hs => rowLegs (k := 1) rfl rfl w' hs) hlt | exact rdLegB (b := eg) (o := 0) (j := i) (fun w' hs => rowLegs (k := 1) rfl rfl w' hs) hlt | exact rdLegA (b := eg) (o := 0) (j := k) (fun w' hs => rowLegs (k := 1) rfl rfl w' hs) hkl | exact rdLegB (b := eg) (o := 0) (j := k) (fun w' hs => rowLegs (k := 1) rfl rfl w' hs) hkl)) ?_
                      refine lx_qg rfl rfl rfl rfl rfl (by decide) (qt_move rfl rfl) ?_
                      refine lx_qg rfl rfl rfl rfl rfl (by decide) (qt_nilCheck rfl rfl) ?_
                      refine lx_qg rfl rfl rfl rfl rfl (by decide) (qt_fieldAddr rfl rfl tyf_spec_l13Edge_1) ?_
                      refine lx_qg rfl rfl rfl rfl rfl (by decide) (qt_loadS rfl rfl tys_impl_Pt rfl (by first | exact rdLegA (b := eg) (o := 0) (j := i) (fun w' hs => rowLegs (k := 1) rfl rfl w' hs) hlt | exact rdLegB (b := eg) (o := 0) (j := i) (fun w' hs => rowLegs (k := 1) rfl rfl w' hs) hlt | exact rdLegA (b := eg) (o := 0) (j := k) (fun w' hs => rowLegs (k := 1) rfl rfl w' hs) hkl | exact rdLegB (b := eg) (o := 0) (j := k) (fun w' hs => rowLegs (k := 1) rfl rfl w' hs) hkl)) ?_
                      refine lx_qg rfl rfl rfl rfl rfl (by decide) (qt_eqlS_impl_Pt rfl rfl rfl) ?_
                      refine lx_qg rfl rfl rfl rfl rfl (by decide) (qt_move rfl rfl) ?_
                      refine lx_bsplit 127 rfl (fun g6 => ?_) (fun g6 => ?_)
                      · try simp only [decide_eq_true_eq, decide_eq_false_iff_not, beq_iff_eq, beq_eq_false_iff_ne, Bool.not_eq_true', Bool.not_eq_false', Bool.not_true, Bool.not_false, Int.not_lt, Int.not_le, ne_eq, Nat.not_lt, Nat.not_le] at g6
                        refine lx_qg rfl rfl rfl rfl rfl (by decide) (qt_move rfl rfl) ?_
                        refine lx_qg rfl rfl rfl rfl rfl (by decide) (qt_nilCheck rfl rfl) ?_
                        refine lx_qg rfl rfl rfl rfl rfl (by decide) (qt_fieldAddr rfl rfl tyf_spec_l13Edge_1) ?_
                        refine lx_qg rfl rfl rfl rfl rfl (by decide) (qt_loadS rfl rfl tys_impl_Pt rfl (by first | exact rdLegA (b := eg) (o := 0) (j := i) (fun w' hs => rowLegs (k := 1) rfl rfl w' hs) hlt | exact rdLegB (b := eg) (o := 0) (j := i) (fun w' hs => rowLegs (k := 1) rfl rfl w' hs) hlt | exact rdLegA (b := eg) (o := 0) (j := k) (fun w' hs => rowLegs (k := 1) rfl rfl w' hs) hkl | exact rdLegB (b := eg) (o := 0) (j := k) (fun w' hs => rowLegs (k := 1) rfl rfl w' hs) hkl)) ?_
                        refine lx_qg rfl rfl rfl rfl rfl (by decide) (qt_move rfl rfl) ?_
                        refine lx_qg rfl rfl rfl rfl rfl (by decide) (qt_nilCheck rfl rfl) ?_
                        refine lx_qg rfl rfl rfl rfl rfl (by decide) (qt_fieldAddr rfl rfl tyf_spec_l13Edge_0) ?_
                        refine lx_qg rfl rfl rfl rfl rfl (by decide) (qt_loadS rfl rfl tys_impl_Pt rfl (by first | exact rdLegA (b := eg) (o := 0) (j := i) (fun w' hs => rowLegs (k := 1) rfl rfl w' hs) hlt | exact rdLegB (b := eg) (o := 0) (j := i) (fun w' hs => rowLegs (k := 1) rfl rfl w' hs) hlt | exact rdLegA (b := eg) (o := 0) (j := k) (fun w' hs => rowLegs (k := 1) rfl rfl w' hs) hkl | exact rdLegB (b := eg) (o := 0) (j := k) (fun w' hs => rowLegs (k := 1) rfl rfl w' hs) hkl)) ?_
                        refine lx_qg rfl rfl rfl rfl rfl (by decide) (qt_eqlS_impl_Pt rfl rfl rfl) ?_
                        refine lx_qg rfl rfl rfl rfl rfl (by decide) (qt_pickT rfl rfl rfl) ?_
                        refine lx_qg rfl rfl rfl rfl rfl (by decide) (qt_not rfl rfl) ?_
                        refine lx_q rfl rfl (by decide) (qt_pickT rfl rfl rfl) ?_
                        refine lx_end ?_
                        refine norm_then ?_
                        exact at_meet hC_cut_20 ⟨vb (by simp only [lapNo, *, Bool.not_true, Bool.not_false, Bool.true_and, Bool.false_and, Bool.and_false, Bool.and_true]), rfl, rfl, rfl, rfl, rfl, rfl, rfl, rfl, rfl, rfl, rfl, rfl, rfl, rfl, rfl, rfl, rfl, rfl, rfl, rfl, rfl, rfl, rfl, rfl, rfl, rfl, rfl, rfl, rfl, rfl, rfl, rfl, rfl, rfl, rfl, rfl, rfl, rfl, rfl, rfl, rfl, rfl, rfl, rfl, rfl, trivial⟩ (fun _ h => h.upto ⟨rfl, rfl, trivial⟩)
                      · try simp only [decide_eq_true_eq, decide_eq_false_iff_not, beq_iff_eq, beq_eq_false_iff_ne, Bool.not_eq_true', Bool.not_eq_false', Bool.not_true, Bool.not_false, Int.not_lt, Int.not_le, ne_eq, Nat.not_lt, Nat.not_le] at g6
                        refine lx_off rfl rfl rfl rfl (by decide) rfl (by decide) ?_
                        refine lx_off rfl rfl rfl rfl (by decide) rfl (by decide) ?_
                        refine lx_off rfl rfl rfl rfl (by decide) rfl (by decide) ?_
                        refine lx_off rfl rfl rfl rfl (by decide) rfl (by decide) ?_
                        refine lx_off rfl rfl rfl rfl (by decide) rfl (by decide) ?_
                        refine lx_off rfl rfl rfl rfl (by decide) rfl (by decide) ?_
                        refine lx_off rfl rfl rfl rfl (by decide) rfl (by decide) ?_
                        refine lx_off rfl rfl rfl rfl (by decide) rfl (by decide) ?_
                        refine lx_off rfl rfl rfl rfl (by decide) rfl (by decide) ?_
                        refine lx_qg rfl rfl rfl rfl rfl (by decide) (qt_pickF rfl rfl rfl) ?_
                        refine lx_qg rfl rfl rfl rfl rfl (by decide) (qt_not rfl rfl) ?_
                        refine lx_q rfl rfl (by decide) (qt_pickT rfl rfl rfl) ?_
                        refine lx_end ?_
                        refine norm_then ?_
                        exact at_meet hC_cut_20 ⟨vb (by simp only [lapNo, *, Bool.not_true, Bool.not_false, Bool.true_and, Bool.false_and, Bool.and_false, Bool.and_true]), rfl, rfl, rfl, rfl, rfl, rfl, rfl, rfl, rfl, rfl, rfl, rfl, rfl, rfl, rfl, rfl, rfl, rfl, rfl, rfl, rfl, rfl, rfl, rfl, rfl, rfl, rfl, rfl, rfl, rfl, rfl, rfl, rfl, rfl, rfl, rfl, rfl, rfl, rfl, rfl, rfl, rfl, rfl, rfl, rfl, trivial⟩ (fun _ h => h.upto ⟨rfl, rfl, trivial⟩)
                    · try simp only [decide_eq_true_eq, decide_eq_false_iff_not, beq_iff_eq, beq_eq_false_iff_ne, Bool.not_eq_true', Bool.not_eq_false', Bool.not_true, Bool.not_false, Int.not_lt, Int.not_le, ne_eq, Nat.not_lt, Nat.not_le] at g5
                      refine lx_off rfl rfl rfl rfl (by decide) rfl (by decide) ?_
                      refine lx_off rfl rfl rfl rfl (by decide) rfl (by decide) ?_
                      refine lx_off rfl rfl rfl rfl (by decide) rfl (by decide) ?_
                      refine lx_off rfl rfl rfl rfl (by decide) rfl (by decide) ?_
                      refine lx_off rfl rfl rfl rfl (by decide) rfl (by decide) ?_
                      refine lx_off rfl rfl rfl rfl (by decide) rfl (by decide) ?_
                      refine lx_off rfl rfl rfl rfl (by decide) rfl (by decide) ?_
                      refine lx_off rfl rfl rfl rfl (by decide) rfl (by decide) ?_
                      refine lx_off rfl rfl rfl rfl (by decide) rfl (by decide) ?_
                      refine lx_off rfl rfl rfl rfl (by decide) rfl (by decide) ?_
                      refine lx_offu rfl rfl rfl rfl rfl (by decide) ?_
                      refine lx_offu rfl rfl rfl rfl rfl (by decide) ?_
                      refine lx_offu rfl rfl rfl rfl rfl (by decide) ?_
                      refine lx_offu rfl rfl rfl rfl rfl (by decide) ?_
                      refine lx_offu rfl rfl rfl rfl rfl (by decide) ?_
                      refine lx_offu rfl rfl rfl rfl rfl (by decide) ?_
                      refine lx_offu rfl rfl rfl rfl rfl (by decide) ?_
                      refine lx_offu rfl rfl rfl rfl rfl (by decide) ?_
                      refine lx_offu rfl rfl rfl rfl rfl (by decide) ?_
                      refine lx_off rfl rfl rfl rfl (by decide) rfl (by decide) ?_
                      refine lx_off rfl rfl rfl rfl (by decide) rfl (by decide) ?_
                      refine lx_q rfl rfl (by decide) (qt_pickF rfl rfl rfl) ?_
                      refine lx_end ?_
                      refine norm_then ?_
                      exact at_meet hC_cut_20 ⟨vb (by simp only [lapNo, *, Bool.not_true, Bool.not_false, Bool.true_and, Bool.false_and, Bool.and_false, Bool.and_true]), rfl, rfl, rfl, rfl, rfl, rfl, rfl, rfl, rfl, rfl, rfl, rfl, rfl, rfl, rfl, rfl, rfl, rfl, rfl, rfl, rfl, rfl, rfl, rfl, rfl, rfl, rfl, rfl, rfl, rfl, rfl, rfl, rfl, rfl, rfl, rfl, rfl, rfl, rfl, rfl, rfl, rfl, rfl, rfl, rfl, trivial⟩ (fun _ h => h.upto ⟨rfl, rfl, trivial⟩)
                  · try simp only [decide_eq_true_eq, decide_eq_false_iff_not, beq_iff_eq, beq_eq_false_iff_ne, Bool.not_eq_true', Bool.not_eq_false', Bool.not_true, Bool.not_false, Int.not_lt, Int.not_le, ne_eq, Nat.not_lt, Nat.not_le] at g4
                    refine lx_off rfl rfl rfl rfl (by decide) rfl (by decide) ?_
                    refine lx_off rfl rfl rfl rfl (by decide) rfl (by decide) ?_
                    refine lx_off rfl rfl rfl rfl (by decide) rfl (by decide) ?_
                    refine lx_off rfl rfl rfl rfl (by decide) rfl (by decide) ?_
                    refine lx_off rfl rfl rfl rfl (by decide) rfl (by decide) ?_
                    refine lx_off rfl rfl rfl rfl (by decide) rfl (by decide) ?_
                    refine lx_off rfl rfl rfl rfl (by decide) rfl (by decide) ?_
                    refine lx_off rfl rfl rfl rfl (by decide) rfl (by decide) ?_
                    refine lx_off rfl rfl rfl rfl (by decide) rfl (by decide) ?_
                    refine lx_q rfl rfl (by decide) (qt_pickF rfl rfl rfl) ?_
                    refine lx_q rfl rfl (by decide) (qt_not rfl rfl) ?_
                    refine lx_q rfl rfl (by decide) (qt_move rfl rfl) ?_
                    refine lx_qg rfl rfl rfl rfl rfl (by decide) (qt_move rfl rfl) ?_
                    refine lx_qg rfl rfl rfl rfl rfl (by decide) (qt_nilCheck rfl rfl) ?_
                    refine lx_qg rfl rfl rfl rfl rfl (by decide) (qt_fieldAddr rfl rfl tyf_spec_l13Edge_0) ?_
                    refine lx_qg rfl rfl rfl rfl rfl (by decide) (qt_loadS rfl rfl tys_impl_Pt rfl (by first | exact rdLegA (b := eg) (o := 0) (j := i) (fun w' hs => rowLegs (k := 1) rfl rfl w' hs) hlt | exact rdLegB (b := eg) (o := 0) (j := i) (fun w' hs => rowLegs (k := 1) rfl rfl w' hs) hlt | exact rdLegA (b := eg) (o := 0) (j := k) (fun w' hs => rowLegs (k := 1) rfl rfl w' hs) hkl | exact rdLegB (b := eg) (o := 0) (j := k) (fun w' hs => rowLegs (k := 1) rfl rfl w' hs) hkl)) ?_
                    refine lx_qg rfl rfl rfl rfl rfl (by decide) (qt_move rfl rfl) ?_
                    refine lx_qg rfl rfl rfl rfl rfl (by decide) (qt_nilCheck rfl rfl) ?_
                    refine lx_qg rfl rfl rfl rfl rfl (by decide) (qt_fieldAddr rfl rfl tyf_spec_l13Edge_1) ?_
                    refine lx_qg rfl rfl rfl rfl rfl (by decide) (qt_loadS rfl rfl tys_impl_Pt rfl (by first | exact rdLegA (b := eg) (o := 0) (j := i) (fun w' hs => rowLegs (k := 1) rfl rfl w' hs) hlt | exact rdLegB (b := eg) (o := 0) (j := i) (fun w' hs => rowLegs (k := 1) rfl rfl w' hs) hlt | exact rdLegA (b := eg) (o := 0) (j := k) (fun w' hs => rowLegs (k := 1) rfl rfl w' hs) hkl | exact rdLegB (b := eg) (o := 0) (j := k) (fun w' hs => rowLegs (k := 1) rfl rfl w' hs) hkl)) ?_
                    refine lx_qg rfl rfl rfl rfl rfl (by decide) (qt_eqlS_impl_Pt rfl rfl rfl) ?_
                    refine lx_qg rfl rfl rfl rfl rfl (by decide) (qt_move rfl rfl) ?_
                    refine lx_bsplit 127 rfl (fun g7 => ?_) (fun g7 => ?_)
                    · try simp only [decide_eq_true_eq, decide_eq_false_iff_not, beq_iff_eq, beq_eq_false_iff_ne, Bool.not_eq_true', Bool.not_eq_false', Bool.not_true, Bool.not_false, Int.not_lt, Int.not_le, ne_eq, Nat.not_lt, Nat.not_le] at g7
                      refine lx_qg rfl rfl rfl rfl rfl (by decide) (qt_move rfl rfl) ?_
                      refine lx_qg rfl rfl rfl rfl rfl (by decide) (qt_nilCheck rfl rfl) ?_
                      refine lx_qg rfl rfl rfl rfl rfl (by decide) (qt_fieldAddr rfl rfl tyf_spec_l13Edge_1) ?_
                      refine lx_qg rfl rfl rfl rfl rfl (by decide) (qt_loadS rfl rfl tys_impl_Pt rfl (by first | exact rdLegA (b := eg) (o := 0) (j := i) (fun w' hs => rowLegs (k := 1) rfl rfl w' hs) hlt | exact rdLegB (b := eg) (o := 0) (j := i) (fun w' hs => rowLegs (k := 1) rfl rfl w' hs) hlt | exact rdLegA (b := eg) (o := 0) (j := k) (fun w' hs => rowLegs (k := 1) rfl rfl w' hs) hkl | exact rdLegB (b := eg) (o := 0) (j := k) (fun w' hs => rowLegs (k := 1) rfl rfl w' hs) hkl)) ?_
                      refine lx_qg rfl rfl rfl rfl rfl (by decide) (qt_move rfl rfl) ?_
                      refine lx_qg rfl rfl rfl rfl rfl (by decide) (qt_nilCheck rfl rfl) ?_
                      refine lx_qg rfl rfl rfl rfl rfl (by decide) (qt_fieldAddr rfl rfl tyf_spec_l13Edge_0) ?_
                      refine lx_qg rfl rfl rfl rfl rfl (by decide) (qt_loadS rfl rfl tys_impl_Pt rfl (by first | exact rdLegA (b := eg) (o := 0) (j := i) (fun w' hs => rowLegs (k := 1) rfl rfl w' hs) hlt | exact rdLegB (b := eg) (o := 0) (j := i) (fun w' hs => rowLegs (k := 1) rfl rfl w' hs) hlt | exact rdLegA (b := eg) (o := 0) (j := k) (fun w' hs => rowLegs (k := 1) rfl rfl w' hs) hkl | exact rdLegB (b := eg) (o := 0) (j := k) (fun w' hs => rowLegs (k := 1) rfl rfl w' hs) hkl)) ?_
                      refine lx_qg rfl rfl rfl rfl rfl (by decide) (qt_eqlS_impl_Pt rfl rfl rfl) ?_
                      refine lx_qg rfl rfl rfl rfl rfl (by decide) (qt_pickT rfl rfl rfl) ?_
                      refine lx_qg rfl rfl rfl rfl rfl (by decide) (qt_not rfl rfl) ?_
                      refine lx_q rfl rfl (by decide) (qt_pickT rfl rfl rfl) ?_
                      refine lx_end ?_
                      refine norm_then ?_
                      exact at_meet hC_cut_20 ⟨vb (by simp only [lapNo, *, Bool.not_true, Bool.not_false, Bool.true_and, Bool.false_and, Bool.and_false, Bool.and_true]), rfl, rfl, rfl, rfl, rfl, rfl, rfl, rfl, rfl, rfl, rfl, rfl, rfl, rfl, rfl, rfl, rfl, rfl, rfl, rfl, rfl, rfl, rfl, rfl, rfl, rfl, rfl, rfl, rfl, rfl, rfl, rfl, rfl, rfl, rfl, rfl, rfl, rfl, rfl, rfl, rfl, rfl, rfl, rfl, rfl, trivial⟩ (fun _ h => h.upto ⟨rfl, rfl, trivial⟩)
                    · try simp only [decide_eq_true_eq, decide_eq_false_iff_not, beq_iff_eq, beq_eq_false_iff_ne, Bool.not_eq_true', Bool.not_eq_false', Bool.not_true, Bool.not_false, Int.not_lt, Int.not_le, ne_eq, Nat.not_lt, Nat.not_le] at g7
                      refine lx_off rfl rfl rfl rfl (by decide) rfl (by decide) ?_
                      refine lx_off rfl rfl rfl rfl (by decide) rfl (by decide) ?_
                      refine lx_off rfl rfl rfl rfl (by decide) rfl (by decide) ?_
                      refine lx_off rfl rfl rfl rfl (by decide) rfl (by decide) ?_
                      refine lx_off rfl rfl rfl rfl (by decide) rfl (by decide) ?_
                      refine lx_off rfl rfl rfl rfl (by decide) rfl (by decide) ?_
                      refine lx_off rfl rfl rfl rfl (by decide) rfl (by decide) ?_
                      refine lx_off rfl rfl rfl rfl (by decide) rfl (by decide) ?_
                      refine lx_off rfl rfl rfl rfl (by decide) rfl (by decide) ?_
                      refine lx_qg rfl rfl rfl rfl rfl (by decide) (qt_pickF rfl rfl rfl) ?_
                      refine lx_qg rfl rfl rfl rfl rfl (by decide) (qt_not rfl rfl) ?_
                      refine lx_q rfl rfl (by decide) (qt_pickT rfl rfl rfl) ?_
                      refine lx_end ?_
                      refine norm_then ?_
                      exact at_meet hC_cut_20 ⟨vb (by simp only [lapNo, *, Bool.not_true, Bool.not_false, Bool.true_and, Bool.false_and, Bool.and_false, Bool.and_true]), rfl, rfl, rfl, rfl, rfl, rfl, rfl, rfl, rfl, rfl, rfl, rfl, rfl, rfl, rfl, rfl, rfl, rfl, rfl, rfl, rfl, rfl, rfl, rfl, rfl, rfl, rfl, rfl, rfl, rfl, rfl, rfl, rfl, rfl, rfl, rfl, rfl, rfl, rfl, rfl, rfl, rfl, rfl, rfl, rfl, trivial⟩ (fun _ h => h.upto ⟨rfl, rfl, trivial⟩)
                · refine at_envE (by simp only [List.nil_append, List.cons_append]; rfl) ?_
                  refine at_cond rfl (fun c9 => ?_) (fun c9 => ?_)
                  · try simp only [decide_eq_true_eq, decide_eq_false_iff_not, beq_iff_eq, beq_eq_false_iff_ne, Bool.not_eq_true', Bool.not_eq_false', Bool.not_true, Bool.not_false, Int.not_lt, Int.not_le, ne_eq, Nat.not_lt, Nat.not_le] at c9
                    refine at_seq ?_
                    refine at_region ?_
                    refine at_q rfl rfl (by decide) (qt_assign rfl rfl) ?_
                    refine at_end ?_
                    refine at_retc ?_
                    refine pass_ret ?_
                    refine pass_ret ?_
                    refine then_ret ?_
                    refine then_ret ?_
                    refine pass_ret ?_
                    refine pass_ret ?_
                    refine then_ret ?_
                    refine then_ret ?_
                    refine pass_ret ?_
                    refine then_ret ?_
                    refine at_ret1 rfl (.tmp rfl) ?_
                    intro w' hs
                    exact ⟨retB (by rw [eB]; exact snapAll_no hlt hkt (by rw [← epl, ps_lap c4 c8, c9]; rfl)), hs.fin⟩
                  · try simp only [decide_eq_true_eq, decide_eq_false_iff_not, beq_iff_eq, beq_eq_false_iff_ne, Bool.not_eq_true', Bool.not_eq_false', Bool.not_true, Bool.not_false, Int.not_lt, Int.not_le, ne_eq, Nat.not_lt, Nat.not_le] at c9
                    refine at_skip ?_
                    refine norm_block ?_
                    refine norm_block ?_
                    refine norm_then ?_
                    refine at_region ?_
                    refine at_q rfl rfl (by decide) (qt_move rfl rfl) ?_
                    refine at_q rfl rfl (by decide) (qt_add rfl rfl rfl (by omega) (by omega)) ?_
                    refine at_q rfl rfl (by decide) (qt_assign rfl rfl) ?_
                    refine at_end ?_
                    exact at_againc hL2 (k + 1) (⟨by omega, lt_succ_all hk.2 (by rw [← epl, ps_lap c4 c8, c9]; rfl)⟩) (by omega) ⟨vi (by omega), rfl, rfl, rfl, rfl, rfl, rfl, rfl, trivial⟩ (fun _ h => h.upto ⟨rfl, rfl, trivial⟩)
              · try simp only [decide_eq_true_eq, decide_eq_false_iff_not, beq_iff_eq, beq_eq_false_iff_ne, Bool.not_eq_true', Bool.not_eq_false', Bool.not_true, Bool.not_false, Int.not_lt, Int.not_le, ne_eq, Nat.not_lt, Nat.not_le] at c8
                refine at_skip ?_
                refine norm_block ?_
                refine norm_block ?_
                refine norm_then ?_
                refine at_region ?_
                refine at_q rfl rfl (by decide) (qt_move rfl rfl) ?_
                refine at_q rfl rfl (by decide) (qt_add rfl rfl rfl (by omega) (by omega)) ?_
                refine at_q rfl rfl (by decide) (qt_assign rfl rfl) ?_
                refine at_end ?_
                exact at_againc hL2 (k + 1) (⟨by omega, lt_succ_all hk.2 (by rw [← epl, ps_none c4 c5 c6 c8])⟩) (by omega) ⟨vi (by omega), rfl, rfl, rfl, rfl, rfl, rfl, rfl, trivial⟩ (fun _ h => h.upto ⟨rfl, rfl, trivial⟩)
      · try simp only [decide_eq_true_eq, decide_eq_false_iff_not, beq_iff_eq, beq_eq_false_iff_ne, Bool.not_eq_true', Bool.not_eq_false', Bool.not_true, Bool.not_false, Int.not_lt, Int.not_le, ne_eq, Nat.not_lt, Nat.not_le] at c3
        refine at_exit ?_
        refine pass_then (fun h => by cases h) ?_
        refine pass_then (fun h => by cases h) ?_
        refine pass_hit ?_
        refine norm_block ?_
        refine norm_then ?_
        refine at_region ?_
        refine at_q rfl rfl (by decide) (qt_move rfl rfl) ?_
        refine at_q rfl rfl (by decide) (qt_add rfl rfl rfl (by omega) (by omega)) ?_
        refine at_q rfl rfl (by decide) (qt_assign rfl rfl) ?_
        refine at_end ?_
        exact at_againc hL1 (i + 1) (⟨by omega, lt_succ_all (P := fun q => ∀ k, k < q → pairL (lg ls q) (lg ls k) = true) hi.2 (fun p hp => hk.2 p (by omega))⟩) (by omega) ⟨vi (by omega), rfl, rfl, trivial⟩ (fun _ h => h.upto ⟨rfl, rfl, trivial⟩)
    · try simp only [decide_eq_true_eq, decide_eq_false_iff_not, beq_iff_eq, beq_eq_false_iff_ne, Bool.not_eq_true', Bool.not_eq_false', Bool.not_true, Bool.not_false, Int.not_lt, Int.not_le, ne_eq, Nat.not_lt, Nat.not_le] at c2
      refine at_exit ?_
      refine pass_then (fun h => by cases h) ?_
      refine pass_then (fun h => by cases h) ?_
      refine pass_hit ?_
      refine norm_then ?_
      refine at_seq ?_
      refine at_region ?_
      refine at_q rfl rfl (by decide) (qt_assign rfl rfl) ?_
      refine at_end ?_
      refine at_retc ?_
      refine at_ret1 rfl (.tmp rfl) ?_
      intro w' hs
      exact ⟨retB (by rw [eB]; exact snapAll_yes fun q hq => hi.2 q (by omega)), hs.fin⟩
end Go.Proofs.Ytakdjgldcpompaa
