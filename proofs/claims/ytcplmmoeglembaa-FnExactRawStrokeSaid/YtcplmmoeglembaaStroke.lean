/- Strokes: legs of paths, points in strokes, raw strokes; both sides. -/
import Derived.Test.YtcplmmoeglembaaSweep
import Derived.Test.YtcplmmoeglembaaJoin
namespace Go.Proofs.Ytcplmmoeglembaa
open Go Go.RowKit
set_option linter.unusedVariables false
set_option linter.unusedSimpArgs false
set_option maxRecDepth 100000
set_option maxHeartbeats 4000000
set_option linter.unusedVariables false
set_option linter.unusedSimpArgs false

theorem at_rowLit {n : Nat} {env : List (Nat × Value)} {w0 : Bs} {Rs : List Res} {K : Act → World → Prop} (k s m : Nat) (hX : w0.X = []) {b U : Nat} {cs : List Value} (hk : Rs[k]? = some (.cel b U cs)) (hl : cs.length = m * s) (hm : m ≤ maxLen) (h : At n env w0 (Rs.set k (.row w0.N U s (.slice (some ⟨b, 0, none⟩) m m) m cs)) K) : At n env w0 Rs K := fun a w hf hs => by
  have hlow : w0.N ≤ b := ((hs.all k _ hk).2.1 b rfl).elim id (fun h => by rw [hX] at h; cases h)
  refine h a w hf (hs.chg hk (fun hP => ?_) (fun c hc => ?_) rfl)
  · exact ⟨hl, .inr ⟨b, m, cs.toArray, rfl, hlow, hP, Nat.le_refl _, hm, by simp [hl], by simp [← hl]⟩⟩
  · have : some b = some c := hc
    injection this with this
    exact this.symm

/-! ### Legs -/
def legPt (p q : Pn) : Leg := ⟨p.1, p.2, q.1, q.2⟩
/-- The first k legs of a path. -/
def legTo (xs : List Pn) : Nat → List Leg
  | 0 => []
  | k + 1 => legTo xs k ++ [legPt (pt xs k) (pt xs (k + 1))]
theorem legTo_len (xs : List Pn) : ∀ k, (legTo xs k).length = k
  | 0 => rfl
  | k + 1 => by rw [legTo, List.length_append, legTo_len xs k]; rfl
def legsP (xs : List Pn) (cl : Bool) : List Leg := if xs.length = 1 then [legPt (pt xs 0) (pt xs 0)] else legTo xs (xs.length - 1) ++ (if (cl && decide (2 < xs.length)) = true then [legPt (pt xs (xs.length - 1)) (pt xs 0)] else [])
theorem pl_one {xs : List Pn} {cl : Bool} (h : xs.length = 1) : legsP xs cl = [legPt (pt xs 0) (pt xs 0)] := if_pos h
theorem pl_cl {xs : List Pn} {cl : Bool} (h : ¬ xs.length = 1) (h2 : (cl && decide (2 < xs.length)) = true) : legsP xs cl = legTo xs (xs.length - 1) ++ [legPt (pt xs (xs.length - 1)) (pt xs 0)] := by rw [legsP, if_neg h, if_pos h2]
theorem pl_op {xs : List Pn} {cl : Bool} (h : ¬ xs.length = 1) (h2 : (cl && decide (2 < xs.length)) = false) : legsP xs cl = legTo xs (xs.length - 1) := by rw [legsP, if_neg h, if_neg (by rw [h2]; decide), List.append_nil]
theorem pl_len (xs : List Pn) (cl : Bool) : (legsP xs cl).length ≤ xs.length + 1 := by
  unfold legsP
  split
  · simp
  · rw [List.length_append, legTo_len]
    split <;> simp <;> omega
theorem legPt_ok {p q : Pn} (hp : bd2 p) (hq : bd2 q) : legOk (legPt p q) := ⟨hp.1, hp.2, hq.1, hq.2⟩
theorem legTo_ok {xs : List Pn} (h : ∀ p ∈ xs, bd2 p) : ∀ k, k < xs.length → ∀ l ∈ legTo xs k, legOk l
  | 0, _, l, hl => by simp [legTo] at hl
  | k + 1, hk, l, hl => by
    unfold legTo at hl
    rcases List.mem_append.1 hl with h1 | h1
    · exact legTo_ok h k (by omega) l h1
    · rw [List.mem_singleton.1 h1]
      exact legPt_ok (h _ (pt_mem (by omega))) (h _ (pt_mem (by omega)))
theorem pl_ok {xs : List Pn} {cl : Bool} (h : ∀ p ∈ xs, bd2 p) (h0 : 0 < xs.length) : ∀ l ∈ legsP xs cl, legOk l := by
  intro l hl
  unfold legsP at hl
  split at hl
  · rw [List.mem_singleton.1 hl]
    exact legPt_ok (h _ (pt_mem h0)) (h _ (pt_mem h0))
  · rcases List.mem_append.1 hl with h1 | h1
    · exact legTo_ok h _ (by omega) l h1
    · split at h1
      · rw [List.mem_singleton.1 h1]
        exact legPt_ok (h _ (pt_mem (by omega))) (h _ (pt_mem h0))
      · simp at h1
theorem legTo_cells (xs : List Pn) (k : Nat) : (legTo xs (k + 1)).flatMap legCells = (legTo xs k).flatMap legCells ++ [.int .i64 (px xs k), .int .i64 (py xs k), .int .i64 (px xs (k + 1)), .int .i64 (py xs (k + 1))] := by
  rw [legTo, List.flatMap_append]
  rfl
theorem legsOf_any (A : Option Addr) (n c : Nat) (xs : List Pn) (cl : Bool) (w : World) (h : Pts w A n xs) (h0 : 0 < n) (hn : n ≤ 1048576) :
    Calls Try.prog 75 #[.slice A n c, .bool cl] w fun e w' => ∃ v, e = .returned v ∧ w'.ownsRow w.heap.size 92 4 v (legsP xs cl).length ((legsP xs cl).flatMap legCells) ∧ Over w w' := by
  have hl := h.1
  obtain ⟨eb, eo, rfl, _⟩ := h.2 h0
  refine walk_from (m := 57) (Try.func75) rfl rfl (Nat.le_of_ble_eq_true rfl) ?_
  refine at_seq ?_
  refine at_region ?_
  refine at_q rfl rfl (by decide) (qt_assign rfl rfl) ?_
  refine at_end ?_
  refine at_seq ?_
  refine at_seq ?_
  refine at_region ?_
  refine at_q rfl rfl (by decide) (qt_move rfl rfl) ?_
  refine at_q rfl rfl (by decide) (qt_len rfl rfl tyl_sl_impl_Pt) ?_
  refine at_q rfl rfl (by decide) (qt_eql rfl rfl rfl) ?_
  refine at_end ?_
  refine at_cond rfl (fun c1 => ?_) (fun c1 => ?_)
  · try simp only [decide_eq_true_eq, decide_eq_false_iff_not, beq_iff_eq, beq_eq_false_iff_ne, Bool.not_eq_true', Bool.not_eq_false', Bool.not_true, Bool.not_false, Int.not_lt, Int.not_le, ne_eq, Nat.not_lt, Nat.not_le] at c1
    refine at_seq ?_
    refine dg_start mixed rfl ?_
    refine dg_phase 9 ?_
    refine dg_q (i := 0) rfl (by kernel_rfl) (by kernel_rfl) (by kernel_rfl) [] (by kernel_rfl) (fun _ _ _ h => h) rfl rfl (by decide) (fun _ h => h.upto trivial) (qt_move rfl rfl) ?_
    refine dg_q (i := 1) rfl (by kernel_rfl) (by kernel_rfl) (by kernel_rfl) [] (by kernel_rfl) (fun _ _ _ h => h) rfl rfl (by decide) (fun _ h => h.upto trivial) (qt_index (j := 0) rfl rfl rfl tyl_sl_impl_Pt (by omega)) ?_
    refine dg_q (i := 2) rfl (by kernel_rfl) (by kernel_rfl) (by kernel_rfl) [] (by kernel_rfl) (fun _ _ _ h => h) rfl rfl (by decide) (fun _ h => h.upto trivial) (qt_loadS rfl rfl tys_impl_Pt rfl (rdPts h h0)) ?_
    refine dg_q (i := 3) rfl (by kernel_rfl) (by kernel_rfl) (by kernel_rfl) [] (by kernel_rfl) (fun _ _ _ h => h) rfl rfl (by decide) (fun _ h => h.upto trivial) (qt_move rfl rfl) ?_
    refine dg_q (i := 4) rfl (by kernel_rfl) (by kernel_rfl) (by kernel_rfl) [] (by kernel_rfl) (fun _ _ _ h => h) rfl rfl (by decide) (fun _ h => h.upto trivial) (qt_index (j := 0) rfl rfl rfl tyl_sl_impl_Pt (by omega)) ?_
    refine dg_q (i := 5) rfl (by kernel_rfl) (by kernel_rfl) (by kernel_rfl) [] (by kernel_rfl) (fun _ _ _ h => h) rfl rfl (by decide) (fun _ h => h.upto trivial) (qt_loadS rfl rfl tys_impl_Pt rfl (rdPts h h0)) ?_
    refine dg_q (i := 6) rfl (by kernel_rfl) (by kernel_rfl) (by kernel_rfl) [] (by kernel_rfl) (fun _ _ _ h => h) rfl rfl (by decide) (fun _ h => h.upto trivial) (qt_build rfl rfl (bld_impl_leg_0_1 rfl rfl)) ?_
    refine dg_one (i := 7) rfl (by decide) (by kernel_rfl) rfl ?_
    refine op_buildSlice rfl rfl (bsl_sl_impl_leg_1_0 rfl) rfl (by decide) (fun b1 => ?_)
    refine at_rsE (by simp only [List.nil_append, List.cons_append, List.set_cons_zero, List.set_cons_succ, Value.cells, List.toList_toArray]; rfl) ?_
    refine dr_keep (fun _ h => h.upto trivial) ?_
    refine dg_q (i := 8) rfl (by kernel_rfl) (by kernel_rfl) (by kernel_rfl) [] (by kernel_rfl) (fun _ _ _ h => h) rfl rfl (by decide) (fun _ h => h.upto trivial) (qt_assign rfl rfl) ?_
    refine dg_done (by kernel_rfl) ?_
    refine at_rowLit 0 4 1 rfl rfl rfl (by unfold maxLen; omega) ?_
    refine at_rsE (by simp only [List.nil_append, List.cons_append, List.set_cons_zero, List.set_cons_succ, List.eraseIdx_cons_zero, List.eraseIdx_cons_succ, Value.cells, List.toList_toArray]; rfl) ?_
    refine norm_then ?_
    refine at_retc ?_
    refine then_ret ?_
    refine at_ret1 rfl (.tmp rfl) ?_
    intro w' hs
    have h1 := pl_one (xs := xs) (cl := cl) (by omega)
    exact ⟨_, rfl, by rw [h1]; exact rowBack hs (k := 0) (x := (some ⟨b1, 0, none⟩, 1)) rfl, hs.fin⟩
  · try simp only [decide_eq_true_eq, decide_eq_false_iff_not, beq_iff_eq, beq_eq_false_iff_ne, Bool.not_eq_true', Bool.not_eq_false', Bool.not_true, Bool.not_false, Int.not_lt, Int.not_le, ne_eq, Nat.not_lt, Nat.not_le] at c1
    refine at_skip ?_
    refine norm_then ?_
    refine at_seq ?_
    refine at_region ?_
    refine at_q rfl rfl (by decide) (qt_assign rfl rfl) ?_
    refine at_row0 (T := 92) (s := 4) ?_
    refine at_rsE (by simp only [List.nil_append, List.cons_append, List.set_cons_zero, List.set_cons_succ, Value.cells, List.toList_toArray]; rfl) ?_
    refine at_end ?_
    refine at_seq ?_
    refine at_seq ?_
    refine at_region ?_
    refine at_q rfl rfl (by decide) (qt_assign rfl rfl) ?_
    refine at_end ?_
    refine at_block ?_
    refine at_loopc (X := Nat × Option Addr × Nat) (fun x => 1 ≤ x.1 ∧ x.1 ≤ n) (fun x => n - x.1) (fun x => [(5, .slice x.2.1 (x.1 - 1) x.2.2), (6, .int .i64 (x.1 : Int))]) (C := [(0, _), (1, _), (4, _)]) ⟨rfl, rfl, rfl, trivial⟩ (fun x => [rowR (Bs.N ⟨w, []⟩) 92 4 (x.1 - 1) ((legTo xs (x.1 - 1)).flatMap legCells) x.2]) (1, none, 0) (⟨Nat.le_refl _, h0⟩) ⟨rfl, rfl, rfl, rfl, rfl, trivial⟩ (fun _ h => h) ?_
    intro ⟨k, rA, rc⟩ hk L hL1
    refine at_envE (by simp only [List.nil_append, List.cons_append]; rfl) ?_
    refine at_rsE (by first | (dsimp only; done) | (dsimp only; rfl) | rfl) ?_
    obtain ⟨hk1, hk2⟩ : 1 ≤ k ∧ k ≤ n := hk
    refine at_seq ?_
    refine at_seq ?_
    refine at_region ?_
    refine at_q rfl rfl (by decide) (qt_move rfl rfl) ?_
    refine at_q rfl rfl (by decide) (qt_move rfl rfl) ?_
    refine at_q rfl rfl (by decide) (qt_len rfl rfl tyl_sl_impl_Pt) ?_
    refine at_q rfl rfl (by decide) (qt_lss rfl rfl rfl) ?_
    refine at_end ?_
    refine at_cond rfl (fun c2 => ?_) (fun c2 => ?_)
    · try simp only [decide_eq_true_eq, decide_eq_false_iff_not, beq_iff_eq, beq_eq_false_iff_ne, Bool.not_eq_true', Bool.not_eq_false', Bool.not_true, Bool.not_false, Int.not_lt, Int.not_le, ne_eq, Nat.not_lt, Nat.not_le] at c2
      have hlt : k < n := (by omega)
      refine at_skip ?_
      refine norm_then ?_
      refine at_seq ?_
      refine at_block ?_
      refine dg_start mixed rfl ?_
      refine dg_phase 12 ?_
      refine dg_q (i := 0) rfl (by kernel_rfl) (by kernel_rfl) (by kernel_rfl) [] (by kernel_rfl) (fun _ _ _ h => h) rfl rfl (by decide) (fun _ h => h.upto ⟨rfl, trivial⟩) (qt_move rfl rfl) ?_
      refine dg_q (i := 1) rfl (by kernel_rfl) (by kernel_rfl) (by kernel_rfl) [4, 5, 10, 11] (by kernel_rfl) (fun _ _ _ h => h) rfl rfl (by decide) (fun _ h => h.upto ⟨rfl, trivial⟩) (qt_move rfl rfl) ?_
      refine dg_q (i := 2) rfl (by kernel_rfl) (by kernel_rfl) (by kernel_rfl) [3, 4, 5, 10, 11] (by kernel_rfl) (fun _ _ _ h => h) rfl rfl (by decide) (fun _ h => h.upto ⟨rfl, trivial⟩) (qt_move rfl rfl) ?_
      refine dg_q (i := 3) rfl (by kernel_rfl) (by kernel_rfl) (by kernel_rfl) [4, 5, 10, 11] (by kernel_rfl) (fun _ _ _ h => h) rfl rfl (by decide) (fun _ h => h.upto ⟨rfl, trivial⟩) ((qt_sub rfl rfl rfl (by omega) (by omega)).as (congrArg _ (show ((k : Int) - 1) = ((k - 1 : Nat) : Int) by omega))) ?_
      refine dg_q (i := 4) rfl (by kernel_rfl) (by kernel_rfl) (by kernel_rfl) [5, 10, 11] (by kernel_rfl) (fun _ _ _ h => h) rfl rfl (by decide) (fun _ h => h.upto ⟨rfl, trivial⟩) (qt_index rfl rfl rfl tyl_sl_impl_Pt (by omega)) ?_
      refine dg_q (i := 5) rfl (by kernel_rfl) (by kernel_rfl) (by kernel_rfl) [10, 11] (by kernel_rfl) (fun _ _ _ h => h) rfl rfl (by decide) (fun _ h => h.upto ⟨rfl, trivial⟩) (qt_loadS rfl rfl tys_impl_Pt rfl (rdPts h (by omega))) ?_
      refine dg_q (i := 6) rfl (by kernel_rfl) (by kernel_rfl) (by kernel_rfl) [8, 9, 10, 11] (by kernel_rfl) (fun _ _ _ h => h) rfl rfl (by decide) (fun _ h => h.upto ⟨rfl, trivial⟩) (qt_move rfl rfl) ?_
      refine dg_q (i := 7) rfl (by kernel_rfl) (by kernel_rfl) (by kernel_rfl) [8, 9, 10, 11] (by kernel_rfl) (fun _ _ _ h => h) rfl rfl (by decide) (fun _ h => h.upto ⟨rfl, trivial⟩) (qt_move rfl rfl) ?_
      refine dg_q (i := 8) rfl (by kernel_rfl) (by kernel_rfl) (by kernel_rfl) [9, 10, 11] (by kernel_rfl) (fun _ _ _ h => h) rfl rfl (by decide) (fun _ h => h.upto ⟨rfl, trivial⟩) (qt_index rfl rfl rfl tyl_sl_impl_Pt (by omega)) ?_
      refine dg_q (i := 9) rfl (by kernel_rfl) (by kernel_rfl) (by kernel_rfl) [10, 11] (by kernel_rfl) (fun _ _ _ h => h) rfl rfl (by decide) (fun _ h => h.upto ⟨rfl, trivial⟩) (qt_loadS rfl rfl tys_impl_Pt rfl (rdPts h hlt)) ?_
      refine dg_q (i := 10) rfl (by kernel_rfl) (by kernel_rfl) (by kernel_rfl) [11] (by kernel_rfl) (fun _ _ _ h => h) rfl rfl (by decide) (fun _ h => h.upto ⟨rfl, trivial⟩) (qt_build rfl rfl (bld_impl_leg_0_1 rfl rfl)) ?_
      refine dg_one (i := 11) rfl (by decide) (by kernel_rfl) rfl ?_
      refine op_buildSlice rfl rfl (bsl_sl_impl_leg_1_0 rfl) rfl (by decide) (fun b2 => ?_)
      refine at_rsE (by simp only [List.nil_append, List.cons_append, List.set_cons_zero, List.set_cons_succ, Value.cells, List.toList_toArray]; rfl) ?_
      refine dr_keep (fun _ h => h.upto ⟨rfl, trivial⟩) ?_
      refine dg_bar rfl (by kernel_rfl) rfl ?_
      refine op_appendR (k := 0) rfl tyl_sl_impl_leg tyz_impl_leg (by decide) rfl (by decide) rfl rfl rfl (fun w' hs => src_cel hs (k := 1) rfl rfl) (by simp [Value.oneCell']) (by unfold maxLen; omega) (by omega) (Nat.le_refl _) (fun r1 => ?_)
      refine at_rsE (by simp only [List.nil_append, List.cons_append, List.set_cons_zero, List.set_cons_succ, Value.cells, List.toList_toArray]; rfl) ?_
      refine dg_phase 14 ?_
      refine dg_q (i := 13) rfl (by kernel_rfl) (by kernel_rfl) (by kernel_rfl) [] (by kernel_rfl) (fun _ _ _ h => h) rfl rfl (by decide) (fun _ h => h.upto ⟨rfl, rfl, trivial⟩) (qt_assign rfl rfl) ?_
      refine dg_done (by kernel_rfl) ?_
      refine norm_block ?_
      refine norm_then ?_
      refine at_region ?_
      refine at_q rfl rfl (by decide) (qt_move rfl rfl) ?_
      refine at_q rfl rfl (by decide) (qt_add rfl rfl rfl (by omega) (by omega)) ?_
      refine at_q rfl rfl (by decide) (qt_assign rfl rfl) ?_
      refine at_end ?_
      exact at_againc hL1 ((k + 1, r1)) (⟨show 1 ≤ k + 1 by omega, show k + 1 ≤ n by omega⟩) (by simp only; omega) ⟨(by show _ = some (Value.slice r1.1 (k + 1 - 1) r1.2); rw [show k + 1 - 1 = k - 1 + 1 by omega]; rfl), vi (by omega), rfl, rfl, rfl, trivial⟩ (fun _ h => h.upto ⟨by dsimp only; rw [show k + 1 - 1 = k - 1 + 1 by omega, legTo_cells, show k - 1 + 1 = k by omega], trivial⟩)
    · try simp only [decide_eq_true_eq, decide_eq_false_iff_not, beq_iff_eq, beq_eq_false_iff_ne, Bool.not_eq_true', Bool.not_eq_false', Bool.not_true, Bool.not_false, Int.not_lt, Int.not_le, ne_eq, Nat.not_lt, Nat.not_le] at c2
      have hkn : k = n := (by omega)
      subst hkn
      refine at_exit ?_
      refine pass_then (fun h => by cases h) ?_
      refine pass_then (fun h => by cases h) ?_
      refine pass_hit ?_
      refine norm_then ?_
      refine at_seq ?_
      refine at_seq ?_
      refine at_region ?_
      refine at_q rfl rfl (by decide) (qt_move rfl rfl) ?_
      refine at_q rfl rfl (by decide) (qt_move rfl rfl) ?_
      refine at_bsplit 38 rfl (fun g1 => ?_) (fun g1 => ?_)
      · try simp only [decide_eq_true_eq, decide_eq_false_iff_not, beq_iff_eq, beq_eq_false_iff_ne, Bool.not_eq_true', Bool.not_eq_false', Bool.not_true, Bool.not_false, Int.not_lt, Int.not_le, ne_eq, Nat.not_lt, Nat.not_le] at g1
        refine at_on rfl rfl rfl rfl ?_
        refine op_q rfl (by decide) (qt_move rfl rfl) ?_
        refine at_on rfl rfl rfl rfl ?_
        refine op_q rfl (by decide) (qt_len rfl rfl tyl_sl_impl_Pt) ?_
        refine at_on rfl rfl rfl rfl ?_
        refine op_q rfl (by decide) (qt_gtr rfl rfl rfl) ?_
        refine at_q rfl rfl (by decide) (qt_pickT rfl rfl rfl) ?_
        refine at_end ?_
        refine at_cond rfl (fun c3 => ?_) (fun c3 => ?_)
        · try simp only [decide_eq_true_eq, decide_eq_false_iff_not, beq_iff_eq, beq_eq_false_iff_ne, Bool.not_eq_true', Bool.not_eq_false', Bool.not_true, Bool.not_false, Int.not_lt, Int.not_le, ne_eq, Nat.not_lt, Nat.not_le] at c3
          have hcl := pl_cl (xs := xs) (cl := cl) (by omega) (by simp_all; omega)
          refine dg_start mixed rfl ?_
          refine dg_phase 12 ?_
          refine dg_q (i := 0) rfl (by kernel_rfl) (by kernel_rfl) (by kernel_rfl) [] (by kernel_rfl) (fun _ _ _ h => h) rfl rfl (by decide) (fun _ h => h.upto ⟨rfl, trivial⟩) (qt_move rfl rfl) ?_
          refine dg_q (i := 1) rfl (by kernel_rfl) (by kernel_rfl) (by kernel_rfl) [5, 6, 10, 11] (by kernel_rfl) (fun _ _ _ h => h) rfl rfl (by decide) (fun _ h => h.upto ⟨rfl, trivial⟩) (qt_move rfl rfl) ?_
          refine dg_q (i := 2) rfl (by kernel_rfl) (by kernel_rfl) (by kernel_rfl) [3, 4, 5, 6, 10, 11] (by kernel_rfl) (fun _ _ _ h => h) rfl rfl (by decide) (fun _ h => h.upto ⟨rfl, trivial⟩) (qt_move rfl rfl) ?_
          refine dg_q (i := 3) rfl (by kernel_rfl) (by kernel_rfl) (by kernel_rfl) [4, 5, 6, 10, 11] (by kernel_rfl) (fun _ _ _ h => h) rfl rfl (by decide) (fun _ h => h.upto ⟨rfl, trivial⟩) (qt_len rfl rfl tyl_sl_impl_Pt) ?_
          refine dg_q (i := 4) rfl (by kernel_rfl) (by kernel_rfl) (by kernel_rfl) [5, 6, 10, 11] (by kernel_rfl) (fun _ _ _ h => h) rfl rfl (by decide) (fun _ h => h.upto ⟨rfl, trivial⟩) ((qt_sub rfl rfl rfl (by omega) (by omega)).as (congrArg _ (show ((k : Int) - 1) = ((k - 1 : Nat) : Int) by omega))) ?_
          refine dg_q (i := 5) rfl (by kernel_rfl) (by kernel_rfl) (by kernel_rfl) [6, 10, 11] (by kernel_rfl) (fun _ _ _ h => h) rfl rfl (by decide) (fun _ h => h.upto ⟨rfl, trivial⟩) (qt_index rfl rfl rfl tyl_sl_impl_Pt (by omega)) ?_
          refine dg_q (i := 6) rfl (by kernel_rfl) (by kernel_rfl) (by kernel_rfl) [10, 11] (by kernel_rfl) (fun _ _ _ h => h) rfl rfl (by decide) (fun _ h => h.upto ⟨rfl, trivial⟩) (qt_loadS rfl rfl tys_impl_Pt rfl (rdPts h (by omega))) ?_
          refine dg_q (i := 7) rfl (by kernel_rfl) (by kernel_rfl) (by kernel_rfl) [8, 9, 10, 11] (by kernel_rfl) (fun _ _ _ h => h) rfl rfl (by decide) (fun _ h => h.upto ⟨rfl, trivial⟩) (qt_move rfl rfl) ?_
          refine dg_q (i := 8) rfl (by kernel_rfl) (by kernel_rfl) (by kernel_rfl) [9, 10, 11] (by kernel_rfl) (fun _ _ _ h => h) rfl rfl (by decide) (fun _ h => h.upto ⟨rfl, trivial⟩) (qt_index (j := 0) rfl rfl rfl tyl_sl_impl_Pt (by omega)) ?_
          refine dg_q (i := 9) rfl (by kernel_rfl) (by kernel_rfl) (by kernel_rfl) [10, 11] (by kernel_rfl) (fun _ _ _ h => h) rfl rfl (by decide) (fun _ h => h.upto ⟨rfl, trivial⟩) (qt_loadS rfl rfl tys_impl_Pt rfl (rdPts h h0)) ?_
          refine dg_q (i := 10) rfl (by kernel_rfl) (by kernel_rfl) (by kernel_rfl) [11] (by kernel_rfl) (fun _ _ _ h => h) rfl rfl (by decide) (fun _ h => h.upto ⟨rfl, trivial⟩) (qt_build rfl rfl (bld_impl_leg_0_1 rfl rfl)) ?_
          refine dg_one (i := 11) rfl (by decide) (by kernel_rfl) rfl ?_
          refine op_buildSlice rfl rfl (bsl_sl_impl_leg_1_0 rfl) rfl (by decide) (fun b3 => ?_)
          refine at_rsE (by simp only [List.nil_append, List.cons_append, List.set_cons_zero, List.set_cons_succ, Value.cells, List.toList_toArray]; rfl) ?_
          refine dr_keep (fun _ h => h.upto ⟨rfl, trivial⟩) ?_
          refine dg_bar rfl (by kernel_rfl) rfl ?_
          refine op_appendR (k := 0) rfl tyl_sl_impl_leg tyz_impl_leg (by decide) rfl (by decide) rfl rfl rfl (fun w' hs => src_cel hs (k := 1) rfl rfl) (by simp [Value.oneCell']) (by unfold maxLen; omega) (by omega) (Nat.le_refl _) (fun r2 => ?_)
          refine at_rsE (by simp only [List.nil_append, List.cons_append, List.set_cons_zero, List.set_cons_succ, Value.cells, List.toList_toArray]; rfl) ?_
          refine dg_phase 14 ?_
          refine dg_q (i := 13) rfl (by kernel_rfl) (by kernel_rfl) (by kernel_rfl) [] (by kernel_rfl) (fun _ _ _ h => h) rfl rfl (by decide) (fun _ h => h.upto ⟨rfl, rfl, trivial⟩) (qt_assign rfl rfl) ?_
          refine dg_done (by kernel_rfl) ?_
          refine norm_then ?_
          refine at_seq ?_
          refine at_region ?_
          refine at_q rfl rfl (by decide) (qt_move rfl rfl) ?_
          refine at_q rfl rfl (by decide) (qt_assign rfl rfl) ?_
          refine at_end ?_
          refine at_retc ?_
          refine at_ret1 rfl (.tmp rfl) ?_
          intro w' hs
          exact ⟨_, rfl, by rw [hcl, List.length_append, legTo_len, List.flatMap_append, hl]; exact rowBack hs (k := 0) rfl, hs.fin⟩
        · try simp only [decide_eq_true_eq, decide_eq_false_iff_not, beq_iff_eq, beq_eq_false_iff_ne, Bool.not_eq_true', Bool.not_eq_false', Bool.not_true, Bool.not_false, Int.not_lt, Int.not_le, ne_eq, Nat.not_lt, Nat.not_le] at c3
          refine at_skip ?_
          refine norm_then ?_
          refine at_seq ?_
          refine at_region ?_
          refine at_q rfl rfl (by decide) (qt_move rfl rfl) ?_
          refine at_q rfl rfl (by decide) (qt_assign rfl rfl) ?_
          refine at_end ?_
          refine at_retc ?_
          refine at_ret1 rfl (.tmp rfl) ?_
          intro w' hs
          have hop := pl_op (xs := xs) (cl := cl) (by omega) (by simp [*]; omega)
          exact ⟨_, rfl, by rw [hop, legTo_len, hl]; exact rowBack hs (k := 0) rfl, hs.fin⟩
      · try simp only [decide_eq_true_eq, decide_eq_false_iff_not, beq_iff_eq, beq_eq_false_iff_ne, Bool.not_eq_true', Bool.not_eq_false', Bool.not_true, Bool.not_false, Int.not_lt, Int.not_le, ne_eq, Nat.not_lt, Nat.not_le] at g1
        refine at_off rfl rfl rfl rfl (by decide) rfl (by decide) ?_
        refine at_off rfl rfl rfl rfl (by decide) rfl (by decide) ?_
        refine at_off rfl rfl rfl rfl (by decide) rfl (by decide) ?_
        refine at_q rfl rfl (by decide) (qt_pickF rfl rfl rfl) ?_
        refine at_end ?_
        refine at_no rfl rfl ?_
        refine at_skip ?_
        refine norm_then ?_
        refine at_seq ?_
        refine at_region ?_
        refine at_q rfl rfl (by decide) (qt_move rfl rfl) ?_
        refine at_q rfl rfl (by decide) (qt_assign rfl rfl) ?_
        refine at_end ?_
        refine at_retc ?_
        refine at_ret1 rfl (.tmp rfl) ?_
        intro w' hs
        have hop := pl_op (xs := xs) (cl := cl) (by omega) (by simp [*])
        exact ⟨_, rfl, by rw [hop, legTo_len, hl]; exact rowBack hs (k := 0) rfl, hs.fin⟩
theorem l12Legs_any (A : Option Addr) (n c : Nat) (xs : List Pn) (cl : Bool) (w : World) (h : Pts w A n xs) (h0 : 0 < n) (hn : n ≤ 1048576) :
    Calls Try.prog 74 #[.slice A n c, .bool cl] w fun e w' => ∃ v, e = .returned v ∧ w'.ownsRow w.heap.size 88 4 v (legsP xs cl).length ((legsP xs cl).flatMap legCells) ∧ Over w w' := by
  have hl := h.1
  obtain ⟨eb, eo, rfl, _⟩ := h.2 h0
  refine walk_from (m := 58) (Try.func74) rfl rfl (Nat.le_of_ble_eq_true rfl) ?_
  refine at_seq ?_
  refine at_region ?_
  refine at_q rfl rfl (by decide) (qt_assign rfl rfl) ?_
  refine at_end ?_
  refine at_seq ?_
  refine at_region ?_
  refine at_op rfl ?_
  refine op_buildSlice rfl rfl (bsl_sl_spec_l13Edge_0) rfl (by decide) (fun b1 => ?_)
  refine at_rowN 0 4 rfl rfl ?_
  refine at_rsE (by simp only [List.nil_append, List.cons_append, List.set_cons_zero, List.set_cons_succ, Value.cells, List.toList_toArray]; rfl) ?_
  refine at_q rfl rfl (by decide) (qt_assign rfl rfl) ?_
  refine at_end ?_
  refine at_seq ?_
  refine at_region ?_
  refine at_q rfl rfl (by decide) (qt_move rfl rfl) ?_
  refine at_q rfl rfl (by decide) (qt_len rfl rfl tyl_sl_impl_Pt) ?_
  refine at_q rfl rfl (by decide) (qt_assign rfl rfl) ?_
  refine at_end ?_
  refine at_seq ?_
  refine at_seq ?_
  refine at_region ?_
  refine at_q rfl rfl (by decide) (qt_move rfl rfl) ?_
  refine at_q rfl rfl (by decide) (qt_eql rfl rfl rfl) ?_
  refine at_end ?_
  refine at_cond rfl (fun c1 => ?_) (fun c1 => ?_)
  · try simp only [decide_eq_true_eq, decide_eq_false_iff_not, beq_iff_eq, beq_eq_false_iff_ne, Bool.not_eq_true', Bool.not_eq_false', Bool.not_true, Bool.not_false, Int.not_lt, Int.not_le, ne_eq, Nat.not_lt, Nat.not_le] at c1
    refine at_seq ?_
    refine dg_start mixed rfl ?_
    refine dg_phase 9 ?_
    refine dg_q (i := 0) rfl (by kernel_rfl) (by kernel_rfl) (by kernel_rfl) [] (by kernel_rfl) (fun _ _ _ h => h) rfl rfl (by decide) (fun _ h => h.upto ⟨rfl, trivial⟩) (qt_move rfl rfl) ?_
    refine dg_q (i := 1) rfl (by kernel_rfl) (by kernel_rfl) (by kernel_rfl) [] (by kernel_rfl) (fun _ _ _ h => h) rfl rfl (by decide) (fun _ h => h.upto ⟨rfl, trivial⟩) (qt_index (j := 0) rfl rfl rfl tyl_sl_impl_Pt (by omega)) ?_
    refine dg_q (i := 2) rfl (by kernel_rfl) (by kernel_rfl) (by kernel_rfl) [] (by kernel_rfl) (fun _ _ _ h => h) rfl rfl (by decide) (fun _ h => h.upto ⟨rfl, trivial⟩) (qt_loadS rfl rfl tys_impl_Pt rfl (rdPts h h0)) ?_
    refine dg_q (i := 3) rfl (by kernel_rfl) (by kernel_rfl) (by kernel_rfl) [] (by kernel_rfl) (fun _ _ _ h => h) rfl rfl (by decide) (fun _ h => h.upto ⟨rfl, trivial⟩) (qt_move rfl rfl) ?_
    refine dg_q (i := 4) rfl (by kernel_rfl) (by kernel_rfl) (by kernel_rfl) [] (by kernel_rfl) (fun _ _ _ h => h) rfl rfl (by decide) (fun _ h => h.upto ⟨rfl, trivial⟩) (qt_index (j := 0) rfl rfl rfl tyl_sl_impl_Pt (by omega)) ?_
    refine dg_q (i := 5) rfl (by kernel_rfl) (by kernel_rfl) (by kernel_rfl) [] (by kernel_rfl) (fun _ _ _ h => h) rfl rfl (by decide) (fun _ h => h.upto ⟨rfl, trivial⟩) (qt_loadS rfl rfl tys_impl_Pt rfl (rdPts h h0)) ?_
    refine dg_q (i := 6) rfl (by kernel_rfl) (by kernel_rfl) (by kernel_rfl) [] (by kernel_rfl) (fun _ _ _ h => h) rfl rfl (by decide) (fun _ h => h.upto ⟨rfl, trivial⟩) (qt_build rfl rfl (bld_spec_l13Edge_0_1 rfl rfl)) ?_
    refine dg_one (i := 7) rfl (by decide) (by kernel_rfl) rfl ?_
    refine op_buildSlice rfl rfl (bsl_sl_spec_l13Edge_1_0 rfl) rfl (by decide) (fun b2 => ?_)
    refine at_rsE (by simp only [List.nil_append, List.cons_append, List.set_cons_zero, List.set_cons_succ, Value.cells, List.toList_toArray]; rfl) ?_
    refine dr_keep (fun _ h => h.upto ⟨rfl, trivial⟩) ?_
    refine dg_q (i := 8) rfl (by kernel_rfl) (by kernel_rfl) (by kernel_rfl) [] (by kernel_rfl) (fun _ _ _ h => h) rfl rfl (by decide) (fun _ h => h.upto ⟨rfl, trivial⟩) (qt_assign rfl rfl) ?_
    refine dg_done (by kernel_rfl) ?_
    refine at_rowLit 1 4 1 rfl rfl rfl (by unfold maxLen; omega) ?_
    refine at_rsE (by simp only [List.nil_append, List.cons_append, List.set_cons_zero, List.set_cons_succ, List.eraseIdx_cons_zero, List.eraseIdx_cons_succ, Value.cells, List.toList_toArray]; rfl) ?_
    refine norm_then ?_
    refine at_retc ?_
    refine then_ret ?_
    refine at_ret1 rfl (.tmp rfl) ?_
    intro w' hs
    have h1 := pl_one (xs := xs) (cl := cl) (by omega)
    exact ⟨_, rfl, by rw [h1]; exact rowBack hs (k := 1) (x := (some ⟨_, 0, none⟩, 1)) rfl, hs.fin⟩
  · try simp only [decide_eq_true_eq, decide_eq_false_iff_not, beq_iff_eq, beq_eq_false_iff_ne, Bool.not_eq_true', Bool.not_eq_false', Bool.not_true, Bool.not_false, Int.not_lt, Int.not_le, ne_eq, Nat.not_lt, Nat.not_le] at c1
    refine at_skip ?_
    refine norm_then ?_
    refine at_seq ?_
    refine at_seq ?_
    refine at_region ?_
    refine at_q rfl rfl (by decide) (qt_assign rfl rfl) ?_
    refine at_end ?_
    refine at_block ?_
    refine at_loopc (X := Nat × Option Addr × Nat) (fun x => x.1 + 1 ≤ n) (fun x => n - x.1) (fun x => [(5, .slice x.2.1 x.1 x.2.2), (7, .int .i64 (x.1 : Int))]) (C := [(0, _), (1, _), (4, _), (6, _)]) ⟨rfl, rfl, rfl, rfl, trivial⟩ (fun x => [rowR (Bs.N ⟨w, []⟩) 88 4 x.1 ((legTo xs x.1).flatMap legCells) x.2]) (0, some ⟨b1, 0, none⟩, 0) (h0) ⟨rfl, rfl, rfl, rfl, rfl, rfl, trivial⟩ (fun _ h => h) ?_
    intro ⟨k, rA, rc⟩ hk L hL1
    refine at_envE (by simp only [List.nil_append, List.cons_append]; rfl) ?_
    refine at_rsE (by first | (dsimp only; done) | (dsimp only; rfl) | rfl) ?_
    have hk1 : k + 1 ≤ n := hk
    refine at_seq ?_
    refine at_seq ?_
    refine at_region ?_
    refine at_q rfl rfl (by decide) (qt_move rfl rfl) ?_
    refine at_q rfl rfl (by decide) (qt_add rfl rfl rfl (by omega) (by omega)) ?_
    refine at_q rfl rfl (by decide) (qt_move rfl rfl) ?_
    refine at_q rfl rfl (by decide) (qt_lss rfl rfl rfl) ?_
    refine at_end ?_
    refine at_cond rfl (fun c2 => ?_) (fun c2 => ?_)
    · try simp only [decide_eq_true_eq, decide_eq_false_iff_not, beq_iff_eq, beq_eq_false_iff_ne, Bool.not_eq_true', Bool.not_eq_false', Bool.not_true, Bool.not_false, Int.not_lt, Int.not_le, ne_eq, Nat.not_lt, Nat.not_le] at c2
      have hlt : k + 1 < n := (by omega)
      refine at_skip ?_
      refine norm_then ?_
      refine at_seq ?_
      refine at_block ?_
      refine dg_start mixed rfl ?_
      refine dg_phase 12 ?_
      refine dg_q (i := 0) rfl (by kernel_rfl) (by kernel_rfl) (by kernel_rfl) [] (by kernel_rfl) (fun _ _ _ h => h) rfl rfl (by decide) (fun _ h => h.upto ⟨rfl, trivial⟩) (qt_move rfl rfl) ?_
      refine dg_q (i := 1) rfl (by kernel_rfl) (by kernel_rfl) (by kernel_rfl) [3, 4, 10, 11] (by kernel_rfl) (fun _ _ _ h => h) rfl rfl (by decide) (fun _ h => h.upto ⟨rfl, trivial⟩) (qt_move rfl rfl) ?_
      refine dg_q (i := 2) rfl (by kernel_rfl) (by kernel_rfl) (by kernel_rfl) [3, 4, 10, 11] (by kernel_rfl) (fun _ _ _ h => h) rfl rfl (by decide) (fun _ h => h.upto ⟨rfl, trivial⟩) (qt_move rfl rfl) ?_
      refine dg_q (i := 3) rfl (by kernel_rfl) (by kernel_rfl) (by kernel_rfl) [4, 10, 11] (by kernel_rfl) (fun _ _ _ h => h) rfl rfl (by decide) (fun _ h => h.upto ⟨rfl, trivial⟩) (qt_index rfl rfl rfl tyl_sl_impl_Pt (by omega)) ?_
      refine dg_q (i := 4) rfl (by kernel_rfl) (by kernel_rfl) (by kernel_rfl) [10, 11] (by kernel_rfl) (fun _ _ _ h => h) rfl rfl (by decide) (fun _ h => h.upto ⟨rfl, trivial⟩) (qt_loadS rfl rfl tys_impl_Pt rfl (rdPts h (by omega))) ?_
      refine dg_q (i := 5) rfl (by kernel_rfl) (by kernel_rfl) (by kernel_rfl) [8, 9, 10, 11] (by kernel_rfl) (fun _ _ _ h => h) rfl rfl (by decide) (fun _ h => h.upto ⟨rfl, trivial⟩) (qt_move rfl rfl) ?_
      refine dg_q (i := 6) rfl (by kernel_rfl) (by kernel_rfl) (by kernel_rfl) [7, 8, 9, 10, 11] (by kernel_rfl) (fun _ _ _ h => h) rfl rfl (by decide) (fun _ h => h.upto ⟨rfl, trivial⟩) (qt_move rfl rfl) ?_
      refine dg_q (i := 7) rfl (by kernel_rfl) (by kernel_rfl) (by kernel_rfl) [8, 9, 10, 11] (by kernel_rfl) (fun _ _ _ h => h) rfl rfl (by decide) (fun _ h => h.upto ⟨rfl, trivial⟩) ((qt_add rfl rfl rfl (by omega) (by omega)).as (congrArg _ (show ((k : Int) + 1) = ((k + 1 : Nat) : Int) by omega))) ?_
      refine dg_q (i := 8) rfl (by kernel_rfl) (by kernel_rfl) (by kernel_rfl) [9, 10, 11] (by kernel_rfl) (fun _ _ _ h => h) rfl rfl (by decide) (fun _ h => h.upto ⟨rfl, trivial⟩) (qt_index rfl rfl rfl tyl_sl_impl_Pt (by omega)) ?_
      refine dg_q (i := 9) rfl (by kernel_rfl) (by kernel_rfl) (by kernel_rfl) [10, 11] (by kernel_rfl) (fun _ _ _ h => h) rfl rfl (by decide) (fun _ h => h.upto ⟨rfl, trivial⟩) (qt_loadS rfl rfl tys_impl_Pt rfl (rdPts h hlt)) ?_
      refine dg_q (i := 10) rfl (by kernel_rfl) (by kernel_rfl) (by kernel_rfl) [11] (by kernel_rfl) (fun _ _ _ h => h) rfl rfl (by decide) (fun _ h => h.upto ⟨rfl, trivial⟩) (qt_build rfl rfl (bld_spec_l13Edge_0_1 rfl rfl)) ?_
      refine dg_one (i := 11) rfl (by decide) (by kernel_rfl) rfl ?_
      refine op_buildSlice rfl rfl (bsl_sl_spec_l13Edge_1_0 rfl) rfl (by decide) (fun b3 => ?_)
      refine at_rsE (by simp only [List.nil_append, List.cons_append, List.set_cons_zero, List.set_cons_succ, Value.cells, List.toList_toArray]; rfl) ?_
      refine dr_keep (fun _ h => h.upto ⟨rfl, trivial⟩) ?_
      refine dg_bar rfl (by kernel_rfl) rfl ?_
      refine op_appendR (k := 0) rfl tyl_sl_spec_l13Edge tyz_spec_l13Edge (by decide) rfl (by decide) rfl rfl rfl (fun w' hs => src_cel hs (k := 1) rfl rfl) (by simp [Value.oneCell']) (by unfold maxLen; omega) (by omega) (Nat.le_refl _) (fun r1 => ?_)
      refine at_rsE (by simp only [List.nil_append, List.cons_append, List.set_cons_zero, List.set_cons_succ, Value.cells, List.toList_toArray]; rfl) ?_
      refine dg_phase 14 ?_
      refine dg_q (i := 13) rfl (by kernel_rfl) (by kernel_rfl) (by kernel_rfl) [] (by kernel_rfl) (fun _ _ _ h => h) rfl rfl (by decide) (fun _ h => h.upto ⟨rfl, rfl, trivial⟩) (qt_assign rfl rfl) ?_
      refine dg_done (by kernel_rfl) ?_
      refine norm_block ?_
      refine norm_then ?_
      refine at_region ?_
      refine at_q rfl rfl (by decide) (qt_move rfl rfl) ?_
      refine at_q rfl rfl (by decide) (qt_add rfl rfl rfl (by omega) (by omega)) ?_
      refine at_q rfl rfl (by decide) (qt_assign rfl rfl) ?_
      refine at_end ?_
      exact at_againc hL1 ((k + 1, r1)) ((show k + 1 + 1 ≤ n by omega)) (by simp only; omega) ⟨rfl, vi (by omega), rfl, rfl, rfl, rfl, trivial⟩ (fun _ h => h.upto ⟨by rw [legTo_cells], trivial⟩)
    · try simp only [decide_eq_true_eq, decide_eq_false_iff_not, beq_iff_eq, beq_eq_false_iff_ne, Bool.not_eq_true', Bool.not_eq_false', Bool.not_true, Bool.not_false, Int.not_lt, Int.not_le, ne_eq, Nat.not_lt, Nat.not_le] at c2
      have hkn : k = n - 1 := (by omega)
      subst hkn
      refine at_exit ?_
      refine pass_then (fun h => by cases h) ?_
      refine pass_then (fun h => by cases h) ?_
      refine pass_hit ?_
      refine norm_then ?_
      refine at_seq ?_
      refine at_seq ?_
      refine at_region ?_
      refine at_q rfl rfl (by decide) (qt_move rfl rfl) ?_
      refine at_q rfl rfl (by decide) (qt_move rfl rfl) ?_
      refine at_bsplit 41 rfl (fun g1 => ?_) (fun g1 => ?_)
      · try simp only [decide_eq_true_eq, decide_eq_false_iff_not, beq_iff_eq, beq_eq_false_iff_ne, Bool.not_eq_true', Bool.not_eq_false', Bool.not_true, Bool.not_false, Int.not_lt, Int.not_le, ne_eq, Nat.not_lt, Nat.not_le] at g1
        refine at_on rfl rfl rfl rfl ?_
        refine op_q rfl (by decide) (qt_move rfl rfl) ?_
        refine at_on rfl rfl rfl rfl ?_
        refine op_q rfl (by decide) (qt_gtr rfl rfl rfl) ?_
        refine at_q rfl rfl (by decide) (qt_pickT rfl rfl rfl) ?_
        refine at_end ?_
        refine at_cond rfl (fun c3 => ?_) (fun c3 => ?_)
        · try simp only [decide_eq_true_eq, decide_eq_false_iff_not, beq_iff_eq, beq_eq_false_iff_ne, Bool.not_eq_true', Bool.not_eq_false', Bool.not_true, Bool.not_false, Int.not_lt, Int.not_le, ne_eq, Nat.not_lt, Nat.not_le] at c3
          have hcl := pl_cl (xs := xs) (cl := cl) (by omega) (by simp_all; omega)
          refine dg_start mixed rfl ?_
          refine dg_phase 11 ?_
          refine dg_q (i := 0) rfl (by kernel_rfl) (by kernel_rfl) (by kernel_rfl) [] (by kernel_rfl) (fun _ _ _ h => h) rfl rfl (by decide) (fun _ h => h.upto ⟨rfl, trivial⟩) (qt_move rfl rfl) ?_
          refine dg_q (i := 1) rfl (by kernel_rfl) (by kernel_rfl) (by kernel_rfl) [4, 5, 9, 10] (by kernel_rfl) (fun _ _ _ h => h) rfl rfl (by decide) (fun _ h => h.upto ⟨rfl, trivial⟩) (qt_move rfl rfl) ?_
          refine dg_q (i := 2) rfl (by kernel_rfl) (by kernel_rfl) (by kernel_rfl) [3, 4, 5, 9, 10] (by kernel_rfl) (fun _ _ _ h => h) rfl rfl (by decide) (fun _ h => h.upto ⟨rfl, trivial⟩) (qt_move rfl rfl) ?_
          refine dg_q (i := 3) rfl (by kernel_rfl) (by kernel_rfl) (by kernel_rfl) [4, 5, 9, 10] (by kernel_rfl) (fun _ _ _ h => h) rfl rfl (by decide) (fun _ h => h.upto ⟨rfl, trivial⟩) ((qt_sub rfl rfl rfl (by omega) (by omega)).as (congrArg _ (show ((n : Int) - 1) = ((n - 1 : Nat) : Int) by omega))) ?_
          refine dg_q (i := 4) rfl (by kernel_rfl) (by kernel_rfl) (by kernel_rfl) [5, 9, 10] (by kernel_rfl) (fun _ _ _ h => h) rfl rfl (by decide) (fun _ h => h.upto ⟨rfl, trivial⟩) (qt_index rfl rfl rfl tyl_sl_impl_Pt (by omega)) ?_
          refine dg_q (i := 5) rfl (by kernel_rfl) (by kernel_rfl) (by kernel_rfl) [9, 10] (by kernel_rfl) (fun _ _ _ h => h) rfl rfl (by decide) (fun _ h => h.upto ⟨rfl, trivial⟩) (qt_loadS rfl rfl tys_impl_Pt rfl (rdPts h (by omega))) ?_
          refine dg_q (i := 6) rfl (by kernel_rfl) (by kernel_rfl) (by kernel_rfl) [7, 8, 9, 10] (by kernel_rfl) (fun _ _ _ h => h) rfl rfl (by decide) (fun _ h => h.upto ⟨rfl, trivial⟩) (qt_move rfl rfl) ?_
          refine dg_q (i := 7) rfl (by kernel_rfl) (by kernel_rfl) (by kernel_rfl) [8, 9, 10] (by kernel_rfl) (fun _ _ _ h => h) rfl rfl (by decide) (fun _ h => h.upto ⟨rfl, trivial⟩) (qt_index (j := 0) rfl rfl rfl tyl_sl_impl_Pt (by omega)) ?_
          refine dg_q (i := 8) rfl (by kernel_rfl) (by kernel_rfl) (by kernel_rfl) [9, 10] (by kernel_rfl) (fun _ _ _ h => h) rfl rfl (by decide) (fun _ h => h.upto ⟨rfl, trivial⟩) (qt_loadS rfl rfl tys_impl_Pt rfl (rdPts h h0)) ?_
          refine dg_q (i := 9) rfl (by kernel_rfl) (by kernel_rfl) (by kernel_rfl) [10] (by kernel_rfl) (fun _ _ _ h => h) rfl rfl (by decide) (fun _ h => h.upto ⟨rfl, trivial⟩) (qt_build rfl rfl (bld_spec_l13Edge_0_1 rfl rfl)) ?_
          refine dg_one (i := 10) rfl (by decide) (by kernel_rfl) rfl ?_
          refine op_buildSlice rfl rfl (bsl_sl_spec_l13Edge_1_0 rfl) rfl (by decide) (fun b4 => ?_)
          refine at_rsE (by simp only [List.nil_append, List.cons_append, List.set_cons_zero, List.set_cons_succ, Value.cells, List.toList_toArray]; rfl) ?_
          refine dr_keep (fun _ h => h.upto ⟨rfl, trivial⟩) ?_
          refine dg_bar rfl (by kernel_rfl) rfl ?_
          refine op_appendR (k := 0) rfl tyl_sl_spec_l13Edge tyz_spec_l13Edge (by decide) rfl (by decide) rfl rfl rfl (fun w' hs => src_cel hs (k := 1) rfl rfl) (by simp [Value.oneCell']) (by unfold maxLen; omega) (by omega) (Nat.le_refl _) (fun r2 => ?_)
          refine at_rsE (by simp only [List.nil_append, List.cons_append, List.set_cons_zero, List.set_cons_succ, Value.cells, List.toList_toArray]; rfl) ?_
          refine dg_phase 13 ?_
          refine dg_q (i := 12) rfl (by kernel_rfl) (by kernel_rfl) (by kernel_rfl) [] (by kernel_rfl) (fun _ _ _ h => h) rfl rfl (by decide) (fun _ h => h.upto ⟨rfl, rfl, trivial⟩) (qt_assign rfl rfl) ?_
          refine dg_done (by kernel_rfl) ?_
          refine norm_then ?_
          refine at_seq ?_
          refine at_region ?_
          refine at_q rfl rfl (by decide) (qt_move rfl rfl) ?_
          refine at_q rfl rfl (by decide) (qt_assign rfl rfl) ?_
          refine at_end ?_
          refine at_retc ?_
          refine at_ret1 rfl (.tmp rfl) ?_
          intro w' hs
          exact ⟨_, rfl, by rw [hcl, List.length_append, legTo_len, List.flatMap_append, hl]; exact rowBack hs (k := 0) rfl, hs.fin⟩
        · try simp only [decide_eq_true_eq, decide_eq_false_iff_not, beq_iff_eq, beq_eq_false_iff_ne, Bool.not_eq_true', Bool.not_eq_false', Bool.not_true, Bool.not_false, Int.not_lt, Int.not_le, ne_eq, Nat.not_lt, Nat.not_le] at c3
          refine at_skip ?_
          refine norm_then ?_
          refine at_seq ?_
          refine at_region ?_
          refine at_q rfl rfl (by decide) (qt_move rfl rfl) ?_
          refine at_q rfl rfl (by decide) (qt_assign rfl rfl) ?_
          refine at_end ?_
          refine at_retc ?_
          refine at_ret1 rfl (.tmp rfl) ?_
          intro w' hs
          have hop := pl_op (xs := xs) (cl := cl) (by omega) (by simp [*]; omega)
          exact ⟨_, rfl, by rw [hop, legTo_len, hl]; exact rowBack hs (k := 0) rfl, hs.fin⟩
      · try simp only [decide_eq_true_eq, decide_eq_false_iff_not, beq_iff_eq, beq_eq_false_iff_ne, Bool.not_eq_true', Bool.not_eq_false', Bool.not_true, Bool.not_false, Int.not_lt, Int.not_le, ne_eq, Nat.not_lt, Nat.not_le] at g1
        refine at_off rfl rfl rfl rfl (by decide) rfl (by decide) ?_
        refine at_off rfl rfl rfl rfl (by decide) rfl (by decide) ?_
        refine at_q rfl rfl (by decide) (qt_pickF rfl rfl rfl) ?_
        refine at_end ?_
        refine at_no rfl rfl ?_
        refine at_skip ?_
        refine norm_then ?_
        refine at_seq ?_
        refine at_region ?_
        refine at_q rfl rfl (by decide) (qt_move rfl rfl) ?_
        refine at_q rfl rfl (by decide) (qt_assign rfl rfl) ?_
        refine at_end ?_
        refine at_retc ?_
        refine at_ret1 rfl (.tmp rfl) ?_
        intro w' hs
        have hop := pl_op (xs := xs) (cl := cl) (by omega) (by simp [*])
        exact ⟨_, rfl, by rw [hop, legTo_len, hl]; exact rowBack hs (k := 0) rfl, hs.fin⟩
/-! ### Points in strokes -/
/-- The sweep of a pen along a leg. -/
def swpP (pen : List Pn) (l : Leg) : List Pn := hullP (smsP pen [lA l, lB l])
def shL (pen : List Pn) (p : Pn) : List Leg → Bool × Int
  | [] => (false, 0)
  | l :: r => if allOk (swpP pen l) = true then (if hasB (swpP pen l) p = true then (true, 0) else shL pen p r) else (false, 2)
def shB (pen path : List Pn) (p : Pn) : Bool := penB pen && (ringB path && okB p.1 p.2)
def shV (pen path : List Pn) (cl : Bool) (p : Pn) : Bool × Int := if shB pen path p = true then shL pen p (legsP path cl) else (false, 1)
theorem sh_no {pen path : List Pn} {cl : Bool} {p : Pn} (h : shB pen path p = false) : shV pen path cl p = (false, 1) := by simp [shV, h]
theorem shB_of {pen path : List Pn} {p : Pn} (h : shB pen path p = true) : penB pen = true ∧ ringB path = true ∧ bd2 p := by
  simp only [shB, Bool.and_eq_true] at h
  exact ⟨h.1, h.2.1, okB_bd2 h.2.2⟩
theorem lg_drop {ls : List Leg} {k : Nat} (h : k < ls.length) : ls.drop k = lg ls k :: ls.drop (k + 1) := by rw [List.drop_eq_getElem_cons h, at_l h]
theorem shL_bad {pen : List Pn} {p : Pn} {ls : List Leg} {k : Nat} (h : k < ls.length) (hb : allOk (swpP pen (lg ls k)) = false) : shL pen p (ls.drop k) = (false, 2) := by rw [lg_drop h, shL, if_neg (by rw [hb]; decide)]
theorem shL_yes {pen : List Pn} {p : Pn} {ls : List Leg} {k : Nat} (h : k < ls.length) (hb : allOk (swpP pen (lg ls k)) = true) (hh : hasB (swpP pen (lg ls k)) p = true) : shL pen p (ls.drop k) = (true, 0) := by rw [lg_drop h, shL, if_pos hb, if_pos hh]
theorem shL_next {pen : List Pn} {p : Pn} {ls : List Leg} {k : Nat} (h : k < ls.length) (hb : allOk (swpP pen (lg ls k)) = true) (hh : hasB (swpP pen (lg ls k)) p = false) : shL pen p (ls.drop (k + 1)) = shL pen p (ls.drop k) := by rw [lg_drop h, shL, if_pos hb, if_neg (by rw [hh]; decide)]
theorem swpP_len {pen : List Pn} (h : penB pen = true) (l : Leg) : 0 < (swpP pen l).length ∧ (swpP pen l).length ≤ 64 := by
  refine ⟨hull_pos ?_, swp_len h _ _⟩
  have := (pen_of h).1
  rw [sms_len]
  exact Nat.mul_pos (by omega) (show 0 < 2 by decide)
theorem swpP_H {pen : List Pn} (h : penB pen = true) {l : Leg} (hl : legOk l) : ∀ p ∈ swpP pen l, bdH p := fun p hp => sms_H (allOk_bd (pen_of h).2.1) (pair_bd (lA_ok hl) (lB_ok hl)) p (hull_mem hp)
theorem StrokeHas_any (A : Option Addr) (n c : Nat) (pen : List Pn) (B : Option Addr) (m d : Nat) (path : List Pn) (cl : Bool) (p : Pn) (w : World) (h : Pts w A n pen) (h2 : Pts w B m path) (hn : (n : Int) ≤ 1048576) (hm : (m : Int) ≤ 1048576) :
    Calls Try.prog 38 #[.slice A n c, .slice B m d, .bool cl, pV p] w fun e w' => e = .returned (.tuple #[.bool (shV pen path cl p).1, .int .i64 (shV pen path cl p).2]) ∧ Over w w' := by
  have hl := h.1
  have hl2 := h2.1
  refine walk_from (m := 51) (Try.func38) rfl rfl (Nat.le_of_ble_eq_true rfl) ?_
  refine at_seq ?_
  refine at_region ?_
  refine at_op rfl ?_
  refine op_box rfl rfl (rfl) rfl (by decide) (fun b1 => ?_)
  refine at_rsE (by simp only [List.nil_append, List.cons_append, List.set_cons_zero, List.set_cons_succ, Value.cells, List.toList_toArray]; rfl) ?_
  refine at_q rfl rfl (by decide) (qt_assign rfl rfl) ?_
  refine at_q rfl rfl (by decide) (qt_assign rfl rfl) ?_
  refine at_end ?_
  refine at_seq ?_
  refine at_seq ?_
  refine at_region ?_
  refine at_q rfl rfl (by decide) (qt_move rfl rfl) ?_
  refine at_q rfl rfl (by decide) (qt_call ok_impl_IsPen rfl rfl (fun w1 hs => IsPen_any A n c pen w1 (h.over hs.fin) hn)) ?_
  refine at_q rfl rfl (by decide) (qt_not rfl rfl) ?_
  refine at_q rfl rfl (by decide) (qt_move rfl rfl) ?_
  refine at_bsplit 17 rfl (fun g1 => ?_) (fun g1 => ?_)
  · try simp only [decide_eq_true_eq, decide_eq_false_iff_not, beq_iff_eq, beq_eq_false_iff_ne, Bool.not_eq_true', Bool.not_eq_false', Bool.not_true, Bool.not_false, Int.not_lt, Int.not_le, ne_eq, Nat.not_lt, Nat.not_le] at g1
    refine at_off rfl rfl rfl rfl (by decide) rfl (by decide) ?_
    refine at_off rfl rfl rfl rfl (by decide) rfl (by decide) ?_
    refine at_off rfl rfl rfl rfl (by decide) rfl (by decide) ?_
    refine at_q rfl rfl (by decide) (qt_pickT rfl rfl rfl) ?_
    refine at_q rfl rfl (by decide) (qt_move rfl rfl) ?_
    refine at_off rfl rfl rfl rfl (by decide) rfl (by decide) ?_
    refine at_off rfl rfl rfl rfl (by decide) rfl (by decide) ?_
    refine at_off rfl rfl rfl rfl (by decide) rfl (by decide) ?_
    refine at_q rfl rfl (by decide) (qt_pickT rfl rfl rfl) ?_
    refine at_end ?_
    refine at_yes rfl rfl ?_
    refine at_seq ?_
    refine at_region ?_
    refine at_q rfl rfl (by decide) (qt_assign rfl rfl) ?_
    refine at_q rfl rfl (by decide) (qt_assign rfl rfl) ?_
    refine at_end ?_
    refine at_retc ?_
    refine then_ret ?_
    refine at_ret2 rfl (.tmp rfl) (.tmp rfl) ?_
    intro w' hs
    have h1 := sh_no (pen := pen) (path := path) (cl := cl) (p := p) (by simp_all [shB])
    exact ⟨by rw [h1], hs.fin⟩
  · try simp only [decide_eq_true_eq, decide_eq_false_iff_not, beq_iff_eq, beq_eq_false_iff_ne, Bool.not_eq_true', Bool.not_eq_false', Bool.not_true, Bool.not_false, Int.not_lt, Int.not_le, ne_eq, Nat.not_lt, Nat.not_le] at g1
    refine at_on rfl rfl rfl rfl ?_
    refine op_q rfl (by decide) (qt_move rfl rfl) ?_
    refine at_on rfl rfl rfl rfl ?_
    refine op_q rfl (by decide) (qt_call ok_impl_isPath rfl rfl (fun w1 hs => isPath_any B m d path w1 (h2.over hs.fin) (by omega))) ?_
    refine at_on rfl rfl rfl rfl ?_
    refine op_q rfl (by decide) (qt_not rfl rfl) ?_
    refine at_q rfl rfl (by decide) (qt_pickF rfl rfl rfl) ?_
    refine at_q rfl rfl (by decide) (qt_move rfl rfl) ?_
    refine at_bsplit 22 rfl (fun g2 => ?_) (fun g2 => ?_)
    · try simp only [decide_eq_true_eq, decide_eq_false_iff_not, beq_iff_eq, beq_eq_false_iff_ne, Bool.not_eq_true', Bool.not_eq_false', Bool.not_true, Bool.not_false, Int.not_lt, Int.not_le, ne_eq, Nat.not_lt, Nat.not_le] at g2
      refine at_off rfl rfl rfl rfl (by decide) rfl (by decide) ?_
      refine at_off rfl rfl rfl rfl (by decide) rfl (by decide) ?_
      refine at_off rfl rfl rfl rfl (by decide) rfl (by decide) ?_
      refine at_q rfl rfl (by decide) (qt_pickT rfl rfl rfl) ?_
      refine at_end ?_
      refine at_yes rfl rfl ?_
      refine at_seq ?_
      refine at_region ?_
      refine at_q rfl rfl (by decide) (qt_assign rfl rfl) ?_
      refine at_q rfl rfl (by decide) (qt_assign rfl rfl) ?_
      refine at_end ?_
      refine at_retc ?_
      refine then_ret ?_
      refine at_ret2 rfl (.tmp rfl) (.tmp rfl) ?_
      intro w' hs
      have h1 := sh_no (pen := pen) (path := path) (cl := cl) (p := p) (by simp_all [shB])
      exact ⟨by rw [h1], hs.fin⟩
    · try simp only [decide_eq_true_eq, decide_eq_false_iff_not, beq_iff_eq, beq_eq_false_iff_ne, Bool.not_eq_true', Bool.not_eq_false', Bool.not_true, Bool.not_false, Int.not_lt, Int.not_le, ne_eq, Nat.not_lt, Nat.not_le] at g2
      refine at_on rfl rfl rfl rfl ?_
      refine op_q rfl (by decide) (qt_loadS rfl rfl tys_impl_Pt rfl (rdAll (k := 0) rfl)) ?_
      refine at_on rfl rfl rfl rfl ?_
      refine op_q rfl (by decide) (qt_call ok_impl_ValidPt rfl rfl (fun w1 hs => ValidPt_any p.1 p.2 w1)) ?_
      refine at_on rfl rfl rfl rfl ?_
      refine op_q rfl (by decide) (qt_not rfl rfl) ?_
      refine at_q rfl rfl (by decide) (qt_pickF rfl rfl rfl) ?_
      refine at_end ?_
      refine at_cond rfl (fun c1 => ?_) (fun c1 => ?_)
      · try simp only [decide_eq_true_eq, decide_eq_false_iff_not, beq_iff_eq, beq_eq_false_iff_ne, Bool.not_eq_true', Bool.not_eq_false', Bool.not_true, Bool.not_false, Int.not_lt, Int.not_le, ne_eq, Nat.not_lt, Nat.not_le] at c1
        refine at_seq ?_
        refine at_region ?_
        refine at_q rfl rfl (by decide) (qt_assign rfl rfl) ?_
        refine at_q rfl rfl (by decide) (qt_assign rfl rfl) ?_
        refine at_end ?_
        refine at_retc ?_
        refine then_ret ?_
        refine at_ret2 rfl (.tmp rfl) (.tmp rfl) ?_
        intro w' hs
        have h1 := sh_no (pen := pen) (path := path) (cl := cl) (p := p) (by simp_all [shB])
        exact ⟨by rw [h1], hs.fin⟩
      · try simp only [decide_eq_true_eq, decide_eq_false_iff_not, beq_iff_eq, beq_eq_false_iff_ne, Bool.not_eq_true', Bool.not_eq_false', Bool.not_true, Bool.not_false, Int.not_lt, Int.not_le, ne_eq, Nat.not_lt, Nat.not_le] at c1
        have hB : shB pen path p = true := by simp_all [shB]
        obtain ⟨hpen, hpath, hp⟩ := shB_of hB
        obtain ⟨kb, kb2⟩ := ring_in hpath
        have hlo := pl_ok (cl := cl) kb2 (by omega)
        have hll := pl_len path cl
        obtain ⟨ka, ka2, _⟩ := pen_of hpen
        have hV : shV pen path cl p = shL pen p (legsP path cl) := if_pos hB
        rw [hV]
        clear hV
        refine at_skip ?_
        refine norm_then ?_
        refine at_seq ?_
        refine at_seq ?_
        refine at_region ?_
        refine at_q rfl rfl (by decide) (qt_move rfl rfl) ?_
        refine at_q rfl rfl (by decide) (qt_move rfl rfl) ?_
        refine at_op rfl ?_
        refine op_call ok_impl_legsOf (v := fun x => .slice x.1 _ x.2) (r := fun x => rowR 0 92 4 _ _ x) (H := fun _ => True) rfl rfl rfl (by decide) (fun w1 hs => newRow' (legsOf_any B m d path cl w1 (h2.over hs.fin) (by omega) (by omega))) ?_
        rintro ⟨lA_, lc⟩ -
        refine at_rsE (by simp only [List.nil_append, List.cons_append, List.set_cons_zero, List.set_cons_succ, Value.cells, List.toList_toArray]; rfl) ?_
        generalize legsP path cl = ls at *
        refine at_q rfl rfl (by decide) (qt_len rfl rfl tyl_sl_impl_leg) ?_
        refine at_q rfl rfl (by decide) (qt_move rfl rfl) ?_
        refine at_end ?_
        refine at_block ?_
        refine at_loopc (X := Nat) (fun k => k ≤ ls.length ∧ shL pen p (ls.drop k) = shL pen p ls) (fun k => ls.length - k) (fun k => [(31, .int .i64 (k : Int))]) (C := [(0, _), (7, _), (8, _), (9, _), (29, _), (30, _)]) ⟨rfl, rfl, rfl, rfl, rfl, rfl, trivial⟩ (fun k => [.cel b1 34 [.int .i64 p.1, .int .i64 p.2], rowR 0 92 4 ls.length (ls.flatMap legCells) (lA_, lc)]) 0 (⟨Nat.zero_le _, rfl⟩) ⟨rfl, rfl, rfl, rfl, rfl, rfl, rfl, trivial⟩ (fun _ h => h) ?_
        intro k hk L hL1
        refine at_envE (by simp only [List.nil_append, List.cons_append]; rfl) ?_
        refine at_rsE (by first | (dsimp only; done) | (dsimp only; rfl) | rfl) ?_
        refine at_seq ?_
        refine at_region ?_
        refine at_q rfl rfl (by decide) (qt_lss rfl rfl rfl) ?_
        refine at_end ?_
        refine at_seq ?_
        refine at_cond rfl (fun c2 => ?_) (fun c2 => ?_)
        · try simp only [decide_eq_true_eq, decide_eq_false_iff_not, beq_iff_eq, beq_eq_false_iff_ne, Bool.not_eq_true', Bool.not_eq_false', Bool.not_true, Bool.not_false, Int.not_lt, Int.not_le, ne_eq, Nat.not_lt, Nat.not_le] at c2
          have hlt : k < ls.length := (by omega)
          have hlk := lg_ok hlo hlt
          have hsl := swpP_len hpen (lg ls k)
          refine at_fact (fun w hs => rowSome (k := 1) rfl hs (by omega)) ?_
          rintro ⟨eg, rfl⟩
          refine at_skip ?_
          refine norm_then ?_
          refine at_seq ?_
          refine at_block ?_
          refine at_seq ?_
          refine at_region ?_
          refine at_q rfl rfl (by decide) (qt_index rfl rfl rfl tyl_sl_impl_leg (by omega)) ?_
          refine at_q rfl rfl (by decide) (qt_loadS rfl rfl tys_impl_leg rfl (rdLeg (fun w1 hs => rowLegs (k := 1) (x := (some ⟨eg, 0, none⟩, lc)) rfl rfl w1 hs) hlt)) ?_
          refine at_op rfl ?_
          refine op_alloc rfl tyz_impl_leg rfl (by decide) (fun b2 => ?_)
          refine at_rsE (by simp only [List.nil_append, List.cons_append, List.set_cons_zero, List.set_cons_succ, Value.cells, List.toList_toArray]; rfl) ?_
          refine at_op rfl ?_
          refine op_storeAll' (k := 2) rfl rfl rfl rfl (rfl) (by rfl) tyz_impl_leg.szx rfl rfl rfl ?_
          refine at_rsE (by simp only [List.nil_append, List.cons_append, List.set_cons_zero, List.set_cons_succ, Value.cells, List.toList_toArray]; rfl) ?_
          refine at_end ?_
          refine at_seq ?_
          refine at_region ?_
          refine at_q rfl rfl (by decide) (qt_move rfl rfl) ?_
          refine at_q rfl rfl (by decide) (qt_fieldAddr rfl rfl tyf_impl_leg_0) ?_
          refine at_q rfl rfl (by decide) (qt_loadS rfl rfl tys_impl_Pt rfl (rd2 (k := 2) rfl rfl rfl)) ?_
          refine at_q rfl rfl (by decide) (qt_fieldAddr rfl rfl tyf_impl_leg_1) ?_
          refine at_q rfl rfl (by decide) (qt_loadS rfl rfl tys_impl_Pt rfl (rd2 (k := 2) rfl rfl rfl)) ?_
          refine at_op rfl ?_
          refine op_buildSlice rfl rfl (bsl_sl_impl_Pt_2_0_1 rfl rfl) rfl (by decide) (fun b3 => ?_)
          refine at_rsE (by simp only [List.nil_append, List.cons_append, List.set_cons_zero, List.set_cons_succ, Value.cells, List.toList_toArray]; rfl) ?_
          refine at_op rfl ?_
          refine op_call ok_impl_sumsOf (v := fun x => .tuple #[.slice x.1 _ x.2, .bool _]) (r := fun x => rowR 0 34 2 _ _ x) (H := fun _ => True) rfl rfl rfl (by decide) (fun w1 hs => newRowT (sumsOf_any A n c pen _ 2 2 [lA (lg ls k), lB (lg ls k)] w1 (h.over hs.fin) (ptsCel [lA (lg ls k), lB (lg ls k)] (k := 3) rfl rfl w1 hs) (allOk_bd ka2) (pair_bd (lA_ok hlk) (lB_ok hlk)) (by omega) (by omega))) ?_
          rintro ⟨pA, pc⟩ -
          refine at_rsE (by simp only [List.nil_append, List.cons_append, List.set_cons_zero, List.set_cons_succ, Value.cells, List.toList_toArray]; rfl) ?_
          refine at_q rfl rfl (by decide) (qt_move rfl rfl) ?_
          refine at_q rfl rfl (by decide) (qt_extract rfl rfl rfl) ?_
          refine at_q rfl rfl (by decide) (qt_extract rfl rfl rfl) ?_
          refine at_q rfl rfl (by decide) (qt_assign rfl rfl) ?_
          refine at_q rfl rfl (by decide) (qt_assign rfl rfl) ?_
          refine at_end ?_
          refine at_seq ?_
          refine at_seq ?_
          refine at_region ?_
          refine at_q rfl rfl (by decide) (qt_move rfl rfl) ?_
          refine at_q rfl rfl (by decide) (qt_not rfl rfl) ?_
          refine at_end ?_
          refine at_cond rfl (fun c3 => ?_) (fun c3 => ?_)
          · try simp only [decide_eq_true_eq, decide_eq_false_iff_not, beq_iff_eq, beq_eq_false_iff_ne, Bool.not_eq_true', Bool.not_eq_false', Bool.not_true, Bool.not_false, Int.not_lt, Int.not_le, ne_eq, Nat.not_lt, Nat.not_le] at c3
            refine at_seq ?_
            refine at_region ?_
            refine at_q rfl rfl (by decide) (qt_assign rfl rfl) ?_
            refine at_q rfl rfl (by decide) (qt_assign rfl rfl) ?_
            refine at_end ?_
            refine at_retc ?_
            refine then_ret ?_
            refine pass_ret ?_
            refine then_ret ?_
            refine then_ret ?_
            refine pass_ret ?_
            refine then_ret ?_
            refine at_ret2 rfl (.tmp rfl) (.tmp rfl) ?_
            intro w' hs
            exact ⟨by rw [← hk.2, shL_bad hlt (by simp_all [swpP])], hs.fin⟩
          · try simp only [decide_eq_true_eq, decide_eq_false_iff_not, beq_iff_eq, beq_eq_false_iff_ne, Bool.not_eq_true', Bool.not_eq_false', Bool.not_true, Bool.not_false, Int.not_lt, Int.not_le, ne_eq, Nat.not_lt, Nat.not_le] at c3
            have hok : allOk (swpP pen (lg ls k)) = true := by simp_all [swpP]
            refine at_skip ?_
            refine norm_then ?_
            refine at_seq ?_
            refine at_region ?_
            refine at_q rfl rfl (by decide) (qt_move rfl rfl) ?_
            refine at_q rfl rfl (by decide) (qt_loadS rfl rfl tys_impl_Pt rfl (rdAll (k := 0) rfl)) ?_
            refine at_q rfl rfl (by decide) (qt_call ok_impl_hullHas rfl rfl (fun w1 hs => hullHas_any _ _ _ (swpP pen (lg ls k)) p w1 (ptsRow (hs.all 4 _ rfl).1 rfl) (swpP_H hpen hlk) hp.mid hsl.1 (Nat.le_trans hsl.2 (by decide)))) ?_
            refine at_end ?_
            refine at_cond rfl (fun c4 => ?_) (fun c4 => ?_)
            · try simp only [decide_eq_true_eq, decide_eq_false_iff_not, beq_iff_eq, beq_eq_false_iff_ne, Bool.not_eq_true', Bool.not_eq_false', Bool.not_true, Bool.not_false, Int.not_lt, Int.not_le, ne_eq, Nat.not_lt, Nat.not_le] at c4
              refine at_seq ?_
              refine at_region ?_
              refine at_q rfl rfl (by decide) (qt_assign rfl rfl) ?_
              refine at_q rfl rfl (by decide) (qt_assign rfl rfl) ?_
              refine at_end ?_
              refine at_retc ?_
              refine pass_ret ?_
              refine then_ret ?_
              refine then_ret ?_
              refine pass_ret ?_
              refine then_ret ?_
              refine at_ret2 rfl (.tmp rfl) (.tmp rfl) ?_
              intro w' hs
              exact ⟨by rw [← hk.2, shL_yes hlt hok (by simp_all)], hs.fin⟩
            · try simp only [decide_eq_true_eq, decide_eq_false_iff_not, beq_iff_eq, beq_eq_false_iff_ne, Bool.not_eq_true', Bool.not_eq_false', Bool.not_true, Bool.not_false, Int.not_lt, Int.not_le, ne_eq, Nat.not_lt, Nat.not_le] at c4
              refine at_skip ?_
              refine norm_block ?_
              refine norm_then ?_
              refine at_region ?_
              refine at_q rfl rfl (by decide) (qt_add rfl rfl rfl (by omega) (by omega)) ?_
              refine at_q rfl rfl (by decide) (qt_move rfl rfl) ?_
              refine at_end ?_
              exact at_againc hL1 (k + 1) (⟨by omega, (shL_next hlt hok (by simp_all)).trans hk.2⟩) (by omega) ⟨vi (by omega), rfl, rfl, rfl, rfl, rfl, rfl, trivial⟩ (fun _ h => h.upto ⟨rfl, rfl, trivial⟩)
        · try simp only [decide_eq_true_eq, decide_eq_false_iff_not, beq_iff_eq, beq_eq_false_iff_ne, Bool.not_eq_true', Bool.not_eq_false', Bool.not_true, Bool.not_false, Int.not_lt, Int.not_le, ne_eq, Nat.not_lt, Nat.not_le] at c2
          refine at_exit ?_
          refine pass_then (fun h => by cases h) ?_
          refine pass_then (fun h => by cases h) ?_
          refine pass_hit ?_
          refine norm_then ?_
          refine at_seq ?_
          refine at_region ?_
          refine at_q rfl rfl (by decide) (qt_assign rfl rfl) ?_
          refine at_q rfl rfl (by decide) (qt_assign rfl rfl) ?_
          refine at_end ?_
          refine at_retc ?_
          refine at_ret2 rfl (.tmp rfl) (.tmp rfl) ?_
          intro w' hs
          have hkn : k = ls.length := by omega
          have h0 := hk.2
          rw [hkn, List.drop_length] at h0
          exact ⟨by rw [← h0]; rfl, hs.fin⟩
theorem l12Sweep_leg (A : Option Addr) (n c : Nat) (pen : List Pn) (l : Leg) (w : World) (h : Pts w A n pen) (hpen : penB pen = true) (hl : legOk l) :
    Calls Try.prog 73 #[.slice A n c, ptV l.ax l.ay, ptV l.bx l.b_y] w fun e w' => ∃ x : Option Addr × Nat, e = .returned (.tuple #[.slice x.1 (swpP pen l).length x.2, .bool (allOk (swpP pen l))]) ∧ w'.ownsRow w.heap.size 34 2 (.slice x.1 (swpP pen l).length x.2) (swpP pen l).length ((swpP pen l).flatMap ptCells) ∧ Over w w' :=
  l12Sweep_any A n c pen (lA l) (lB l) w h hpen (lA_ok hl) (lB_ok hl)
theorem specStrokeHas_any (A : Option Addr) (n c : Nat) (pen : List Pn) (B : Option Addr) (m d : Nat) (path : List Pn) (cl : Bool) (p : Pn) (w : World) (h : Pts w A n pen) (h2 : Pts w B m path) (hn : (n : Int) ≤ 1048576) (hm : (m : Int) ≤ 1048576) :
    Calls Try.prog 37 #[.slice A n c, .slice B m d, .bool cl, pV p] w fun e w' => e = .returned (.tuple #[.bool (shV pen path cl p).1, .int .i64 (shV pen path cl p).2]) ∧ Over w w' := by
  have hl := h.1
  have hl2 := h2.1
  refine walk_from (m := 56) (Try.func37) rfl rfl (Nat.le_of_ble_eq_true rfl) ?_
  refine at_seq ?_
  refine at_region ?_
  refine at_op rfl ?_
  refine op_box rfl rfl (rfl) rfl (by decide) (fun b1 => ?_)
  refine at_rsE (by simp only [List.nil_append, List.cons_append, List.set_cons_zero, List.set_cons_succ, Value.cells, List.toList_toArray]; rfl) ?_
  refine at_q rfl rfl (by decide) (qt_assign rfl rfl) ?_
  refine at_q rfl rfl (by decide) (qt_assign rfl rfl) ?_
  refine at_end ?_
  refine at_seq ?_
  refine at_seq ?_
  refine at_region ?_
  refine at_q rfl rfl (by decide) (qt_move rfl rfl) ?_
  refine at_q rfl rfl (by decide) (qt_call ok_spec_l11Pen rfl rfl (fun w1 hs => l11Pen_any A n c pen w1 (h.over hs.fin) hn)) ?_
  refine at_q rfl rfl (by decide) (qt_not rfl rfl) ?_
  refine at_q rfl rfl (by decide) (qt_move rfl rfl) ?_
  refine at_bsplit 17 rfl (fun g1 => ?_) (fun g1 => ?_)
  · try simp only [decide_eq_true_eq, decide_eq_false_iff_not, beq_iff_eq, beq_eq_false_iff_ne, Bool.not_eq_true', Bool.not_eq_false', Bool.not_true, Bool.not_false, Int.not_lt, Int.not_le, ne_eq, Nat.not_lt, Nat.not_le] at g1
    refine at_off rfl rfl rfl rfl (by decide) rfl (by decide) ?_
    refine at_off rfl rfl rfl rfl (by decide) rfl (by decide) ?_
    refine at_off rfl rfl rfl rfl (by decide) rfl (by decide) ?_
    refine at_q rfl rfl (by decide) (qt_pickT rfl rfl rfl) ?_
    refine at_q rfl rfl (by decide) (qt_move rfl rfl) ?_
    refine at_off rfl rfl rfl rfl (by decide) rfl (by decide) ?_
    refine at_off rfl rfl rfl rfl (by decide) rfl (by decide) ?_
    refine at_off rfl rfl rfl rfl (by decide) rfl (by decide) ?_
    refine at_q rfl rfl (by decide) (qt_pickT rfl rfl rfl) ?_
    refine at_end ?_
    refine at_yes rfl rfl ?_
    refine at_seq ?_
    refine at_region ?_
    refine at_q rfl rfl (by decide) (qt_assign rfl rfl) ?_
    refine at_q rfl rfl (by decide) (qt_assign rfl rfl) ?_
    refine at_end ?_
    refine at_retc ?_
    refine then_ret ?_
    refine at_ret2 rfl (.tmp rfl) (.tmp rfl) ?_
    intro w' hs
    have h1 := sh_no (pen := pen) (path := path) (cl := cl) (p := p) (by simp_all [shB])
    exact ⟨by rw [h1], hs.fin⟩
  · try simp only [decide_eq_true_eq, decide_eq_false_iff_not, beq_iff_eq, beq_eq_false_iff_ne, Bool.not_eq_true', Bool.not_eq_false', Bool.not_true, Bool.not_false, Int.not_lt, Int.not_le, ne_eq, Nat.not_lt, Nat.not_le] at g1
    refine at_on rfl rfl rfl rfl ?_
    refine op_q rfl (by decide) (qt_move rfl rfl) ?_
    refine at_on rfl rfl rfl rfl ?_
    refine op_q rfl (by decide) (qt_call ok_spec_l12Path rfl rfl (fun w1 hs => l12Path_any B m d path w1 (h2.over hs.fin) (by omega))) ?_
    refine at_on rfl rfl rfl rfl ?_
    refine op_q rfl (by decide) (qt_not rfl rfl) ?_
    refine at_q rfl rfl (by decide) (qt_pickF rfl rfl rfl) ?_
    refine at_q rfl rfl (by decide) (qt_move rfl rfl) ?_
    refine at_bsplit 22 rfl (fun g2 => ?_) (fun g2 => ?_)
    · try simp only [decide_eq_true_eq, decide_eq_false_iff_not, beq_iff_eq, beq_eq_false_iff_ne, Bool.not_eq_true', Bool.not_eq_false', Bool.not_true, Bool.not_false, Int.not_lt, Int.not_le, ne_eq, Nat.not_lt, Nat.not_le] at g2
      refine at_off rfl rfl rfl rfl (by decide) rfl (by decide) ?_
      refine at_off rfl rfl rfl rfl (by decide) rfl (by decide) ?_
      refine at_off rfl rfl rfl rfl (by decide) rfl (by decide) ?_
      refine at_q rfl rfl (by decide) (qt_pickT rfl rfl rfl) ?_
      refine at_end ?_
      refine at_yes rfl rfl ?_
      refine at_seq ?_
      refine at_region ?_
      refine at_q rfl rfl (by decide) (qt_assign rfl rfl) ?_
      refine at_q rfl rfl (by decide) (qt_assign rfl rfl) ?_
      refine at_end ?_
      refine at_retc ?_
      refine then_ret ?_
      refine at_ret2 rfl (.tmp rfl) (.tmp rfl) ?_
      intro w' hs
      have h1 := sh_no (pen := pen) (path := path) (cl := cl) (p := p) (by simp_all [shB])
      exact ⟨by rw [h1], hs.fin⟩
    · try simp only [decide_eq_true_eq, decide_eq_false_iff_not, beq_iff_eq, beq_eq_false_iff_ne, Bool.not_eq_true', Bool.not_eq_false', Bool.not_true, Bool.not_false, Int.not_lt, Int.not_le, ne_eq, Nat.not_lt, Nat.not_le] at g2
      refine at_on rfl rfl rfl rfl ?_
      refine op_q rfl (by decide) (qt_loadS rfl rfl tys_impl_Pt rfl (rdAll (k := 0) rfl)) ?_
      refine at_on rfl rfl rfl rfl ?_
      refine op_q rfl (by decide) (qt_call ok_spec_l03Ok rfl rfl (fun w1 hs => l03Ok_any p.1 p.2 w1)) ?_
      refine at_on rfl rfl rfl rfl ?_
      refine op_q rfl (by decide) (qt_not rfl rfl) ?_
      refine at_q rfl rfl (by decide) (qt_pickF rfl rfl rfl) ?_
      refine at_end ?_
      refine at_cond rfl (fun c1 => ?_) (fun c1 => ?_)
      · try simp only [decide_eq_true_eq, decide_eq_false_iff_not, beq_iff_eq, beq_eq_false_iff_ne, Bool.not_eq_true', Bool.not_eq_false', Bool.not_true, Bool.not_false, Int.not_lt, Int.not_le, ne_eq, Nat.not_lt, Nat.not_le] at c1
        refine at_seq ?_
        refine at_region ?_
        refine at_q rfl rfl (by decide) (qt_assign rfl rfl) ?_
        refine at_q rfl rfl (by decide) (qt_assign rfl rfl) ?_
        refine at_end ?_
        refine at_retc ?_
        refine then_ret ?_
        refine at_ret2 rfl (.tmp rfl) (.tmp rfl) ?_
        intro w' hs
        have h1 := sh_no (pen := pen) (path := path) (cl := cl) (p := p) (by simp_all [shB])
        exact ⟨by rw [h1], hs.fin⟩
      · try simp only [decide_eq_true_eq, decide_eq_false_iff_not, beq_iff_eq, beq_eq_false_iff_ne, Bool.not_eq_true', Bool.not_eq_false', Bool.not_true, Bool.not_false, Int.not_lt, Int.not_le, ne_eq, Nat.not_lt, Nat.not_le] at c1
        have hB : shB pen path p = true := by simp_all [shB]
        obtain ⟨hpen, hpath, hp⟩ := shB_of hB
        obtain ⟨kb, kb2⟩ := ring_in hpath
        have hlo := pl_ok (cl := cl) kb2 (by omega)
        have hll := pl_len path cl
        obtain ⟨ka, ka2, _⟩ := pen_of hpen
        have hV : shV pen path cl p = shL pen p (legsP path cl) := if_pos hB
        rw [hV]
        clear hV
        refine at_skip ?_
        refine norm_then ?_
        refine at_seq ?_
        refine at_region ?_
        refine at_q rfl rfl (by decide) (qt_move rfl rfl) ?_
        refine at_q rfl rfl (by decide) (qt_move rfl rfl) ?_
        refine at_op rfl ?_
        refine op_call ok_spec_l12Legs (v := fun x => .slice x.1 _ x.2) (r := fun x => rowR 0 88 4 _ _ x) (H := fun _ => True) rfl rfl rfl (by decide) (fun w1 hs => newRow' (l12Legs_any B m d path cl w1 (h2.over hs.fin) (by omega) (by omega))) ?_
        rintro ⟨lA_, lc⟩ -
        refine at_rsE (by simp only [List.nil_append, List.cons_append, List.set_cons_zero, List.set_cons_succ, Value.cells, List.toList_toArray]; rfl) ?_
        generalize legsP path cl = ls at *
        refine at_q rfl rfl (by decide) (qt_assign rfl rfl) ?_
        refine at_end ?_
        refine at_seq ?_
        refine at_seq ?_
        refine at_region ?_
        refine at_q rfl rfl (by decide) (qt_assign rfl rfl) ?_
        refine at_end ?_
        refine at_block ?_
        refine at_loopc (X := Nat) (fun k => k ≤ ls.length ∧ shL pen p (ls.drop k) = shL pen p ls) (fun k => ls.length - k) (fun k => [(11, .int .i64 (k : Int))]) (C := [(0, _), (7, _), (8, _), (9, _), (10, _)]) ⟨rfl, rfl, rfl, rfl, rfl, trivial⟩ (fun k => [.cel b1 34 [.int .i64 p.1, .int .i64 p.2], rowR 0 88 4 ls.length (ls.flatMap legCells) (lA_, lc)]) 0 (⟨Nat.zero_le _, rfl⟩) ⟨rfl, rfl, rfl, rfl, rfl, rfl, trivial⟩ (fun _ h => h) ?_
        intro k hk L hL1
        refine at_envE (by simp only [List.nil_append, List.cons_append]; rfl) ?_
        refine at_rsE (by first | (dsimp only; done) | (dsimp only; rfl) | rfl) ?_
        refine at_seq ?_
        refine at_seq ?_
        refine at_region ?_
        refine at_q rfl rfl (by decide) (qt_move rfl rfl) ?_
        refine at_q rfl rfl (by decide) (qt_move rfl rfl) ?_
        refine at_q rfl rfl (by decide) (qt_len rfl rfl tyl_sl_spec_l13Edge) ?_
        refine at_q rfl rfl (by decide) (qt_lss rfl rfl rfl) ?_
        refine at_end ?_
        refine at_cond rfl (fun c2 => ?_) (fun c2 => ?_)
        · try simp only [decide_eq_true_eq, decide_eq_false_iff_not, beq_iff_eq, beq_eq_false_iff_ne, Bool.not_eq_true', Bool.not_eq_false', Bool.not_true, Bool.not_false, Int.not_lt, Int.not_le, ne_eq, Nat.not_lt, Nat.not_le] at c2
          have hlt : k < ls.length := (by omega)
          have hlk := lg_ok hlo hlt
          have hsl := swpP_len hpen (lg ls k)
          refine at_fact (fun w hs => rowSome (k := 1) rfl hs (by omega)) ?_
          rintro ⟨eg, rfl⟩
          refine at_skip ?_
          refine norm_then ?_
          refine at_seq ?_
          refine at_block ?_
          refine at_seq ?_
          refine dg_start mixed rfl ?_
          refine dg_phase 17 ?_
          refine dg_q (i := 0) rfl (by kernel_rfl) (by kernel_rfl) (by kernel_rfl) [] (by kernel_rfl) (fun _ _ _ h => h) rfl rfl (by decide) (fun _ h => h.upto ⟨rfl, rfl, trivial⟩) (qt_move rfl rfl) ?_
          refine dg_q (i := 1) rfl (by kernel_rfl) (by kernel_rfl) (by kernel_rfl) [] (by kernel_rfl) (fun _ _ _ h => h) rfl rfl (by decide) (fun _ h => h.upto ⟨rfl, rfl, trivial⟩) (qt_move rfl rfl) ?_
          refine dg_q (i := 2) rfl (by kernel_rfl) (by kernel_rfl) (by kernel_rfl) [] (by kernel_rfl) (fun _ _ _ h => h) rfl rfl (by decide) (fun _ h => h.upto ⟨rfl, rfl, trivial⟩) (qt_move rfl rfl) ?_
          refine dg_q (i := 3) rfl (by kernel_rfl) (by kernel_rfl) (by kernel_rfl) [] (by kernel_rfl) (fun _ _ _ h => h) rfl rfl (by decide) (fun _ h => h.upto ⟨rfl, rfl, trivial⟩) (qt_index rfl rfl rfl tyl_sl_spec_l13Edge (by omega)) ?_
          refine dg_q (i := 4) rfl (by kernel_rfl) (by kernel_rfl) (by kernel_rfl) [] (by kernel_rfl) (fun _ _ _ h => h) rfl rfl (by decide) (fun _ h => h.upto ⟨rfl, rfl, trivial⟩) (qt_fieldAddr rfl rfl tyf_spec_l13Edge_0) ?_
          refine dg_q (i := 5) rfl (by kernel_rfl) (by kernel_rfl) (by kernel_rfl) [] (by kernel_rfl) (fun _ _ _ h => h) rfl rfl (by decide) (fun _ h => h.upto ⟨rfl, rfl, trivial⟩) (qt_loadS rfl rfl tys_impl_Pt rfl (rdLegA (b := eg) (o := 0) (fun w1 hs => rowLegs (k := 1) (x := (some ⟨eg, 0, none⟩, lc)) rfl rfl w1 hs) hlt)) ?_
          refine dg_q (i := 6) rfl (by kernel_rfl) (by kernel_rfl) (by kernel_rfl) [] (by kernel_rfl) (fun _ _ _ h => h) rfl rfl (by decide) (fun _ h => h.upto ⟨rfl, rfl, trivial⟩) (qt_move rfl rfl) ?_
          refine dg_q (i := 7) rfl (by kernel_rfl) (by kernel_rfl) (by kernel_rfl) [] (by kernel_rfl) (fun _ _ _ h => h) rfl rfl (by decide) (fun _ h => h.upto ⟨rfl, rfl, trivial⟩) (qt_move rfl rfl) ?_
          refine dg_q (i := 8) rfl (by kernel_rfl) (by kernel_rfl) (by kernel_rfl) [] (by kernel_rfl) (fun _ _ _ h => h) rfl rfl (by decide) (fun _ h => h.upto ⟨rfl, rfl, trivial⟩) (qt_index rfl rfl rfl tyl_sl_spec_l13Edge (by omega)) ?_
          refine dg_q (i := 9) rfl (by kernel_rfl) (by kernel_rfl) (by kernel_rfl) [] (by kernel_rfl) (fun _ _ _ h => h) rfl rfl (by decide) (fun _ h => h.upto ⟨rfl, rfl, trivial⟩) (qt_fieldAddr rfl rfl tyf_spec_l13Edge_1) ?_
          refine dg_q (i := 10) rfl (by kernel_rfl) (by kernel_rfl) (by kernel_rfl) [] (by kernel_rfl) (fun _ _ _ h => h) rfl rfl (by decide) (fun _ h => h.upto ⟨rfl, rfl, trivial⟩) (qt_loadS rfl rfl tys_impl_Pt rfl (rdLegB (b := eg) (o := 0) (fun w1 hs => rowLegs (k := 1) (x := (some ⟨eg, 0, none⟩, lc)) rfl rfl w1 hs) hlt)) ?_
          refine dg_one (i := 11) rfl (by decide) (by kernel_rfl) rfl ?_
          refine op_call ok_spec_l12Sweep (v := fun x => .tuple #[.slice x.1 _ x.2, .bool _]) (r := fun x => rowR 0 34 2 _ _ x) (H := fun _ => True) rfl rfl rfl (by decide) (fun w1 hs => newRowT (l12Sweep_leg A n c pen (lg ls k) w1 (h.over hs.fin) hpen hlk)) ?_
          rintro ⟨pA, pc⟩ -
          refine at_rsE (by simp only [List.nil_append, List.cons_append, List.set_cons_zero, List.set_cons_succ, Value.cells, List.toList_toArray]; rfl) ?_
          refine dr_more (fun _ h => h.upto ⟨rfl, rfl, trivial⟩) ?_
          refine dg_q (i := 12) rfl (by kernel_rfl) (by kernel_rfl) (by kernel_rfl) [] (by kernel_rfl) (fun _ _ _ h => h) rfl rfl (by decide) (fun _ h => h.upto ⟨rfl, rfl, rfl, trivial⟩) (qt_move rfl rfl) ?_
          refine dg_q (i := 13) rfl (by kernel_rfl) (by kernel_rfl) (by kernel_rfl) [] (by kernel_rfl) (fun _ _ _ h => h) rfl rfl (by decide) (fun _ h => h.upto ⟨rfl, rfl, rfl, trivial⟩) (qt_extract rfl rfl rfl) ?_
          refine dg_q (i := 14) rfl (by kernel_rfl) (by kernel_rfl) (by kernel_rfl) [] (by kernel_rfl) (fun _ _ _ h => h) rfl rfl (by decide) (fun _ h => h.upto ⟨rfl, rfl, rfl, trivial⟩) (qt_extract rfl rfl rfl) ?_
          refine dg_q (i := 15) rfl (by kernel_rfl) (by kernel_rfl) (by kernel_rfl) [] (by kernel_rfl) (fun _ _ _ h => h) rfl rfl (by decide) (fun _ h => h.upto ⟨rfl, rfl, rfl, trivial⟩) (qt_assign rfl rfl) ?_
          refine dg_q (i := 16) rfl (by kernel_rfl) (by kernel_rfl) (by kernel_rfl) [] (by kernel_rfl) (fun _ _ _ h => h) rfl rfl (by decide) (fun _ h => h.upto ⟨rfl, rfl, rfl, trivial⟩) (qt_assign rfl rfl) ?_
          refine dg_done (by kernel_rfl) ?_
          refine norm_then ?_
          refine at_seq ?_
          refine at_seq ?_
          refine at_region ?_
          refine at_q rfl rfl (by decide) (qt_move rfl rfl) ?_
          refine at_q rfl rfl (by decide) (qt_not rfl rfl) ?_
          refine at_end ?_
          refine at_cond rfl (fun c3 => ?_) (fun c3 => ?_)
          · try simp only [decide_eq_true_eq, decide_eq_false_iff_not, beq_iff_eq, beq_eq_false_iff_ne, Bool.not_eq_true', Bool.not_eq_false', Bool.not_true, Bool.not_false, Int.not_lt, Int.not_le, ne_eq, Nat.not_lt, Nat.not_le] at c3
            refine at_seq ?_
            refine at_region ?_
            refine at_q rfl rfl (by decide) (qt_assign rfl rfl) ?_
            refine at_q rfl rfl (by decide) (qt_assign rfl rfl) ?_
            refine at_end ?_
            refine at_retc ?_
            refine then_ret ?_
            refine pass_ret ?_
            refine then_ret ?_
            refine then_ret ?_
            refine pass_ret ?_
            refine then_ret ?_
            refine at_ret2 rfl (.tmp rfl) (.tmp rfl) ?_
            intro w' hs
            exact ⟨by rw [← hk.2, shL_bad hlt (by simp_all [swpP])], hs.fin⟩
          · try simp only [decide_eq_true_eq, decide_eq_false_iff_not, beq_iff_eq, beq_eq_false_iff_ne, Bool.not_eq_true', Bool.not_eq_false', Bool.not_true, Bool.not_false, Int.not_lt, Int.not_le, ne_eq, Nat.not_lt, Nat.not_le] at c3
            have hok : allOk (swpP pen (lg ls k)) = true := by simp_all [swpP]
            refine at_skip ?_
            refine norm_then ?_
            refine at_seq ?_
            refine at_region ?_
            refine at_q rfl rfl (by decide) (qt_move rfl rfl) ?_
            refine at_q rfl rfl (by decide) (qt_loadS rfl rfl tys_impl_Pt rfl (rdAll (k := 0) rfl)) ?_
            refine at_q rfl rfl (by decide) (qt_call ok_spec_l11Has rfl rfl (fun w1 hs => l11Has_any _ _ _ (swpP pen (lg ls k)) p w1 (ptsRow (hs.all 2 _ rfl).1 rfl) (swpP_H hpen hlk) hp.mid hsl.1 (Nat.le_trans hsl.2 (by decide)))) ?_
            refine at_end ?_
            refine at_cond rfl (fun c4 => ?_) (fun c4 => ?_)
            · try simp only [decide_eq_true_eq, decide_eq_false_iff_not, beq_iff_eq, beq_eq_false_iff_ne, Bool.not_eq_true', Bool.not_eq_false', Bool.not_true, Bool.not_false, Int.not_lt, Int.not_le, ne_eq, Nat.not_lt, Nat.not_le] at c4
              refine at_seq ?_
              refine at_region ?_
              refine at_q rfl rfl (by decide) (qt_assign rfl rfl) ?_
              refine at_q rfl rfl (by decide) (qt_assign rfl rfl) ?_
              refine at_end ?_
              refine at_retc ?_
              refine pass_ret ?_
              refine then_ret ?_
              refine then_ret ?_
              refine pass_ret ?_
              refine then_ret ?_
              refine at_ret2 rfl (.tmp rfl) (.tmp rfl) ?_
              intro w' hs
              exact ⟨by rw [← hk.2, shL_yes hlt hok (by simp_all)], hs.fin⟩
            · try simp only [decide_eq_true_eq, decide_eq_false_iff_not, beq_iff_eq, beq_eq_false_iff_ne, Bool.not_eq_true', Bool.not_eq_false', Bool.not_true, Bool.not_false, Int.not_lt, Int.not_le, ne_eq, Nat.not_lt, Nat.not_le] at c4
              refine at_skip ?_
              refine norm_block ?_
              refine norm_then ?_
              refine at_region ?_
              refine at_q rfl rfl (by decide) (qt_move rfl rfl) ?_
              refine at_q rfl rfl (by decide) (qt_add rfl rfl rfl (by omega) (by omega)) ?_
              refine at_q rfl rfl (by decide) (qt_assign rfl rfl) ?_
              refine at_end ?_
              exact at_againc hL1 (k + 1) (⟨by omega, (shL_next hlt hok (by simp_all)).trans hk.2⟩) (by omega) ⟨vi (by omega), rfl, rfl, rfl, rfl, rfl, trivial⟩ (fun _ h => h.upto ⟨rfl, rfl, trivial⟩)
        · try simp only [decide_eq_true_eq, decide_eq_false_iff_not, beq_iff_eq, beq_eq_false_iff_ne, Bool.not_eq_true', Bool.not_eq_false', Bool.not_true, Bool.not_false, Int.not_lt, Int.not_le, ne_eq, Nat.not_lt, Nat.not_le] at c2
          refine at_exit ?_
          refine pass_then (fun h => by cases h) ?_
          refine pass_then (fun h => by cases h) ?_
          refine pass_hit ?_
          refine norm_then ?_
          refine at_seq ?_
          refine at_region ?_
          refine at_q rfl rfl (by decide) (qt_assign rfl rfl) ?_
          refine at_q rfl rfl (by decide) (qt_assign rfl rfl) ?_
          refine at_end ?_
          refine at_retc ?_
          refine at_ret2 rfl (.tmp rfl) (.tmp rfl) ?_
          intro w' hs
          have hkn : k = ls.length := by omega
          have h0 := hk.2
          rw [hkn, List.drop_length] at h0
          exact ⟨by rw [← h0]; rfl, hs.fin⟩
/-! ### Raw strokes -/
def rwB (pen path : List Pn) : Bool := penB pen && ringB path
def rwA (pen path : List Pn) (cl : Bool) : List Ring_ := (legsP path cl).map (swpP pen)
def rwC (pen path : List Pn) (cl : Bool) : Int := if rwB pen path = true then (if ((legsP path cl).all fun l => allOk (swpP pen l)) = true then fitC (rwA pen path cl) else 2) else 1
def rwR (pen path : List Pn) (cl : Bool) : List Ring_ := if rwC pen path cl = 0 then rwA pen path cl else []
theorem rw_no {pen path : List Pn} {cl : Bool} (h : rwB pen path = false) : rwC pen path cl = 1 ∧ rwR pen path cl = [] := by simp [rwR, rwC, h]
theorem rw_bad {pen path : List Pn} {cl : Bool} {l : Leg} (h : rwB pen path = true) (hl : l ∈ legsP path cl) (hb : allOk (swpP pen l) = false) : rwC pen path cl = 2 ∧ rwR pen path cl = [] := by
  have h1 : ((legsP path cl).all fun l => allOk (swpP pen l)) = false := List.all_eq_false.2 ⟨l, hl, by rw [hb]; decide⟩
  have h2 : rwC pen path cl = 2 := by rw [rwC, if_pos h, if_neg (by rw [h1]; decide)]
  exact ⟨h2, by rw [rwR, if_neg (by rw [h2]; decide)]⟩
theorem rw_all {pen path : List Pn} {cl : Bool} (h : rwB pen path = true) (ha : ∀ l ∈ legsP path cl, allOk (swpP pen l) = true) : rwC pen path cl = fitC (rwA pen path cl) := by
  rw [rwC, if_pos h, if_pos (List.all_eq_true.2 ha)]
theorem rw_full {pen path : List Pn} {cl : Bool} (h : rwB pen path = true) (ha : ∀ l ∈ legsP path cl, allOk (swpP pen l) = true) (hr : regionB (rwA pen path cl) = false) : rwC pen path cl = 5 ∧ rwR pen path cl = [] := by
  have h2 : rwC pen path cl = 5 := by rw [rw_all h ha]; simp [fitC, hr]
  exact ⟨h2, by rw [rwR, if_neg (by rw [h2]; decide)]⟩
theorem rw_yes {pen path : List Pn} {cl : Bool} (h : rwB pen path = true) (ha : ∀ l ∈ legsP path cl, allOk (swpP pen l) = true) (hr : regionB (rwA pen path cl) = true) : rwC pen path cl = 0 ∧ rwR pen path cl = rwA pen path cl := by
  have h2 : rwC pen path cl = 0 := by rw [rw_all h ha]; simp [fitC, hr]
  exact ⟨h2, by rw [rwR, if_pos h2]⟩
theorem map_rg {ls : List Leg} {f : Leg → Ring_} {k : Nat} (h : k < ls.length) : rg (ls.map f) k = f (lg ls k) := by
  rw [← at_r (by simpa using h), List.getElem_map, at_l h]
theorem map_take {ls : List Leg} {f : Leg → Ring_} {k : Nat} (h : k < ls.length) : (ls.take (k + 1)).map f = (ls.take k).map f ++ [f (lg ls k)] := by
  rw [List.take_succ_eq_append_getElem h, List.map_append, at_l h]
  rfl
theorem swps_small {pen : List Pn} (h : penB pen = true) {ls : List Leg} (hl : ls.length ≤ 2000) : smallR (ls.map (swpP pen)) := by
  refine ⟨by rw [List.length_map]; exact hl, fun j hj => ?_⟩
  rw [List.length_map] at hj
  rw [map_rg hj]
  have := (swpP_len h (lg ls j)).2
  omega
theorem rwR_small (pen path : List Pn) (cl : Bool) : smallR (rwR pen path cl) := by
  unfold rwR
  split
  · rename_i h
    unfold rwC at h
    split at h
    · rename_i h1
      simp only [rwB, Bool.and_eq_true] at h1
      have h2 := (ring_in h1.2).1
      have h3 := pl_len path cl
      exact swps_small h1.1 (by omega)
    · omega
  · exact smallR.nil
theorem all_lg {ls : List Leg} {P : Leg → Prop} (h : ∀ j, j < ls.length → P (lg ls j)) : ∀ l ∈ ls, P l := by
  intro l hl
  obtain ⟨j, hj, rfl⟩ := List.getElem_of_mem hl
  rw [at_l hj]
  exact h j hj
theorem lg_mem {ls : List Leg} {k : Nat} (h : k < ls.length) : lg ls k ∈ ls := by rw [← at_l h]; exact List.getElem_mem h
theorem RawStroke_any (A : Option Addr) (n c : Nat) (pen : List Pn) (B : Option Addr) (m d : Nat) (path : List Pn) (cl : Bool) (w : World) (h : Pts w A n pen) (h2 : Pts w B m path) (hn : (n : Int) ≤ 1048576) (hm : (m : Int) ≤ 1048576) :
    Calls Try.prog 45 #[.slice A n c, .slice B m d, .bool cl] w fun e w' => ∃ A' c', e = .returned (.tuple #[regV A' (rwR pen path cl).length c', .int .i64 (rwC pen path cl)]) ∧ OwnG w.heap.size w'.heap.size w' A' (rwR pen path cl).length (rwR pen path cl) ∧ Over w w' := by
  have hl := h.1
  have hl2 := h2.1
  refine walk_from (m := 56) (Try.func45) rfl rfl (Nat.le_of_ble_eq_true rfl) ?_
  refine at_seq ?_
  refine at_region ?_
  refine at_op rfl ?_
  refine op_alloc rfl tyz_impl_Region rfl (by decide) (fun b1 => ?_)
  refine at_rsE (by simp only [List.nil_append, List.cons_append, List.set_cons_zero, List.set_cons_succ, Value.cells, List.toList_toArray]; rfl) ?_
  refine at_q rfl rfl (by decide) (qt_assign rfl rfl) ?_
  refine at_end ?_
  refine at_seq ?_
  refine at_seq ?_
  refine at_region ?_
  refine at_q rfl rfl (by decide) (qt_move rfl rfl) ?_
  refine at_q rfl rfl (by decide) (qt_call ok_impl_IsPen rfl rfl (fun w1 hs => IsPen_any A n c pen w1 (h.over hs.fin) hn)) ?_
  refine at_q rfl rfl (by decide) (qt_not rfl rfl) ?_
  refine at_q rfl rfl (by decide) (qt_move rfl rfl) ?_
  refine at_bsplit 16 rfl (fun g1 => ?_) (fun g1 => ?_)
  · try simp only [decide_eq_true_eq, decide_eq_false_iff_not, beq_iff_eq, beq_eq_false_iff_ne, Bool.not_eq_true', Bool.not_eq_false', Bool.not_true, Bool.not_false, Int.not_lt, Int.not_le, ne_eq, Nat.not_lt, Nat.not_le] at g1
    refine at_off rfl rfl rfl rfl (by decide) rfl (by decide) ?_
    refine at_off rfl rfl rfl rfl (by decide) rfl (by decide) ?_
    refine at_off rfl rfl rfl rfl (by decide) rfl (by decide) ?_
    refine at_q rfl rfl (by decide) (qt_pickT rfl rfl rfl) ?_
    refine at_end ?_
    refine at_yes rfl rfl ?_
    refine at_seq ?_
    refine at_region ?_
    refine at_q rfl rfl (by decide) (qt_build rfl rfl (bld_impl_Region_)) ?_
    refine at_op rfl ?_
    refine op_storeAll' (k := 0) rfl rfl rfl rfl (rfl) (by rfl) tyz_impl_Region.szx rfl rfl rfl ?_
    refine at_rsE (by simp only [List.nil_append, List.cons_append, List.set_cons_zero, List.set_cons_succ, Value.cells, List.toList_toArray]; rfl) ?_
    refine at_q rfl rfl (by decide) (qt_assign rfl rfl) ?_
    refine at_end ?_
    refine at_retc ?_
    refine then_ret ?_
    refine at_ret2 rfl (rvCelS (k := 0) rfl tys_impl_Region rfl rfl) (.tmp rfl) ?_
    intro w' hs
    obtain ⟨e1, e2⟩ := rw_no (pen := pen) (path := path) (cl := cl) (by simp_all [rwB])
    exact ⟨none, 0, by rw [e1, e2]; rfl, by rw [e2]; exact OwnG.nil none, hs.fin⟩
  · try simp only [decide_eq_true_eq, decide_eq_false_iff_not, beq_iff_eq, beq_eq_false_iff_ne, Bool.not_eq_true', Bool.not_eq_false', Bool.not_true, Bool.not_false, Int.not_lt, Int.not_le, ne_eq, Nat.not_lt, Nat.not_le] at g1
    refine at_on rfl rfl rfl rfl ?_
    refine op_q rfl (by decide) (qt_move rfl rfl) ?_
    refine at_on rfl rfl rfl rfl ?_
    refine op_q rfl (by decide) (qt_call ok_impl_isPath rfl rfl (fun w1 hs => isPath_any B m d path w1 (h2.over hs.fin) (by omega))) ?_
    refine at_on rfl rfl rfl rfl ?_
    refine op_q rfl (by decide) (qt_not rfl rfl) ?_
    refine at_q rfl rfl (by decide) (qt_pickF rfl rfl rfl) ?_
    refine at_end ?_
    refine at_cond rfl (fun c1 => ?_) (fun c1 => ?_)
    · try simp only [decide_eq_true_eq, decide_eq_false_iff_not, beq_iff_eq, beq_eq_false_iff_ne, Bool.not_eq_true', Bool.not_eq_false', Bool.not_true, Bool.not_false, Int.not_lt, Int.not_le, ne_eq, Nat.not_lt, Nat.not_le] at c1
      refine at_seq ?_
      refine at_region ?_
      refine at_q rfl rfl (by decide) (qt_build rfl rfl (bld_impl_Region_)) ?_
      refine at_op rfl ?_
      refine op_storeAll' (k := 0) rfl rfl rfl rfl (rfl) (by rfl) tyz_impl_Region.szx rfl rfl rfl ?_
      refine at_rsE (by simp only [List.nil_append, List.cons_append, List.set_cons_zero, List.set_cons_succ, Value.cells, List.toList_toArray]; rfl) ?_
      refine at_q rfl rfl (by decide) (qt_assign rfl rfl) ?_
      refine at_end ?_
      refine at_retc ?_
      refine then_ret ?_
      refine at_ret2 rfl (rvCelS (k := 0) rfl tys_impl_Region rfl rfl) (.tmp rfl) ?_
      intro w' hs
      obtain ⟨e1, e2⟩ := rw_no (pen := pen) (path := path) (cl := cl) (by simp_all [rwB])
      exact ⟨none, 0, by rw [e1, e2]; rfl, by rw [e2]; exact OwnG.nil none, hs.fin⟩
    · try simp only [decide_eq_true_eq, decide_eq_false_iff_not, beq_iff_eq, beq_eq_false_iff_ne, Bool.not_eq_true', Bool.not_eq_false', Bool.not_true, Bool.not_false, Int.not_lt, Int.not_le, ne_eq, Nat.not_lt, Nat.not_le] at c1
      have hpen : penB pen = true := by simp_all
      have hpath : ringB path = true := by simp_all
      have hB : rwB pen path = true := by rw [rwB, hpen, hpath]; rfl
      obtain ⟨kb, kb2⟩ := ring_in hpath
      have hlo := pl_ok (cl := cl) kb2 (by omega)
      have hll := pl_len path cl
      obtain ⟨ka, ka2, _⟩ := pen_of hpen
      refine at_skip ?_
      refine norm_then ?_
      refine at_seq ?_
      refine at_region ?_
      refine at_op rfl ?_
      refine op_alloc rfl tyz_impl_Region rfl (by decide) (fun b2 => ?_)
      refine at_rsE (by simp only [List.nil_append, List.cons_append, List.set_cons_zero, List.set_cons_succ, Value.cells, List.toList_toArray]; rfl) ?_
      refine at_end ?_
      refine at_seq ?_
      refine at_seq ?_
      refine at_region ?_
      refine at_q rfl rfl (by decide) (qt_move rfl rfl) ?_
      refine at_q rfl rfl (by decide) (qt_move rfl rfl) ?_
      refine at_op rfl ?_
      refine op_call ok_impl_legsOf (v := fun x => .slice x.1 _ x.2) (r := fun x => rowR 0 92 4 _ _ x) (H := fun _ => True) rfl rfl rfl (by decide) (fun w1 hs => newRow' (legsOf_any B m d path cl w1 (h2.over hs.fin) (by omega) (by omega))) ?_
      rintro ⟨lA_, lc⟩ -
      refine at_rsE (by simp only [List.nil_append, List.cons_append, List.set_cons_zero, List.set_cons_succ, Value.cells, List.toList_toArray]; rfl) ?_
      refine at_q rfl rfl (by decide) (qt_len rfl rfl tyl_sl_impl_leg) ?_
      refine at_q rfl rfl (by decide) (qt_move rfl rfl) ?_
      refine at_end ?_
      refine at_row0 (T := 45) (s := 1) ?_
      refine at_rsE (by simp only [List.nil_append, List.cons_append, List.set_cons_zero, List.set_cons_succ, List.eraseIdx_cons_zero, List.eraseIdx_cons_succ, Value.cells, List.toList_toArray]; rfl) ?_
      refine at_many0 ?_
      refine at_rsE (by simp only [List.nil_append, List.cons_append, List.set_cons_zero, List.set_cons_succ, List.eraseIdx_cons_zero, List.eraseIdx_cons_succ, Value.cells, List.toList_toArray]; rfl) ?_
      refine at_block ?_
      refine at_loopc (X := Nat × (Option Addr × Nat) × List Pc) (fun x => x.1 ≤ (legsP path cl).length ∧ x.2.2.map (·.xs) = ((legsP path cl).take x.1).map (swpP pen) ∧ ∀ j, j < x.1 → allOk (swpP pen (lg (legsP path cl) j)) = true) (fun x => (legsP path cl).length - x.1) (fun x => [(26, .int .i64 (x.1 : Int))]) (C := [(0, _), (6, _), (7, _), (8, _), (24, _), (25, _)]) ⟨rfl, rfl, rfl, rfl, rfl, rfl, trivial⟩ (fun x => [.cel b1 62 [.slice none 0 0], .cel b2 62 [.slice x.2.1.1 x.1 x.2.1.2], rowR 0 92 4 (legsP path cl).length ((legsP path cl).flatMap legCells) (lA_, lc), rowR (Bs.N ⟨w, []⟩) 45 1 x.1 (x.2.2.map Pc.val) x.2.1, pcsR x.2.2]) (0, (none, 0), []) (⟨Nat.zero_le _, rfl, fun j hj => absurd hj (Nat.not_lt_zero j)⟩) ⟨rfl, rfl, rfl, rfl, rfl, rfl, rfl, trivial⟩ (fun _ h => h) ?_
      intro ⟨k, ⟨rA, rc⟩, l⟩ hx L hL1
      refine at_envE (by simp only [List.nil_append, List.cons_append]; rfl) ?_
      refine at_rsE (by first | (dsimp only; done) | (dsimp only; rfl) | rfl) ?_
      obtain ⟨hk, hmp, hall⟩ : k ≤ (legsP path cl).length ∧ l.map (·.xs) = ((legsP path cl).take k).map (swpP pen) ∧ ∀ j, j < k → allOk (swpP pen (lg (legsP path cl) j)) = true := hx
      have hlk : l.length = k := by have := congrArg List.length hmp; rw [List.length_map, List.length_map, List.length_take] at this; omega
      refine at_seq ?_
      refine at_region ?_
      refine at_q rfl rfl (by decide) (qt_lss rfl rfl rfl) ?_
      refine at_end ?_
      refine at_seq ?_
      refine at_cond rfl (fun c2 => ?_) (fun c2 => ?_)
      · try simp only [decide_eq_true_eq, decide_eq_false_iff_not, beq_iff_eq, beq_eq_false_iff_ne, Bool.not_eq_true', Bool.not_eq_false', Bool.not_true, Bool.not_false, Int.not_lt, Int.not_le, ne_eq, Nat.not_lt, Nat.not_le] at c2
        have hlt : k < (legsP path cl).length := (by omega)
        have hlg := lg_ok hlo hlt
        have hsl := swpP_len hpen (lg (legsP path cl) k)
        refine at_fact (fun w hs => rowSome (k := 2) rfl hs (by omega)) ?_
        rintro ⟨eg, rfl⟩
        refine at_skip ?_
        refine norm_then ?_
        refine at_seq ?_
        refine at_block ?_
        refine at_seq ?_
        refine at_region ?_
        refine at_q rfl rfl (by decide) (qt_index rfl rfl rfl tyl_sl_impl_leg (by omega)) ?_
        refine at_q rfl rfl (by decide) (qt_loadS rfl rfl tys_impl_leg rfl (rdLeg (fun w1 hs => rowLegs (k := 2) (x := (some ⟨eg, 0, none⟩, lc)) rfl rfl w1 hs) hlt)) ?_
        refine at_op rfl ?_
        refine op_alloc rfl tyz_impl_leg rfl (by decide) (fun b3 => ?_)
        refine at_rsE (by simp only [List.nil_append, List.cons_append, List.set_cons_zero, List.set_cons_succ, Value.cells, List.toList_toArray]; rfl) ?_
        refine at_op rfl ?_
        refine op_storeAll' (k := 5) rfl rfl rfl rfl (rfl) (by rfl) tyz_impl_leg.szx rfl rfl rfl ?_
        refine at_rsE (by simp only [List.nil_append, List.cons_append, List.set_cons_zero, List.set_cons_succ, Value.cells, List.toList_toArray]; rfl) ?_
        refine at_end ?_
        refine at_seq ?_
        refine at_region ?_
        refine at_q rfl rfl (by decide) (qt_move rfl rfl) ?_
        refine at_q rfl rfl (by decide) (qt_fieldAddr rfl rfl tyf_impl_leg_0) ?_
        refine at_q rfl rfl (by decide) (qt_loadS rfl rfl tys_impl_Pt rfl (rd2 (k := 5) rfl rfl rfl)) ?_
        refine at_q rfl rfl (by decide) (qt_fieldAddr rfl rfl tyf_impl_leg_1) ?_
        refine at_q rfl rfl (by decide) (qt_loadS rfl rfl tys_impl_Pt rfl (rd2 (k := 5) rfl rfl rfl)) ?_
        refine at_op rfl ?_
        refine op_buildSlice rfl rfl (bsl_sl_impl_Pt_2_0_1 rfl rfl) rfl (by decide) (fun b4 => ?_)
        refine at_rsE (by simp only [List.nil_append, List.cons_append, List.set_cons_zero, List.set_cons_succ, Value.cells, List.toList_toArray]; rfl) ?_
        refine at_op rfl ?_
        refine op_call ok_impl_sumsOf (v := fun x => .tuple #[.slice x.1 _ x.2, .bool _]) (r := fun x => rowR 0 34 2 _ _ x) (H := fun _ => True) rfl rfl rfl (by decide) (fun w1 hs => newRowT (sumsOf_any A n c pen _ 2 2 [lA (lg (legsP path cl) k), lB (lg (legsP path cl) k)] w1 (h.over hs.fin) (ptsCel [lA (lg (legsP path cl) k), lB (lg (legsP path cl) k)] (k := 6) rfl rfl w1 hs) (allOk_bd ka2) (pair_bd (lA_ok hlg) (lB_ok hlg)) (by omega) (by omega))) ?_
        rintro ⟨pA, pc⟩ -
        refine at_rsE (by simp only [List.nil_append, List.cons_append, List.set_cons_zero, List.set_cons_succ, Value.cells, List.toList_toArray]; rfl) ?_
        refine at_q rfl rfl (by decide) (qt_move rfl rfl) ?_
        refine at_q rfl rfl (by decide) (qt_extract rfl rfl rfl) ?_
        refine at_q rfl rfl (by decide) (qt_extract rfl rfl rfl) ?_
        refine at_q rfl rfl (by decide) (qt_assign rfl rfl) ?_
        refine at_q rfl rfl (by decide) (qt_assign rfl rfl) ?_
        refine at_end ?_
        refine at_seq ?_
        refine at_seq ?_
        refine at_region ?_
        refine at_q rfl rfl (by decide) (qt_move rfl rfl) ?_
        refine at_q rfl rfl (by decide) (qt_not rfl rfl) ?_
        refine at_end ?_
        refine at_cond rfl (fun c3 => ?_) (fun c3 => ?_)
        · try simp only [decide_eq_true_eq, decide_eq_false_iff_not, beq_iff_eq, beq_eq_false_iff_ne, Bool.not_eq_true', Bool.not_eq_false', Bool.not_true, Bool.not_false, Int.not_lt, Int.not_le, ne_eq, Nat.not_lt, Nat.not_le] at c3
          refine at_seq ?_
          refine at_region ?_
          refine at_q rfl rfl (by decide) (qt_build rfl rfl (bld_impl_Region_)) ?_
          refine at_op rfl ?_
          refine op_storeAll' (k := 0) rfl rfl rfl rfl (rfl) (by rfl) tyz_impl_Region.szx rfl rfl rfl ?_
          refine at_rsE (by simp only [List.nil_append, List.cons_append, List.set_cons_zero, List.set_cons_succ, Value.cells, List.toList_toArray]; rfl) ?_
          refine at_q rfl rfl (by decide) (qt_assign rfl rfl) ?_
          refine at_end ?_
          refine at_retc ?_
          refine then_ret ?_
          refine pass_ret ?_
          refine then_ret ?_
          refine then_ret ?_
          refine pass_ret ?_
          refine then_ret ?_
          refine at_ret2 rfl (rvCelS (k := 0) rfl tys_impl_Region rfl rfl) (.tmp rfl) ?_
          intro w' hs
          obtain ⟨e1, e2⟩ := rw_bad hB (lg_mem hlt) (by simp_all [swpP])
          exact ⟨none, 0, by rw [e1, e2]; rfl, by rw [e2]; exact OwnG.nil none, hs.fin⟩
        · try simp only [decide_eq_true_eq, decide_eq_false_iff_not, beq_iff_eq, beq_eq_false_iff_ne, Bool.not_eq_true', Bool.not_eq_false', Bool.not_true, Bool.not_false, Int.not_lt, Int.not_le, ne_eq, Nat.not_lt, Nat.not_le] at c3
          have hok : allOk (swpP pen (lg (legsP path cl) k)) = true := by simp_all [swpP]
          refine at_skip ?_
          refine norm_then ?_
          refine at_region ?_
          refine at_q rfl rfl (by decide) (qt_fieldAddr rfl rfl tyf_impl_Region_0) ?_
          refine at_q rfl rfl (by decide) (qt_load1 rfl rfl ty1_sl_impl_Ring (rd1 (k := 1) rfl rfl)) ?_
          refine at_q rfl rfl (by decide) (qt_move rfl rfl) ?_
          refine at_q rfl rfl (by decide) (qt_build rfl rfl (bld_impl_Ring_0 rfl)) ?_
          refine at_op rfl ?_
          refine op_buildSlice rfl rfl (bsl_sl_impl_Ring_1_0 rfl) rfl (by decide) (fun b5 => ?_)
          refine at_rsE (by simp only [List.nil_append, List.cons_append, List.set_cons_zero, List.set_cons_succ, Value.cells, List.toList_toArray]; rfl) ?_
          refine at_op rfl ?_
          refine op_appendR (k := 3) rfl tyl_sl_impl_Ring tyz_impl_Ring (by decide) rfl (by decide) rfl rfl rfl (fun w' hs => src_cel hs (k := 8) rfl rfl) (by simp [Value.oneCell']) (by unfold maxLen; omega) (by omega) (Nat.le_refl _) (fun r1 => ?_)
          refine at_rsE (by simp only [List.nil_append, List.cons_append, List.set_cons_zero, List.set_cons_succ, Value.cells, List.toList_toArray]; rfl) ?_
          refine at_q rfl rfl (by decide) (qt_fieldAddr rfl rfl tyf_impl_Region_0) ?_
          refine at_op rfl ?_
          refine op_storeAll' (k := 1) rfl rfl rfl rfl (rfl) (by rfl) tyz_sl_impl_Ring.szx rfl rfl rfl ?_
          refine at_rsE (by simp only [List.nil_append, List.cons_append, List.set_cons_zero, List.set_cons_succ, Value.cells, List.toList_toArray]; rfl) ?_
          refine at_nil ?_
          refine at_pc 7 rfl rfl (fun clo chi => ?_)
          refine at_rsE (by simp only [List.nil_append, List.cons_append, List.set_cons_zero, List.set_cons_succ, List.eraseIdx_cons_zero, List.eraseIdx_cons_succ, Value.cells, List.toList_toArray]; rfl) ?_
          refine at_push 4 7 rfl rfl (by decide) rfl ?_
          refine at_rsE (by simp only [List.nil_append, List.cons_append, List.set_cons_zero, List.set_cons_succ, List.eraseIdx_cons_zero, List.eraseIdx_cons_succ, Value.cells, List.toList_toArray]; rfl) ?_
          refine norm_block ?_
          refine norm_then ?_
          refine at_region ?_
          refine at_q rfl rfl (by decide) (qt_add rfl rfl rfl (by omega) (by omega)) ?_
          refine at_q rfl rfl (by decide) (qt_move rfl rfl) ?_
          refine at_end ?_
          exact at_againc hL1 ((k + 1, r1, l ++ [⟨swpP pen (lg (legsP path cl) k), pA, pc, clo, chi⟩])) (⟨show k + 1 ≤ (legsP path cl).length by omega, by rw [List.map_append, hmp, map_take hlt]; rfl, fun j hj => (Nat.lt_or_ge j k).elim (hall j) (fun h3 => (show k = j by omega) ▸ hok)⟩) (by simp only; omega) ⟨vi (by omega), rfl, rfl, rfl, rfl, rfl, rfl, trivial⟩ (fun _ h => h.upto ⟨rfl, rfl, rfl, by rw [List.map_append]; rfl, (pcsR_push _ _).symm, trivial⟩)
      · try simp only [decide_eq_true_eq, decide_eq_false_iff_not, beq_iff_eq, beq_eq_false_iff_ne, Bool.not_eq_true', Bool.not_eq_false', Bool.not_true, Bool.not_false, Int.not_lt, Int.not_le, ne_eq, Nat.not_lt, Nat.not_le] at c2
        have hkn : k = (legsP path cl).length := (by omega)
        have hrs : l.map (·.xs) = rwA pen path cl := by rw [hmp, List.take_of_length_le (by omega)]; rfl
        have hsm := swps_small hpen (ls := legsP path cl) (by omega)
        have hln : (rwA pen path cl).length = k := by rw [← hrs, List.length_map]; exact hlk
        have hall2 := all_lg (P := fun l => allOk (swpP pen l) = true) (fun j hj => hall j (by omega))
        refine at_exit ?_
        refine pass_then (fun h => by cases h) ?_
        refine pass_then (fun h => by cases h) ?_
        refine pass_hit ?_
        refine norm_then ?_
        refine at_seq ?_
        refine at_seq ?_
        refine at_region ?_
        refine at_q rfl rfl (by decide) (qt_loadS rfl rfl tys_impl_Region rfl (rdAll (k := 1) rfl)) ?_
        refine at_q rfl rfl (by decide) (qt_call ok_impl_ValidRegion rfl rfl (fun w1 hs => ValidRegion_any _ _ _ (rwA pen path cl) w1 (pcs_row hs (kr := 3) (kp := 4) rfl rfl (by decide) rfl hlk hrs (fun i hi => by have := hsm.2 i hi; exact Nat.le_trans this (by decide))).rings (Int.le_trans hsm.total (by decide)))) ?_
        refine at_q rfl rfl (by decide) (qt_not rfl rfl) ?_
        refine at_end ?_
        refine at_cond rfl (fun c4 => ?_) (fun c4 => ?_)
        · try simp only [decide_eq_true_eq, decide_eq_false_iff_not, beq_iff_eq, beq_eq_false_iff_ne, Bool.not_eq_true', Bool.not_eq_false', Bool.not_true, Bool.not_false, Int.not_lt, Int.not_le, ne_eq, Nat.not_lt, Nat.not_le] at c4
          refine at_seq ?_
          refine at_region ?_
          refine at_q rfl rfl (by decide) (qt_build rfl rfl (bld_impl_Region_)) ?_
          refine at_op rfl ?_
          refine op_storeAll' (k := 0) rfl rfl rfl rfl (rfl) (by rfl) tyz_impl_Region.szx rfl rfl rfl ?_
          refine at_rsE (by simp only [List.nil_append, List.cons_append, List.set_cons_zero, List.set_cons_succ, Value.cells, List.toList_toArray]; rfl) ?_
          refine at_q rfl rfl (by decide) (qt_assign rfl rfl) ?_
          refine at_end ?_
          refine at_retc ?_
          refine then_ret ?_
          refine at_ret2 rfl (rvCelS (k := 0) rfl tys_impl_Region rfl rfl) (.tmp rfl) ?_
          intro w' hs
          obtain ⟨e1, e2⟩ := rw_full hB hall2 (by simp_all)
          exact ⟨none, 0, by rw [e1, e2]; rfl, by rw [e2]; exact OwnG.nil none, hs.fin⟩
        · try simp only [decide_eq_true_eq, decide_eq_false_iff_not, beq_iff_eq, beq_eq_false_iff_ne, Bool.not_eq_true', Bool.not_eq_false', Bool.not_true, Bool.not_false, Int.not_lt, Int.not_le, ne_eq, Nat.not_lt, Nat.not_le] at c4
          refine at_skip ?_
          refine norm_then ?_
          refine at_seq ?_
          refine at_region ?_
          refine at_q rfl rfl (by decide) (qt_loadS rfl rfl tys_impl_Region rfl (rdAll (k := 1) rfl)) ?_
          refine at_op rfl ?_
          refine op_storeAll' (k := 0) rfl rfl rfl rfl (rfl) (by rfl) tyz_impl_Region.szx rfl rfl rfl ?_
          refine at_rsE (by simp only [List.nil_append, List.cons_append, List.set_cons_zero, List.set_cons_succ, Value.cells, List.toList_toArray]; rfl) ?_
          refine at_q rfl rfl (by decide) (qt_assign rfl rfl) ?_
          refine at_end ?_
          refine at_retc ?_
          refine at_ret2 rfl (rvCelS (k := 0) rfl tys_impl_Region rfl rfl) (.tmp rfl) ?_
          intro w' hs
          obtain ⟨e1, e2⟩ := rw_yes hB hall2 (by simp_all)
          exact ⟨rA, rc, by rw [e1, e2, hln], by rw [e2, hln]; exact pcs_row hs (kr := 3) (kp := 4) rfl rfl (by decide) rfl hlk hrs (fun i hi => by have := hsm.2 i hi; exact Nat.le_trans this (by decide)), hs.fin⟩
theorem l12Raw_any (A : Option Addr) (n c : Nat) (pen : List Pn) (B : Option Addr) (m d : Nat) (path : List Pn) (cl : Bool) (w : World) (h : Pts w A n pen) (h2 : Pts w B m path) (hn : (n : Int) ≤ 1048576) (hm : (m : Int) ≤ 1048576) :
    Calls Try.prog 80 #[.slice A n c, .slice B m d, .bool cl] w fun e w' => ∃ A' c', e = .returned (.tuple #[regV A' (rwR pen path cl).length c', .int .i64 (rwC pen path cl)]) ∧ OwnG w.heap.size w'.heap.size w' A' (rwR pen path cl).length (rwR pen path cl) ∧ Over w w' := by
  have hl := h.1
  have hl2 := h2.1
  refine walk_from (m := 61) (Try.func80) rfl rfl (Nat.le_of_ble_eq_true rfl) ?_
  refine at_seq ?_
  refine at_region ?_
  refine at_op rfl ?_
  refine op_alloc rfl tyz_impl_Region rfl (by decide) (fun b1 => ?_)
  refine at_rsE (by simp only [List.nil_append, List.cons_append, List.set_cons_zero, List.set_cons_succ, Value.cells, List.toList_toArray]; rfl) ?_
  refine at_q rfl rfl (by decide) (qt_assign rfl rfl) ?_
  refine at_end ?_
  refine at_seq ?_
  refine at_seq ?_
  refine at_region ?_
  refine at_q rfl rfl (by decide) (qt_move rfl rfl) ?_
  refine at_q rfl rfl (by decide) (qt_call ok_spec_l11Pen rfl rfl (fun w1 hs => l11Pen_any A n c pen w1 (h.over hs.fin) hn)) ?_
  refine at_q rfl rfl (by decide) (qt_not rfl rfl) ?_
  refine at_q rfl rfl (by decide) (qt_move rfl rfl) ?_
  refine at_bsplit 16 rfl (fun g1 => ?_) (fun g1 => ?_)
  · try simp only [decide_eq_true_eq, decide_eq_false_iff_not, beq_iff_eq, beq_eq_false_iff_ne, Bool.not_eq_true', Bool.not_eq_false', Bool.not_true, Bool.not_false, Int.not_lt, Int.not_le, ne_eq, Nat.not_lt, Nat.not_le] at g1
    refine at_off rfl rfl rfl rfl (by decide) rfl (by decide) ?_
    refine at_off rfl rfl rfl rfl (by decide) rfl (by decide) ?_
    refine at_off rfl rfl rfl rfl (by decide) rfl (by decide) ?_
    refine at_q rfl rfl (by decide) (qt_pickT rfl rfl rfl) ?_
    refine at_end ?_
    refine at_yes rfl rfl ?_
    refine at_seq ?_
    refine at_region ?_
    refine at_q rfl rfl (by decide) (qt_build rfl rfl (bld_impl_Region_)) ?_
    refine at_op rfl ?_
    refine op_storeAll' (k := 0) rfl rfl rfl rfl (rfl) (by rfl) tyz_impl_Region.szx rfl rfl rfl ?_
    refine at_rsE (by simp only [List.nil_append, List.cons_append, List.set_cons_zero, List.set_cons_succ, Value.cells, List.toList_toArray]; rfl) ?_
    refine at_q rfl rfl (by decide) (qt_assign rfl rfl) ?_
    refine at_end ?_
    refine at_retc ?_
    refine then_ret ?_
    refine at_ret2 rfl (rvCelS (k := 0) rfl tys_impl_Region rfl rfl) (.tmp rfl) ?_
    intro w' hs
    obtain ⟨e1, e2⟩ := rw_no (pen := pen) (path := path) (cl := cl) (by simp_all [rwB])
    exact ⟨none, 0, by rw [e1, e2]; rfl, by rw [e2]; exact OwnG.nil none, hs.fin⟩
  · try simp only [decide_eq_true_eq, decide_eq_false_iff_not, beq_iff_eq, beq_eq_false_iff_ne, Bool.not_eq_true', Bool.not_eq_false', Bool.not_true, Bool.not_false, Int.not_lt, Int.not_le, ne_eq, Nat.not_lt, Nat.not_le] at g1
    refine at_on rfl rfl rfl rfl ?_
    refine op_q rfl (by decide) (qt_move rfl rfl) ?_
    refine at_on rfl rfl rfl rfl ?_
    refine op_q rfl (by decide) (qt_call ok_spec_l12Path rfl rfl (fun w1 hs => l12Path_any B m d path w1 (h2.over hs.fin) (by omega))) ?_
    refine at_on rfl rfl rfl rfl ?_
    refine op_q rfl (by decide) (qt_not rfl rfl) ?_
    refine at_q rfl rfl (by decide) (qt_pickF rfl rfl rfl) ?_
    refine at_end ?_
    refine at_cond rfl (fun c1 => ?_) (fun c1 => ?_)
    · try simp only [decide_eq_true_eq, decide_eq_false_iff_not, beq_iff_eq, beq_eq_false_iff_ne, Bool.not_eq_true', Bool.not_eq_false', Bool.not_true, Bool.not_false, Int.not_lt, Int.not_le, ne_eq, Nat.not_lt, Nat.not_le] at c1
      refine at_seq ?_
      refine at_region ?_
      refine at_q rfl rfl (by decide) (qt_build rfl rfl (bld_impl_Region_)) ?_
      refine at_op rfl ?_
      refine op_storeAll' (k := 0) rfl rfl rfl rfl (rfl) (by rfl) tyz_impl_Region.szx rfl rfl rfl ?_
      refine at_rsE (by simp only [List.nil_append, List.cons_append, List.set_cons_zero, List.set_cons_succ, Value.cells, List.toList_toArray]; rfl) ?_
      refine at_q rfl rfl (by decide) (qt_assign rfl rfl) ?_
      refine at_end ?_
      refine at_retc ?_
      refine then_ret ?_
      refine at_ret2 rfl (rvCelS (k := 0) rfl tys_impl_Region rfl rfl) (.tmp rfl) ?_
      intro w' hs
      obtain ⟨e1, e2⟩ := rw_no (pen := pen) (path := path) (cl := cl) (by simp_all [rwB])
      exact ⟨none, 0, by rw [e1, e2]; rfl, by rw [e2]; exact OwnG.nil none, hs.fin⟩
    · try simp only [decide_eq_true_eq, decide_eq_false_iff_not, beq_iff_eq, beq_eq_false_iff_ne, Bool.not_eq_true', Bool.not_eq_false', Bool.not_true, Bool.not_false, Int.not_lt, Int.not_le, ne_eq, Nat.not_lt, Nat.not_le] at c1
      have hpen : penB pen = true := by simp_all
      have hpath : ringB path = true := by simp_all
      have hB : rwB pen path = true := by rw [rwB, hpen, hpath]; rfl
      obtain ⟨kb, kb2⟩ := ring_in hpath
      have hlo := pl_ok (cl := cl) kb2 (by omega)
      have hll := pl_len path cl
      obtain ⟨ka, ka2, _⟩ := pen_of hpen
      refine at_skip ?_
      refine norm_then ?_
      refine at_seq ?_
      refine at_region ?_
      refine at_q rfl rfl (by decide) (qt_build rfl rfl (bld_impl_Region_)) ?_
      refine at_op rfl ?_
      refine op_alloc rfl tyz_impl_Region rfl (by decide) (fun b2 => ?_)
      refine at_rsE (by simp only [List.nil_append, List.cons_append, List.set_cons_zero, List.set_cons_succ, Value.cells, List.toList_toArray]; rfl) ?_
      refine at_op rfl ?_
      refine op_storeAll' (k := 1) rfl rfl rfl rfl (rfl) (by rfl) tyz_impl_Region.szx rfl rfl rfl ?_
      refine at_rsE (by simp only [List.nil_append, List.cons_append, List.set_cons_zero, List.set_cons_succ, Value.cells, List.toList_toArray]; rfl) ?_
      refine at_end ?_
      refine at_seq ?_
      refine at_region ?_
      refine at_q rfl rfl (by decide) (qt_move rfl rfl) ?_
      refine at_q rfl rfl (by decide) (qt_move rfl rfl) ?_
      refine at_op rfl ?_
      refine op_call ok_spec_l12Legs (v := fun x => .slice x.1 _ x.2) (r := fun x => rowR 0 88 4 _ _ x) (H := fun _ => True) rfl rfl rfl (by decide) (fun w1 hs => newRow' (l12Legs_any B m d path cl w1 (h2.over hs.fin) (by omega) (by omega))) ?_
      rintro ⟨lA_, lc⟩ -
      refine at_rsE (by simp only [List.nil_append, List.cons_append, List.set_cons_zero, List.set_cons_succ, Value.cells, List.toList_toArray]; rfl) ?_
      refine at_q rfl rfl (by decide) (qt_assign rfl rfl) ?_
      refine at_end ?_
      refine at_row0 (T := 45) (s := 1) ?_
      refine at_rsE (by simp only [List.nil_append, List.cons_append, List.set_cons_zero, List.set_cons_succ, List.eraseIdx_cons_zero, List.eraseIdx_cons_succ, Value.cells, List.toList_toArray]; rfl) ?_
      refine at_many0 ?_
      refine at_rsE (by simp only [List.nil_append, List.cons_append, List.set_cons_zero, List.set_cons_succ, List.eraseIdx_cons_zero, List.eraseIdx_cons_succ, Value.cells, List.toList_toArray]; rfl) ?_
      refine at_seq ?_
      refine at_seq ?_
      refine at_region ?_
      refine at_q rfl rfl (by decide) (qt_assign rfl rfl) ?_
      refine at_end ?_
      refine at_block ?_
      refine at_loopc (X := Nat × (Option Addr × Nat) × List Pc) (fun x => x.1 ≤ (legsP path cl).length ∧ x.2.2.map (·.xs) = ((legsP path cl).take x.1).map (swpP pen) ∧ ∀ j, j < x.1 → allOk (swpP pen (lg (legsP path cl) j)) = true) (fun x => (legsP path cl).length - x.1) (fun x => [(10, .int .i64 (x.1 : Int))]) (C := [(0, _), (6, _), (7, _), (8, _), (9, _)]) ⟨rfl, rfl, rfl, rfl, rfl, trivial⟩ (fun x => [.cel b1 62 [.slice none 0 0], .cel b2 62 [.slice x.2.1.1 x.1 x.2.1.2], rowR 0 88 4 (legsP path cl).length ((legsP path cl).flatMap legCells) (lA_, lc), rowR (Bs.N ⟨w, []⟩) 45 1 x.1 (x.2.2.map Pc.val) x.2.1, pcsR x.2.2]) (0, (none, 0), []) (⟨Nat.zero_le _, rfl, fun j hj => absurd hj (Nat.not_lt_zero j)⟩) ⟨rfl, rfl, rfl, rfl, rfl, rfl, trivial⟩ (fun _ h => h) ?_
      intro ⟨k, ⟨rA, rc⟩, l⟩ hx L hL1
      refine at_envE (by simp only [List.nil_append, List.cons_append]; rfl) ?_
      refine at_rsE (by first | (dsimp only; done) | (dsimp only; rfl) | rfl) ?_
      obtain ⟨hk, hmp, hall⟩ : k ≤ (legsP path cl).length ∧ l.map (·.xs) = ((legsP path cl).take k).map (swpP pen) ∧ ∀ j, j < k → allOk (swpP pen (lg (legsP path cl) j)) = true := hx
      have hlk : l.length = k := by have := congrArg List.length hmp; rw [List.length_map, List.length_map, List.length_take] at this; omega
      refine at_seq ?_
      refine at_seq ?_
      refine at_region ?_
      refine at_q rfl rfl (by decide) (qt_move rfl rfl) ?_
      refine at_q rfl rfl (by decide) (qt_move rfl rfl) ?_
      refine at_q rfl rfl (by decide) (qt_len rfl rfl tyl_sl_spec_l13Edge) ?_
      refine at_q rfl rfl (by decide) (qt_lss rfl rfl rfl) ?_
      refine at_end ?_
      refine at_cond rfl (fun c2 => ?_) (fun c2 => ?_)
      · try simp only [decide_eq_true_eq, decide_eq_false_iff_not, beq_iff_eq, beq_eq_false_iff_ne, Bool.not_eq_true', Bool.not_eq_false', Bool.not_true, Bool.not_false, Int.not_lt, Int.not_le, ne_eq, Nat.not_lt, Nat.not_le] at c2
        have hlt : k < (legsP path cl).length := (by omega)
        have hlg := lg_ok hlo hlt
        have hsl := swpP_len hpen (lg (legsP path cl) k)
        refine at_fact (fun w hs => rowSome (k := 2) rfl hs (by omega)) ?_
        rintro ⟨eg, rfl⟩
        refine at_skip ?_
        refine norm_then ?_
        refine at_seq ?_
        refine at_block ?_
        refine at_seq ?_
        refine dg_start mixed rfl ?_
        refine dg_phase 17 ?_
        refine dg_q (i := 0) rfl (by kernel_rfl) (by kernel_rfl) (by kernel_rfl) [] (by kernel_rfl) (fun _ _ _ h => h) rfl rfl (by decide) (fun _ h => h.upto ⟨rfl, rfl, rfl, rfl, rfl, trivial⟩) (qt_move rfl rfl) ?_
        refine dg_q (i := 1) rfl (by kernel_rfl) (by kernel_rfl) (by kernel_rfl) [] (by kernel_rfl) (fun _ _ _ h => h) rfl rfl (by decide) (fun _ h => h.upto ⟨rfl, rfl, rfl, rfl, rfl, trivial⟩) (qt_move rfl rfl) ?_
        refine dg_q (i := 2) rfl (by kernel_rfl) (by kernel_rfl) (by kernel_rfl) [] (by kernel_rfl) (fun _ _ _ h => h) rfl rfl (by decide) (fun _ h => h.upto ⟨rfl, rfl, rfl, rfl, rfl, trivial⟩) (qt_move rfl rfl) ?_
        refine dg_q (i := 3) rfl (by kernel_rfl) (by kernel_rfl) (by kernel_rfl) [] (by kernel_rfl) (fun _ _ _ h => h) rfl rfl (by decide) (fun _ h => h.upto ⟨rfl, rfl, rfl, rfl, rfl, trivial⟩) (qt_index rfl rfl rfl tyl_sl_spec_l13Edge (by omega)) ?_
        refine dg_q (i := 4) rfl (by kernel_rfl) (by kernel_rfl) (by kernel_rfl) [] (by kernel_rfl) (fun _ _ _ h => h) rfl rfl (by decide) (fun _ h => h.upto ⟨rfl, rfl, rfl, rfl, rfl, trivial⟩) (qt_fieldAddr rfl rfl tyf_spec_l13Edge_0) ?_
        refine dg_q (i := 5) rfl (by kernel_rfl) (by kernel_rfl) (by kernel_rfl) [] (by kernel_rfl) (fun _ _ _ h => h) rfl rfl (by decide) (fun _ h => h.upto ⟨rfl, rfl, rfl, rfl, rfl, trivial⟩) (qt_loadS rfl rfl tys_impl_Pt rfl (rdLegA (b := eg) (o := 0) (fun w1 hs => rowLegs (k := 2) (x := (some ⟨eg, 0, none⟩, lc)) rfl rfl w1 hs) hlt)) ?_
        refine dg_q (i := 6) rfl (by kernel_rfl) (by kernel_rfl) (by kernel_rfl) [] (by kernel_rfl) (fun _ _ _ h => h) rfl rfl (by decide) (fun _ h => h.upto ⟨rfl, rfl, rfl, rfl, rfl, trivial⟩) (qt_move rfl rfl) ?_
        refine dg_q (i := 7) rfl (by kernel_rfl) (by kernel_rfl) (by kernel_rfl) [] (by kernel_rfl) (fun _ _ _ h => h) rfl rfl (by decide) (fun _ h => h.upto ⟨rfl, rfl, rfl, rfl, rfl, trivial⟩) (qt_move rfl rfl) ?_
        refine dg_q (i := 8) rfl (by kernel_rfl) (by kernel_rfl) (by kernel_rfl) [] (by kernel_rfl) (fun _ _ _ h => h) rfl rfl (by decide) (fun _ h => h.upto ⟨rfl, rfl, rfl, rfl, rfl, trivial⟩) (qt_index rfl rfl rfl tyl_sl_spec_l13Edge (by omega)) ?_
        refine dg_q (i := 9) rfl (by kernel_rfl) (by kernel_rfl) (by kernel_rfl) [] (by kernel_rfl) (fun _ _ _ h => h) rfl rfl (by decide) (fun _ h => h.upto ⟨rfl, rfl, rfl, rfl, rfl, trivial⟩) (qt_fieldAddr rfl rfl tyf_spec_l13Edge_1) ?_
        refine dg_q (i := 10) rfl (by kernel_rfl) (by kernel_rfl) (by kernel_rfl) [] (by kernel_rfl) (fun _ _ _ h => h) rfl rfl (by decide) (fun _ h => h.upto ⟨rfl, rfl, rfl, rfl, rfl, trivial⟩) (qt_loadS rfl rfl tys_impl_Pt rfl (rdLegB (b := eg) (o := 0) (fun w1 hs => rowLegs (k := 2) (x := (some ⟨eg, 0, none⟩, lc)) rfl rfl w1 hs) hlt)) ?_
        refine dg_one (i := 11) rfl (by decide) (by kernel_rfl) rfl ?_
        refine op_call ok_spec_l12Sweep (v := fun x => .tuple #[.slice x.1 _ x.2, .bool _]) (r := fun x => rowR 0 34 2 _ _ x) (H := fun _ => True) rfl rfl rfl (by decide) (fun w1 hs => newRowT (l12Sweep_leg A n c pen (lg (legsP path cl) k) w1 (h.over hs.fin) hpen hlg)) ?_
        rintro ⟨pA, pc⟩ -
        refine at_rsE (by simp only [List.nil_append, List.cons_append, List.set_cons_zero, List.set_cons_succ, Value.cells, List.toList_toArray]; rfl) ?_
        refine dr_more (fun _ h => h.upto ⟨rfl, rfl, rfl, rfl, rfl, trivial⟩) ?_
        refine dg_q (i := 12) rfl (by kernel_rfl) (by kernel_rfl) (by kernel_rfl) [] (by kernel_rfl) (fun _ _ _ h => h) rfl rfl (by decide) (fun _ h => h.upto ⟨rfl, rfl, rfl, rfl, rfl, rfl, trivial⟩) (qt_move rfl rfl) ?_
        refine dg_q (i := 13) rfl (by kernel_rfl) (by kernel_rfl) (by kernel_rfl) [] (by kernel_rfl) (fun _ _ _ h => h) rfl rfl (by decide) (fun _ h => h.upto ⟨rfl, rfl, rfl, rfl, rfl, rfl, trivial⟩) (qt_extract rfl rfl rfl) ?_
        refine dg_q (i := 14) rfl (by kernel_rfl) (by kernel_rfl) (by kernel_rfl) [] (by kernel_rfl) (fun _ _ _ h => h) rfl rfl (by decide) (fun _ h => h.upto ⟨rfl, rfl, rfl, rfl, rfl, rfl, trivial⟩) (qt_extract rfl rfl rfl) ?_
        refine dg_q (i := 15) rfl (by kernel_rfl) (by kernel_rfl) (by kernel_rfl) [] (by kernel_rfl) (fun _ _ _ h => h) rfl rfl (by decide) (fun _ h => h.upto ⟨rfl, rfl, rfl, rfl, rfl, rfl, trivial⟩) (qt_assign rfl rfl) ?_
        refine dg_q (i := 16) rfl (by kernel_rfl) (by kernel_rfl) (by kernel_rfl) [] (by kernel_rfl) (fun _ _ _ h => h) rfl rfl (by decide) (fun _ h => h.upto ⟨rfl, rfl, rfl, rfl, rfl, rfl, trivial⟩) (qt_assign rfl rfl) ?_
        refine dg_done (by kernel_rfl) ?_
        refine norm_then ?_
        refine at_seq ?_
        refine at_seq ?_
        refine at_region ?_
        refine at_q rfl rfl (by decide) (qt_move rfl rfl) ?_
        refine at_q rfl rfl (by decide) (qt_not rfl rfl) ?_
        refine at_end ?_
        refine at_cond rfl (fun c3 => ?_) (fun c3 => ?_)
        · try simp only [decide_eq_true_eq, decide_eq_false_iff_not, beq_iff_eq, beq_eq_false_iff_ne, Bool.not_eq_true', Bool.not_eq_false', Bool.not_true, Bool.not_false, Int.not_lt, Int.not_le, ne_eq, Nat.not_lt, Nat.not_le] at c3
          refine at_seq ?_
          refine at_region ?_
          refine at_q rfl rfl (by decide) (qt_build rfl rfl (bld_impl_Region_)) ?_
          refine at_op rfl ?_
          refine op_storeAll' (k := 0) rfl rfl rfl rfl (rfl) (by rfl) tyz_impl_Region.szx rfl rfl rfl ?_
          refine at_rsE (by simp only [List.nil_append, List.cons_append, List.set_cons_zero, List.set_cons_succ, Value.cells, List.toList_toArray]; rfl) ?_
          refine at_q rfl rfl (by decide) (qt_assign rfl rfl) ?_
          refine at_end ?_
          refine at_retc ?_
          refine then_ret ?_
          refine pass_ret ?_
          refine then_ret ?_
          refine then_ret ?_
          refine pass_ret ?_
          refine then_ret ?_
          refine at_ret2 rfl (rvCelS (k := 0) rfl tys_impl_Region rfl rfl) (.tmp rfl) ?_
          intro w' hs
          obtain ⟨e1, e2⟩ := rw_bad hB (lg_mem hlt) (by simp_all)
          exact ⟨none, 0, by rw [e1, e2]; rfl, by rw [e2]; exact OwnG.nil none, hs.fin⟩
        · try simp only [decide_eq_true_eq, decide_eq_false_iff_not, beq_iff_eq, beq_eq_false_iff_ne, Bool.not_eq_true', Bool.not_eq_false', Bool.not_true, Bool.not_false, Int.not_lt, Int.not_le, ne_eq, Nat.not_lt, Nat.not_le] at c3
          have hok : allOk (swpP pen (lg (legsP path cl) k)) = true := by simp_all
          refine at_skip ?_
          refine norm_then ?_
          refine at_region ?_
          refine at_q rfl rfl (by decide) (qt_fieldAddr rfl rfl tyf_impl_Region_0) ?_
          refine at_q rfl rfl (by decide) (qt_load1 rfl rfl ty1_sl_impl_Ring (rd1 (k := 1) rfl rfl)) ?_
          refine at_q rfl rfl (by decide) (qt_move rfl rfl) ?_
          refine at_q rfl rfl (by decide) (qt_build rfl rfl (bld_impl_Ring_0 rfl)) ?_
          refine at_op rfl ?_
          refine op_buildSlice rfl rfl (bsl_sl_impl_Ring_1_0 rfl) rfl (by decide) (fun b3 => ?_)
          refine at_rsE (by simp only [List.nil_append, List.cons_append, List.set_cons_zero, List.set_cons_succ, Value.cells, List.toList_toArray]; rfl) ?_
          refine at_op rfl ?_
          refine op_appendR (k := 3) rfl tyl_sl_impl_Ring tyz_impl_Ring (by decide) rfl (by decide) rfl rfl rfl (fun w' hs => src_cel hs (k := 6) rfl rfl) (by simp [Value.oneCell']) (by unfold maxLen; omega) (by omega) (Nat.le_refl _) (fun r1 => ?_)
          refine at_rsE (by simp only [List.nil_append, List.cons_append, List.set_cons_zero, List.set_cons_succ, Value.cells, List.toList_toArray]; rfl) ?_
          refine at_q rfl rfl (by decide) (qt_fieldAddr rfl rfl tyf_impl_Region_0) ?_
          refine at_op rfl ?_
          refine op_storeAll' (k := 1) rfl rfl rfl rfl (rfl) (by rfl) tyz_sl_impl_Ring.szx rfl rfl rfl ?_
          refine at_rsE (by simp only [List.nil_append, List.cons_append, List.set_cons_zero, List.set_cons_succ, Value.cells, List.toList_toArray]; rfl) ?_
          refine at_nil ?_
          refine at_pc 5 rfl rfl (fun clo chi => ?_)
          refine at_rsE (by simp only [List.nil_append, List.cons_append, List.set_cons_zero, List.set_cons_succ, List.eraseIdx_cons_zero, List.eraseIdx_cons_succ, Value.cells, List.toList_toArray]; rfl) ?_
          refine at_push 4 5 rfl rfl (by decide) rfl ?_
          refine at_rsE (by simp only [List.nil_append, List.cons_append, List.set_cons_zero, List.set_cons_succ, List.eraseIdx_cons_zero, List.eraseIdx_cons_succ, Value.cells, List.toList_toArray]; rfl) ?_
          refine norm_block ?_
          refine norm_then ?_
          refine at_region ?_
          refine at_q rfl rfl (by decide) (qt_move rfl rfl) ?_
          refine at_q rfl rfl (by decide) (qt_add rfl rfl rfl (by omega) (by omega)) ?_
          refine at_q rfl rfl (by decide) (qt_assign rfl rfl) ?_
          refine at_end ?_
          exact at_againc hL1 ((k + 1, r1, l ++ [⟨swpP pen (lg (legsP path cl) k), pA, pc, clo, chi⟩])) (⟨show k + 1 ≤ (legsP path cl).length by omega, by rw [List.map_append, hmp, map_take hlt]; rfl, fun j hj => (Nat.lt_or_ge j k).elim (hall j) (fun h3 => (show k = j by omega) ▸ hok)⟩) (by simp only; omega) ⟨vi (by omega), rfl, rfl, rfl, rfl, rfl, trivial⟩ (fun _ h => h.upto ⟨rfl, rfl, rfl, by rw [List.map_append]; rfl, (pcsR_push _ _).symm, trivial⟩)
      · try simp only [decide_eq_true_eq, decide_eq_false_iff_not, beq_iff_eq, beq_eq_false_iff_ne, Bool.not_eq_true', Bool.not_eq_false', Bool.not_true, Bool.not_false, Int.not_lt, Int.not_le, ne_eq, Nat.not_lt, Nat.not_le] at c2
        have hkn : k = (legsP path cl).length := (by omega)
        have hrs : l.map (·.xs) = rwA pen path cl := by rw [hmp, List.take_of_length_le (by omega)]; rfl
        have hsm := swps_small hpen (ls := legsP path cl) (by omega)
        have hln : (rwA pen path cl).length = k := by rw [← hrs, List.length_map]; exact hlk
        have hall2 := all_lg (P := fun l => allOk (swpP pen l) = true) (fun j hj => hall j (by omega))
        refine at_exit ?_
        refine pass_then (fun h => by cases h) ?_
        refine pass_then (fun h => by cases h) ?_
        refine pass_hit ?_
        refine norm_then ?_
        refine at_seq ?_
        refine at_region ?_
        refine at_q rfl rfl (by decide) (qt_loadS rfl rfl tys_impl_Region rfl (rdAll (k := 1) rfl)) ?_
        refine at_q rfl rfl (by decide) (qt_call ok_spec_l13Fit rfl rfl (fun w1 hs => l13Fit_any _ _ _ (rwA pen path cl) w1 (pcs_row hs (kr := 3) (kp := 4) rfl rfl (by decide) rfl hlk hrs (fun i hi => by have := hsm.2 i hi; exact Nat.le_trans this (by decide))).rings (Int.le_trans hsm.total (by decide)))) ?_
        refine at_q rfl rfl (by decide) (qt_extract rfl rfl rfl) ?_
        refine at_q rfl rfl (by decide) (qt_extract rfl rfl rfl) ?_
        refine at_op rfl ?_
        refine op_storeAll' (k := 0) rfl rfl rfl rfl (rfl) (by rfl) tyz_impl_Region.szx rfl rfl rfl ?_
        refine at_rsE (by simp only [List.nil_append, List.cons_append, List.set_cons_zero, List.set_cons_succ, Value.cells, List.toList_toArray]; rfl) ?_
        refine at_q rfl rfl (by decide) (qt_assign rfl rfl) ?_
        refine at_end ?_
        refine at_retc ?_
        refine at_ret2 rfl (rvCelS (k := 0) rfl tys_impl_Region rfl rfl) (.tmp rfl) ?_
        intro w' hs
        by_cases hr : regionB (rwA pen path cl) = true
        · obtain ⟨e1, e2⟩ := rw_yes hB hall2 hr; refine ⟨rA, rc, ?_, by rw [e2, hln]; exact pcs_row hs (kr := 3) (kp := 4) rfl rfl (by decide) rfl hlk hrs (fun i hi => by have := hsm.2 i hi; exact Nat.le_trans this (by decide)), hs.fin⟩; rw [if_pos hr, if_pos hr, if_pos hr, e1, e2, hln, show fitC (rwA pen path cl) = 0 from if_pos hr]
        · obtain ⟨e1, e2⟩ := rw_full hB hall2 (by simpa using hr); refine ⟨none, 0, ?_, by rw [e2]; exact OwnG.nil none, hs.fin⟩; rw [if_neg hr, if_neg hr, if_neg hr, e1, e2, show fitC (rwA pen path cl) = 5 from if_neg hr]; rfl
theorem specRawStroke_any (A : Option Addr) (n c : Nat) (pen : List Pn) (B : Option Addr) (m d : Nat) (path : List Pn) (cl : Bool) (w : World) (h : Pts w A n pen) (h2 : Pts w B m path) (hn : (n : Int) ≤ 1048576) (hm : (m : Int) ≤ 1048576) :
    Calls Try.prog 44 #[.slice A n c, .slice B m d, .bool cl] w fun e w' => ∃ A' c', e = .returned (.tuple #[regV A' (rwR pen path cl).length c', .int .i64 (rwC pen path cl)]) ∧ OwnG w.heap.size w'.heap.size w' A' (rwR pen path cl).length (rwR pen path cl) ∧ Over w w' := by
  refine walk_from (m := 14) (Try.func44) rfl rfl (Nat.le_of_ble_eq_true rfl) ?_
  refine at_seq ?_
  refine at_region ?_
  refine at_op rfl ?_
  refine op_alloc rfl tyz_impl_Region rfl (by decide) (fun b1 => ?_)
  refine at_rsE (by simp only [List.nil_append, List.cons_append, List.set_cons_zero, List.set_cons_succ, Value.cells, List.toList_toArray]; rfl) ?_
  refine at_q rfl rfl (by decide) (qt_assign rfl rfl) ?_
  refine at_end ?_
  refine at_seq ?_
  refine at_region ?_
  refine at_q rfl rfl (by decide) (qt_move rfl rfl) ?_
  refine at_q rfl rfl (by decide) (qt_move rfl rfl) ?_
  refine at_q rfl rfl (by decide) (qt_move rfl rfl) ?_
  refine at_op rfl ?_
  refine op_call ok_spec_l12Raw (X := (Option Addr × Nat) × Nat × Nat) (v := fun x => .tuple #[regV x.1.1 _ x.1.2, .int .i64 _]) (r := fun x => gegR _ _ x.2.1 x.2.2 x.1.1) (H := fun _ => True) rfl rfl rfl (by decide) (fun w1 hs => gegCode (l12Raw_any A n c pen B m d path cl w1 (h.over hs.fin) (h2.over hs.fin) hn hm)) ?_
  rintro ⟨⟨gA, gc⟩, glo, ghi⟩ -
  refine at_rsE (by simp only [List.nil_append, List.cons_append, List.set_cons_zero, List.set_cons_succ, Value.cells, List.toList_toArray]; rfl) ?_
  refine at_q rfl rfl (by decide) (qt_extract rfl rfl rfl) ?_
  refine at_q rfl rfl (by decide) (qt_extract rfl rfl rfl) ?_
  refine at_op rfl ?_
  refine op_storeAll' (k := 0) rfl rfl rfl rfl (rfl) (by rfl) tyz_impl_Region.szx rfl rfl rfl ?_
  refine at_rsE (by simp only [List.nil_append, List.cons_append, List.set_cons_zero, List.set_cons_succ, Value.cells, List.toList_toArray]; rfl) ?_
  refine at_q rfl rfl (by decide) (qt_assign rfl rfl) ?_
  refine at_end ?_
  refine at_retc ?_
  refine at_ret2 rfl (rvCelS (k := 0) rfl tys_impl_Region rfl rfl) (.tmp rfl) ?_
  intro w' hs
  exact ⟨gA, gc, rfl, gegTop (hs.all 1 _ rfl).1 (fun b hb => ((hs.all 1 _ rfl).2.1 b hb).elim id (fun h => by cases h)), hs.fin⟩
end Go.Proofs.Ytcplmmoeglembaa
