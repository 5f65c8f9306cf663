/- The way of a segment through hot points: the program's walk. -/
import Derived.Test.YtakdjgldcpompaaPathP
import Derived.Test.YtakdjgldcpompaaOrd
import Derived.Test.YtakdjgldcpompaaBounds
import Derived.Test.YtakdjgldcpompaaSnapped2
namespace Go.Proofs.Ytakdjgldcpompaa
open Go Go.RowKit
set_option linter.unusedVariables false
set_option linter.unusedSimpArgs false
set_option maxRecDepth 100000
set_option maxHeartbeats 4000000
set_option linter.unusedVariables false
set_option linter.unusedSimpArgs false

theorem snapEdge2_any (x y : Wy) (w : World) (hx : bd1 x.num x.den) (hy : bd1 y.num y.den) : Calls Try.prog 57 #[x.val, y.val] w fun e w' => e = .returned (.int .i64 (cmpWy x y)) ∧ Over w w' := by
  refine walk_from (m := 34) (Try.func57) rfl rfl (Nat.le_of_ble_eq_true rfl) ?_
  refine at_seq ?_
  refine at_region ?_
  refine at_op rfl ?_
  refine op_box rfl rfl (rfl) rfl (by decide) (fun b1 => ?_)
  refine at_rsE (by simp only [List.nil_append, List.cons_append, List.set_cons_zero, List.set_cons_succ, Value.cells, List.toList_toArray]; rfl) ?_
  refine at_op rfl ?_
  refine op_box rfl rfl (rfl) rfl (by decide) (fun b2 => ?_)
  refine at_rsE (by simp only [List.nil_append, List.cons_append, List.set_cons_zero, List.set_cons_succ, Value.cells, List.toList_toArray]; rfl) ?_
  refine at_q rfl rfl (by decide) (qt_assign rfl rfl) ?_
  refine at_end ?_
  refine at_seq ?_
  refine at_seq ?_
  refine at_region ?_
  refine at_q rfl rfl (by decide) (qt_fieldAddr rfl rfl tyf_impl_wayPoint_1) ?_
  refine at_q rfl rfl (by decide) (qt_loadS rfl rfl tys_impl_bound rfl (rd3 (k := 0) rfl rfl rfl rfl)) ?_
  refine at_q rfl rfl (by decide) (qt_fieldAddr rfl rfl tyf_impl_wayPoint_1) ?_
  refine at_q rfl rfl (by decide) (qt_loadS rfl rfl tys_impl_bound rfl (rd3 (k := 1) rfl rfl rfl rfl)) ?_
  refine at_q rfl rfl (by decide) (qt_call ok_impl_compareBound rfl rfl (fun w1 hs => compareBound_any _ _ _ _ _ _ w1 hx hy)) ?_
  refine at_q rfl rfl (by decide) (qt_assign rfl rfl) ?_
  refine at_end ?_
  refine at_seq ?_
  refine at_region ?_
  refine at_q rfl rfl (by decide) (qt_move rfl rfl) ?_
  refine at_q rfl rfl (by decide) (qt_neq rfl rfl rfl) ?_
  refine at_end ?_
  refine at_cond rfl (fun c1 => ?_) (fun c1 => ?_)
  · try simp only [decide_eq_true_eq, decide_eq_false_iff_not, beq_iff_eq, beq_eq_false_iff_ne, Bool.not_eq_true', Bool.not_eq_false', Bool.not_true, Bool.not_false, Int.not_lt, Int.not_le, ne_eq, Nat.not_lt, Nat.not_le] at c1
    refine at_seq ?_
    refine at_region ?_
    refine at_q rfl rfl (by decide) (qt_move rfl rfl) ?_
    refine at_q rfl rfl (by decide) (qt_assign rfl rfl) ?_
    refine at_end ?_
    refine at_retc ?_
    refine then_ret ?_
    refine at_ret1 rfl (.tmp rfl) ?_
    intro w' hs
    exact ⟨by rw [cmpWy, if_pos c1], hs.fin⟩
  · try simp only [decide_eq_true_eq, decide_eq_false_iff_not, beq_iff_eq, beq_eq_false_iff_ne, Bool.not_eq_true', Bool.not_eq_false', Bool.not_true, Bool.not_false, Int.not_lt, Int.not_le, ne_eq, Nat.not_lt, Nat.not_le] at c1
    refine at_skip ?_
    refine norm_then ?_
    refine at_seq ?_
    refine at_block ?_
    refine at_seq ?_
    refine at_region ?_
    refine at_q rfl rfl (by decide) (qt_fieldAddr rfl rfl tyf_impl_wayPoint_1) ?_
    refine at_q rfl rfl (by decide) (qt_fieldAddr rfl rfl tyf_impl_bound_2) ?_
    refine at_q rfl rfl (by decide) (qt_load1 rfl rfl ty1_bool (rd1 (k := 0) rfl rfl)) ?_
    refine at_q rfl rfl (by decide) (qt_move rfl rfl) ?_
    refine at_bsplit 18 rfl (fun g1 => ?_) (fun g1 => ?_)
    · try simp only [decide_eq_true_eq, decide_eq_false_iff_not, beq_iff_eq, beq_eq_false_iff_ne, Bool.not_eq_true', Bool.not_eq_false', Bool.not_true, Bool.not_false, Int.not_lt, Int.not_le, ne_eq, Nat.not_lt, Nat.not_le] at g1
      refine at_on rfl rfl rfl rfl ?_
      refine op_q rfl (by decide) (qt_fieldAddr rfl rfl tyf_impl_wayPoint_1) ?_
      refine at_on rfl rfl rfl rfl ?_
      refine op_q rfl (by decide) (qt_fieldAddr rfl rfl tyf_impl_bound_2) ?_
      refine at_on rfl rfl rfl rfl ?_
      refine op_q rfl (by decide) (qt_load1 rfl rfl ty1_bool (rd1 (k := 1) rfl rfl)) ?_
      refine at_on rfl rfl rfl rfl ?_
      refine op_q rfl (by decide) (qt_not rfl rfl) ?_
      refine at_q rfl rfl (by decide) (qt_pickT rfl rfl rfl) ?_
      refine at_q rfl rfl (by decide) (qt_assign rfl rfl) ?_
      refine at_end ?_
      refine at_cond rfl (fun c2 => ?_) (fun c2 => ?_)
      · try simp only [decide_eq_true_eq, decide_eq_false_iff_not, beq_iff_eq, beq_eq_false_iff_ne, Bool.not_eq_true', Bool.not_eq_false', Bool.not_true, Bool.not_false, Int.not_lt, Int.not_le, ne_eq, Nat.not_lt, Nat.not_le] at c2
        refine at_seq ?_
        refine at_region ?_
        refine at_q rfl rfl (by decide) (qt_assign rfl rfl) ?_
        refine at_end ?_
        refine at_retc ?_
        refine pass_ret ?_
        refine then_ret ?_
        refine at_ret1 rfl (.tmp rfl) ?_
        intro w' hs
        exact ⟨by unfold cmpWy; rw [if_neg (fun h => h c1)]; simp_all, hs.fin⟩
      · try simp only [decide_eq_true_eq, decide_eq_false_iff_not, beq_iff_eq, beq_eq_false_iff_ne, Bool.not_eq_true', Bool.not_eq_false', Bool.not_true, Bool.not_false, Int.not_lt, Int.not_le, ne_eq, Nat.not_lt, Nat.not_le] at c2
        refine at_seq ?_
        refine at_region ?_
        refine at_q rfl rfl (by decide) (qt_fieldAddr rfl rfl tyf_impl_wayPoint_1) ?_
        refine at_q rfl rfl (by decide) (qt_fieldAddr rfl rfl tyf_impl_bound_2) ?_
        refine at_q rfl rfl (by decide) (qt_load1 rfl rfl ty1_bool (rd1 (k := 0) rfl rfl)) ?_
        refine at_q rfl rfl (by decide) (qt_not rfl rfl) ?_
        refine at_q rfl rfl (by decide) (qt_move rfl rfl) ?_
        refine at_bsplit 29 rfl (fun g2 => ?_) (fun g2 => ?_)
        · try simp only [decide_eq_true_eq, decide_eq_false_iff_not, beq_iff_eq, beq_eq_false_iff_ne, Bool.not_eq_true', Bool.not_eq_false', Bool.not_true, Bool.not_false, Int.not_lt, Int.not_le, ne_eq, Nat.not_lt, Nat.not_le] at g2
          refine at_on rfl rfl rfl rfl ?_
          refine op_q rfl (by decide) (qt_fieldAddr rfl rfl tyf_impl_wayPoint_1) ?_
          refine at_on rfl rfl rfl rfl ?_
          refine op_q rfl (by decide) (qt_fieldAddr rfl rfl tyf_impl_bound_2) ?_
          refine at_on rfl rfl rfl rfl ?_
          refine op_q rfl (by decide) (qt_load1 rfl rfl ty1_bool (rd1 (k := 1) rfl rfl)) ?_
          refine at_q rfl rfl (by decide) (qt_pickT rfl rfl rfl) ?_
          refine at_q rfl rfl (by decide) (qt_assign rfl rfl) ?_
          refine at_end ?_
          refine at_cond rfl (fun c3 => ?_) (fun c3 => ?_)
          · try simp only [decide_eq_true_eq, decide_eq_false_iff_not, beq_iff_eq, beq_eq_false_iff_ne, Bool.not_eq_true', Bool.not_eq_false', Bool.not_true, Bool.not_false, Int.not_lt, Int.not_le, ne_eq, Nat.not_lt, Nat.not_le] at c3
            refine at_seq ?_
            refine at_region ?_
            refine at_q rfl rfl (by decide) (qt_assign rfl rfl) ?_
            refine at_end ?_
            refine at_retc ?_
            refine pass_ret ?_
            refine then_ret ?_
            refine at_ret1 rfl (.tmp rfl) ?_
            intro w' hs
            exact ⟨by unfold cmpWy; rw [if_neg (fun h => h c1)]; simp_all, hs.fin⟩
          · try simp only [decide_eq_true_eq, decide_eq_false_iff_not, beq_iff_eq, beq_eq_false_iff_ne, Bool.not_eq_true', Bool.not_eq_false', Bool.not_true, Bool.not_false, Int.not_lt, Int.not_le, ne_eq, Nat.not_lt, Nat.not_le] at c3
            refine at_skip ?_
            refine norm_block ?_
            refine norm_then ?_
            refine at_seq ?_
            refine at_region ?_
            refine at_q rfl rfl (by decide) (qt_assign rfl rfl) ?_
            refine at_end ?_
            refine at_retc ?_
            refine at_ret1 rfl (.tmp rfl) ?_
            intro w' hs
            exact ⟨by unfold cmpWy; rw [if_neg (fun h => h c1)]; simp_all, hs.fin⟩
        · try simp only [decide_eq_true_eq, decide_eq_false_iff_not, beq_iff_eq, beq_eq_false_iff_ne, Bool.not_eq_true', Bool.not_eq_false', Bool.not_true, Bool.not_false, Int.not_lt, Int.not_le, ne_eq, Nat.not_lt, Nat.not_le] at g2
          refine at_off rfl rfl rfl rfl (by decide) rfl (by decide) ?_
          refine at_off rfl rfl rfl rfl (by decide) rfl (by decide) ?_
          refine at_off rfl rfl rfl rfl (by decide) rfl (by decide) ?_
          refine at_q rfl rfl (by decide) (qt_pickF rfl rfl rfl) ?_
          refine at_q rfl rfl (by decide) (qt_assign rfl rfl) ?_
          refine at_end ?_
          refine at_no rfl rfl ?_
          refine at_skip ?_
          refine norm_block ?_
          refine norm_then ?_
          refine at_seq ?_
          refine at_region ?_
          refine at_q rfl rfl (by decide) (qt_assign rfl rfl) ?_
          refine at_end ?_
          refine at_retc ?_
          refine at_ret1 rfl (.tmp rfl) ?_
          intro w' hs
          exact ⟨by unfold cmpWy; rw [if_neg (fun h => h c1)]; simp_all, hs.fin⟩
    · try simp only [decide_eq_true_eq, decide_eq_false_iff_not, beq_iff_eq, beq_eq_false_iff_ne, Bool.not_eq_true', Bool.not_eq_false', Bool.not_true, Bool.not_false, Int.not_lt, Int.not_le, ne_eq, Nat.not_lt, Nat.not_le] at g1
      refine at_off rfl rfl rfl rfl (by decide) rfl (by decide) ?_
      refine at_off rfl rfl rfl rfl (by decide) rfl (by decide) ?_
      refine at_off rfl rfl rfl rfl (by decide) rfl (by decide) ?_
      refine at_off rfl rfl rfl rfl (by decide) rfl (by decide) ?_
      refine at_q rfl rfl (by decide) (qt_pickF rfl rfl rfl) ?_
      refine at_q rfl rfl (by decide) (qt_assign rfl rfl) ?_
      refine at_end ?_
      refine at_no rfl rfl ?_
      refine at_seq ?_
      refine at_region ?_
      refine at_q rfl rfl (by decide) (qt_fieldAddr rfl rfl tyf_impl_wayPoint_1) ?_
      refine at_q rfl rfl (by decide) (qt_fieldAddr rfl rfl tyf_impl_bound_2) ?_
      refine at_q rfl rfl (by decide) (qt_load1 rfl rfl ty1_bool (rd1 (k := 0) rfl rfl)) ?_
      refine at_q rfl rfl (by decide) (qt_not rfl rfl) ?_
      refine at_q rfl rfl (by decide) (qt_move rfl rfl) ?_
      refine at_bsplit 29 rfl (fun g3 => ?_) (fun g3 => ?_)
      · try simp only [decide_eq_true_eq, decide_eq_false_iff_not, beq_iff_eq, beq_eq_false_iff_ne, Bool.not_eq_true', Bool.not_eq_false', Bool.not_true, Bool.not_false, Int.not_lt, Int.not_le, ne_eq, Nat.not_lt, Nat.not_le] at g3
        refine at_on rfl rfl rfl rfl ?_
        refine op_q rfl (by decide) (qt_fieldAddr rfl rfl tyf_impl_wayPoint_1) ?_
        refine at_on rfl rfl rfl rfl ?_
        refine op_q rfl (by decide) (qt_fieldAddr rfl rfl tyf_impl_bound_2) ?_
        refine at_on rfl rfl rfl rfl ?_
        refine op_q rfl (by decide) (qt_load1 rfl rfl ty1_bool (rd1 (k := 1) rfl rfl)) ?_
        refine at_q rfl rfl (by decide) (qt_pickT rfl rfl rfl) ?_
        refine at_q rfl rfl (by decide) (qt_assign rfl rfl) ?_
        refine at_end ?_
        refine at_cond rfl (fun c4 => ?_) (fun c4 => ?_)
        · try simp only [decide_eq_true_eq, decide_eq_false_iff_not, beq_iff_eq, beq_eq_false_iff_ne, Bool.not_eq_true', Bool.not_eq_false', Bool.not_true, Bool.not_false, Int.not_lt, Int.not_le, ne_eq, Nat.not_lt, Nat.not_le] at c4
          refine at_seq ?_
          refine at_region ?_
          refine at_q rfl rfl (by decide) (qt_assign rfl rfl) ?_
          refine at_end ?_
          refine at_retc ?_
          refine pass_ret ?_
          refine then_ret ?_
          refine at_ret1 rfl (.tmp rfl) ?_
          intro w' hs
          exact ⟨by unfold cmpWy; rw [if_neg (fun h => h c1)]; simp_all, hs.fin⟩
        · try simp only [decide_eq_true_eq, decide_eq_false_iff_not, beq_iff_eq, beq_eq_false_iff_ne, Bool.not_eq_true', Bool.not_eq_false', Bool.not_true, Bool.not_false, Int.not_lt, Int.not_le, ne_eq, Nat.not_lt, Nat.not_le] at c4
          refine at_skip ?_
          refine norm_block ?_
          refine norm_then ?_
          refine at_seq ?_
          refine at_region ?_
          refine at_q rfl rfl (by decide) (qt_assign rfl rfl) ?_
          refine at_end ?_
          refine at_retc ?_
          refine at_ret1 rfl (.tmp rfl) ?_
          intro w' hs
          exact ⟨by unfold cmpWy; rw [if_neg (fun h => h c1)]; simp_all, hs.fin⟩
      · try simp only [decide_eq_true_eq, decide_eq_false_iff_not, beq_iff_eq, beq_eq_false_iff_ne, Bool.not_eq_true', Bool.not_eq_false', Bool.not_true, Bool.not_false, Int.not_lt, Int.not_le, ne_eq, Nat.not_lt, Nat.not_le] at g3
        refine at_off rfl rfl rfl rfl (by decide) rfl (by decide) ?_
        refine at_off rfl rfl rfl rfl (by decide) rfl (by decide) ?_
        refine at_off rfl rfl rfl rfl (by decide) rfl (by decide) ?_
        refine at_q rfl rfl (by decide) (qt_pickF rfl rfl rfl) ?_
        refine at_q rfl rfl (by decide) (qt_assign rfl rfl) ?_
        refine at_end ?_
        refine at_no rfl rfl ?_
        refine at_skip ?_
        refine norm_block ?_
        refine norm_then ?_
        refine at_seq ?_
        refine at_region ?_
        refine at_q rfl rfl (by decide) (qt_assign rfl rfl) ?_
        refine at_end ?_
        refine at_retc ?_
        refine at_ret1 rfl (.tmp rfl) ?_
        intro w' hs
        exact ⟨by unfold cmpWy; rw [if_neg (fun h => h c1)]; simp_all, hs.fin⟩
/-- Way points of a row, put in order. -/
theorem sortWy_row {w : World} {B n : Nat} {l : List Wy} {x : Option Addr × Nat} (hrow : (rowR B 107 5 n (l.flatMap Wy.cells) x).P w) (hl : l.length = n) (hb : ∀ e ∈ l, bd1 e.num e.den) (hn : n ≤ 1099511627776) :
    Calls Try.prog 56 #[.slice x.1 n x.2, .func (.func 57) #[] #[]] w fun e w' => e = .returned (.tuple #[]) ∧ Wrs (rowR B 107 5 n (l.flatMap Wy.cells) x).F w w' ∧ (rowR 0 107 5 n ((srt (ltC cmpWy) l).flatMap Wy.cells) x).P w' := by
  have hrow' : w.ownsRow B 107 5 (.slice x.1 n x.2) n (l.flatMap Wy.cells) := hrow
  rcases hrow'.2 with ⟨e, e2⟩ | ⟨g, cap, cur, e, hbg, hg, hcap, hmax, hsz, htk⟩
  · subst e2
    obtain rfl : l = [] := List.eq_nil_of_length_eq_zero hl
    refine (sort_noneW x.1 x.2 _ w).mono ?_
    rintro e' w' ⟨rfl, hO⟩
    refine ⟨rfl, Wrs.of hO, ?_⟩
    show w'.ownsRow 0 107 5 (.slice x.1 0 x.2) 0 _
    rw [e]
    exact World.ownsRow_nil _ _ _ _
  · injection e with e1 e3 e4
    have hF : ∀ b, b = g → (rowR B 107 5 n (l.flatMap Wy.cells) x).F b := by
      rintro b rfl
      show Value.ownBlock (.slice x.1 n x.2) = some _
      rw [e1]
      rfl
    have hcl : cur.toList.length = cap * 5 := by simp [hsz]
    have hcur : cur = (wyF (l ++ []) (cur.toList.drop (n * 5))).toArray := by
      rw [List.append_nil, wyF, ← htk, List.take_append_drop, Array.toArray_toList]
    have hC : CmpW w g (· ∈ l) cmpWy := ⟨fun u hu v hv w' ho => snapEdge2_any u v w' (hb u hu) (hb v hv), wy_weak⟩
    have := sort_wy g 107 (cur.toList.drop (n * 5)) l [] n x.2 _ _ w hC (by rw [← hcur]; exact hg) hl hn (fun u hu => hu)
    rw [e1]
    refine this.mono ?_
    rintro e' w' ⟨rfl, hw, hh⟩
    refine ⟨rfl, ⟨hw.os, hw.tape, hw.output, hw.size, fun c hc hnc => hw.block c hc (fun ec => hnc (hF c ec))⟩, ?_⟩
    rw [List.append_nil] at hh
    have hml : ((srt (ltC cmpWy) l).flatMap Wy.cells).length = n * 5 := by rw [wyC_len, srt_len, hl]
    refine ⟨hml, .inr ⟨g, x.2, _, by rw [e1], Nat.zero_le _, hh, by rw [e4]; exact hcap, by rw [e4]; exact hmax, ?_, ?_⟩⟩
    · rw [List.size_toArray, wyF, List.length_append, hml, List.length_drop, hcl, e4]
      omega
    · rw [List.toList_toArray, wyF, List.take_append_of_le_length (by omega), List.take_of_length_le (by omega)]

/-! ### The first point from a height on -/
theorem snapEdge1_any (p : Pn) (t : Int) (w : World) (hp : bdW p) (ht : -1152921504606846976 ≤ t ∧ t ≤ 1152921504606846976) : Calls Try.prog 54 #[pV p, .int .i64 t] w fun e w' => e = .returned (.int .i64 (sgn (p.2 - t))) ∧ Over w w' := by
  obtain ⟨⟨p1, p2⟩, p3, p4⟩ := hp
  refine walk_from (m := 10) (Try.func54) rfl rfl (Nat.le_of_ble_eq_true rfl) ?_
  refine at_seq ?_
  refine at_region ?_
  refine at_op rfl ?_
  refine op_box rfl rfl (rfl) rfl (by decide) (fun b1 => ?_)
  refine at_rsE (by simp only [List.nil_append, List.cons_append, List.set_cons_zero, List.set_cons_succ, Value.cells, List.toList_toArray]; rfl) ?_
  refine at_q rfl rfl (by decide) (qt_assign rfl rfl) ?_
  refine at_end ?_
  refine at_seq ?_
  refine at_region ?_
  refine at_q rfl rfl (by decide) (qt_fieldAddr rfl rfl tyf_impl_Pt_1) ?_
  refine at_q rfl rfl (by decide) (qt_load1 rfl rfl ty1_int64 (rd1 (k := 0) rfl rfl)) ?_
  refine at_q rfl rfl (by decide) (qt_move rfl rfl) ?_
  refine at_q rfl rfl (by decide) (qt_sub rfl rfl rfl (by omega) (by omega)) ?_
  refine at_q rfl rfl (by decide) (qt_call ok_impl_sign64 rfl rfl (fun w h => Calls.still (sign64_any _ w))) ?_
  refine at_q rfl rfl (by decide) (qt_assign rfl rfl) ?_
  refine at_end ?_
  refine at_retc ?_
  refine at_ret1 rfl (.tmp rfl) ?_
  intro w' hs
  exact ⟨rfl, hs.fin⟩
def bsI (xs : List Pn) (t : Int) : Nat := (xs.takeWhile fun p => decide (p.2 < t)).length
theorem bsI_eq : ∀ {xs : List Pn} {t : Int} {i : Nat}, i ≤ xs.length → (∀ k, k < i → py xs k < t) → (i < xs.length → t ≤ py xs i) → bsI xs t = i
  | [], _, i, h, _, _ => by simp at h; subst h; rfl
  | p :: xs, t, 0, _, _, h3 => by
    have := h3 (by simp)
    have e : py (p :: xs) 0 = p.2 := rfl
    unfold bsI
    rw [List.takeWhile_cons_of_neg (by simp; omega)]
    rfl
  | p :: xs, t, i + 1, h1, h2, h3 => by
    have e : py (p :: xs) 0 = p.2 := rfl
    have h0 := h2 0 (by omega)
    have ek : ∀ k, py (p :: xs) (k + 1) = py xs k := fun k => by simp [py]
    unfold bsI
    rw [List.takeWhile_cons_of_pos (by simp; omega), List.length_cons]
    have := bsI_eq (xs := xs) (t := t) (i := i) (by simpa using h1) (fun k hk => by have := h2 (k + 1) (by omega); rwa [ek] at this) (fun hi => by have := h3 (by simpa using hi); rwa [ek] at this)
    unfold bsI at this
    omega
def pt2 (xs : List Pn) (k : Nat) : Int := py xs k
def MonoY (xs : List Pn) : Prop := ∀ k j, k ≤ j → j < xs.length → py xs k ≤ py xs j
theorem asc_mono {xs : List Pn} (h : Asc xs) : MonoY xs := fun k j hkj hj => by
  rcases Nat.lt_or_eq_of_le hkj with h1 | rfl
  · have := List.pairwise_iff_getElem.1 h k j (by omega) hj h1
    rw [pt_at, pt_at] at this
    unfold ltY pt at this
    simp only at this
    omega
  · exact Int.le_refl _
theorem BinarySearch_any (A : Option Addr) (n c : Nat) (xs : List Pn) (t : Int) (w : World) (h : Pts w A n xs) (hx : ∀ p ∈ xs, bdW p) (ht : -1152921504606846976 ≤ t ∧ t ≤ 1152921504606846976) (hm : MonoY xs) (hn : n ≤ 1099511627776) :
    Calls Try.prog 53 #[.slice A n c, .int .i64 t, .func (.func 54) #[] #[]] w fun e w' => e = .returned (.tuple #[.int .i64 ((bsI xs t : Nat) : Int), .bool (decide (bsI xs t < n) && decide (sgn (py xs (bsI xs t) - t) = 0))]) ∧ Over w w' := by
  have hl := h.1
  have hbd : ∀ k, k < n → bdW (pt xs k) := fun k hk => hx _ (by rw [← pt_at (by omega)]; exact List.getElem_mem _)
  refine walk_from (m := 49) (Try.func53) rfl rfl (Nat.le_of_ble_eq_true rfl) ?_
  refine at_seq ?_
  refine at_region ?_
  refine at_q rfl rfl (by decide) (qt_assign rfl rfl) ?_
  refine at_q rfl rfl (by decide) (qt_assign rfl rfl) ?_
  refine at_end ?_
  refine at_seq ?_
  refine at_region ?_
  refine at_q rfl rfl (by decide) (qt_move rfl rfl) ?_
  refine at_q rfl rfl (by decide) (qt_len rfl rfl tyl_sl_impl_Pt) ?_
  refine at_q rfl rfl (by decide) (qt_assign rfl rfl) ?_
  refine at_end ?_
  refine at_seq ?_
  refine at_region ?_
  refine at_q rfl rfl (by decide) (qt_move rfl rfl) ?_
  refine at_q rfl rfl (by decide) (qt_assign rfl rfl) ?_
  refine at_q rfl rfl (by decide) (qt_assign rfl rfl) ?_
  refine at_end ?_
  refine at_seq ?_
  refine at_block ?_
  refine at_loopk (X := Nat × Nat) (fun q => q.1 ≤ q.2 ∧ q.2 ≤ n ∧ (∀ k, k < q.1 → py xs k < t) ∧ (∀ k, q.2 ≤ k → k < n → t ≤ py xs k)) (fun q => q.2 - q.1) (fun q => [(9, .int .i64 (q.1 : Int)), (10, .int .i64 (q.2 : Int))]) (C := [(0, _), (1, _), (2, _), (6, _), (7, _), (8, _)]) ⟨rfl, rfl, rfl, rfl, rfl, rfl, trivial⟩ (0, n) (⟨Nat.zero_le _, Nat.le_refl _, fun k hk => absurd hk (by simp), fun k h1 h2 => absurd (Nat.lt_of_lt_of_le h2 h1) (Nat.lt_irrefl _)⟩) ⟨rfl, rfl, rfl, rfl, rfl, rfl, rfl, rfl, trivial⟩ ?_
  intro ⟨i, j⟩ hq L hL1
  refine at_envE (by simp only [List.nil_append, List.cons_append]; rfl) ?_
  obtain ⟨q1, q2, q3, q4⟩ : i ≤ j ∧ j ≤ n ∧ (∀ k, k < i → py xs k < t) ∧ (∀ k, j ≤ k → k < n → t ≤ py xs k) := hq
  refine at_seq ?_
  refine at_seq ?_
  refine at_region ?_
  refine at_q rfl rfl (by decide) (qt_move rfl rfl) ?_
  refine at_q rfl rfl (by decide) (qt_move rfl rfl) ?_
  refine at_q rfl rfl (by decide) (qt_lss rfl rfl rfl) ?_
  refine at_end ?_
  refine at_cond rfl (fun c1 => ?_) (fun c1 => ?_)
  · try simp only [decide_eq_true_eq, decide_eq_false_iff_not, beq_iff_eq, beq_eq_false_iff_ne, Bool.not_eq_true', Bool.not_eq_false', Bool.not_true, Bool.not_false, Int.not_lt, Int.not_le, ne_eq, Nat.not_lt, Nat.not_le] at c1
    have hij : i < j := (by omega)
    obtain ⟨eb, eo, rfl, _⟩ := h.2 (by omega)
    refine at_skip ?_
    refine norm_then ?_
    refine at_block ?_
    refine at_seq ?_
    refine at_region ?_
    refine at_q rfl rfl (by decide) (qt_move rfl rfl) ?_
    refine at_q rfl rfl (by decide) (qt_move rfl rfl) ?_
    refine at_q rfl rfl (by decide) (qt_add rfl rfl rfl (by omega) (by omega)) ?_
    refine at_q rfl rfl (by decide) (qt_convI rfl Try.underlying3 Try.underlying135 rfl (u64_in _ (by omega) (by omega))) ?_
    refine at_q rfl rfl (by decide) (qt_shrU (q := 1) rfl rfl rfl (by decide) (by decide)) ?_
    refine at_q rfl rfl (by decide) ((qt_convI rfl Try.underlying135 Try.underlying3 rfl (wrapI64 _ (by simp; omega) (by simp; omega))).as (congrArg _ (show (((i : Int) + (j : Int)) / 2 ^ (Int.toNat 1)) = (((i + j) / 2 : Nat) : Int) by simp))) ?_
    refine at_q rfl rfl (by decide) (qt_assign rfl rfl) ?_
    refine at_end ?_
    refine at_seq ?_
    refine at_region ?_
    refine at_q rfl rfl (by decide) (qt_move rfl rfl) ?_
    refine at_q rfl rfl (by decide) (qt_move rfl rfl) ?_
    refine at_q rfl rfl (by decide) (qt_move rfl rfl) ?_
    refine at_q rfl rfl (by decide) (qt_index (j := (i + j) / 2) rfl rfl rfl tyl_sl_impl_Pt (by omega)) ?_
    refine at_q rfl rfl (by decide) (qt_loadS rfl rfl tys_impl_Pt rfl (rdPts (b := eb) (o := eo) h (by omega))) ?_
    refine at_q rfl rfl (by decide) (qt_move rfl rfl) ?_
    refine at_q rfl rfl (by decide) (qt_callk ok_impl_snapEdge_1 rfl rfl rfl (fun w1 hs => snapEdge1_any (pt xs ((i + j) / 2)) t w1 (hbd _ (by omega)) ht)) ?_
    refine at_q rfl rfl (by decide) (qt_lss rfl rfl rfl) ?_
    refine at_end ?_
    refine at_cond rfl (fun c2 => ?_) (fun c2 => ?_)
    · try simp only [decide_eq_true_eq, decide_eq_false_iff_not, beq_iff_eq, beq_eq_false_iff_ne, Bool.not_eq_true', Bool.not_eq_false', Bool.not_true, Bool.not_false, Int.not_lt, Int.not_le, ne_eq, Nat.not_lt, Nat.not_le] at c2
      have hlow : py xs ((i + j) / 2) < t := (by have := sgn_neg.1 c2; simp only [pt] at this; omega)
      refine at_region ?_
      refine at_q rfl rfl (by decide) (qt_move rfl rfl) ?_
      refine at_q rfl rfl (by decide) (qt_add rfl rfl rfl (by omega) (by omega)) ?_
      refine at_q rfl rfl (by decide) (qt_assign rfl rfl) ?_
      refine at_nil ?_
      refine norm_block ?_
      refine norm_then ?_
      exact at_againk hL1 (((i + j) / 2 + 1, j)) (⟨show (i + j) / 2 + 1 ≤ j by omega, q2, fun k hk => by have := hm k ((i + j) / 2) (by simp only at hk; omega) (by omega); omega, q4⟩) (by simp only; omega) ⟨vi (by omega), rfl, rfl, rfl, rfl, rfl, rfl, rfl, trivial⟩ (fun _ h => h.upto trivial)
    · try simp only [decide_eq_true_eq, decide_eq_false_iff_not, beq_iff_eq, beq_eq_false_iff_ne, Bool.not_eq_true', Bool.not_eq_false', Bool.not_true, Bool.not_false, Int.not_lt, Int.not_le, ne_eq, Nat.not_lt, Nat.not_le] at c2
      have hlow : t ≤ py xs ((i + j) / 2) := Int.not_lt.1 fun hh => by have := sgn_neg.2 (show pt2 xs ((i + j) / 2) - t < 0 by unfold pt2; omega); unfold pt2 at this; simp only [pt] at c2; omega
      refine at_region ?_
      refine at_q rfl rfl (by decide) (qt_move rfl rfl) ?_
      refine at_q rfl rfl (by decide) (qt_assign rfl rfl) ?_
      refine at_nil ?_
      refine norm_block ?_
      refine norm_then ?_
      exact at_againk hL1 ((i, (i + j) / 2)) (⟨show i ≤ (i + j) / 2 by omega, show (i + j) / 2 ≤ n by omega, q3, fun k h1 h2 => by have := hm ((i + j) / 2) k h1 (by omega); omega⟩) (by simp only; omega) ⟨rfl, rfl, rfl, rfl, rfl, rfl, rfl, rfl, trivial⟩ (fun _ h => h.upto trivial)
  · try simp only [decide_eq_true_eq, decide_eq_false_iff_not, beq_iff_eq, beq_eq_false_iff_ne, Bool.not_eq_true', Bool.not_eq_false', Bool.not_true, Bool.not_false, Int.not_lt, Int.not_le, ne_eq, Nat.not_lt, Nat.not_le] at c1
    have hij : i = j := (by omega)
    subst hij
    have hbs : bsI xs t = i := bsI_eq (by omega) q3 (fun hi => q4 i (Nat.le_refl _) (by omega))
    refine at_exit ?_
    refine pass_then (fun h => by cases h) ?_
    refine pass_then (fun h => by cases h) ?_
    refine pass_hit ?_
    refine norm_then ?_
    refine at_seq ?_
    refine at_region ?_
    refine at_q rfl rfl (by decide) (qt_move rfl rfl) ?_
    refine at_q rfl rfl (by decide) (qt_move rfl rfl) ?_
    refine at_q rfl rfl (by decide) (qt_move rfl rfl) ?_
    refine at_q rfl rfl (by decide) (qt_lss rfl rfl rfl) ?_
    refine at_q rfl rfl (by decide) (qt_move rfl rfl) ?_
    refine at_bsplit 39 rfl (fun g1 => ?_) (fun g1 => ?_)
    · try simp only [decide_eq_true_eq, decide_eq_false_iff_not, beq_iff_eq, beq_eq_false_iff_ne, Bool.not_eq_true', Bool.not_eq_false', Bool.not_true, Bool.not_false, Int.not_lt, Int.not_le, ne_eq, Nat.not_lt, Nat.not_le] at g1
      have hin : i < n := (by omega)
      obtain ⟨eb, eo, rfl, _⟩ := h.2 (by omega)
      refine at_on rfl rfl rfl rfl ?_
      refine op_q rfl (by decide) (qt_move rfl rfl) ?_
      refine at_on rfl rfl rfl rfl ?_
      refine op_q rfl (by decide) (qt_move rfl rfl) ?_
      refine at_on rfl rfl rfl rfl ?_
      refine op_q rfl (by decide) (qt_move rfl rfl) ?_
      refine at_on rfl rfl rfl rfl ?_
      refine op_q rfl (by decide) (qt_index (j := i) rfl rfl rfl tyl_sl_impl_Pt (by omega)) ?_
      refine at_on rfl rfl rfl rfl ?_
      refine op_q rfl (by decide) (qt_loadS rfl rfl tys_impl_Pt rfl (rdPts (b := eb) (o := eo) h hin)) ?_
      refine at_on rfl rfl rfl rfl ?_
      refine op_q rfl (by decide) (qt_move rfl rfl) ?_
      refine at_on rfl rfl rfl rfl ?_
      refine op_q rfl (by decide) (qt_callk ok_impl_snapEdge_1 rfl rfl rfl (fun w1 hs => snapEdge1_any (pt xs i) t w1 (hbd _ hin) ht)) ?_
      refine at_on rfl rfl rfl rfl ?_
      refine op_q rfl (by decide) (qt_eql rfl rfl rfl) ?_
      refine at_q rfl rfl (by decide) (qt_pickT rfl rfl rfl) ?_
      refine at_q rfl rfl (by decide) (qt_assign rfl rfl) ?_
      refine at_q rfl rfl (by decide) (qt_assign rfl rfl) ?_
      refine at_end ?_
      refine at_retc ?_
      refine at_ret2 rfl (.tmp rfl) (.tmp rfl) ?_
      intro w' hs
      exact ⟨by rw [hbs, show decide (i < n) = true from decide_eq_true hin, Bool.true_and]; rfl, hs.fin⟩
    · try simp only [decide_eq_true_eq, decide_eq_false_iff_not, beq_iff_eq, beq_eq_false_iff_ne, Bool.not_eq_true', Bool.not_eq_false', Bool.not_true, Bool.not_false, Int.not_lt, Int.not_le, ne_eq, Nat.not_lt, Nat.not_le] at g1
      refine at_off rfl rfl rfl rfl (by decide) rfl (by decide) ?_
      refine at_off rfl rfl rfl rfl (by decide) rfl (by decide) ?_
      refine at_off rfl rfl rfl rfl (by decide) rfl (by decide) ?_
      refine at_off rfl rfl rfl rfl (by decide) rfl (by decide) ?_
      refine at_off rfl rfl rfl rfl (by decide) rfl (by decide) ?_
      refine at_off rfl rfl rfl rfl (by decide) rfl (by decide) ?_
      refine at_off rfl rfl rfl rfl (by decide) rfl (by decide) ?_
      refine at_off rfl rfl rfl rfl (by decide) rfl (by decide) ?_
      refine at_q rfl rfl (by decide) (qt_pickF rfl rfl rfl) ?_
      refine at_q rfl rfl (by decide) (qt_assign rfl rfl) ?_
      refine at_q rfl rfl (by decide) (qt_assign rfl rfl) ?_
      refine at_end ?_
      refine at_retc ?_
      refine at_ret2 rfl (.tmp rfl) (.tmp rfl) ?_
      intro w' hs
      exact ⟨by rw [hbs, show decide (i < n) = false from decide_eq_false (by omega), Bool.false_and], hs.fin⟩
end Go.Proofs.Ytakdjgldcpompaa
