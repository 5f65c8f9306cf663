/- Rings and regions of the call's own, overwritten with marks; marks found again. -/
import Derived.Test.YtnalgllmdpcjcaaMark
namespace Go.Proofs.Ytnalgllmdpcjcaa
open Go Go.RowKit
set_option linter.unusedVariables false
set_option linter.unusedSimpArgs false
set_option maxRecDepth 100000
set_option maxHeartbeats 4000000
set_option linter.unusedVariables false

/-- The first k rings are marks, the others as they were. -/
def mixR (m : Int) (rs : List Ring_) (k : Nat) : List Ring_ := (List.range rs.length).map fun j => if j < k then rg (marksR m rs) j else rg rs j
theorem mixR_len (m : Int) (rs : List Ring_) (k : Nat) : (mixR m rs k).length = rs.length := by simp [mixR]
theorem rg_mixR {m : Int} {rs : List Ring_} {k j : Nat} (h : j < rs.length) : rg (mixR m rs k) j = if j < k then rg (marksR m rs) j else rg rs j := by simp [rg, mixR, List.getD, h]
theorem rg_mixR_len {m : Int} {rs : List Ring_} {k j : Nat} (h : j < rs.length) : (rg (mixR m rs k) j).length = (rg rs j).length := by
  rw [rg_mixR h]
  split
  · rw [rg_marksR _ _ _ h, marks_len]
  · rfl
theorem rg_ext {rs ss : List Ring_} (h : rs.length = ss.length) (hp : ∀ j, j < rs.length → rg rs j = rg ss j) : rs = ss := by
  refine List.ext_getElem h fun j h1 h2 => ?_
  rw [at_r h1, at_r h2, hp j h1]
theorem mixR_zero (m : Int) (rs : List Ring_) : mixR m rs 0 = rs := rg_ext (mixR_len _ _ _) fun j hj => by rw [mixR_len] at hj; rw [rg_mixR hj, if_neg (by omega)]
theorem mixR_all (m : Int) (rs : List Ring_) : mixR m rs rs.length = marksR m rs := rg_ext (by rw [mixR_len, marksR_len]) fun j hj => by rw [mixR_len] at hj; rw [rg_mixR hj, if_pos hj]
theorem OwnGd.mark {lo hi : Nat} {w w' : World} {b o T : Nat} {cs : Array Value} {pl : Nat → Option Addr × Nat} {n k : Nat} {rs : List Ring_} {m : Int} (h : OwnGd lo hi w b o T cs pl n (mixR m rs k)) (hl : rs.length = n) (hk : k < n)
    (hw : Wrs (fun q => 0 < (rg rs k).length ∧ q = ablk (pl k).1 ∧ span lo hi q) w w') (hp : OwnP lo hi w' (pl k).1 (rg rs k).length (marks (m + 2 * (sumTo rs k : Nat)) (rg rs k).length)) : OwnGd lo hi w' b o T cs pl n (mixR m rs (k + 1)) := by
  have hlen : ∀ i j, j < n → (rg (mixR m rs i) j).length = (rg rs j).length := fun i j hj => rg_mixR_len (by omega)
  refine ⟨h.low, h.high, (hw.block b (lt_of_some h.blk) fun hq => ?_).trans h.blk, fun j hj => ?_, fun j hj => ?_, fun j hj => ?_, fun i j hi hj hij => ?_⟩
  · exact h.off k hk (by rw [hlen _ _ hk]; exact hq.1) hq.2.1.symm
  · rw [hlen _ _ hj, ← hlen k j hj]; exact h.cell j hj
  · by_cases hjk : j = k
    · subst hjk
      have e : rg (mixR m rs (j + 1)) j = marks (m + 2 * (sumTo rs j : Nat)) (rg rs j).length := by rw [rg_mixR (by omega), if_pos (by omega), rg_marksR _ _ _ (by omega)]
      rw [e, marks_len]
      exact hp
    · have e : rg (mixR m rs (k + 1)) j = rg (mixR m rs k) j := by
        rw [rg_mixR (by omega), rg_mixR (by omega)]
        by_cases hlt : j < k
        · rw [if_pos (by omega), if_pos hlt]
        · rw [if_neg (by omega), if_neg hlt]
      rw [e]
      by_cases h0 : 0 < (rg rs j).length
      · refine (h.pts j hj).agree fun p hp' h1 h2 => ?_
        have hpt := h.pts j hj
        obtain ⟨b', o', T', cs', e', _, _, hh', _⟩ := hpt.2 (by rw [hlen _ _ hj]; exact h0)
        rw [e'] at hp'
        injection hp' with hp'
        subst hp'
        refine hw.block b' (lt_of_some hh') fun hq => ?_
        refine h.apart j k hj hk hjk (by rw [hlen _ _ hj]; exact h0) (by rw [hlen _ _ hk]; exact hq.1) ?_
        rw [e']
        exact hq.2.1
      · exact ⟨(h.pts j hj).1, fun h1 => by rw [hlen _ _ hj] at h1; exact absurd h1 h0⟩
  · rw [hlen _ _ hj, ← hlen k j hj]; exact h.off j hj
  · rw [hlen _ _ hi, hlen _ _ hj, ← hlen k i hi, ← hlen k j hj]; exact h.apart i j hi hj hij

theorem markRingS_none (A : Option Addr) (c : Nat) (m : Int) (w : World) : Calls Try.prog 85 #[.slice A 0 c, .int .i64 m] w fun e w' => e = .returned (.int .i64 m) ∧ Over w w' := by
  refine walk_from (m := 20) (Try.func85) rfl rfl (Nat.le_of_ble_eq_true rfl) ?_
  refine at_seq ?_
  refine at_region ?_
  refine at_q rfl rfl (by decide) (qt_assign rfl rfl) ?_
  refine at_end ?_
  refine at_seq ?_
  refine at_seq ?_
  refine at_region ?_
  refine at_q rfl rfl (by decide) (qt_assign rfl rfl) ?_
  refine at_end ?_
  refine at_block ?_
  refine at_loopk (X := Nat) (fun k => k = 0) (fun k => k) (fun k => [(5, .int .i64 (k : Int))]) (C := [(0, _), (1, _), (4, _)]) ⟨rfl, rfl, rfl, trivial⟩ 0 (rfl) ⟨rfl, rfl, rfl, rfl, trivial⟩ ?_
  intro k hk L hL
  refine at_envE (by simp only [List.nil_append, List.cons_append]; rfl) ?_
  refine at_seq ?_
  refine at_seq ?_
  refine at_region ?_
  refine at_q rfl rfl (by decide) (qt_move rfl rfl) ?_
  refine at_q rfl rfl (by decide) (qt_move rfl rfl) ?_
  refine at_q rfl rfl (by decide) (qt_len rfl rfl tyl_sl_impl_Ring) ?_
  refine at_q rfl rfl (by decide) (qt_lss rfl rfl rfl) ?_
  refine at_end ?_
  refine at_cond rfl (fun c1 => ?_) (fun c1 => ?_)
  · try simp only [decide_eq_true_eq, decide_eq_false_iff_not, beq_iff_eq, beq_eq_false_iff_ne, Bool.not_eq_true', Bool.not_eq_false', Bool.not_true, Bool.not_false, Int.not_lt, Int.not_le, ne_eq, Nat.not_lt, Nat.not_le] at c1
    omega
  · try simp only [decide_eq_true_eq, decide_eq_false_iff_not, beq_iff_eq, beq_eq_false_iff_ne, Bool.not_eq_true', Bool.not_eq_false', Bool.not_true, Bool.not_false, Int.not_lt, Int.not_le, ne_eq, Nat.not_lt, Nat.not_le] at c1
    refine at_exit ?_
    refine pass_then (fun h => by cases h) ?_
    refine pass_then (fun h => by cases h) ?_
    refine pass_hit ?_
    refine norm_then ?_
    refine at_seq ?_
    refine at_region ?_
    refine at_q rfl rfl (by decide) (qt_move rfl rfl) ?_
    refine at_q rfl rfl (by decide) (qt_assign rfl rfl) ?_
    refine at_end ?_
    refine at_retc ?_
    refine at_ret1 rfl (.tmp rfl) ?_
    intro w' hs
    exact ⟨rfl, hs.fin⟩
abbrev gdR (lo hi b o T : Nat) (cs : Array Value) (pl : Nat → Option Addr × Nat) (n : Nat) (rs : List Ring_) : Res := .clo lo hi (fun w => OwnGd lo hi w b o T cs pl n rs)
theorem gdP {lo hi b o T : Nat} {cs : Array Value} {pl : Nat → Option Addr × Nat} {n : Nat} {rs : List Ring_} {w : World} (h : OwnGd lo hi w b o T cs pl n rs) (hz : hi ≤ w.heap.size) : (gdR lo hi b o T cs pl n rs).P w := ⟨hz, fun w' _ ha => h.agree ha⟩
theorem gdG {lo hi b o T : Nat} {cs : Array Value} {pl : Nat → Option Addr × Nat} {n : Nat} {rs : List Ring_} {w : World} (h : (gdR lo hi b o T cs pl n rs).P w) : OwnGd lo hi w b o T cs pl n rs := h.2 w h.1 fun _ _ _ => rfl
theorem span_mem {lo hi b : Nat} : b ∈ List.range' lo (hi - lo) ↔ span lo hi b := by
  rw [List.mem_range'_1]
  unfold span
  omega
theorem markRingS_some (lo hi b o T : Nat) (cs : Array Value) (pl : Nat → Option Addr × Nat) (n c : Nat) (rs : List Ring_) (m : Int) (w : World) (h : OwnGd lo hi w b o T cs pl n rs) (hl : rs.length = n) (hz : hi ≤ w.heap.size) (hm : 0 ≤ m) (hb : m + 2 * (sumTo rs n : Nat) ≤ 4611686018427387904) (hn : n ≤ 4611686018427387904) :
    Calls Try.prog 85 #[.slice (some ⟨b, o, none⟩) n c, .int .i64 m] w fun e w' => e = .returned (.int .i64 (m + 2 * (sumTo rs n : Nat))) ∧ Wrs (span lo hi) w w' ∧ OwnGd lo hi w' b o T cs pl n (marksR m rs) := by
  refine walk_fromR (m := 20) (List.range' lo (hi - lo)) (gdR lo hi b o T cs pl n rs) (gdP h hz) (fun _ h => span_mem.2 h) rfl (Try.func85) rfl rfl (Nat.le_of_ble_eq_true rfl) ?_
  refine at_seq ?_
  refine at_region ?_
  refine at_q rfl rfl (by decide) (qt_assign rfl rfl) ?_
  refine at_end ?_
  refine at_seq ?_
  refine at_seq ?_
  refine at_region ?_
  refine at_q rfl rfl (by decide) (qt_assign rfl rfl) ?_
  refine at_end ?_
  refine at_block ?_
  refine at_loopc (X := Nat) (fun k => k ≤ n) (fun k => n - k) (fun k => [(1, .int .i64 (m + 2 * (sumTo rs k : Nat))), (5, .int .i64 (k : Int))]) (C := [(0, _), (4, _)]) ⟨rfl, rfl, trivial⟩ (fun k => [gdR lo hi b o T cs pl n (mixR m rs k)]) 0 (Nat.zero_le _) ⟨vi (by simp [sumTo]), rfl, rfl, rfl, trivial⟩ (fun _ h => (mixR_zero m rs).symm ▸ h) ?_
  intro k hk L hL
  refine at_envE (by simp only [List.nil_append, List.cons_append]; rfl) ?_
  refine at_rsE (by first | (dsimp only; done) | (dsimp only; rfl) | rfl) ?_
  refine at_seq ?_
  refine at_seq ?_
  refine at_region ?_
  refine at_q rfl rfl (by decide) (qt_move rfl rfl) ?_
  refine at_q rfl rfl (by decide) (qt_move rfl rfl) ?_
  refine at_q rfl rfl (by decide) (qt_len rfl rfl tyl_sl_impl_Ring) ?_
  refine at_q rfl rfl (by decide) (qt_lss rfl rfl rfl) ?_
  refine at_end ?_
  refine at_cond rfl (fun c1 => ?_) (fun c1 => ?_)
  · try simp only [decide_eq_true_eq, decide_eq_false_iff_not, beq_iff_eq, beq_eq_false_iff_ne, Bool.not_eq_true', Bool.not_eq_false', Bool.not_true, Bool.not_false, Int.not_lt, Int.not_le, ne_eq, Nat.not_lt, Nat.not_le] at c1
    have hlt : k < n := (by omega)
    have hmo := sumTo_mono rs (show k + 1 ≤ n by omega)
    have hse : sumTo rs (k + 1) = sumTo rs k + (rg rs k).length := rfl
    refine at_skip ?_
    refine norm_then ?_
    refine at_seq ?_
    refine at_block ?_
    refine at_region ?_
    refine at_q rfl rfl (by decide) (qt_move rfl rfl) ?_
    refine at_q rfl rfl (by decide) (qt_move rfl rfl) ?_
    refine at_q rfl rfl (by decide) (qt_index rfl rfl rfl tyl_sl_impl_Ring (by omega)) ?_
    refine at_q rfl rfl (by decide) (qt_fieldAddr rfl rfl tyf_impl_Ring_0) ?_
    refine at_q rfl rfl (by decide) (qt_load1 rfl rfl ty1_sl_impl_Pt (fun w' hs => (by have hg := gdG (hs.all 0 _ rfl).1; rw [Nat.mul_one, Nat.add_zero, cell_of_row w' b _ _ T (0, 0) hg.blk, hg.cell k hlt, rg_mixR_len (by omega)]))) ?_
    refine at_q rfl rfl (by decide) (qt_move rfl rfl) ?_
    refine at_op rfl ?_
    refine op_callw (k := 0) (r' := gdR lo hi b o T cs pl n (mixR m rs (k + 1))) ok_laws_markPtS rfl rfl rfl (by decide) rfl (fun w' hs => (markPtS_any lo hi _ _ _ _ _ w' (by have := (gdG (hs.all 0 _ rfl).1).pts k hlt; rw [rg_mixR_len (by omega)] at this; exact this) (by omega) (by omega)).mono (by rintro e w2 ⟨rfl, hw, hp⟩; exact ⟨rfl, hw.mono fun _ h => h.2.2, gdP ((gdG (hs.all 0 _ rfl).1).mark hl hlt hw hp) (Nat.le_trans (hs.all 0 _ rfl).1.1 hw.size)⟩)) (fun _ h => h) rfl ?_
    refine at_rsE (by simp only [List.nil_append, List.cons_append, List.set_cons_zero, List.set_cons_succ, Value.cells, List.toList_toArray]; rfl) ?_
    refine at_q rfl rfl (by decide) (qt_assign rfl rfl) ?_
    refine at_nil ?_
    refine norm_block ?_
    refine norm_then ?_
    refine at_region ?_
    refine at_q rfl rfl (by decide) (qt_move rfl rfl) ?_
    refine at_q rfl rfl (by decide) (qt_add rfl rfl rfl (by omega) (by omega)) ?_
    refine at_q rfl rfl (by decide) (qt_assign rfl rfl) ?_
    refine at_end ?_
    exact at_againc hL (k + 1) (by omega) (by omega) ⟨vi (by omega), vi (by omega), rfl, rfl, trivial⟩ (fun _ h => h.upto ⟨rfl, trivial⟩)
  · try simp only [decide_eq_true_eq, decide_eq_false_iff_not, beq_iff_eq, beq_eq_false_iff_ne, Bool.not_eq_true', Bool.not_eq_false', Bool.not_true, Bool.not_false, Int.not_lt, Int.not_le, ne_eq, Nat.not_lt, Nat.not_le] at c1
    have hkn : k = n := (by omega)
    refine at_exit ?_
    refine pass_then (fun h => by cases h) ?_
    refine pass_then (fun h => by cases h) ?_
    refine pass_hit ?_
    refine norm_then ?_
    refine at_seq ?_
    refine at_region ?_
    refine at_q rfl rfl (by decide) (qt_move rfl rfl) ?_
    refine at_q rfl rfl (by decide) (qt_assign rfl rfl) ?_
    refine at_end ?_
    refine at_retc ?_
    refine at_ret1 rfl (.tmp rfl) ?_
    intro w' hs
    exact ⟨retI (by rw [hkn]), hs.over.wrs.mono fun _ h => span_mem.1 h, by have := gdG (hs.all 0 _ rfl).1; rw [hkn, ← hl, mixR_all, hl] at this; exact this⟩
theorem markRingS_any (lo hi : Nat) (A : Option Addr) (n c : Nat) (rs : List Ring_) (m : Int) (w : World) (h : OwnG lo hi w A n rs) (hz : hi ≤ w.heap.size) (hm : 0 ≤ m) (hb : m + 2 * (sumTo rs n : Nat) ≤ 4611686018427387904) (hn : n ≤ 4611686018427387904) :
    Calls Try.prog 85 #[.slice A n c, .int .i64 m] w fun e w' => e = .returned (.int .i64 (m + 2 * (sumTo rs n : Nat))) ∧ Wrs (span lo hi) w w' ∧ OwnG lo hi w' A n (marksR m rs) := by
  have hl := h.1
  by_cases h0 : 0 < n
  · obtain ⟨b, o, T, cs, pl, rfl, hd⟩ := h.2.2 h0
    refine (markRingS_some lo hi b o T cs pl n c rs m w hd hl hz hm hb hn).mono ?_
    rintro e w' ⟨rfl, hw, hg⟩
    exact ⟨rfl, hw, by rw [marksR_len, hl], fun k hk => by rw [rg_marksR _ _ _ (by omega), marks_len]; exact h.2.1 k hk, fun _ => ⟨b, o, T, cs, pl, rfl, hg⟩⟩
  · obtain rfl : n = 0 := by omega
    refine (markRingS_none A c m w).mono ?_
    rintro e w' ⟨rfl, hO⟩
    obtain rfl : rs = [] := List.eq_nil_of_length_eq_zero hl
    exact ⟨by simp [sumTo], Wrs.of hO, OwnG.nil A⟩

/-! ### The laws' own words -/
/-- What a call that turns the blocks of F alone does, seen from a world over which nothing else lies. -/
theorem wrs_span {lo hi : Nat} {w w1 w' : World} (h1 : Over w w1) (h2 : Wrs (span lo hi) w1 w') : Wrs (span lo hi) w w' :=
  ⟨h2.os.trans h1.out.os, h2.tape.trans h1.out.tape, h2.output.trans h1.out.output, Nat.le_trans h1.size h2.size, fun c hc hn => (h2.block c (Nat.lt_of_lt_of_le hc h1.size) hn).trans (h1.out.block c hc)⟩
theorem markRegion_any (lo hi : Nat) (A : Option Addr) (n c : Nat) (rs : List Ring_) (m : Int) (w : World) (h : OwnG lo hi w A n rs) (hz : hi ≤ w.heap.size) (hm : 0 ≤ m) (hb : m + 2 * (sumTo rs n : Nat) ≤ 4611686018427387904) (hn : n ≤ 4611686018427387904) :
    Calls Try.prog 35 #[regV A n c, .int .i64 m] w fun e w' => e = .returned (.int .i64 (m + 2 * (sumTo rs n : Nat))) ∧ Wrs (span lo hi) w w' ∧ OwnG lo hi w' A n (marksR m rs) := by
  refine walk_fromR (m := 10) (List.range' lo (hi - lo)) (gegR n rs lo hi A) (gegP h hz) (fun _ h => span_mem.2 h) rfl (Try.func35) rfl rfl (Nat.le_of_ble_eq_true rfl) ?_
  refine at_seq ?_
  refine at_region ?_
  refine at_op rfl ?_
  refine op_box rfl rfl (rfl) rfl (by decide) (fun b1 => ?_)
  refine at_rsE (by simp only [List.nil_append, List.cons_append, List.set_cons_zero, List.set_cons_succ, Value.cells, List.toList_toArray]; rfl) ?_
  refine at_q rfl rfl (by decide) (qt_assign rfl rfl) ?_
  refine at_end ?_
  refine at_seq ?_
  refine at_region ?_
  refine at_q rfl rfl (by decide) (qt_fieldAddr rfl rfl tyf_impl_Region_0) ?_
  refine at_q rfl rfl (by decide) (qt_load1 rfl rfl ty1_sl_impl_Ring (rd1 (k := 1) rfl rfl)) ?_
  refine at_q rfl rfl (by decide) (qt_move rfl rfl) ?_
  refine at_op rfl ?_
  refine op_callw (k := 0) (r' := gegR n (marksR m rs) lo hi A) ok_laws_markRingS rfl rfl rfl (by decide) rfl (fun w' hs => (markRingS_any lo hi A n c rs m w' (gegG (hs.all 0 _ rfl).1) (hs.all 0 _ rfl).1.1 hm hb hn).mono (by rintro e w2 ⟨rfl, hw, hp⟩; exact ⟨rfl, hw, gegP hp (Nat.le_trans (hs.all 0 _ rfl).1.1 hw.size)⟩)) (fun _ h => h) rfl ?_
  refine at_rsE (by simp only [List.nil_append, List.cons_append, List.set_cons_zero, List.set_cons_succ, Value.cells, List.toList_toArray]; rfl) ?_
  refine at_q rfl rfl (by decide) (qt_assign rfl rfl) ?_
  refine at_end ?_
  refine at_seq ?_
  refine at_region ?_
  refine at_q rfl rfl (by decide) (qt_move rfl rfl) ?_
  refine at_q rfl rfl (by decide) (qt_assign rfl rfl) ?_
  refine at_end ?_
  refine at_retc ?_
  refine at_ret1 rfl (.tmp rfl) ?_
  intro w' hs
  exact ⟨rfl, hs.over.wrs.mono fun _ h => span_mem.1 h, gegG (hs.all 0 _ rfl).1⟩
theorem heldRingS_any (A : Option Addr) (n c : Nat) (rs : List Ring_) (m : Int) (w : World) (h : Rings w A n (marksR m rs)) (hm : 0 ≤ m) (hb : m + 2 * (sumTo rs n : Nat) ≤ 4611686018427387904) (hn : n ≤ 4611686018427387904) :
    Calls Try.prog 86 #[.slice A n c, .int .i64 m] w fun e w' => e = .returned (.int .i64 (m + 2 * (sumTo rs n : Nat))) ∧ Over w w' := by
  have hl := h.1
  rw [marksR_len] at hl
  refine walk_from (m := 22) (Try.func86) rfl rfl (Nat.le_of_ble_eq_true rfl) ?_
  refine at_seq ?_
  refine at_region ?_
  refine at_q rfl rfl (by decide) (qt_assign rfl rfl) ?_
  refine at_end ?_
  refine at_seq ?_
  refine at_seq ?_
  refine at_region ?_
  refine at_q rfl rfl (by decide) (qt_assign rfl rfl) ?_
  refine at_end ?_
  refine at_block ?_
  refine at_loopk (X := Nat) (fun k => k ≤ n) (fun k => n - k) (fun k => [(1, .int .i64 (m + 2 * (sumTo rs k : Nat))), (5, .int .i64 (k : Int))]) (C := [(0, _), (4, _)]) ⟨rfl, rfl, trivial⟩ 0 (Nat.zero_le _) ⟨vi (by simp [sumTo]), rfl, rfl, rfl, trivial⟩ ?_
  intro k hk L hL
  refine at_envE (by simp only [List.nil_append, List.cons_append]; rfl) ?_
  refine at_seq ?_
  refine at_seq ?_
  refine at_region ?_
  refine at_q rfl rfl (by decide) (qt_move rfl rfl) ?_
  refine at_q rfl rfl (by decide) (qt_move rfl rfl) ?_
  refine at_q rfl rfl (by decide) (qt_len rfl rfl tyl_sl_impl_Ring) ?_
  refine at_q rfl rfl (by decide) (qt_lss rfl rfl rfl) ?_
  refine at_end ?_
  refine at_cond rfl (fun c1 => ?_) (fun c1 => ?_)
  · try simp only [decide_eq_true_eq, decide_eq_false_iff_not, beq_iff_eq, beq_eq_false_iff_ne, Bool.not_eq_true', Bool.not_eq_false', Bool.not_true, Bool.not_false, Int.not_lt, Int.not_le, ne_eq, Nat.not_lt, Nat.not_le] at c1
    have hlt : k < n := (by omega)
    have hmo := sumTo_mono rs (show k + 1 ≤ n by omega)
    have hse : sumTo rs (k + 1) = sumTo rs k + (rg rs k).length := rfl
    obtain ⟨bb, oo, Ak, ck, rfl, hbB, hcell, hpts, hmax⟩ := h.at_ hlt
    rw [rg_marksR _ _ _ (by omega), marks_len] at hcell hpts
    refine at_skip ?_
    refine norm_then ?_
    refine at_seq ?_
    refine at_block ?_
    refine at_seq ?_
    refine at_region ?_
    refine at_q rfl rfl (by decide) (qt_move rfl rfl) ?_
    refine at_q rfl rfl (by decide) (qt_move rfl rfl) ?_
    refine at_q rfl rfl (by decide) (qt_index rfl rfl rfl tyl_sl_impl_Ring (by omega)) ?_
    refine at_q rfl rfl (by decide) (qt_fieldAddr rfl rfl tyf_impl_Ring_0) ?_
    refine at_q rfl rfl (by decide) (qt_load1 rfl rfl ty1_sl_impl_Pt (rdOldF hcell hbB)) ?_
    refine at_q rfl rfl (by decide) (qt_move rfl rfl) ?_
    refine at_q rfl rfl (by decide) (qt_call ok_laws_heldPtS rfl rfl (fun w1 hs => heldPtS_any _ _ _ _ w1 (hpts.over hs.fin) (by omega) (by omega))) ?_
    refine at_q rfl rfl (by decide) (qt_assign rfl rfl) ?_
    refine at_end ?_
    refine at_seq ?_
    refine at_region ?_
    refine at_q rfl rfl (by decide) (qt_move rfl rfl) ?_
    refine at_q rfl rfl (by decide) (qt_lss rfl rfl rfl) ?_
    refine at_end ?_
    refine at_no rfl (decide_eq_false (by omega)) ?_
    refine at_skip ?_
    refine norm_block ?_
    refine norm_then ?_
    refine at_region ?_
    refine at_q rfl rfl (by decide) (qt_move rfl rfl) ?_
    refine at_q rfl rfl (by decide) (qt_add rfl rfl rfl (by omega) (by omega)) ?_
    refine at_q rfl rfl (by decide) (qt_assign rfl rfl) ?_
    refine at_end ?_
    exact at_againk hL (k + 1) (by omega) (by omega) ⟨vi (by omega), vi (by omega), rfl, rfl, trivial⟩ (fun _ h => h.upto trivial)
  · try simp only [decide_eq_true_eq, decide_eq_false_iff_not, beq_iff_eq, beq_eq_false_iff_ne, Bool.not_eq_true', Bool.not_eq_false', Bool.not_true, Bool.not_false, Int.not_lt, Int.not_le, ne_eq, Nat.not_lt, Nat.not_le] at c1
    refine at_exit ?_
    refine pass_then (fun h => by cases h) ?_
    refine pass_then (fun h => by cases h) ?_
    refine pass_hit ?_
    refine norm_then ?_
    refine at_seq ?_
    refine at_region ?_
    refine at_q rfl rfl (by decide) (qt_move rfl rfl) ?_
    refine at_q rfl rfl (by decide) (qt_assign rfl rfl) ?_
    refine at_end ?_
    refine at_retc ?_
    refine at_ret1 rfl (.tmp rfl) ?_
    intro w' hs
    exact ⟨retI (by rw [show k = n by omega]), hs.fin⟩
theorem heldRegion_any (A : Option Addr) (n c : Nat) (rs : List Ring_) (m : Int) (w : World) (h : Rings w A n (marksR m rs)) (hm : 0 ≤ m) (hb : m + 2 * (sumTo rs n : Nat) ≤ 4611686018427387904) (hn : n ≤ 4611686018427387904) :
    Calls Try.prog 36 #[regV A n c, .int .i64 m] w fun e w' => e = .returned (.int .i64 (m + 2 * (sumTo rs n : Nat))) ∧ Over w w' := by
  refine walk_from (m := 12) (Try.func36) rfl rfl (Nat.le_of_ble_eq_true rfl) ?_
  refine at_seq ?_
  refine at_region ?_
  refine at_op rfl ?_
  refine op_box rfl rfl (rfl) rfl (by decide) (fun b1 => ?_)
  refine at_rsE (by simp only [List.nil_append, List.cons_append, List.set_cons_zero, List.set_cons_succ, Value.cells, List.toList_toArray]; rfl) ?_
  refine at_q rfl rfl (by decide) (qt_assign rfl rfl) ?_
  refine at_end ?_
  refine at_seq ?_
  refine at_region ?_
  refine at_q rfl rfl (by decide) (qt_fieldAddr rfl rfl tyf_impl_Region_0) ?_
  refine at_q rfl rfl (by decide) (qt_load1 rfl rfl ty1_sl_impl_Ring (rd1 (k := 0) rfl rfl)) ?_
  refine at_q rfl rfl (by decide) (qt_move rfl rfl) ?_
  refine at_q rfl rfl (by decide) (qt_call ok_laws_heldRingS rfl rfl (fun w1 hs => heldRingS_any A n c rs m w1 (h.over hs.fin) hm hb hn)) ?_
  refine at_q rfl rfl (by decide) (qt_assign rfl rfl) ?_
  refine at_end ?_
  refine at_seq ?_
  refine at_seq ?_
  refine at_region ?_
  refine at_q rfl rfl (by decide) (qt_move rfl rfl) ?_
  refine at_q rfl rfl (by decide) (qt_lss rfl rfl rfl) ?_
  refine at_end ?_
  refine at_no rfl (decide_eq_false (by omega)) ?_
  refine at_skip ?_
  refine norm_then ?_
  refine at_seq ?_
  refine at_region ?_
  refine at_q rfl rfl (by decide) (qt_move rfl rfl) ?_
  refine at_q rfl rfl (by decide) (qt_assign rfl rfl) ?_
  refine at_end ?_
  refine at_retc ?_
  refine at_ret1 rfl (.tmp rfl) ?_
  intro w' hs
  exact ⟨rfl, hs.fin⟩
theorem markRing_any (lo hi : Nat) (A : Option Addr) (n c : Nat) (xs : List (Int × Int)) (m : Int) (w : World) (h : OwnP lo hi w A n xs) (hz : hi ≤ w.heap.size) (hm : 0 ≤ m) (hb : m + 2 * (n : Int) ≤ 4611686018427387904) :
    Calls Try.prog 23 #[ringV A n c, .int .i64 m] w fun e w' => e = .returned (.int .i64 (m + 2 * (n : Int))) ∧ Wrs (span lo hi) w w' ∧ OwnP lo hi w' A n (marks m n) := by
  refine walk_fromR (m := 10) (List.range' lo (hi - lo)) (ptsR n xs lo hi A) (ptsP h hz) (fun _ h => span_mem.2 h) rfl (Try.func23) rfl rfl (Nat.le_of_ble_eq_true rfl) ?_
  refine at_seq ?_
  refine at_region ?_
  refine at_op rfl ?_
  refine op_box rfl rfl (rfl) rfl (by decide) (fun b1 => ?_)
  refine at_rsE (by simp only [List.nil_append, List.cons_append, List.set_cons_zero, List.set_cons_succ, Value.cells, List.toList_toArray]; rfl) ?_
  refine at_q rfl rfl (by decide) (qt_assign rfl rfl) ?_
  refine at_end ?_
  refine at_seq ?_
  refine at_region ?_
  refine at_q rfl rfl (by decide) (qt_fieldAddr rfl rfl tyf_impl_Ring_0) ?_
  refine at_q rfl rfl (by decide) (qt_load1 rfl rfl ty1_sl_impl_Pt (rd1 (k := 1) rfl rfl)) ?_
  refine at_q rfl rfl (by decide) (qt_move rfl rfl) ?_
  refine at_op rfl ?_
  refine op_callw (k := 0) (r' := ptsR n (marks m n) lo hi A) ok_laws_markPtS rfl rfl rfl (by decide) rfl (fun w' hs => (markPtS_any lo hi A n c xs m w' (ptsG (hs.all 0 _ rfl).1) hm hb).mono (by rintro e w2 ⟨rfl, hw, hp⟩; exact ⟨rfl, hw.mono fun _ h => h.2.2, ptsP hp (Nat.le_trans (hs.all 0 _ rfl).1.1 hw.size)⟩)) (fun _ h => h) rfl ?_
  refine at_rsE (by simp only [List.nil_append, List.cons_append, List.set_cons_zero, List.set_cons_succ, Value.cells, List.toList_toArray]; rfl) ?_
  refine at_q rfl rfl (by decide) (qt_assign rfl rfl) ?_
  refine at_end ?_
  refine at_seq ?_
  refine at_region ?_
  refine at_q rfl rfl (by decide) (qt_move rfl rfl) ?_
  refine at_q rfl rfl (by decide) (qt_assign rfl rfl) ?_
  refine at_end ?_
  refine at_retc ?_
  refine at_ret1 rfl (.tmp rfl) ?_
  intro w' hs
  exact ⟨rfl, hs.over.wrs.mono fun _ h => span_mem.1 h, ptsG (hs.all 0 _ rfl).1⟩
theorem heldRing_any (A : Option Addr) (n c : Nat) (m : Int) (w : World) (h : Pts w A n (marks m n)) (hm : 0 ≤ m) (hb : m + 2 * (n : Int) ≤ 4611686018427387904) :
    Calls Try.prog 24 #[ringV A n c, .int .i64 m] w fun e w' => e = .returned (.int .i64 (m + 2 * (n : Int))) ∧ Over w w' := by
  refine walk_from (m := 12) (Try.func24) rfl rfl (Nat.le_of_ble_eq_true rfl) ?_
  refine at_seq ?_
  refine at_region ?_
  refine at_op rfl ?_
  refine op_box rfl rfl (rfl) rfl (by decide) (fun b1 => ?_)
  refine at_rsE (by simp only [List.nil_append, List.cons_append, List.set_cons_zero, List.set_cons_succ, Value.cells, List.toList_toArray]; rfl) ?_
  refine at_q rfl rfl (by decide) (qt_assign rfl rfl) ?_
  refine at_end ?_
  refine at_seq ?_
  refine at_region ?_
  refine at_q rfl rfl (by decide) (qt_fieldAddr rfl rfl tyf_impl_Ring_0) ?_
  refine at_q rfl rfl (by decide) (qt_load1 rfl rfl ty1_sl_impl_Pt (rd1 (k := 0) rfl rfl)) ?_
  refine at_q rfl rfl (by decide) (qt_move rfl rfl) ?_
  refine at_q rfl rfl (by decide) (qt_call ok_laws_heldPtS rfl rfl (fun w1 hs => heldPtS_any A n c m w1 (h.over hs.fin) hm hb)) ?_
  refine at_q rfl rfl (by decide) (qt_assign rfl rfl) ?_
  refine at_end ?_
  refine at_seq ?_
  refine at_seq ?_
  refine at_region ?_
  refine at_q rfl rfl (by decide) (qt_move rfl rfl) ?_
  refine at_q rfl rfl (by decide) (qt_lss rfl rfl rfl) ?_
  refine at_end ?_
  refine at_no rfl (decide_eq_false (by omega)) ?_
  refine at_skip ?_
  refine norm_then ?_
  refine at_seq ?_
  refine at_region ?_
  refine at_q rfl rfl (by decide) (qt_move rfl rfl) ?_
  refine at_q rfl rfl (by decide) (qt_assign rfl rfl) ?_
  refine at_end ?_
  refine at_retc ?_
  refine at_ret1 rfl (.tmp rfl) ?_
  intro w' hs
  exact ⟨rfl, hs.fin⟩
end Go.Proofs.Ytnalgllmdpcjcaa
