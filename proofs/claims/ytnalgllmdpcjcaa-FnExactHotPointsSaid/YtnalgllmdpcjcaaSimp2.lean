/- Rings without points at which they do not turn: both sides of SimplifyRing. -/
import Derived.Test.YtnalgllmdpcjcaaSimp
namespace Go.Proofs.Ytnalgllmdpcjcaa
open Go Go.RowKit
set_option linter.unusedVariables false
set_option linter.unusedSimpArgs false
set_option maxRecDepth 100000
set_option maxHeartbeats 4000000
set_option linter.unusedVariables false

def pt (xs : List (Int × Int)) (k : Nat) : Pn := (px xs k, py xs k)
def pv (xs : List (Int × Int)) (k : Nat) : Nat := (k + xs.length - 1) % xs.length
theorem pv_lt {xs : List (Int × Int)} (k : Nat) (h : 0 < xs.length) : pv xs k < xs.length := Nat.mod_lt _ h
theorem pv_int {xs : List (Int × Int)} {n : Nat} (hl : xs.length = n) (hn : 0 < n) (k : Nat) : ((k : Int) + (n : Int) - 1).tmod (n : Int) = ((pv xs k : Nat) : Int) := by
  rw [Int.tmod_eq_emod_of_nonneg (by omega), pv, hl, show (k : Int) + (n : Int) - 1 = ((k + n - 1 : Nat) : Int) by omega]
  exact (Int.natCast_emod _ _).symm
theorem nx_int' {xs : List (Int × Int)} {n : Nat} (hl : xs.length = n) (k : Nat) : ((k : Int) + 1).tmod (n : Int) = ((nx xs k : Nat) : Int) := by
  rw [Int.tmod_eq_emod_of_nonneg (by omega)]
  exact nx_int hl k
def turnAt (xs : List (Int × Int)) (k : Nat) : Int := tn (pt xs (pv xs k)) (pt xs k) (pt xs (nx xs k))
def idle (xs : List (Int × Int)) : Option Nat := (List.range xs.length).find? fun k => turnAt xs k == 0
def idleV (xs : List (Int × Int)) : Int := match idle xs with | some k => k | none => -1
theorem idle_some {xs : List (Int × Int)} {k : Nat} (hk : k < xs.length) (h0 : turnAt xs k = 0) (hn : ∀ j, j < k → ¬ turnAt xs j = 0) : idle xs = some k := by
  rw [idle, List.find?_eq_some_iff_getElem]
  refine ⟨by simpa using h0, k, by simpa using hk, by simp, fun j hj => ?_⟩
  simpa using hn j hj
theorem idle_none {xs : List (Int × Int)} (hn : ∀ j, j < xs.length → ¬ turnAt xs j = 0) : idle xs = none := by
  rw [idle, List.find?_eq_none]
  intro j hj
  simpa using hn j (List.mem_range.1 hj)
theorem idle_lt {xs : List (Int × Int)} {k : Nat} (h : idle xs = some k) : k < xs.length := by
  have := List.mem_of_find?_eq_some h
  exact List.mem_range.1 this
def simple (xs : List (Int × Int)) : List (Int × Int) :=
  match h : idle xs with
  | none => xs
  | some k => simple (xs.eraseIdx k)
termination_by xs.length
decreasing_by
  have := idle_lt h
  rw [List.length_eraseIdx, if_pos this]
  omega
theorem simple_none {xs : List (Int × Int)} (h : idle xs = none) : simple xs = xs := by
  unfold simple
  split
  · rfl
  · rename_i k hk; rw [h] at hk; cases hk
theorem simple_some {xs : List (Int × Int)} {k : Nat} (h : idle xs = some k) : simple xs = simple (xs.eraseIdx k) := by
  rw [simple]
  split
  · rename_i hk; rw [h] at hk; cases hk
  · rename_i j hk; rw [h] at hk; injection hk with hk; rw [hk]
/-- Points that are valid, at most 401 of them. -/
def okPts (xs : List (Int × Int)) : Prop := xs.length ≤ 401 ∧ ∀ p ∈ xs, bd2 p
theorem okPts.at_ {xs : List (Int × Int)} (h : okPts xs) {k : Nat} (hk : k < xs.length) : bd2 (pt xs k) := by
  have := h.2 xs[k] (List.getElem_mem hk)
  rwa [at_p hk] at this
theorem okPts.erase {xs : List (Int × Int)} (h : okPts xs) (k : Nat) : okPts (xs.eraseIdx k) :=
  ⟨Nat.le_trans (List.length_eraseIdx_le _ _) h.1, fun p hp => h.2 p (List.mem_of_mem_eraseIdx hp)⟩
theorem okPts.of {xs : List (Int × Int)} (h : ringB xs = true) : okPts xs := by
  have h1 := pos_of_ring h
  refine ⟨by omega, fun p hp => ?_⟩
  simp only [ringB, Bool.and_eq_true, allOk, List.all_eq_true] at h
  have := h.2 p hp
  simp [okB, inB] at this
  exact ⟨⟨by omega, by omega⟩, by omega, by omega⟩
theorem simple_ok {xs : List (Int × Int)} : okPts xs → okPts (simple xs) := by
  induction h : xs.length using Nat.strongRecOn generalizing xs with
  | _ m ih =>
    intro hx
    cases hi : idle xs with
    | none => rw [simple_none hi]; exact hx
    | some k =>
      rw [simple_some hi]
      have := idle_lt hi
      exact ih _ (by rw [List.length_eraseIdx, if_pos this]; omega) rfl (hx.erase k)

theorem l15Idle_any (A : Option Addr) (n c : Nat) (xs : List (Int × Int)) (w : World) (h : Pts w A n xs) (hx : okPts xs) : Calls Try.prog 121 #[.slice A n c] w fun e w' => e = .returned (.int .i64 (idleV xs)) ∧ Over w w' := by
  have hl := h.1
  have hn := hx.1
  refine walk_from (m := 35) (Try.func121) rfl rfl (Nat.le_of_ble_eq_true rfl) ?_
  refine at_seq ?_
  refine at_region ?_
  refine at_q rfl rfl (by decide) (qt_assign rfl rfl) ?_
  refine at_end ?_
  refine at_seq ?_
  refine at_region ?_
  refine at_q rfl rfl (by decide) (qt_move rfl rfl) ?_
  refine at_q rfl rfl (by decide) (qt_len rfl rfl tyl_sl_impl_Pt) ?_
  refine at_q rfl rfl (by decide) (qt_assign rfl rfl) ?_
  refine at_end ?_
  refine at_seq ?_
  refine at_seq ?_
  refine at_region ?_
  refine at_q rfl rfl (by decide) (qt_assign rfl rfl) ?_
  refine at_end ?_
  refine at_block ?_
  refine at_loopk (X := Nat) (fun k => k ≤ n ∧ ∀ j, j < k → ¬ turnAt xs j = 0) (fun k => n - k) (fun k => [(4, .int .i64 (k : Int))]) (C := [(0, _), (2, _), (3, _)]) ⟨rfl, rfl, rfl, trivial⟩ 0 (⟨Nat.zero_le _, fun j hj => absurd hj (by omega)⟩) ⟨rfl, rfl, rfl, rfl, trivial⟩ ?_
  intro k hk L hL1
  refine at_envE (by simp only [List.nil_append, List.cons_append]; rfl) ?_
  refine at_seq ?_
  refine at_seq ?_
  refine at_region ?_
  refine at_q rfl rfl (by decide) (qt_move rfl rfl) ?_
  refine at_q rfl rfl (by decide) (qt_move rfl rfl) ?_
  refine at_q rfl rfl (by decide) (qt_lss rfl rfl rfl) ?_
  refine at_end ?_
  refine at_cond rfl (fun c1 => ?_) (fun c1 => ?_)
  · try simp only [decide_eq_true_eq, decide_eq_false_iff_not, beq_iff_eq, beq_eq_false_iff_ne, Bool.not_eq_true', Bool.not_eq_false', Bool.not_true, Bool.not_false, Int.not_lt, Int.not_le, ne_eq, Nat.not_lt, Nat.not_le] at c1
    have hlt : k < n := (by omega)
    have hp1 := pv_lt (xs := xs) k (by omega)
    have hp2 := nx_lt (xs := xs) k (by omega)
    obtain ⟨b, o, rfl, _⟩ := h.2 (by omega)
    refine at_skip ?_
    refine norm_then ?_
    refine at_seq ?_
    refine at_block ?_
    refine at_seq ?_
    refine lx_start mixed (by kernel_rfl) (fun _ _ d _ _ h => by cases d <;> exact h) ?_
    refine lx_q rfl rfl (by decide) (qt_move rfl rfl) ?_
    refine lx_q rfl rfl (by decide) (qt_move rfl rfl) ?_
    refine lx_q rfl rfl (by decide) (qt_move rfl rfl) ?_
    refine lx_q rfl rfl (by decide) (qt_add rfl rfl rfl (by omega) (by omega)) ?_
    refine lx_q rfl rfl (by decide) (qt_sub rfl rfl rfl (by omega) (by omega)) ?_
    refine lx_q rfl rfl (by decide) (qt_move rfl rfl) ?_
    refine lx_q rfl rfl (by decide) ((qt_rem rfl rfl rfl (by omega) (by omega) (by omega)).as (congrArg _ (pv_int hl (by omega) k))) ?_
    refine lx_q rfl rfl (by decide) (qt_index rfl rfl rfl tyl_sl_impl_Pt (by omega)) ?_
    refine lx_q rfl rfl (by decide) (qt_loadS rfl rfl tys_impl_Pt rfl (rdPts h (by omega))) ?_
    refine lx_q rfl rfl (by decide) (qt_move rfl rfl) ?_
    refine lx_q rfl rfl (by decide) (qt_move rfl rfl) ?_
    refine lx_q rfl rfl (by decide) (qt_index rfl rfl rfl tyl_sl_impl_Pt (by omega)) ?_
    refine lx_q rfl rfl (by decide) (qt_loadS rfl rfl tys_impl_Pt rfl (rdPts h (by omega))) ?_
    refine lx_q rfl rfl (by decide) (qt_move rfl rfl) ?_
    refine lx_q rfl rfl (by decide) (qt_move rfl rfl) ?_
    refine lx_q rfl rfl (by decide) (qt_add rfl rfl rfl (by omega) (by omega)) ?_
    refine lx_q rfl rfl (by decide) (qt_move rfl rfl) ?_
    refine lx_q rfl rfl (by decide) ((qt_rem rfl rfl rfl (by omega) (by omega) (by omega)).as (congrArg _ (nx_int' hl k))) ?_
    refine lx_q rfl rfl (by decide) (qt_index rfl rfl rfl tyl_sl_impl_Pt (by omega)) ?_
    refine lx_q rfl rfl (by decide) (qt_loadS rfl rfl tys_impl_Pt rfl (rdPts h (by omega))) ?_
    refine lx_q rfl rfl (by decide) (qt_call ok_spec_l03Turn rfl rfl (fun w h => l03Turn_p (pt xs (pv xs k)) (pt xs k) (pt xs (nx xs k)) w (hx.at_ hp1) (hx.at_ (by omega)) (hx.at_ hp2))) ?_
    refine lx_q rfl rfl (by decide) (qt_eql rfl rfl rfl) ?_
    refine lx_end ?_
    refine norm_then ?_
    refine at_cond rfl (fun c2 => ?_) (fun c2 => ?_)
    · try simp only [decide_eq_true_eq, decide_eq_false_iff_not, beq_iff_eq, beq_eq_false_iff_ne, Bool.not_eq_true', Bool.not_eq_false', Bool.not_true, Bool.not_false, Int.not_lt, Int.not_le, ne_eq, Nat.not_lt, Nat.not_le] at c2
      refine at_seq ?_
      refine at_region ?_
      refine at_q rfl rfl (by decide) (qt_move rfl rfl) ?_
      refine at_q rfl rfl (by decide) (qt_assign rfl rfl) ?_
      refine at_end ?_
      refine at_retc ?_
      refine pass_ret ?_
      refine then_ret ?_
      refine then_ret ?_
      refine pass_ret ?_
      refine then_ret ?_
      refine at_ret1 rfl (.tmp rfl) ?_
      intro w' hs
      exact ⟨retI (by rw [idleV, idle_some (by omega) c2 hk.2]), hs.fin⟩
    · try simp only [decide_eq_true_eq, decide_eq_false_iff_not, beq_iff_eq, beq_eq_false_iff_ne, Bool.not_eq_true', Bool.not_eq_false', Bool.not_true, Bool.not_false, Int.not_lt, Int.not_le, ne_eq, Nat.not_lt, Nat.not_le] at c2
      refine at_skip ?_
      refine norm_block ?_
      refine norm_then ?_
      refine at_region ?_
      refine at_q rfl rfl (by decide) (qt_move rfl rfl) ?_
      refine at_q rfl rfl (by decide) (qt_add rfl rfl rfl (by omega) (by omega)) ?_
      refine at_q rfl rfl (by decide) (qt_assign rfl rfl) ?_
      refine at_end ?_
      exact at_againk hL1 (k + 1) (⟨by omega, lt_succ_all hk.2 c2⟩) (by omega) ⟨vi (by omega), rfl, rfl, rfl, trivial⟩ (fun _ h => h.upto trivial)
  · try simp only [decide_eq_true_eq, decide_eq_false_iff_not, beq_iff_eq, beq_eq_false_iff_ne, Bool.not_eq_true', Bool.not_eq_false', Bool.not_true, Bool.not_false, Int.not_lt, Int.not_le, ne_eq, Nat.not_lt, Nat.not_le] at c1
    refine at_exit ?_
    refine pass_then (fun h => by cases h) ?_
    refine pass_then (fun h => by cases h) ?_
    refine pass_hit ?_
    refine norm_then ?_
    refine at_seq ?_
    refine at_region ?_
    refine at_q rfl rfl (by decide) (qt_assign rfl rfl) ?_
    refine at_end ?_
    refine at_retc ?_
    refine at_ret1 rfl (.tmp rfl) ?_
    intro w' hs
    exact ⟨retI (by rw [idleV, idle_none fun j hj => hk.2 j (by omega)]), hs.fin⟩

/-- The first points of a slice, as what is appended; the points behind them. -/
theorem srcTake {w : World} {b o n c k : Nat} {xs : List (Int × Int)} (h : Pts w (some ⟨b, o, none⟩) n xs) (hk : k ≤ n) : Src 2 (.slice (some ⟨b, o, none⟩) k c) k ((xs.take k).flatMap ptCells) w := by
  have hl := h.1
  refine ⟨by rw [ptCells_len, List.length_take]; omega, .inr ⟨_, c, rfl, fun j u hu => ?_⟩⟩
  by_cases h0 : 0 < n
  · have hs := srcPts (c := c) h h0
    rcases hs.src with ⟨e, _⟩ | ⟨ad, c', e, hn⟩
    · cases e
    · injection e with e1 e2 e3
      injection e1 with e1
      subst e1
      refine hn j u ?_
      rw [← take_cells, List.getElem?_take] at hu
      split at hu
      · exact hu
      · cases hu
  · obtain rfl : xs = [] := List.eq_nil_of_length_eq_zero (by omega)
    simp at hu
theorem srcDrop {w : World} {b o n c k : Nat} {xs : List (Int × Int)} (h : Pts w (some ⟨b, o, none⟩) n xs) (hk : k ≤ n) (hc : n ≤ c) : Src 2 (.slice (some ⟨b, offL o k c 2, none⟩) (n - k) (c - k)) (n - k) ((xs.drop k).flatMap ptCells) w := by
  have hl := h.1
  refine ⟨by rw [ptCells_len, List.length_drop, hl], .inr ⟨_, _, rfl, fun j u hu => ?_⟩⟩
  have hj := (List.getElem?_eq_some_iff.1 hu).1
  rw [ptCells_len, List.length_drop] at hj
  have hs := srcPts (c := c) h (by omega)
  rcases hs.src with ⟨e, _⟩ | ⟨ad, c', e, hn⟩
  · cases e
  · injection e with e1 e2 e3
    injection e1 with e1
    subst e1
    rw [← drop_cells, List.getElem?_drop] at hu
    have := hn _ u hu
    rw [add_none] at this ⊢
    rw [offL, if_neg (by omega)]
    rw [← this]
    congr 2
    omega
theorem erase_cells (xs : List (Int × Int)) (k : Nat) : (xs.take k).flatMap ptCells ++ (xs.drop (k + 1)).flatMap ptCells = (xs.eraseIdx k).flatMap ptCells := by rw [List.eraseIdx_eq_take_drop_succ, List.flatMap_append]
theorem erase_len {xs : List (Int × Int)} {k : Nat} (hk : k < xs.length) : (xs.eraseIdx k).length = xs.length - 1 := by rw [List.length_eraseIdx, if_pos hk]
theorem idle_of {xs : List (Int × Int)} (h : ¬ idleV xs < 0) : ∃ k, idle xs = some k ∧ idleV xs = (k : Int) := by
  unfold idleV at *
  cases hi : idle xs with
  | none => rw [hi] at h; exact absurd h (by decide)
  | some k => exact ⟨k, rfl, rfl⟩
theorem idle_no {xs : List (Int × Int)} (h : idleV xs < 0) : idle xs = none := by
  unfold idleV at h
  cases hi : idle xs with
  | none => rfl
  | some k => rw [hi] at h; simp at h; omega
theorem simple_nil {xs : List (Int × Int)} (h : xs.length = 0) : simple xs = xs := simple_none (idle_none fun j hj => by omega)
theorem l15Simple_any (A : Option Addr) (n c : Nat) (xs : List (Int × Int)) (w : World) (h : Pts w A n xs) (hx : okPts xs) (h0 : 0 < n) :
    Calls Try.prog 67 #[.slice A n c] w fun e w' => ∃ v, e = .returned v ∧ w'.ownsRow w.heap.size 24 2 v (simple xs).length ((simple xs).flatMap ptCells) ∧ Over w w' := by
  have hl := h.1
  have hn := hx.1
  refine walk_from (m := 28) (Try.func67) rfl rfl (Nat.le_of_ble_eq_true rfl) ?_
  refine at_seq ?_
  refine at_region ?_
  refine at_q rfl rfl (by decide) (qt_assign rfl rfl) ?_
  refine at_end ?_
  refine at_seq ?_
  refine at_region ?_
  refine at_op rfl ?_
  refine op_buildSlice rfl rfl (bsl_sl_impl_Pt_0) rfl (by decide) (fun b1 => ?_)
  refine at_rowN 0 2 rfl rfl ?_
  refine at_rsE (by simp only [List.nil_append, List.cons_append, List.set_cons_zero, List.set_cons_succ, Value.cells, List.toList_toArray]; rfl) ?_
  refine at_q rfl rfl (by decide) (qt_move rfl rfl) ?_
  refine at_op rfl ?_
  refine op_appendR (k := 0) rfl tyl_sl_impl_Pt tyz_impl_Pt (by decide) rfl (by decide) rfl rfl rfl (fun w' hs => srcPts (h.over hs.fin) h0) (ptCells_one _) (by unfold maxLen; omega) (by omega) (Nat.le_refl _) (fun r1 => ?_)
  refine at_rsE (by simp only [List.nil_append, List.cons_append, List.set_cons_zero, List.set_cons_succ, Value.cells, List.toList_toArray]; rfl) ?_
  refine at_q rfl rfl (by decide) (qt_assign rfl rfl) ?_
  refine at_end ?_
  refine at_seq ?_
  refine at_block ?_
  refine at_loopc (X := List (Int × Int) × Option Addr × Nat) (fun x => simple x.1 = simple xs ∧ okPts x.1) (fun x => x.1.length) (fun x => [(3, .slice x.2.1 x.1.length x.2.2)]) (C := [(2, _)]) ⟨rfl, trivial⟩ (fun x => [rowR (Bs.N ⟨w, []⟩) 24 2 x.1.length (x.1.flatMap ptCells) x.2]) (xs, r1) (⟨rfl, hx⟩) ⟨by rw [← hl, Nat.zero_add]; rfl, rfl, trivial⟩ (fun _ h => h.upto ⟨by rw [← hl, Nat.zero_add], trivial⟩) ?_
  intro ⟨ys, yA, yc⟩ hy L hL1
  refine at_envE (by simp only [List.nil_append, List.cons_append]; rfl) ?_
  refine at_rsE (by first | (dsimp only; done) | (dsimp only; rfl) | rfl) ?_
  obtain ⟨hse, hok⟩ : simple ys = simple xs ∧ okPts ys := hy
  have hyl := hok.1
  refine at_seq ?_
  refine at_seq ?_
  refine at_region ?_
  refine at_q rfl rfl (by decide) (qt_move rfl rfl) ?_
  refine at_q rfl rfl (by decide) (qt_len rfl rfl tyl_sl_impl_Pt) ?_
  refine at_q rfl rfl (by decide) (qt_gtr rfl rfl rfl) ?_
  refine at_end ?_
  refine at_cond rfl (fun c1 => ?_) (fun c1 => ?_)
  · try simp only [decide_eq_true_eq, decide_eq_false_iff_not, beq_iff_eq, beq_eq_false_iff_ne, Bool.not_eq_true', Bool.not_eq_false', Bool.not_true, Bool.not_false, Int.not_lt, Int.not_le, ne_eq, Nat.not_lt, Nat.not_le] at c1
    have hpos : 0 < ys.length := (by omega)
    refine at_fact (fun w hs => rowSome (k := 0) rfl hs hpos) ?_
    rintro ⟨eg, rfl⟩
    refine at_fact (fun w hs => rowCap (hs.all 0 _ rfl).1) ?_
    intro hcap
    refine at_skip ?_
    refine norm_then ?_
    refine at_block ?_
    refine at_seq ?_
    refine at_region ?_
    refine at_q rfl rfl (by decide) (qt_move rfl rfl) ?_
    refine at_q rfl rfl (by decide) (qt_call ok_spec_l15Idle rfl rfl (fun w1 hs => l15Idle_any _ _ _ ys w1 (ptsRow (hs.all 0 _ rfl).1 rfl) hok)) ?_
    refine at_q rfl rfl (by decide) (qt_assign rfl rfl) ?_
    refine at_end ?_
    refine at_seq ?_
    refine at_seq ?_
    refine at_region ?_
    refine at_q rfl rfl (by decide) (qt_move rfl rfl) ?_
    refine at_q rfl rfl (by decide) (qt_lss rfl rfl rfl) ?_
    refine at_end ?_
    refine at_cond rfl (fun c2 => ?_) (fun c2 => ?_)
    · try simp only [decide_eq_true_eq, decide_eq_false_iff_not, beq_iff_eq, beq_eq_false_iff_ne, Bool.not_eq_true', Bool.not_eq_false', Bool.not_true, Bool.not_false, Int.not_lt, Int.not_le, ne_eq, Nat.not_lt, Nat.not_le] at c2
      refine at_exit ?_
      refine pass_then (fun h => by cases h) ?_
      refine pass_miss (by decide) ?_
      refine pass_then (fun h => by cases h) ?_
      refine pass_hit ?_
      refine norm_then ?_
      refine at_seq ?_
      refine at_region ?_
      refine at_q rfl rfl (by decide) (qt_move rfl rfl) ?_
      refine at_q rfl rfl (by decide) (qt_assign rfl rfl) ?_
      refine at_end ?_
      refine at_retc ?_
      refine at_ret1 rfl (.tmp rfl) ?_
      intro w' hs
      have he : ys = simple xs := by first | exact (simple_nil (by omega)).symm.trans hse | exact (simple_none (idle_no c2)).symm.trans hse
      exact ⟨_, rfl, he ▸ (hs.all 0 _ rfl).1, hs.fin⟩
    · try simp only [decide_eq_true_eq, decide_eq_false_iff_not, beq_iff_eq, beq_eq_false_iff_ne, Bool.not_eq_true', Bool.not_eq_false', Bool.not_true, Bool.not_false, Int.not_lt, Int.not_le, ne_eq, Nat.not_lt, Nat.not_le] at c2
      obtain ⟨k, hik, hkv⟩ := idle_of (Int.not_lt.2 c2)
      have hkl := idle_lt hik
      refine at_as 4 (.int .i64 (k : Int)) rfl (congrArg _ hkv) ?_
      refine at_skip ?_
      refine norm_then ?_
      refine at_seq ?_
      refine at_region ?_
      refine at_op rfl ?_
      refine op_buildSlice rfl rfl (bsl_sl_impl_Pt_0) rfl (by decide) (fun b2 => ?_)
      refine at_rowN 1 2 rfl rfl ?_
      refine at_rsE (by simp only [List.nil_append, List.cons_append, List.set_cons_zero, List.set_cons_succ, Value.cells, List.toList_toArray]; rfl) ?_
      refine at_q rfl rfl (by decide) (qt_move rfl rfl) ?_
      refine at_q rfl rfl (by decide) (qt_move rfl rfl) ?_
      refine at_q rfl rfl (by decide) ((qt_sliceH rfl rfl rfl tyl_sl_impl_Pt (by omega)).as (slicedH _ _ _ _ _)) ?_
      refine at_op rfl ?_
      refine op_appendR (k := 1) rfl tyl_sl_impl_Pt tyz_impl_Pt (by decide) rfl (by decide) rfl rfl rfl (fun w' hs => srcTake (ptsRow (hs.all 0 _ rfl).1 rfl) (by omega)) (ptCells_one _) (by unfold maxLen; omega) (by omega) (Nat.le_refl _) (fun r2 => ?_)
      refine at_rsE (by simp only [List.nil_append, List.cons_append, List.set_cons_zero, List.set_cons_succ, Value.cells, List.toList_toArray]; rfl) ?_
      refine at_q rfl rfl (by decide) (qt_assign rfl rfl) ?_
      refine at_end ?_
      refine at_region ?_
      refine at_q rfl rfl (by decide) (qt_move rfl rfl) ?_
      refine at_q rfl rfl (by decide) (qt_move rfl rfl) ?_
      refine at_q rfl rfl (by decide) (qt_move rfl rfl) ?_
      refine at_q rfl rfl (by decide) (qt_add rfl rfl rfl (by omega) (by omega)) ?_
      refine at_as 24 (.int .i64 ((k + 1 : Nat) : Int)) rfl (congrArg _ (by omega)) ?_
      refine at_q rfl rfl (by decide) ((qt_sliceL rfl rfl rfl tyl_sl_impl_Pt (by omega)).as (slicedL (b := eg) (o := 0) (l := k + 1) (h := ys.length) (m := yc) (s := 2) hcap (by omega))) ?_
      refine at_op rfl ?_
      refine op_appendR (k := 1) rfl tyl_sl_impl_Pt tyz_impl_Pt (by decide) rfl (by decide) rfl rfl rfl (fun w' hs => srcDrop (ptsRow (hs.all 0 _ rfl).1 rfl) (by omega) hcap) (ptCells_one _) (by unfold maxLen; omega) (by omega) (Nat.le_refl _) (fun r3 => ?_)
      refine at_rsE (by simp only [List.nil_append, List.cons_append, List.set_cons_zero, List.set_cons_succ, Value.cells, List.toList_toArray]; rfl) ?_
      refine at_q rfl rfl (by decide) (qt_assign rfl rfl) ?_
      refine at_nil ?_
      refine norm_block ?_
      refine norm_then ?_
      exact at_againc hL1 ((ys.eraseIdx k, r3)) (⟨(simple_some hik).symm.trans hse, hok.erase k⟩) (by show (ys.eraseIdx k).length < ys.length; rw [erase_len hkl]; omega) ⟨by rw [erase_len hkl, show ys.length - 1 = 0 + k + (ys.length - (k + 1)) by omega]; rfl, rfl, trivial⟩ (fun _ h => (h.picks [1] (by decide)).upto ⟨by rw [← erase_cells, erase_len hkl, show ys.length - 1 = 0 + k + (ys.length - (k + 1)) by omega], trivial⟩)
  · try simp only [decide_eq_true_eq, decide_eq_false_iff_not, beq_iff_eq, beq_eq_false_iff_ne, Bool.not_eq_true', Bool.not_eq_false', Bool.not_true, Bool.not_false, Int.not_lt, Int.not_le, ne_eq, Nat.not_lt, Nat.not_le] at c1
    refine at_exit ?_
    refine pass_then (fun h => by cases h) ?_
    refine pass_then (fun h => by cases h) ?_
    refine pass_hit ?_
    refine norm_then ?_
    refine at_seq ?_
    refine at_region ?_
    refine at_q rfl rfl (by decide) (qt_move rfl rfl) ?_
    refine at_q rfl rfl (by decide) (qt_assign rfl rfl) ?_
    refine at_end ?_
    refine at_retc ?_
    refine at_ret1 rfl (.tmp rfl) ?_
    intro w' hs
    have he : ys = simple xs := by first | exact (simple_nil (by omega)).symm.trans hse | exact (simple_none (idle_no c2)).symm.trans hse
    exact ⟨_, rfl, he ▸ (hs.all 0 _ rfl).1, hs.fin⟩
end Go.Proofs.Ytnalgllmdpcjcaa
