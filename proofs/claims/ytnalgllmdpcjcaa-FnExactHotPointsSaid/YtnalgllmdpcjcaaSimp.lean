/- Rings without points at which they do not turn: both sides of SimplifyRing. -/
import Derived.Test.YtnalgllmdpcjcaaInPlace
import Derived.Test.YtnalgllmdpcjcaaMeetS
namespace Go.Proofs.Ytnalgllmdpcjcaa
open Go Go.RowKit
set_option linter.unusedVariables false
set_option linter.unusedSimpArgs false
set_option maxRecDepth 100000
set_option maxHeartbeats 4000000
set_option linter.unusedVariables false

/-! ### A point taken out -/
theorem splice_get {vs : List Value} : ∀ {cs : List Value} {off : Nat} (j : Nat), off + vs.length ≤ cs.length → (splice cs off vs)[j]? = if off ≤ j ∧ j < off + vs.length then vs[j - off]? else cs[j]? := by
  induction vs with
  | nil => intro cs off j _; rw [splice, if_neg (by simp only [List.length_nil]; omega)]
  | cons v r ih =>
    intro cs off j hl
    simp only [List.length_cons] at hl
    rw [splice, ih (cs := cs.set off v) (off := off + 1) j (by simp; omega)]
    simp only [List.length_cons]
    by_cases h1 : off + 1 ≤ j ∧ j < off + 1 + r.length
    · rw [if_pos h1, if_pos (by omega), show j - off = (j - (off + 1)) + 1 by omega]
      simp
    · rw [if_neg h1]
      by_cases h2 : j = off
      · subst h2
        rw [if_pos (by omega), List.getElem?_set_self (by omega)]
        simp
      · rw [if_neg (by omega), List.getElem?_set_ne (by omega)]
theorem ptCells_get (xs : List (Int × Int)) (j : Nat) (h : j < xs.length * 2) : (xs.flatMap ptCells)[j]? = (ptCells (xs[j / 2]'(by omega)))[j % 2]? := by
  have := ptFlat xs (j / 2) (j % 2) (by omega) (by omega)
  rwa [show j / 2 * 2 + j % 2 = j by omega] at this
theorem take_cells (xs : List (Int × Int)) (k : Nat) : (xs.flatMap ptCells).take (k * 2) = (xs.take k).flatMap ptCells := by
  induction xs generalizing k with
  | nil => simp
  | cons a r ih =>
    match k with
    | 0 => simp
    | k + 1 =>
      rw [List.flatMap_cons, List.take_succ_cons, List.flatMap_cons, show (k + 1) * 2 = (ptCells a).length + k * 2 by simp [ptCells]; omega, List.take_length_add_append, ih]
theorem drop_cells (xs : List (Int × Int)) (k : Nat) : (xs.flatMap ptCells).drop (k * 2) = (xs.drop k).flatMap ptCells := by
  induction xs generalizing k with
  | nil => simp
  | cons a r ih =>
    match k with
    | 0 => simp
    | k + 1 =>
      rw [List.flatMap_cons, List.drop_succ_cons, show (k + 1) * 2 = (ptCells a).length + k * 2 by simp [ptCells]; omega, List.drop_length_add_append, ih]
/-- The address of the piece of a slice from l on. -/
def offL (o l m s : Nat) : Nat := if m = l then o else o + l * s
theorem slicedL {b o l h m s : Nat} (_hm : h ≤ m) (_hl : l ≤ h) : sliced (some ⟨b, o, none⟩) l h m s = .slice (some ⟨b, offL o l m s, none⟩) (h - l) (m - l) := by
  unfold sliced offL
  split
  · rfl
  · simp [add_none]
theorem zero2 : (Builtin.zeroCells (Value.agg #[.int .i64 0, .int .i64 0]).cells 1).toList = [.int .i64 0, .int .i64 0] := by kernel_rfl
theorem slicedL1 {b n c : Nat} (hc : n ≤ c) (h0 : 0 < n) : sliced (some ⟨b, 0, none⟩) (n - 1) n c 2 = .slice (some ⟨b, (n - 1) * 2, none⟩) 1 (c - (n - 1)) := by
  rw [slicedL (by omega) (by omega), offL, if_neg (by omega), Nat.zero_add, show n - (n - 1) = 1 by omega]
theorem ptCells_all (xs : List (Int × Int)) : (xs.flatMap ptCells).all (·.oneCell') = true := List.all_eq_true.2 (ptCells_one xs)
theorem hnewsDel {w0 : Bs} {Rs : List Res} {b T c i n : Nat} {xs : List (Int × Int)} {cs : List Value} (hc : n ≤ c) (hl : cs.length = c * 2) (hx : cs.take (n * 2) = xs.flatMap ptCells) (hn : xs.length = n) : ∀ w', St w0 (.cel b T cs :: Rs) w' → ∀ (j : Nat) u, ((xs.drop (i + 1)).flatMap ptCells)[j]? = some u → w'.cell? ⟨b, offL 0 (i + 1) c 2 + j, none⟩ = some u := fun w' hs j u hu => by
  have hj := (List.getElem?_eq_some_iff.1 hu).1
  rw [ptCells_len, List.length_drop] at hj
  rw [offL, if_neg (by omega), cell_of_row w' b _ _ T (0, 0) (hs.cel (k := 0) rfl)]
  rw [← drop_cells, List.getElem?_drop, ← hx, List.getElem?_take, if_pos (by omega)] at hu
  rw [Nat.zero_add]
  simpa using hu
theorem Delete_cel (b T c i n : Nat) (xs : List (Int × Int)) (cs : List Value) (w : World) (hh : w.heap[b]? = some (.cells cs.toArray T (0, 0))) (hc : n ≤ c) (hl : cs.length = c * 2) (hx : cs.take (n * 2) = xs.flatMap ptCells) (hn : xs.length = n) (hi : i < n) (hn2 : n ≤ 1048577) :
    Calls Try.prog 123 #[.slice (some ⟨b, 0, none⟩) n c, .int .i64 (i : Int), .int .i64 ((i : Int) + 1)] w fun e w' => e = .returned (.slice (some ⟨b, 0, none⟩) (n - 1) c) ∧ Wr b w w' ∧
      w'.heap[b]? = some (.cells (splice (splice cs (i * 2) ((xs.drop (i + 1)).flatMap ptCells)) ((n - 1) * 2) [.int .i64 0, .int .i64 0]).toArray T (0, 0)) := by
  refine walk_from1 (m := 33) (Try.func123) rfl rfl (Nat.le_of_ble_eq_true rfl) (hh) ?_
  refine at_seq ?_
  refine at_region ?_
  refine at_q rfl rfl (by decide) (qt_assign rfl rfl) ?_
  refine at_end ?_
  refine at_seq ?_
  refine at_as 2 (.int .i64 ((i + 1 : Nat) : Int)) rfl (congrArg _ (by omega)) ?_
  refine at_region ?_
  refine at_q rfl rfl (by decide) (qt_move rfl rfl) ?_
  refine at_q rfl rfl (by decide) (qt_move rfl rfl) ?_
  refine at_q rfl rfl (by decide) (qt_move rfl rfl) ?_
  refine at_q rfl rfl (by decide) (qt_move rfl rfl) ?_
  refine at_q rfl rfl (by decide) (qt_len rfl rfl tyl_sl_impl_Pt) ?_
  refine at_q rfl rfl (by decide) (qt_sliceLHM rfl rfl rfl rfl rfl tyl_sl_impl_Pt (by omega) (by omega) (by omega)) ?_
  refine at_end ?_
  refine at_seq ?_
  refine at_seq ?_
  refine at_region ?_
  refine at_q rfl rfl (by decide) (qt_move rfl rfl) ?_
  refine at_q rfl rfl (by decide) (qt_move rfl rfl) ?_
  refine at_q rfl rfl (by decide) (qt_eql rfl rfl rfl) ?_
  refine at_end ?_
  refine at_cond rfl (fun c1 => ?_) (fun c1 => ?_)
  · try simp only [decide_eq_true_eq, decide_eq_false_iff_not, beq_iff_eq, beq_eq_false_iff_ne, Bool.not_eq_true', Bool.not_eq_false', Bool.not_true, Bool.not_false, Int.not_lt, Int.not_le, ne_eq, Nat.not_lt, Nat.not_le] at c1
    omega
  · try simp only [decide_eq_true_eq, decide_eq_false_iff_not, beq_iff_eq, beq_eq_false_iff_ne, Bool.not_eq_true', Bool.not_eq_false', Bool.not_true, Bool.not_false, Int.not_lt, Int.not_le, ne_eq, Nat.not_lt, Nat.not_le] at c1
    refine at_skip ?_
    refine norm_then ?_
    refine at_seq ?_
    refine at_region ?_
    refine at_q rfl rfl (by decide) (qt_move rfl rfl) ?_
    refine at_q rfl rfl (by decide) (qt_len rfl rfl tyl_sl_impl_Pt) ?_
    refine at_q rfl rfl (by decide) (qt_assign rfl rfl) ?_
    refine at_end ?_
    refine at_seq ?_
    refine dg_start mixed rfl ?_
    refine dg_phase 6 ?_
    refine dg_q (i := 0) rfl (by kernel_rfl) (by kernel_rfl) (by kernel_rfl) [2] (by kernel_rfl) (fun _ _ _ h => h) rfl rfl (by decide) (fun _ h => h.upto ⟨rfl, trivial⟩) (qt_move rfl rfl) ?_
    refine dg_q (i := 1) rfl (by kernel_rfl) (by kernel_rfl) (by kernel_rfl) [2] (by kernel_rfl) (fun _ _ _ h => h) rfl rfl (by decide) (fun _ h => h.upto ⟨rfl, trivial⟩) (qt_move rfl rfl) ?_
    refine dg_q (i := 2) rfl (by kernel_rfl) (by kernel_rfl) (by kernel_rfl) [] (by kernel_rfl) (fun _ _ _ h => h) rfl rfl (by decide) (fun _ h => h.upto ⟨rfl, trivial⟩) ((qt_sliceH rfl rfl rfl tyl_sl_impl_Pt (by omega)).as (slicedH _ _ _ _ _)) ?_
    refine dg_q (i := 3) rfl (by kernel_rfl) (by kernel_rfl) (by kernel_rfl) [5] (by kernel_rfl) (fun _ _ _ h => h) rfl rfl (by decide) (fun _ h => h.upto ⟨rfl, trivial⟩) (qt_move rfl rfl) ?_
    refine dg_q (i := 4) rfl (by kernel_rfl) (by kernel_rfl) (by kernel_rfl) [5] (by kernel_rfl) (fun _ _ _ h => h) rfl rfl (by decide) (fun _ h => h.upto ⟨rfl, trivial⟩) (qt_move rfl rfl) ?_
    refine dg_q (i := 5) rfl (by kernel_rfl) (by kernel_rfl) (by kernel_rfl) [] (by kernel_rfl) (fun _ _ _ h => h) rfl rfl (by decide) (fun _ h => h.upto ⟨rfl, trivial⟩) ((qt_sliceL rfl rfl rfl tyl_sl_impl_Pt (by omega)).as (slicedL (b := b) (o := 0) (l := i + 1) (h := n) (m := c) (s := 2) hc hi)) ?_
    refine dg_bar rfl (by kernel_rfl) rfl ?_
    refine op_appendIn (k := 0) (news := (xs.drop (i + 1)).flatMap ptCells) rfl tyl_sl_impl_Pt tyz_impl_Pt rfl (by decide) rfl rfl rfl (by rw [ptCells_len, List.length_drop, hn]) (hnewsDel hc hl hx hn) (ptCells_all _) (by omega) (by rw [ptCells_len, List.length_drop]; omega) ?_
    refine at_rsE (by simp only [List.nil_append, List.cons_append, List.set_cons_zero, List.set_cons_succ, Value.cells, List.toList_toArray]; rfl) ?_
    refine dg_phase 8 ?_
    refine dg_q (i := 7) rfl (by kernel_rfl) (by kernel_rfl) (by kernel_rfl) [] (by kernel_rfl) (fun _ _ _ h => h) rfl rfl (by decide) (fun _ h => h.upto ⟨rfl, trivial⟩) (qt_assign rfl rfl) ?_
    refine dg_done (by kernel_rfl) ?_
    refine norm_then ?_
    refine at_seq ?_
    refine at_as 0 (.slice (some ⟨b, 0, none⟩) (n - 1) c) rfl (by rw [show i + (n - (i + 1)) = n - 1 by omega]) ?_
    refine at_region ?_
    refine at_q rfl rfl (by decide) (qt_move rfl rfl) ?_
    refine at_q rfl rfl (by decide) (qt_move rfl rfl) ?_
    refine at_q rfl rfl (by decide) (qt_len rfl rfl tyl_sl_impl_Pt) ?_
    refine at_q rfl rfl (by decide) (qt_move rfl rfl) ?_
    refine at_q rfl rfl (by decide) ((qt_sliceLH rfl rfl rfl rfl tyl_sl_impl_Pt (by omega) (by omega)).as (slicedL1 hc (by omega))) ?_
    refine at_op rfl ?_
    refine op_clear (k := 0) (zs := [.int .i64 0, .int .i64 0]) rfl tyl_sl_impl_Pt tyz_impl_Pt rfl rfl (by omega) rfl zero2 rfl (by rw [splice_len]; simp only [List.length_cons, List.length_nil]; omega) ?_
    refine at_rsE (by simp only [List.nil_append, List.cons_append, List.set_cons_zero, List.set_cons_succ, Value.cells, List.toList_toArray]; rfl) ?_
    refine at_end ?_
    refine at_seq ?_
    refine at_region ?_
    refine at_q rfl rfl (by decide) (qt_move rfl rfl) ?_
    refine at_q rfl rfl (by decide) (qt_assign rfl rfl) ?_
    refine at_end ?_
    refine at_retc ?_
    refine at_ret1 rfl (.tmp rfl) ?_
    intro w' hs
    exact ⟨rfl, hs.over.wr, hs.cel (k := 0) rfl⟩
/-- The cells of a row from which a point was taken: the others, closed up. -/
theorem del_take {c i n : Nat} {xs : List (Int × Int)} {cs : List Value} (hc : n ≤ c) (hl : cs.length = c * 2) (hx : cs.take (n * 2) = xs.flatMap ptCells) (hn : xs.length = n) (hi : i < n) :
    (splice (splice cs (i * 2) ((xs.drop (i + 1)).flatMap ptCells)) ((n - 1) * 2) [.int .i64 0, .int .i64 0]).take ((n - 1) * 2) = (xs.eraseIdx i).flatMap ptCells := by
  have hdl : ((xs.drop (i + 1)).flatMap ptCells).length = (n - (i + 1)) * 2 := by rw [ptCells_len, List.length_drop, hn]
  apply List.ext_getElem?
  intro j
  rw [List.getElem?_take]
  by_cases hj : j < (n - 1) * 2
  · rw [if_pos hj, splice_get j (by rw [splice_len]; simp only [List.length_cons, List.length_nil]; omega), if_neg (by omega), splice_get j (by rw [hdl]; omega)]
    rw [List.eraseIdx_eq_take_drop_succ, List.flatMap_append, ← take_cells]
    have htl : ((xs.flatMap ptCells).take (i * 2)).length = i * 2 := by rw [List.length_take, ptCells_len]; omega
    by_cases h1 : j < i * 2
    · rw [if_neg (by omega), List.getElem?_append_left (by rw [htl]; exact h1), List.getElem?_take, if_pos h1, ← hx, List.getElem?_take, if_pos (by omega)]
    · rw [if_pos ⟨by omega, by rw [hdl]; omega⟩, List.getElem?_append_right (by rw [htl]; omega), htl]
  · rw [if_neg hj, List.getElem?_eq_none (by rw [ptCells_len, List.length_eraseIdx]; split <;> omega)]
/-- A point taken out of a row. -/
theorem Delete_row {N c i n : Nat} {A : Option Addr} {xs : List (Int × Int)} {w : World} (h : w.ownsRow N 24 2 (.slice A n c) n (xs.flatMap ptCells)) (hn : xs.length = n) (hi : i < n) (hn2 : n ≤ 1048577) :
    Calls Try.prog 123 #[.slice A n c, .int .i64 (i : Int), .int .i64 ((i : Int) + 1)] w fun e w' => e = .returned (.slice A (n - 1) c) ∧ Wrs (rowR N 24 2 n (xs.flatMap ptCells) (A, c)).F w w' ∧ (rowR N 24 2 (n - 1) ((xs.eraseIdx i).flatMap ptCells) (A, c)).P w' := by
  rcases h.2 with ⟨_, e⟩ | ⟨g, cap, cur, e, hb, hg, hcap, hmax, hsz, htk⟩
  · omega
  · injection e with e1 e2 e3
    subst e1 e3
    have hg' : w.heap[g]? = some (.cells cur.toList.toArray 24 (0, 0)) := by rw [hg, Array.toArray_toList]
    refine (Delete_cel g _ c i n xs cur.toList w hg' hcap (by simpa using hsz) htk hn hi hn2).mono ?_
    rintro e w' ⟨rfl, hw, hh⟩
    refine ⟨rfl, ⟨hw.os, hw.tape, hw.output, hw.size, fun q hq hne => hw.block q hq (fun e => hne (by subst e; rfl))⟩, ?_⟩
    refine ⟨by rw [ptCells_len, List.length_eraseIdx, hn, if_pos hi], .inr ⟨g, c, _, rfl, hb, hh, by omega, hmax, by simp [splice_len, hsz], ?_⟩⟩
    rw [List.toList_toArray]
    exact del_take hcap (by simpa using hsz) htk hn hi
end Go.Proofs.Ytnalgllmdpcjcaa
