/- The law FnExactHotPoints: for every input the program and the reference agree, so the law returns true; it changes nothing that was there. No condition. -/
import Derived.Test.YtnalgllmdpcjcaaSortPt
import Derived.Test.YtnalgllmdpcjcaaFacts
import Derived.Test.YtnalgllmdpcjcaaRows
import Derived.Test.YtnalgllmdpcjcaaOpen2
namespace Go.Proofs.Ytnalgllmdpcjcaa
open Go Go.Shelf Go.RowKit
set_option linter.unusedVariables false
set_option linter.unusedSimpArgs false
set_option maxRecDepth 100000
set_option maxHeartbeats 4000000
open Go Go.RowKit
set_option linter.unusedVariables false
set_option linter.unusedSimpArgs false

theorem compP_snoc : ∀ (l : List Pn) (q p : Pn), compP (l ++ [q] ++ [p]) = compP (l ++ [q]) ++ (if q = p then [] else [p])
  | [], q, p => by
    simp only [List.nil_append, List.singleton_append, compP]
    split
    · rename_i h; rw [h]
    · rfl
  | [a], q, p => by
    have h := compP_snoc [] q p
    simp only [List.nil_append, List.singleton_append, List.cons_append] at h ⊢
    rw [compP, h]
    conv => rhs; rw [compP]
    split <;> rfl
  | a :: b :: l, q, p => by
    have h := compP_snoc (b :: l) q p
    simp only [List.cons_append] at h ⊢
    rw [compP, h]
    conv => rhs; rw [compP]
    split <;> rfl
theorem compP_take {xs : List Pn} {i : Nat} (h1 : 1 ≤ i) (h : i < xs.length) : compP (xs.take (i + 1)) = compP (xs.take i) ++ (if pt xs (i - 1) = pt xs i then [] else [pt xs i]) := by
  obtain ⟨j, rfl⟩ : ∃ j, i = j + 1 := ⟨i - 1, by omega⟩
  rw [List.take_succ_eq_append_getElem h, List.take_succ_eq_append_getElem (show j < xs.length by omega), compP_snoc, pt_at h, pt_at (show j < xs.length by omega)]
  rfl
theorem compP_len : ∀ l : List Pn, (compP l).length ≤ l.length
  | [] => Nat.le_refl _
  | [_] => Nat.le_refl _
  | p :: q :: l => by
    have := compP_len (q :: l)
    unfold compP
    simp only [List.length_cons] at *
    split
    · omega
    · rw [List.length_cons]; omega
/-- No two neighbours among the first i are the same. -/
theorem compP_same {xs : List Pn} : ∀ i, i ≤ xs.length → (∀ j, 1 ≤ j → j < i → ¬ pt xs (j - 1) = pt xs j) → compP (xs.take i) = xs.take i
  | 0, _, _ => rfl
  | 1, h, _ => by
    match xs, h with
    | p :: l, _ => rfl
  | i + 2, h, hj => by
    rw [compP_take (by omega) (by omega), compP_same (i + 1) (by omega) (fun j h1 h2 => hj j h1 (by omega)), if_neg (hj (i + 1) (by omega) (by omega)), ← pt_at (by omega)]
    exact (List.take_succ_eq_append_getElem (by omega)).symm
/-- The points of a slice that is being closed up. -/
def clo (xs : List Pn) (i : Nat) : List Pn := compP (xs.take i) ++ xs.drop (compP (xs.take i)).length
theorem clo_len {xs : List Pn} {i : Nat} (h : i ≤ xs.length) : (clo xs i).length = xs.length := by
  have := compP_len (xs.take i)
  rw [List.length_take] at this
  rw [clo, List.length_append, List.length_drop]
  omega
theorem clo_at {xs : List Pn} {i j : Nat} (h : (compP (xs.take i)).length ≤ j) : pt (clo xs i) j = pt xs j := by
  simp only [pt, px, py, List.getD, clo, List.getElem?_append_right h, List.getElem?_drop]
  rw [show (compP (xs.take i)).length + (j - (compP (xs.take i)).length) = j by omega]
theorem clo_no {xs : List Pn} {i : Nat} (h1 : 1 ≤ i) (h : i < xs.length) (he : pt xs (i - 1) = pt xs i) : clo xs (i + 1) = clo xs i := by rw [clo, compP_take h1 h, if_pos he, List.append_nil]; rfl
theorem clo_yes {xs : List Pn} {i : Nat} (h1 : 1 ≤ i) (h : i < xs.length) (he : ¬ pt xs (i - 1) = pt xs i) (hk : (compP (xs.take i)).length < xs.length) : (clo xs (i + 1)).flatMap ptCells = splice ((clo xs i).flatMap ptCells) ((compP (xs.take i)).length * 2) (ptCells (pt xs i)) := by
  rw [clo, clo, compP_take h1 h, if_neg he]
  generalize compP (xs.take i) = C at *
  rw [List.drop_eq_getElem_cons hk, List.length_append, List.length_singleton, List.flatMap_append, List.flatMap_append, List.flatMap_append, List.flatMap_cons]
  have hC : C.length * 2 = (C.flatMap ptCells).length := (ptCells_len C).symm
  rw [hC]
  simp only [ptCells, splice, List.flatMap_cons, List.flatMap_nil, List.append_nil, List.cons_append, List.nil_append]
  rw [List.set_append_right _ _ (Nat.le_refl _), Nat.sub_self, List.set_cons_zero, List.set_append_right _ _ (by omega), show (C.flatMap ptCells).length + 1 - (C.flatMap ptCells).length = 1 by omega]
  simp [ptCells]
def zerosP (m : Nat) : List Value := (Builtin.zeroCells (Value.agg #[.int .i64 0, .int .i64 0]).cells m).toList
theorem zerosP_len (m : Nat) : (zerosP m).length = m * 2 := by
  rw [zerosP, Array.length_toList, size_zeroCells]
  rfl
theorem zerosP_one (m : Nat) : (zerosP m).all (·.oneCell') = true := by
  rw [List.all_eq_true]
  intro v hv
  rw [zerosP, Array.mem_toList_iff, Builtin.zeroCells] at hv
  obtain ⟨i, hi, rfl⟩ := Array.mem_map.1 hv
  have : i % 2 < 2 := Nat.mod_lt _ (by decide)
  show (#[Value.int .i64 0, Value.int .i64 0][i % 2]!).oneCell' = true
  rcases (show i % 2 = 0 ∨ i % 2 = 1 by omega) with e | e <;> rw [e] <;> rfl
theorem splice_left {l r vs : List Value} : ∀ {off : Nat}, off + vs.length ≤ l.length → splice (l ++ r) off vs = splice l off vs ++ r := by
  induction vs generalizing l with
  | nil => intro off _; rfl
  | cons v vs ih =>
    intro off h
    simp only [List.length_cons] at h
    rw [splice, splice, List.set_append_left _ _ (by omega)]
    exact ih (by simp; omega)
/-- How many points stay of the first i. -/
def kc (xs : List Pn) (i : Nat) : Nat := (compP (xs.take i)).length
theorem kc_le (xs : List Pn) (i : Nat) : kc xs i ≤ i := by have := compP_len (xs.take i); rw [List.length_take] at this; unfold kc; omega
theorem kc_same {xs : List Pn} {i : Nat} (h1 : 1 ≤ i) (h : i < xs.length) (he : pt xs (i - 1) = pt xs i) : kc xs (i + 1) = kc xs i := by rw [kc, compP_take h1 h, if_pos he, List.append_nil]; rfl
theorem kc_more {xs : List Pn} {i : Nat} (h1 : 1 ≤ i) (h : i < xs.length) (he : ¬ pt xs (i - 1) = pt xs i) : kc xs (i + 1) = kc xs i + 1 := by rw [kc, compP_take h1 h, if_neg he, List.length_append]; rfl
theorem ptNe {xs : List Pn} {j i : Nat} : ((px xs j == px xs i) && (py xs j == py xs i)) = decide (pt xs i = pt xs j) := by
  rw [Bool.eq_iff_iff]
  simp [pt, Prod.ext_iff]
  constructor <;> (rintro ⟨h1, h2⟩; exact ⟨h1.symm, h2.symm⟩)
theorem compP_whole {xs : List Pn} (h : ∀ j, 1 ≤ j → j < xs.length → ¬ pt xs (j - 1) = pt xs j) : compP xs = xs := by
  have := compP_same xs.length (Nat.le_refl _) h
  rwa [List.take_length] at this
theorem take_whole {xs : List Pn} {rest : List Value} : (xs.flatMap ptCells ++ rest).take (xs.length * 2) = xs.flatMap ptCells := List.take_left' (ptCells_len xs)
theorem take_clear {xs : List Pn} {rest zs : List Value} {n c : Nat} (hn : xs.length = n) (hl : ((clo xs n).flatMap ptCells ++ rest).length = c * 2) (hK : kc xs n * 2 + zs.length ≤ c * 2) :
    (splice ((clo xs n).flatMap ptCells ++ rest) (0 + kc xs n * 2) zs).take ((compP xs).length * 2) = (compP xs).flatMap ptCells := by
  have e : (compP xs).length = kc xs n := by rw [kc, ← hn, List.take_length]
  have ec : compP (xs.take n) = compP xs := by rw [← hn, List.take_length]
  apply List.ext_getElem?
  intro i
  rw [List.getElem?_take, e, Nat.zero_add]
  by_cases hi : i < kc xs n * 2
  · rw [if_pos hi, splice_get i (by omega), if_neg (by omega), clo, List.flatMap_append, List.append_assoc, List.getElem?_append_left (by rw [ptCells_len]; exact hi), ec]
  · rw [if_neg hi, List.getElem?_eq_none (by rw [ptCells_len, e]; omega)]
theorem Compact_cel (b T c n : Nat) (xs : List Pn) (rest : List Value) (w : World) (hh : w.heap[b]? = some (.cells (xs.flatMap ptCells ++ rest).toArray T (0, 0))) (hc : n ≤ c) (hl : ((xs.flatMap ptCells) ++ rest).length = c * 2) (hn : xs.length = n) (hn2 : n ≤ 1048577) :
    Calls Try.prog 149 #[.slice (some ⟨b, 0, none⟩) n c] w fun e w' => e = .returned (.slice (some ⟨b, 0, none⟩) (compP xs).length c) ∧ Wr b w w' ∧ ∃ cs : List Value, w'.heap[b]? = some (.cells cs.toArray T (0, 0)) ∧ cs.length = c * 2 ∧ cs.take ((compP xs).length * 2) = (compP xs).flatMap ptCells := by
  have hr2 : ∀ (zs : List Pn), zs.length = n → ∀ k, k < n → ∀ w' : World, w'.heap[b]? = some (.cells (zs.flatMap ptCells ++ rest).toArray T (0, 0)) → ∀ (q : Nat) (v : Value), [Value.int .i64 (px zs k), Value.int .i64 (py zs k)][q]? = some v → w'.cell? ⟨b, 0 + k * 2 + q, none⟩ = some v := fun zs hz k hk w' hw q v hv => by
    have hq : q < 2 := by have := (List.getElem?_eq_some_iff.1 hv).1; simpa using this
    rw [cell_of_row w' b _ _ T (0, 0) hw, Nat.zero_add]
    have hf := ptFlat zs k q (by omega) hq
    rw [at_p (by omega)] at hf
    have : (zs.flatMap ptCells ++ rest).toArray[k * 2 + q]? = (zs.flatMap ptCells)[k * 2 + q]? := by
      rw [List.getElem?_toArray, List.getElem?_append_left (by rw [ptCells_len]; omega)]
    rw [this, hf]
    exact hv
  refine walk_from1 (m := 61) (Try.func149) rfl rfl (Nat.le_of_ble_eq_true rfl) (hh) ?_
  refine at_seq ?_
  refine at_region ?_
  refine at_q rfl rfl (by decide) (qt_assign rfl rfl) ?_
  refine at_end ?_
  refine at_seq ?_
  refine at_seq ?_
  refine at_region ?_
  refine at_q rfl rfl (by decide) (qt_move rfl rfl) ?_
  refine at_q rfl rfl (by decide) (qt_len rfl rfl tyl_sl_impl_Pt) ?_
  refine at_q rfl rfl (by decide) (qt_lss rfl rfl rfl) ?_
  refine at_end ?_
  refine at_cond rfl (fun c1 => ?_) (fun c1 => ?_)
  · try simp only [decide_eq_true_eq, decide_eq_false_iff_not, beq_iff_eq, beq_eq_false_iff_ne, Bool.not_eq_true', Bool.not_eq_false', Bool.not_true, Bool.not_false, Int.not_lt, Int.not_le, ne_eq, Nat.not_lt, Nat.not_le] at c1
    refine at_seq ?_
    refine at_region ?_
    refine at_q rfl rfl (by decide) (qt_move rfl rfl) ?_
    refine at_q rfl rfl (by decide) (qt_assign rfl rfl) ?_
    refine at_end ?_
    refine at_retc ?_
    refine then_ret ?_
    refine at_ret1 rfl (.tmp rfl) ?_
    intro w' hs
    exact ⟨by rw [compP_whole fun j h1 h2 => absurd h2 (by omega), hn], hs.over.wr, _, hs.cel (k := 0) rfl, hl, by rw [compP_whole fun j h1 h2 => absurd h2 (by omega)]; exact take_whole⟩
  · try simp only [decide_eq_true_eq, decide_eq_false_iff_not, beq_iff_eq, beq_eq_false_iff_ne, Bool.not_eq_true', Bool.not_eq_false', Bool.not_true, Bool.not_false, Int.not_lt, Int.not_le, ne_eq, Nat.not_lt, Nat.not_le] at c1
    refine at_skip ?_
    refine norm_then ?_
    refine at_seq ?_
    refine at_seq ?_
    refine at_region ?_
    refine at_q rfl rfl (by decide) (qt_assign rfl rfl) ?_
    refine at_end ?_
    refine at_block ?_
    refine at_loopk (X := Nat) (fun k => 1 ≤ k ∧ k ≤ n ∧ (∀ j, 1 ≤ j → j < k → ¬ pt xs (j - 1) = pt xs j)) (fun k => n - k) (fun k => [(3, .int .i64 (k : Int))]) (C := [(0, _), (2, _)]) ⟨rfl, rfl, trivial⟩ 1 (⟨Nat.le_refl _, by omega, fun j h1 h2 => absurd h2 (by omega)⟩) ⟨rfl, rfl, rfl, trivial⟩ ?_
    intro k hk L hL1
    refine at_envE (by simp only [List.nil_append, List.cons_append]; rfl) ?_
    refine at_seq ?_
    refine at_seq ?_
    refine at_region ?_
    refine at_q rfl rfl (by decide) (qt_move rfl rfl) ?_
    refine at_q rfl rfl (by decide) (qt_move rfl rfl) ?_
    refine at_q rfl rfl (by decide) (qt_len rfl rfl tyl_sl_impl_Pt) ?_
    refine at_q rfl rfl (by decide) (qt_lss rfl rfl rfl) ?_
    refine at_end ?_
    refine at_cond rfl (fun c2 => ?_) (fun c2 => ?_)
    · try simp only [decide_eq_true_eq, decide_eq_false_iff_not, beq_iff_eq, beq_eq_false_iff_ne, Bool.not_eq_true', Bool.not_eq_false', Bool.not_true, Bool.not_false, Int.not_lt, Int.not_le, ne_eq, Nat.not_lt, Nat.not_le] at c2
      refine at_skip ?_
      refine norm_then ?_
      refine at_seq ?_
      refine at_block ?_
      refine at_seq ?_
      refine dg_start mixed rfl ?_
      refine dg_phase 10 ?_
      refine dg_q (i := 0) rfl (by kernel_rfl) (by kernel_rfl) (by kernel_rfl) [] (by kernel_rfl) (fun _ _ _ h => h) rfl rfl (by decide) (fun _ h => h.upto ⟨rfl, trivial⟩) (qt_move rfl rfl) ?_
      refine dg_q (i := 1) rfl (by kernel_rfl) (by kernel_rfl) (by kernel_rfl) [] (by kernel_rfl) (fun _ _ _ h => h) rfl rfl (by decide) (fun _ h => h.upto ⟨rfl, trivial⟩) (qt_move rfl rfl) ?_
      refine dg_q (i := 2) rfl (by kernel_rfl) (by kernel_rfl) (by kernel_rfl) [] (by kernel_rfl) (fun _ _ _ h => h) rfl rfl (by decide) (fun _ h => h.upto ⟨rfl, trivial⟩) (qt_index rfl rfl rfl tyl_sl_impl_Pt (by omega)) ?_
      refine dg_q (i := 3) rfl (by kernel_rfl) (by kernel_rfl) (by kernel_rfl) [] (by kernel_rfl) (fun _ _ _ h => h) rfl rfl (by decide) (fun _ h => h.upto ⟨rfl, trivial⟩) (qt_loadS rfl rfl tys_impl_Pt rfl (fun w' hs => hr2 xs hn k (by omega) w' (hs.cel (k := 0) rfl))) ?_
      refine dg_q (i := 4) rfl (by kernel_rfl) (by kernel_rfl) (by kernel_rfl) [] (by kernel_rfl) (fun _ _ _ h => h) rfl rfl (by decide) (fun _ h => h.upto ⟨rfl, trivial⟩) (qt_move rfl rfl) ?_
      refine dg_q (i := 5) rfl (by kernel_rfl) (by kernel_rfl) (by kernel_rfl) [] (by kernel_rfl) (fun _ _ _ h => h) rfl rfl (by decide) (fun _ h => h.upto ⟨rfl, trivial⟩) (qt_move rfl rfl) ?_
      refine dg_q (i := 6) rfl (by kernel_rfl) (by kernel_rfl) (by kernel_rfl) [] (by kernel_rfl) (fun _ _ _ h => h) rfl rfl (by decide) (fun _ h => h.upto ⟨rfl, trivial⟩) ((qt_sub rfl rfl rfl (by omega) (by omega)).as (congrArg _ (show ((k : Int) - 1) = ((k - 1 : Nat) : Int) by omega))) ?_
      refine dg_q (i := 7) rfl (by kernel_rfl) (by kernel_rfl) (by kernel_rfl) [] (by kernel_rfl) (fun _ _ _ h => h) rfl rfl (by decide) (fun _ h => h.upto ⟨rfl, trivial⟩) (qt_index rfl rfl rfl tyl_sl_impl_Pt (by omega)) ?_
      refine dg_q (i := 8) rfl (by kernel_rfl) (by kernel_rfl) (by kernel_rfl) [] (by kernel_rfl) (fun _ _ _ h => h) rfl rfl (by decide) (fun _ h => h.upto ⟨rfl, trivial⟩) (qt_loadS rfl rfl tys_impl_Pt rfl (fun w' hs => hr2 xs hn (k - 1) (by omega) w' (hs.cel (k := 0) rfl))) ?_
      refine dg_q (i := 9) rfl (by kernel_rfl) (by kernel_rfl) (by kernel_rfl) [] (by kernel_rfl) (fun _ _ _ h => h) rfl rfl (by decide) (fun _ h => h.upto ⟨rfl, trivial⟩) (qt_eqlS_impl_Pt rfl rfl rfl) ?_
      refine dg_done (by kernel_rfl) ?_
      refine norm_then ?_
      refine at_cond rfl (fun c3 => ?_) (fun c3 => ?_)
      · try simp only [decide_eq_true_eq, decide_eq_false_iff_not, beq_iff_eq, beq_eq_false_iff_ne, Bool.not_eq_true', Bool.not_eq_false', Bool.not_true, Bool.not_false, Int.not_lt, Int.not_le, ne_eq, Nat.not_lt, Nat.not_le] at c3
        have hkn : k < n := (by omega)
        have hdup : pt xs (k - 1) = pt xs k := of_decide_eq_true (ptNe ▸ c3)
        have hoff : offL 0 k c 2 = 0 + k * 2 := by rw [offL, if_neg (by omega)]
        have hcs : compP (xs.take k) = xs.take k := compP_same k (by omega) hk.2.2
        have hck : kc xs k = k := by rw [kc, hcs, List.length_take]; omega
        have hck1 : kc xs (k + 1) = k := by rw [kc_same hk.1 (by omega) hdup, hck]
        have hclo : clo xs (k + 1) = xs := by rw [clo, compP_take hk.1 (by omega), if_pos hdup, List.append_nil, hcs, List.length_take, Nat.min_eq_left (by omega), List.take_append_drop]
        refine at_seq ?_
        refine at_region ?_
        refine at_q rfl rfl (by decide) (qt_move rfl rfl) ?_
        refine at_q rfl rfl (by decide) (qt_move rfl rfl) ?_
        refine at_q rfl rfl (by decide) ((qt_sliceL rfl rfl rfl tyl_sl_impl_Pt (by omega)).as ((slicedL (b := b) (o := 0) (l := k) (h := n) (m := c) (s := 2) hc (by omega)).trans (by rw [hoff]))) ?_
        refine at_q rfl rfl (by decide) (qt_assign rfl rfl) ?_
        refine at_end ?_
        refine at_seq ?_
        refine at_seq ?_
        refine at_region ?_
        refine at_q rfl rfl (by decide) (qt_assign rfl rfl) ?_
        refine at_end ?_
        refine at_block ?_
        refine at_loopc (X := Nat) (fun j => 1 ≤ j ∧ k + j ≤ n ∧ kc xs (k + j) + 1 ≤ k + j) (fun j => n - j) (fun j => [(3, .int .i64 (kc xs (k + j) : Int)), (5, .int .i64 (j : Int))]) (C := [(0, _), (2, _), (10, _), (11, _), (12, _), (13, _), (16, _), (17, _), (18, _), (19, _), (20, _), (21, _), (22, _), (23, _), (24, _), (25, _), (26, _), (27, _), (28, _), (4, _)]) ⟨rfl, rfl, rfl, rfl, rfl, rfl, rfl, rfl, rfl, rfl, rfl, rfl, rfl, rfl, rfl, rfl, rfl, rfl, rfl, rfl, trivial⟩ (fun j => [.cel b T ((clo xs (k + j)).flatMap ptCells ++ rest)]) 1 (⟨Nat.le_refl _, by omega, by omega⟩) ⟨(by rw [hck1]; rfl), rfl, rfl, rfl, rfl, rfl, rfl, rfl, rfl, rfl, rfl, rfl, rfl, rfl, rfl, rfl, rfl, rfl, rfl, rfl, rfl, rfl, trivial⟩ (fun _ h => h.upto ⟨by rw [hclo], trivial⟩) ?_
        intro j hj L hL2
        refine at_envE (by simp only [List.nil_append, List.cons_append]; rfl) ?_
        refine at_rsE (by first | (dsimp only; done) | (dsimp only; rfl) | rfl) ?_
        have hcl : (clo xs (k + j)).length = n := (clo_len (by omega)).trans hn
        refine at_seq ?_
        refine at_seq ?_
        refine at_region ?_
        refine at_q rfl rfl (by decide) (qt_move rfl rfl) ?_
        refine at_q rfl rfl (by decide) (qt_move rfl rfl) ?_
        refine at_q rfl rfl (by decide) (qt_len rfl rfl tyl_sl_impl_Pt) ?_
        refine at_q rfl rfl (by decide) (qt_lss rfl rfl rfl) ?_
        refine at_end ?_
        refine at_cond rfl (fun c4 => ?_) (fun c4 => ?_)
        · try simp only [decide_eq_true_eq, decide_eq_false_iff_not, beq_iff_eq, beq_eq_false_iff_ne, Bool.not_eq_true', Bool.not_eq_false', Bool.not_true, Bool.not_false, Int.not_lt, Int.not_le, ne_eq, Nat.not_lt, Nat.not_le] at c4
          have hjl : k + j < n := (by omega)
          have hrd : ∀ i, kc xs (k + j) ≤ i → i < n → ∀ w' : World, w'.heap[b]? = some (.cells ((clo xs (k + j)).flatMap ptCells ++ rest).toArray T (0, 0)) → ∀ (q : Nat) (v : Value), [Value.int .i64 (px xs i), Value.int .i64 (py xs i)][q]? = some v → w'.cell? ⟨b, 0 + i * 2 + q, none⟩ = some v := fun i h1 h2 w' hw q v hv => hr2 (clo xs (k + j)) hcl i h2 w' hw q v (by rw [show px (clo xs (k + j)) i = px xs i from congrArg Prod.fst (clo_at h1), show py (clo xs (k + j)) i = py xs i from congrArg Prod.snd (clo_at h1)]; exact hv)
          refine at_skip ?_
          refine norm_then ?_
          refine at_seq ?_
          refine at_block ?_
          refine at_seq ?_
          refine dg_start mixed rfl ?_
          refine dg_phase 10 ?_
          refine dg_q (i := 0) rfl (by kernel_rfl) (by kernel_rfl) (by kernel_rfl) [] (by kernel_rfl) (fun _ _ _ h => h) rfl rfl (by decide) (fun _ h => h.upto ⟨rfl, trivial⟩) (qt_move rfl rfl) ?_
          refine dg_q (i := 1) rfl (by kernel_rfl) (by kernel_rfl) (by kernel_rfl) [] (by kernel_rfl) (fun _ _ _ h => h) rfl rfl (by decide) (fun _ h => h.upto ⟨rfl, trivial⟩) (qt_move rfl rfl) ?_
          refine dg_q (i := 2) rfl (by kernel_rfl) (by kernel_rfl) (by kernel_rfl) [] (by kernel_rfl) (fun _ _ _ h => h) rfl rfl (by decide) (fun _ h => h.upto ⟨rfl, trivial⟩) (qt_index rfl rfl rfl tyl_sl_impl_Pt (by omega)) ?_
          refine dg_q (i := 3) rfl (by kernel_rfl) (by kernel_rfl) (by kernel_rfl) [] (by kernel_rfl) (fun _ _ _ h => h) rfl rfl (by decide) (fun _ h => h.upto ⟨rfl, trivial⟩) (qt_loadS rfl rfl tys_impl_Pt rfl (fun w' hs q v hv => by rw [show 0 + k * 2 + j * 2 + q = 0 + (k + j) * 2 + q by omega]; exact hrd (k + j) (by omega) hjl w' (hs.cel (k := 0) rfl) q v hv)) ?_
          refine dg_q (i := 4) rfl (by kernel_rfl) (by kernel_rfl) (by kernel_rfl) [] (by kernel_rfl) (fun _ _ _ h => h) rfl rfl (by decide) (fun _ h => h.upto ⟨rfl, trivial⟩) (qt_move rfl rfl) ?_
          refine dg_q (i := 5) rfl (by kernel_rfl) (by kernel_rfl) (by kernel_rfl) [] (by kernel_rfl) (fun _ _ _ h => h) rfl rfl (by decide) (fun _ h => h.upto ⟨rfl, trivial⟩) (qt_move rfl rfl) ?_
          refine dg_q (i := 6) rfl (by kernel_rfl) (by kernel_rfl) (by kernel_rfl) [] (by kernel_rfl) (fun _ _ _ h => h) rfl rfl (by decide) (fun _ h => h.upto ⟨rfl, trivial⟩) ((qt_sub rfl rfl rfl (by omega) (by omega)).as (congrArg _ (show ((j : Int) - 1) = ((j - 1 : Nat) : Int) by omega))) ?_
          refine dg_q (i := 7) rfl (by kernel_rfl) (by kernel_rfl) (by kernel_rfl) [] (by kernel_rfl) (fun _ _ _ h => h) rfl rfl (by decide) (fun _ h => h.upto ⟨rfl, trivial⟩) (qt_index rfl rfl rfl tyl_sl_impl_Pt (by omega)) ?_
          refine dg_q (i := 8) rfl (by kernel_rfl) (by kernel_rfl) (by kernel_rfl) [] (by kernel_rfl) (fun _ _ _ h => h) rfl rfl (by decide) (fun _ h => h.upto ⟨rfl, trivial⟩) (qt_loadS rfl rfl tys_impl_Pt rfl (fun w' hs q v hv => by rw [show 0 + k * 2 + (j - 1) * 2 + q = 0 + (k + j - 1) * 2 + q by omega]; exact hrd (k + j - 1) (by omega) (by omega) w' (hs.cel (k := 0) rfl) q v hv)) ?_
          refine dg_q (i := 9) rfl (by kernel_rfl) (by kernel_rfl) (by kernel_rfl) [] (by kernel_rfl) (fun _ _ _ h => h) rfl rfl (by decide) (fun _ h => h.upto ⟨rfl, trivial⟩) (qt_neqS_impl_Pt rfl rfl rfl) ?_
          refine dg_done (by kernel_rfl) ?_
          refine norm_then ?_
          refine at_cond rfl (fun c5 => ?_) (fun c5 => ?_)
          · try simp only [decide_eq_true_eq, decide_eq_false_iff_not, beq_iff_eq, beq_eq_false_iff_ne, Bool.not_eq_true', Bool.not_eq_false', Bool.not_true, Bool.not_false, Int.not_lt, Int.not_le, ne_eq, Nat.not_lt, Nat.not_le] at c5
            refine at_seq ?_
            refine at_region ?_
            refine at_q rfl rfl (by decide) (qt_move rfl rfl) ?_
            refine at_q rfl rfl (by decide) (qt_move rfl rfl) ?_
            refine at_q rfl rfl (by decide) (qt_move rfl rfl) ?_
            refine at_q rfl rfl (by decide) (qt_move rfl rfl) ?_
            refine at_q rfl rfl (by decide) (qt_index rfl rfl rfl tyl_sl_impl_Pt (by omega)) ?_
            refine at_q rfl rfl (by decide) (qt_loadS rfl rfl tys_impl_Pt rfl (fun w' hs q v hv => by rw [show 0 + k * 2 + j * 2 + q = 0 + (k + j) * 2 + q by omega]; exact hrd (k + j) (by omega) hjl w' (hs.cel (k := 0) rfl) q v hv)) ?_
            refine at_q rfl rfl (by decide) (qt_index rfl rfl rfl tyl_sl_impl_Pt (by omega)) ?_
            refine at_op rfl ?_
            refine op_store (k := 0) rfl rfl rfl rfl rfl (by rfl) tyz_impl_Pt.szx rfl rfl (by rw [List.length_append, ptCells_len, hcl]; simp only [List.length_cons, List.length_nil]; omega) ?_
            refine at_end ?_
            refine at_region ?_
            refine at_q rfl rfl (by decide) (qt_move rfl rfl) ?_
            refine at_q rfl rfl (by decide) (qt_add rfl rfl rfl (by omega) (by omega)) ?_
            refine at_q rfl rfl (by decide) (qt_assign rfl rfl) ?_
            refine at_nil ?_
            refine norm_block ?_
            refine norm_then ?_
            refine at_region ?_
            refine at_q rfl rfl (by decide) (qt_move rfl rfl) ?_
            refine at_q rfl rfl (by decide) (qt_add rfl rfl rfl (by omega) (by omega)) ?_
            refine at_q rfl rfl (by decide) (qt_assign rfl rfl) ?_
            refine at_end ?_
            exact at_againc hL2 (j + 1) (⟨by omega, by omega, by rw [← Nat.add_assoc, kc_more (by omega) (by omega) (of_decide_eq_false (ptNe ▸ c5))]; omega⟩) (by omega) ⟨vi (by rw [← Nat.add_assoc, kc_more (by omega) (by omega) (of_decide_eq_false (ptNe ▸ c5))]; omega), vi (by omega), rfl, rfl, rfl, rfl, rfl, rfl, rfl, rfl, rfl, rfl, rfl, rfl, rfl, rfl, rfl, rfl, rfl, rfl, rfl, rfl, trivial⟩ (fun _ h => h.upto ⟨by rw [← Nat.add_assoc, clo_yes (by omega) (by omega) (of_decide_eq_false (ptNe ▸ c5)) (by show kc xs (k + j) < xs.length; omega), splice_left (by rw [ptCells_len, hcl]; exact (show 0 + kc xs (k + j) * 2 + 2 ≤ n * 2 by omega)), Nat.zero_add]; rfl, trivial⟩)
          · try simp only [decide_eq_true_eq, decide_eq_false_iff_not, beq_iff_eq, beq_eq_false_iff_ne, Bool.not_eq_true', Bool.not_eq_false', Bool.not_true, Bool.not_false, Int.not_lt, Int.not_le, ne_eq, Nat.not_lt, Nat.not_le] at c5
            refine at_skip ?_
            refine norm_block ?_
            refine norm_then ?_
            refine at_region ?_
            refine at_q rfl rfl (by decide) (qt_move rfl rfl) ?_
            refine at_q rfl rfl (by decide) (qt_add rfl rfl rfl (by omega) (by omega)) ?_
            refine at_q rfl rfl (by decide) (qt_assign rfl rfl) ?_
            refine at_end ?_
            exact at_againc hL2 (j + 1) (⟨by omega, by omega, by rw [← Nat.add_assoc, kc_same (by omega) (by omega) (of_decide_eq_true (ptNe ▸ c5))]; omega⟩) (by omega) ⟨vi (by rw [← Nat.add_assoc, kc_same (by omega) (by omega) (of_decide_eq_true (ptNe ▸ c5))]), vi (by omega), rfl, rfl, rfl, rfl, rfl, rfl, rfl, rfl, rfl, rfl, rfl, rfl, rfl, rfl, rfl, rfl, rfl, rfl, rfl, rfl, trivial⟩ (fun _ h => h.upto ⟨by rw [← Nat.add_assoc, clo_no (by omega) (by omega) (of_decide_eq_true (ptNe ▸ c5))], trivial⟩)
        · try simp only [decide_eq_true_eq, decide_eq_false_iff_not, beq_iff_eq, beq_eq_false_iff_ne, Bool.not_eq_true', Bool.not_eq_false', Bool.not_true, Bool.not_false, Int.not_lt, Int.not_le, ne_eq, Nat.not_lt, Nat.not_le] at c4
          refine at_exit ?_
          refine pass_then (fun h => by cases h) ?_
          refine pass_then (fun h => by cases h) ?_
          refine pass_hit ?_
          refine norm_then ?_
          refine at_seq ?_
          refine at_region ?_
          refine at_q rfl rfl (by decide) (qt_move rfl rfl) ?_
          refine at_q rfl rfl (by decide) (qt_move rfl rfl) ?_
          refine at_q rfl rfl (by decide) ((qt_sliceL rfl rfl rfl tyl_sl_impl_Pt (by omega)).as (slicedL (b := b) (o := 0) (l := kc xs (k + j)) (h := n) (m := c) (s := 2) hc (by omega))) ?_
          refine at_op rfl ?_
          refine op_clear (k := 0) (zs := zerosP (n - kc xs (k + j))) rfl tyl_sl_impl_Pt tyz_impl_Pt rfl rfl (by omega) rfl rfl (zerosP_one _) (by rw [List.length_append, ptCells_len, hcl, zerosP_len, offL, if_neg (by omega)]; omega) ?_
          refine at_rsE (by simp only [List.nil_append, List.cons_append, List.set_cons_zero, List.set_cons_succ, Value.cells, List.toList_toArray]; rfl) ?_
          refine at_end ?_
          refine at_seq ?_
          refine at_region ?_
          refine at_q rfl rfl (by decide) (qt_move rfl rfl) ?_
          refine at_q rfl rfl (by decide) (qt_move rfl rfl) ?_
          refine at_q rfl rfl (by decide) ((qt_sliceH rfl rfl rfl tyl_sl_impl_Pt (by omega)).as (slicedH _ _ _ _ _)) ?_
          refine at_q rfl rfl (by decide) (qt_assign rfl rfl) ?_
          refine at_end ?_
          refine at_retc ?_
          refine pass_ret ?_
          refine then_ret ?_
          refine then_ret ?_
          refine pass_ret ?_
          refine then_ret ?_
          refine at_ret1 rfl (.tmp rfl) ?_
          intro w' hs
          have hkj : k + j = n := by omega
          have hK : (compP xs).length = kc xs n := by rw [kc, ← hn, List.take_length]
          have hlc : ((clo xs n).flatMap ptCells ++ rest).length = c * 2 := by rw [← hl, List.length_append, List.length_append, ptCells_len, ptCells_len, clo_len (by omega)]
          have hoK : offL 0 (kc xs n) c 2 = 0 + kc xs n * 2 := by rw [offL, if_neg (by rw [← hkj]; omega)]
          rw [hkj, hoK] at hs
          rw [hkj] at hj
          exact ⟨by rw [hK, hkj], hs.over.wr, _, hs.cel (k := 0) rfl, by rw [splice_len]; exact hlc, take_clear hn hlc (by rw [zerosP_len]; omega)⟩
      · try simp only [decide_eq_true_eq, decide_eq_false_iff_not, beq_iff_eq, beq_eq_false_iff_ne, Bool.not_eq_true', Bool.not_eq_false', Bool.not_true, Bool.not_false, Int.not_lt, Int.not_le, ne_eq, Nat.not_lt, Nat.not_le] at c3
        have hne : ¬ pt xs (k - 1) = pt xs k := of_decide_eq_false (ptNe ▸ c3)
        refine at_skip ?_
        refine norm_block ?_
        refine norm_then ?_
        refine at_region ?_
        refine at_q rfl rfl (by decide) (qt_move rfl rfl) ?_
        refine at_q rfl rfl (by decide) (qt_add rfl rfl rfl (by omega) (by omega)) ?_
        refine at_q rfl rfl (by decide) (qt_assign rfl rfl) ?_
        refine at_end ?_
        exact at_againk hL1 (k + 1) (⟨by omega, by omega, fun j h1 h2 => (Nat.lt_or_ge j k).elim (fun h3 => hk.2.2 j h1 h3) (fun h3 => (show k = j by omega) ▸ hne)⟩) (by omega) ⟨vi (by omega), rfl, rfl, trivial⟩ (fun _ h => h.upto ⟨rfl, trivial⟩)
    · try simp only [decide_eq_true_eq, decide_eq_false_iff_not, beq_iff_eq, beq_eq_false_iff_ne, Bool.not_eq_true', Bool.not_eq_false', Bool.not_true, Bool.not_false, Int.not_lt, Int.not_le, ne_eq, Nat.not_lt, Nat.not_le] at c2
      refine at_exit ?_
      refine pass_then (fun h => by cases h) ?_
      refine pass_then (fun h => by cases h) ?_
      refine pass_hit ?_
      refine norm_then ?_
      refine at_seq ?_
      refine at_region ?_
      refine at_q rfl rfl (by decide) (qt_move rfl rfl) ?_
      refine at_q rfl rfl (by decide) (qt_assign rfl rfl) ?_
      refine at_end ?_
      refine at_retc ?_
      refine at_ret1 rfl (.tmp rfl) ?_
      intro w' hs
      have hkn : k = n := by omega
      have hw := compP_whole (xs := xs) fun j h1 h2 => hk.2.2 j h1 (by omega)
      exact ⟨by rw [hw, hn], hs.over.wr, _, hs.cel (k := 0) rfl, hl, by rw [hw]; exact take_whole⟩
/-- A row without neighbours that are the same. -/
theorem Compact_row {N c n : Nat} {A : Option Addr} {xs : List Pn} {w : World} (h : w.ownsRow N 24 2 (.slice A n c) n (xs.flatMap ptCells)) (hn : xs.length = n) (h0 : 0 < n) (hn2 : n ≤ 1048577) :
    Calls Try.prog 149 #[.slice A n c] w fun e w' => e = .returned (.slice A (compP xs).length c) ∧ Wrs (rowR N 24 2 n (xs.flatMap ptCells) (A, c)).F w w' ∧ (rowR N 24 2 (compP xs).length ((compP xs).flatMap ptCells) (A, c)).P w' := by
  rcases h.2 with ⟨_, e⟩ | ⟨g, cap, cur, e, hb, hg, hcap, hmax, hsz, htk⟩
  · omega
  · injection e with e1 e2 e3
    subst e1 e3
    have hcur : cur.toList = xs.flatMap ptCells ++ cur.toList.drop (n * 2) := by rw [← htk, List.take_append_drop]
    have hg' : w.heap[g]? = some (.cells (xs.flatMap ptCells ++ cur.toList.drop (n * 2)).toArray 24 (0, 0)) := by rw [← hcur, Array.toArray_toList]; exact hg
    have hle := compP_len xs
    refine (Compact_cel g _ c n xs (cur.toList.drop (n * 2)) w hg' hcap (by rw [← hcur]; simpa using hsz) hn hn2).mono ?_
    rintro e w' ⟨rfl, hw, cs, hh, hcl, htk'⟩
    refine ⟨rfl, ⟨hw.os, hw.tape, hw.output, hw.size, fun q hq hne => hw.block q hq (fun e => hne (by subst e; rfl))⟩, ?_⟩
    exact ⟨ptCells_len _, .inr ⟨g, c, _, rfl, hb, hh, by omega, hmax, by simpa using hcl, by rw [List.toList_toArray]; exact htk'⟩⟩
theorem pre_cells1 (ls : List Leg) (i : Nat) : (preL ls i 0).flatMap ptCells = (hpI ls i).flatMap ptCells ++ [.int .i64 (lg ls i).ax, .int .i64 (lg ls i).ay, .int .i64 (lg ls i).bx, .int .i64 (lg ls i).b_y] ∧ (preL ls i 0).length = (hpI ls i).length + 2 := by
  unfold preL cz
  rw [List.append_nil, List.flatMap_append, List.length_append]
  exact ⟨rfl, rfl⟩
theorem pre_yes {ls : List Leg} {i k : Nat} (h : meetS (lA (lg ls i)) (lB (lg ls i)) (lA (lg ls k)) (lB (lg ls k)) = 2) : preL ls i (k + 1) = preL ls i k ++ [crP (lA (lg ls i)) (lB (lg ls i)) (lA (lg ls k)) (lB (lg ls k))] := by
  rw [preL, cz, if_pos h, ← List.append_assoc]
  rfl
theorem pre_no {ls : List Leg} {i k : Nat} (h : ¬ meetS (lA (lg ls i)) (lB (lg ls i)) (lA (lg ls k)) (lB (lg ls k)) = 2) : preL ls i (k + 1) = preL ls i k := by
  rw [preL, cz, if_neg h, List.append_nil]
  rfl
theorem cz_bd {ls : List Leg} (hok : ∀ l ∈ ls, legOk l) {i : Nat} (hi : i < ls.length) : ∀ k, k ≤ i → ∀ p ∈ cz ls i k, bdW p
  | 0, _, p, hp => by simp [cz] at hp
  | k + 1, hk, p, hp => by
    unfold cz at hp
    rcases List.mem_append.1 hp with h | h
    · exact cz_bd hok hi k (by omega) p h
    · split at h
      · rename_i hm
        rw [List.mem_singleton.1 h]
        exact crP_bd (lA_ok (lg_ok hok hi)) (lB_ok (lg_ok hok hi)) (lA_ok (lg_ok hok (by omega))) (lB_ok (lg_ok hok (by omega))) (meet2 hm).2
      · simp at h
theorem hpI_bd {ls : List Leg} (hok : ∀ l ∈ ls, legOk l) : ∀ i, i ≤ ls.length → ∀ p ∈ hpI ls i, bdW p
  | 0, _, p, hp => by simp [hpI] at hp
  | i + 1, hi, p, hp => by
    unfold hpI at hp
    rcases List.mem_append.1 hp with h | h
    · rcases List.mem_append.1 h with h | h
      · exact hpI_bd hok i (by omega) p h
      · simp only [List.mem_cons, List.not_mem_nil, or_false] at h
        rcases h with rfl | rfl
        · exact (lA_ok (lg_ok hok (by omega))).wide
        · exact (lB_ok (lg_ok hok (by omega))).wide
    · exact cz_bd hok (by omega) i (Nat.le_refl _) p h
theorem hpI_pos {ls : List Leg} {i : Nat} (h : 0 < i) : 0 < (hpI ls i).length := by
  obtain ⟨j, rfl⟩ : ∃ j, i = j + 1 := ⟨i - 1, by omega⟩
  unfold hpI
  simp
  omega
theorem sort_put {B g c n : Nat} {xs : List Pn} {w : World} (h : (rowR B 24 2 n (xs.flatMap ptCells) (some ⟨g, 0, none⟩, c)).P w) (hl : xs.length = n) (hx : ∀ p ∈ xs, bdW p) (hn : n ≤ 1048576) (h0 : 0 < n) :
    Calls Try.prog 148 #[.slice (some ⟨g, 0, none⟩) n c, .func (.func 97) #[] #[]] w fun e w' => ∃ x : { ys : List Pn // ys.Perm xs ∧ Ris ys }, e = .returned (.tuple #[]) ∧ Wrs (rowR B 24 2 n (xs.flatMap ptCells) (some ⟨g, 0, none⟩, c)).F w w' ∧ (rowR 0 24 2 n (x.1.flatMap ptCells) (some ⟨g, 0, none⟩, c)).P w' ∧ (∀ b, (rowR 0 24 2 n (x.1.flatMap ptCells) (some ⟨g, 0, none⟩, c)).F b → (rowR B 24 2 n (xs.flatMap ptCells) (some ⟨g, 0, none⟩, c)).F b ∨ w.heap.size ≤ b) ∧ (rowR 0 24 2 n (x.1.flatMap ptCells) (some ⟨g, 0, none⟩, c)).B = 0 := by
  refine (sort_row h hl hx hn h0).mono ?_
  rintro e w' ⟨rfl, ys, hp, hr, hw, ho⟩
  exact ⟨⟨ys, hp, hr⟩, rfl, hw.mono fun b hb => by subst hb; rfl, ho, fun b hb => .inl hb, rfl⟩
theorem hotPoints_pos (A : Option Addr) (n c : Nat) (ls : List Leg) (w : World) (h : Legs w A n ls) (hok : ∀ l ∈ ls, legOk l) (hn : n ≤ 400) (hc : n ≤ c) (h0 : 0 < n) :
    Calls Try.prog 102 #[.slice A n c] w fun e w' => ∃ v, e = .returned v ∧ w'.ownsRow w.heap.size 24 2 v (putAll (hpI ls n)).length ((putAll (hpI ls n)).flatMap ptCells) ∧ Over w w' := by
  have hl := h.1
  refine walk_from (m := 64) (Try.func102) rfl rfl (Nat.le_of_ble_eq_true rfl) ?_
  refine at_seq ?_
  refine at_region ?_
  refine at_q rfl rfl (by decide) (qt_assign rfl rfl) ?_
  refine at_end ?_
  refine at_seq ?_
  refine at_region ?_
  refine at_q rfl rfl (by decide) (qt_assign rfl rfl) ?_
  refine at_row0 (T := 24) (s := 2) ?_
  refine at_rsE (by simp only [List.nil_append, List.cons_append, List.set_cons_zero, List.set_cons_succ, Value.cells, List.toList_toArray]; rfl) ?_
  refine at_end ?_
  refine at_seq ?_
  refine at_seq ?_
  refine at_region ?_
  refine at_q rfl rfl (by decide) (qt_move rfl rfl) ?_
  refine at_q rfl rfl (by decide) (qt_len rfl rfl tyl_sl_impl_leg) ?_
  refine at_q rfl rfl (by decide) (qt_move rfl rfl) ?_
  refine at_end ?_
  refine at_block ?_
  refine at_loopc (X := Nat × Option Addr × Nat) (fun x => x.1 ≤ n) (fun x => n - x.1) (fun x => [(3, .slice x.2.1 (hpI ls x.1).length x.2.2), (12, .int .i64 (x.1 : Int))]) (C := [(0, _), (2, _), (10, _), (11, _)]) ⟨rfl, rfl, rfl, rfl, trivial⟩ (fun x => [rowR (Bs.N ⟨w, []⟩) 24 2 (hpI ls x.1).length ((hpI ls x.1).flatMap ptCells) x.2]) (0, none, 0) (Nat.zero_le _) ⟨rfl, rfl, rfl, rfl, rfl, rfl, trivial⟩ (fun _ h => h) ?_
  intro ⟨i, rA, rc⟩ hi L hL1
  refine at_envE (by simp only [List.nil_append, List.cons_append]; rfl) ?_
  refine at_rsE (by first | (dsimp only; done) | (dsimp only; rfl) | rfl) ?_
  have hi : i ≤ n := hi
  refine at_seq ?_
  refine at_region ?_
  refine at_q rfl rfl (by decide) (qt_lss rfl rfl rfl) ?_
  refine at_end ?_
  refine at_seq ?_
  refine at_cond rfl (fun c1 => ?_) (fun c1 => ?_)
  · try simp only [decide_eq_true_eq, decide_eq_false_iff_not, beq_iff_eq, beq_eq_false_iff_ne, Bool.not_eq_true', Bool.not_eq_false', Bool.not_true, Bool.not_false, Int.not_lt, Int.not_le, ne_eq, Nat.not_lt, Nat.not_le] at c1
    have hlt : i < n := (by omega)
    obtain ⟨eb, eo, rfl, _⟩ := h.2 (by omega)
    have hhl := hpI_len ls i
    have hh2 : i * (i + 2) ≤ 400 * 402 := Nat.mul_le_mul (by omega) (by omega)
    refine at_skip ?_
    refine norm_then ?_
    refine at_seq ?_
    refine at_block ?_
    refine at_seq ?_
    refine at_region ?_
    refine at_q rfl rfl (by decide) (qt_move rfl rfl) ?_
    refine at_q rfl rfl (by decide) (qt_index rfl rfl rfl tyl_sl_impl_leg (by omega)) ?_
    refine at_q rfl rfl (by decide) (qt_loadS rfl rfl tys_impl_leg rfl (rdLeg (fun w' hs => h.over hs.fin) hlt)) ?_
    refine at_op rfl ?_
    refine op_alloc rfl tyz_impl_leg rfl (by decide) (fun b1 => ?_)
    refine at_rsE (by simp only [List.nil_append, List.cons_append, List.set_cons_zero, List.set_cons_succ, Value.cells, List.toList_toArray]; rfl) ?_
    refine at_q rfl rfl (by decide) (qt_assign rfl rfl) ?_
    refine at_op rfl ?_
    refine op_storeAll' (k := 1) rfl rfl rfl rfl (rfl) (by rfl) tyz_impl_leg.szx rfl rfl rfl ?_
    refine at_rsE (by simp only [List.nil_append, List.cons_append, List.set_cons_zero, List.set_cons_succ, Value.cells, List.toList_toArray]; rfl) ?_
    refine at_end ?_
    refine at_seq ?_
    refine at_region ?_
    refine at_q rfl rfl (by decide) (qt_move rfl rfl) ?_
    refine at_q rfl rfl (by decide) (qt_fieldAddr rfl rfl tyf_impl_leg_0) ?_
    refine at_q rfl rfl (by decide) (qt_loadS rfl rfl tys_impl_Pt rfl (rd2 (k := 1) rfl rfl rfl)) ?_
    refine at_q rfl rfl (by decide) (qt_fieldAddr rfl rfl tyf_impl_leg_1) ?_
    refine at_q rfl rfl (by decide) (qt_loadS rfl rfl tys_impl_Pt rfl (rd2 (k := 1) rfl rfl rfl)) ?_
    refine at_op rfl ?_
    refine op_buildSlice rfl rfl (bsl_sl_impl_Pt_2_0_1 rfl rfl) rfl (by decide) (fun b2 => ?_)
    refine at_rsE (by simp only [List.nil_append, List.cons_append, List.set_cons_zero, List.set_cons_succ, Value.cells, List.toList_toArray]; rfl) ?_
    refine at_op rfl ?_
    refine op_appendR (k := 0) rfl tyl_sl_impl_Pt tyz_impl_Pt (by decide) rfl (by decide) rfl rfl rfl (fun w' hs => src_cel hs (k := 2) rfl rfl) (by simp [Value.oneCell']) (by unfold maxLen; omega) (by omega) (Nat.le_refl _) (fun r1 => ?_)
    refine at_rsE (by simp only [List.nil_append, List.cons_append, List.set_cons_zero, List.set_cons_succ, Value.cells, List.toList_toArray]; rfl) ?_
    refine at_q rfl rfl (by decide) (qt_assign rfl rfl) ?_
    refine at_end ?_
    refine at_seq ?_
    refine at_region ?_
    refine at_q rfl rfl (by decide) (qt_move rfl rfl) ?_
    refine at_q rfl rfl (by decide) (qt_move rfl rfl) ?_
    refine at_q rfl rfl (by decide) ((qt_sliceH rfl rfl rfl tyl_sl_impl_leg (by omega)).as (slicedH _ _ _ _ _)) ?_
    refine at_q rfl rfl (by decide) (qt_len rfl rfl tyl_sl_impl_leg) ?_
    refine at_q rfl rfl (by decide) (qt_move rfl rfl) ?_
    refine at_end ?_
    refine at_block ?_
    refine at_loopc (X := Nat × Option Addr × Nat) (fun x => x.1 ≤ i) (fun x => i - x.1) (fun x => [(3, .slice x.2.1 (preL ls i x.1).length x.2.2), (28, .int .i64 (x.1 : Int))]) (C := [(0, _), (2, _), (10, _), (11, _), (12, _), (13, _), (14, _), (15, _), (16, _), (5, _), (4, _), (17, _), (18, _), (19, _), (20, _), (21, _), (22, _), (23, _), (24, _), (25, _), (26, _), (27, _)]) ⟨rfl, rfl, rfl, rfl, rfl, rfl, rfl, rfl, rfl, rfl, rfl, rfl, rfl, rfl, rfl, rfl, rfl, rfl, rfl, rfl, rfl, rfl, trivial⟩ (fun x => [rowR (Bs.N ⟨w, []⟩) 24 2 (preL ls i x.1).length ((preL ls i x.1).flatMap ptCells) x.2, .cel b1 122 [.int .i64 (lg ls i).ax, .int .i64 (lg ls i).ay, .int .i64 (lg ls i).bx, .int .i64 (lg ls i).b_y], .cel b2 24 [.int .i64 (lg ls i).ax, .int .i64 (lg ls i).ay, .int .i64 (lg ls i).bx, .int .i64 (lg ls i).b_y]]) (0, r1) (Nat.zero_le _) ⟨(by rw [(pre_cells1 ls i).2]; rfl), rfl, rfl, rfl, rfl, rfl, rfl, rfl, rfl, rfl, rfl, rfl, rfl, rfl, rfl, rfl, rfl, rfl, rfl, rfl, rfl, rfl, rfl, rfl, trivial⟩ (fun _ h => h.upto ⟨by rw [(pre_cells1 ls i).1, (pre_cells1 ls i).2], rfl, rfl, trivial⟩) ?_
    intro ⟨k, qA, qc⟩ hk L hL2
    refine at_envE (by simp only [List.nil_append, List.cons_append]; rfl) ?_
    refine at_rsE (by first | (dsimp only; done) | (dsimp only; rfl) | rfl) ?_
    have hk : k ≤ i := hk
    refine at_seq ?_
    refine at_region ?_
    refine at_q rfl rfl (by decide) (qt_lss rfl rfl rfl) ?_
    refine at_end ?_
    refine at_seq ?_
    refine at_cond rfl (fun c2 => ?_) (fun c2 => ?_)
    · try simp only [decide_eq_true_eq, decide_eq_false_iff_not, beq_iff_eq, beq_eq_false_iff_ne, Bool.not_eq_true', Bool.not_eq_false', Bool.not_true, Bool.not_false, Int.not_lt, Int.not_le, ne_eq, Nat.not_lt, Nat.not_le] at c2
      have hkt : k < i := (by omega)
      have hpl := pre_len (ls := ls) (k := k) (show i < 400 by omega) hk
      refine at_skip ?_
      refine norm_then ?_
      refine at_seq ?_
      refine at_block ?_
      refine at_seq ?_
      refine at_region ?_
      refine at_q rfl rfl (by decide) (qt_index rfl rfl rfl tyl_sl_impl_leg (by omega)) ?_
      refine at_q rfl rfl (by decide) (qt_loadS rfl rfl tys_impl_leg rfl (rdLeg (fun w' hs => h.over hs.fin) (show k < n by omega))) ?_
      refine at_op rfl ?_
      refine op_alloc rfl tyz_impl_leg rfl (by decide) (fun b3 => ?_)
      refine at_rsE (by simp only [List.nil_append, List.cons_append, List.set_cons_zero, List.set_cons_succ, Value.cells, List.toList_toArray]; rfl) ?_
      refine at_op rfl ?_
      refine op_storeAll' (k := 3) rfl rfl rfl rfl (rfl) (by rfl) tyz_impl_leg.szx rfl rfl rfl ?_
      refine at_rsE (by simp only [List.nil_append, List.cons_append, List.set_cons_zero, List.set_cons_succ, Value.cells, List.toList_toArray]; rfl) ?_
      refine at_end ?_
      refine at_seq ?_
      refine at_region ?_
      refine at_q rfl rfl (by decide) (qt_fieldAddr rfl rfl tyf_impl_leg_0) ?_
      refine at_q rfl rfl (by decide) (qt_loadS rfl rfl tys_impl_Pt rfl (rd2 (k := 1) rfl rfl rfl)) ?_
      refine at_q rfl rfl (by decide) (qt_fieldAddr rfl rfl tyf_impl_leg_1) ?_
      refine at_q rfl rfl (by decide) (qt_loadS rfl rfl tys_impl_Pt rfl (rd2 (k := 1) rfl rfl rfl)) ?_
      refine at_q rfl rfl (by decide) (qt_fieldAddr rfl rfl tyf_impl_leg_0) ?_
      refine at_q rfl rfl (by decide) (qt_loadS rfl rfl tys_impl_Pt rfl (rd2 (k := 3) rfl rfl rfl)) ?_
      refine at_q rfl rfl (by decide) (qt_fieldAddr rfl rfl tyf_impl_leg_1) ?_
      refine at_q rfl rfl (by decide) (qt_loadS rfl rfl tys_impl_Pt rfl (rd2 (k := 3) rfl rfl rfl)) ?_
      refine at_q rfl rfl (by decide) (qt_call ok_impl_meeting rfl rfl (fun w _ => meeting_any (lA (lg ls i)) (lB (lg ls i)) (lA (lg ls k)) (lB (lg ls k)) w (lA_ok (lg_ok hok (by omega))) (lB_ok (lg_ok hok (by omega))) (lA_ok (lg_ok hok (by omega))) (lB_ok (lg_ok hok (by omega))))) ?_
      refine at_q rfl rfl (by decide) (qt_move rfl rfl) ?_
      refine at_q rfl rfl (by decide) (qt_extract rfl rfl rfl) ?_
      refine at_q rfl rfl (by decide) (qt_extract rfl rfl rfl) ?_
      refine at_op rfl ?_
      refine op_alloc rfl tyz_impl_Pt rfl (by decide) (fun b4 => ?_)
      refine at_rsE (by simp only [List.nil_append, List.cons_append, List.set_cons_zero, List.set_cons_succ, Value.cells, List.toList_toArray]; rfl) ?_
      refine at_q rfl rfl (by decide) (qt_assign rfl rfl) ?_
      refine at_op rfl ?_
      refine op_storeAll' (k := 4) rfl rfl rfl rfl (rfl) (by rfl) tyz_impl_Pt.szx rfl rfl rfl ?_
      refine at_rsE (by simp only [List.nil_append, List.cons_append, List.set_cons_zero, List.set_cons_succ, Value.cells, List.toList_toArray]; rfl) ?_
      refine at_end ?_
      refine at_seq ?_
      refine at_region ?_
      refine at_q rfl rfl (by decide) (qt_move rfl rfl) ?_
      refine at_q rfl rfl (by decide) (qt_eql rfl rfl rfl) ?_
      refine at_end ?_
      refine at_cond rfl (fun c3 => ?_) (fun c3 => ?_)
      · try simp only [decide_eq_true_eq, decide_eq_false_iff_not, beq_iff_eq, beq_eq_false_iff_ne, Bool.not_eq_true', Bool.not_eq_false', Bool.not_true, Bool.not_false, Int.not_lt, Int.not_le, ne_eq, Nat.not_lt, Nat.not_le] at c3
        have hm2 : meetS (lA (lg ls i)) (lB (lg ls i)) (lA (lg ls k)) (lB (lg ls k)) = 2 := by rw [← (meet_both (lA_ok (lg_ok hok (by omega))) (lB_ok (lg_ok hok (by omega))) (lA_ok (lg_ok hok (by omega))) (lB_ok (lg_ok hok (by omega)))).1]; exact c3
        refine at_region ?_
        refine at_q rfl rfl (by decide) (qt_move rfl rfl) ?_
        refine at_q rfl rfl (by decide) (qt_fieldAddr rfl rfl tyf_impl_leg_0) ?_
        refine at_q rfl rfl (by decide) (qt_loadS rfl rfl tys_impl_Pt rfl (rd2 (k := 1) rfl rfl rfl)) ?_
        refine at_q rfl rfl (by decide) (qt_fieldAddr rfl rfl tyf_impl_leg_1) ?_
        refine at_q rfl rfl (by decide) (qt_loadS rfl rfl tys_impl_Pt rfl (rd2 (k := 1) rfl rfl rfl)) ?_
        refine at_q rfl rfl (by decide) (qt_fieldAddr rfl rfl tyf_impl_leg_0) ?_
        refine at_q rfl rfl (by decide) (qt_loadS rfl rfl tys_impl_Pt rfl (rd2 (k := 3) rfl rfl rfl)) ?_
        refine at_q rfl rfl (by decide) (qt_fieldAddr rfl rfl tyf_impl_leg_1) ?_
        refine at_q rfl rfl (by decide) (qt_loadS rfl rfl tys_impl_Pt rfl (rd2 (k := 3) rfl rfl rfl)) ?_
        refine at_q rfl rfl (by decide) (qt_call ok_impl_crossing rfl rfl (fun w _ => crossing_p (lA (lg ls i)) (lB (lg ls i)) (lA (lg ls k)) (lB (lg ls k)) w (lA_ok (lg_ok hok (by omega))) (lB_ok (lg_ok hok (by omega))) (lA_ok (lg_ok hok (by omega))) (lB_ok (lg_ok hok (by omega))) (meet2 hm2).2)) ?_
        refine at_op rfl ?_
        refine op_buildSlice rfl rfl (bsl_sl_impl_Pt_1_0 rfl) rfl (by decide) (fun b5 => ?_)
        refine at_rsE (by simp only [List.nil_append, List.cons_append, List.set_cons_zero, List.set_cons_succ, Value.cells, List.toList_toArray]; rfl) ?_
        refine at_op rfl ?_
        refine op_appendR (k := 0) rfl tyl_sl_impl_Pt tyz_impl_Pt (by decide) rfl (by decide) rfl rfl rfl (fun w' hs => src_cel hs (k := 5) rfl rfl) (by simp [Value.oneCell']) (by unfold maxLen; omega) (by omega) (Nat.le_refl _) (fun r2 => ?_)
        refine at_rsE (by simp only [List.nil_append, List.cons_append, List.set_cons_zero, List.set_cons_succ, Value.cells, List.toList_toArray]; rfl) ?_
        refine at_q rfl rfl (by decide) (qt_assign rfl rfl) ?_
        refine at_nil ?_
        refine norm_block ?_
        refine norm_then ?_
        refine at_region ?_
        refine at_q rfl rfl (by decide) (qt_add rfl rfl rfl (by omega) (by omega)) ?_
        refine at_q rfl rfl (by decide) (qt_move rfl rfl) ?_
        refine at_end ?_
        exact at_againc hL2 ((k + 1, r2)) ((show k + 1 ≤ i by omega)) (by simp only; omega) ⟨(by rw [pre_yes hm2, List.length_append]; rfl), vi (by omega), rfl, rfl, rfl, rfl, rfl, rfl, rfl, rfl, rfl, rfl, rfl, rfl, rfl, rfl, rfl, rfl, rfl, rfl, rfl, rfl, rfl, rfl, trivial⟩ (fun _ h => h.upto ⟨by rw [pre_yes hm2, List.length_append, List.flatMap_append]; rfl, rfl, rfl, trivial⟩)
      · try simp only [decide_eq_true_eq, decide_eq_false_iff_not, beq_iff_eq, beq_eq_false_iff_ne, Bool.not_eq_true', Bool.not_eq_false', Bool.not_true, Bool.not_false, Int.not_lt, Int.not_le, ne_eq, Nat.not_lt, Nat.not_le] at c3
        have hm2 : ¬ meetS (lA (lg ls i)) (lB (lg ls i)) (lA (lg ls k)) (lB (lg ls k)) = 2 := by rw [← (meet_both (lA_ok (lg_ok hok (by omega))) (lB_ok (lg_ok hok (by omega))) (lA_ok (lg_ok hok (by omega))) (lB_ok (lg_ok hok (by omega)))).1]; exact c3
        refine at_skip ?_
        refine norm_block ?_
        refine norm_then ?_
        refine at_region ?_
        refine at_q rfl rfl (by decide) (qt_add rfl rfl rfl (by omega) (by omega)) ?_
        refine at_q rfl rfl (by decide) (qt_move rfl rfl) ?_
        refine at_end ?_
        exact at_againc hL2 ((k + 1, qA, qc)) ((show k + 1 ≤ i by omega)) (by simp only; omega) ⟨(by rw [pre_no hm2]; rfl), vi (by omega), rfl, rfl, rfl, rfl, rfl, rfl, rfl, rfl, rfl, rfl, rfl, rfl, rfl, rfl, rfl, rfl, rfl, rfl, rfl, rfl, rfl, rfl, trivial⟩ (fun _ h => h.upto ⟨by rw [pre_no hm2], rfl, rfl, trivial⟩)
    · try simp only [decide_eq_true_eq, decide_eq_false_iff_not, beq_iff_eq, beq_eq_false_iff_ne, Bool.not_eq_true', Bool.not_eq_false', Bool.not_true, Bool.not_false, Int.not_lt, Int.not_le, ne_eq, Nat.not_lt, Nat.not_le] at c2
      refine at_exit ?_
      refine pass_then (fun h => by cases h) ?_
      refine pass_then (fun h => by cases h) ?_
      refine pass_hit ?_
      refine norm_block ?_
      refine norm_then ?_
      refine at_region ?_
      refine at_q rfl rfl (by decide) (qt_add rfl rfl rfl (by omega) (by omega)) ?_
      refine at_q rfl rfl (by decide) (qt_move rfl rfl) ?_
      refine at_end ?_
      exact at_againc hL1 ((i + 1, qA, qc)) ((show i + 1 ≤ n by omega)) (by simp only; omega) ⟨(by rw [show k = i by omega]; rfl), vi (by omega), rfl, rfl, rfl, rfl, trivial⟩ (fun _ h => h.upto ⟨by rw [show k = i by omega]; rfl, trivial⟩)
  · try simp only [decide_eq_true_eq, decide_eq_false_iff_not, beq_iff_eq, beq_eq_false_iff_ne, Bool.not_eq_true', Bool.not_eq_false', Bool.not_true, Bool.not_false, Int.not_lt, Int.not_le, ne_eq, Nat.not_lt, Nat.not_le] at c1
    have hin : i = n := by omega
    subst hin
    have hpos := hpI_pos (ls := ls) h0
    have hbd := hpI_bd hok i (by omega)
    have hhl := hpI_len ls i
    have hh2 : i * (i + 2) ≤ 400 * 402 := Nat.mul_le_mul (by omega) (by omega)
    refine at_exit ?_
    refine pass_then (fun h => by cases h) ?_
    refine pass_then (fun h => by cases h) ?_
    refine pass_hit ?_
    refine norm_then ?_
    refine at_seq ?_
    refine at_fact (fun w hs => rowSome (k := 0) rfl hs hpos) ?_
    rintro ⟨eg, rfl⟩
    refine at_region ?_
    refine at_q rfl rfl (by decide) (qt_move rfl rfl) ?_
    refine at_op rfl ?_
    refine op_callP (k := 0) (X := { ys : List Pn // ys.Perm (hpI ls i) ∧ Ris ys }) (v := fun _ => .tuple #[]) (r' := fun x => rowR 0 24 2 _ (x.1.flatMap ptCells) (some ⟨eg, 0, none⟩, rc)) ok_slices_SortFunc_sl_impl_Pt_impl_Pt rfl rfl rfl (by decide) rfl (fun w1 hs => sort_put (hs.all 0 _ rfl).1 rfl hbd (by omega) hpos) ?_
    rintro ⟨ys, hperm, hris⟩
    refine at_rsE (by simp only [List.nil_append, List.cons_append, List.set_cons_zero, List.set_cons_succ, Value.cells, List.toList_toArray]; rfl) ?_
    refine at_end ?_
    refine at_seq ?_
    refine at_region ?_
    refine at_q rfl rfl (by decide) (qt_move rfl rfl) ?_
    refine at_op rfl ?_
    refine op_callw (k := 0) (r' := rowR 0 24 2 (compP ys).length ((compP ys).flatMap ptCells) (some ⟨eg, 0, none⟩, rc)) ok_slices_Compact_sl_impl_Pt_impl_Pt rfl rfl rfl (by decide) rfl (fun w1 hs => Compact_row (hs.all 0 _ rfl).1 hperm.length_eq hpos (by omega)) (fun _ h => h) rfl ?_
    refine at_rsE (by simp only [List.nil_append, List.cons_append, List.set_cons_zero, List.set_cons_succ, Value.cells, List.toList_toArray]; rfl) ?_
    refine at_q rfl rfl (by decide) (qt_assign rfl rfl) ?_
    refine at_end ?_
    refine at_retc ?_
    refine at_ret1 rfl (.tmp rfl) ?_
    intro w' hs
    have hr := hs.all 0 _ rfl
    have he := comp_put hris (fun q => hperm.mem_iff)
    exact ⟨_, rfl, by rw [← he]; exact row_from hr.1 (fun b hb => (hr.2.1 b hb).elim id (fun h => by cases h)), hs.fin⟩
theorem ins_nil (v : Value) (w : World) : Calls Try.prog 186 #[.slice none 0 0, .int .i64 0, .int .i64 0, v] w fun e w' => e = .returned (.tuple #[]) ∧ Over w w' := by
  refine walk_from (m := 53) (Try.func186) rfl rfl (Nat.le_of_ble_eq_true rfl) ?_
  refine at_seq ?_
  refine at_region ?_
  refine at_q rfl rfl (by decide) (qt_move rfl rfl) ?_
  refine at_q rfl rfl (by decide) (qt_add rfl rfl rfl (by omega) (by omega)) ?_
  refine at_q rfl rfl (by decide) (qt_assign rfl rfl) ?_
  refine at_end ?_
  refine at_block ?_
  refine at_loopk (X := Unit) (fun u => True) (fun u => 0) (fun u => [(8, .int .i64 1)]) (C := [(0, _), (1, _), (2, _), (3, _)]) ⟨rfl, rfl, rfl, rfl, trivial⟩ () (trivial) ⟨rfl, rfl, rfl, rfl, rfl, trivial⟩ ?_
  intro u hu L hL1
  refine at_envE (by simp only [List.nil_append, List.cons_append]; rfl) ?_
  refine at_seq ?_
  refine at_seq ?_
  refine at_region ?_
  refine at_q rfl rfl (by decide) (qt_move rfl rfl) ?_
  refine at_q rfl rfl (by decide) (qt_move rfl rfl) ?_
  refine at_q rfl rfl (by decide) (qt_lss rfl rfl rfl) ?_
  refine at_end ?_
  refine at_cond rfl (fun c1 => ?_) (fun c1 => ?_)
  · try simp only [decide_eq_true_eq, decide_eq_false_iff_not, beq_iff_eq, beq_eq_false_iff_ne, Bool.not_eq_true', Bool.not_eq_false', Bool.not_true, Bool.not_false, Int.not_lt, Int.not_le, ne_eq, Nat.not_lt, Nat.not_le] at c1
    omega
  · try simp only [decide_eq_true_eq, decide_eq_false_iff_not, beq_iff_eq, beq_eq_false_iff_ne, Bool.not_eq_true', Bool.not_eq_false', Bool.not_true, Bool.not_false, Int.not_lt, Int.not_le, ne_eq, Nat.not_lt, Nat.not_le] at c1
    refine at_exit ?_
    refine pass_then (fun h => by cases h) ?_
    refine pass_then (fun h => by cases h) ?_
    refine pass_hit ?_
    refine at_end0 rfl ?_
    intro w' hs
    exact ⟨rfl, hs.fin⟩
theorem pdq_nil (l : Int) (v : Value) (w : World) : Calls Try.prog 170 #[.slice none 0 0, .int .i64 0, .int .i64 0, .int .i64 l, v] w fun e w' => e = .returned (.tuple #[]) ∧ Over w w' := by
  refine walk_from (m := 148) (Try.func170) rfl rfl (Nat.le_of_ble_eq_true rfl) ?_
  refine at_seq ?_
  refine at_region ?_
  refine at_q rfl rfl (by decide) (qt_assign rfl rfl) ?_
  refine at_end ?_
  refine at_seq ?_
  refine at_region ?_
  refine at_q rfl rfl (by decide) (qt_assign rfl rfl) ?_
  refine at_end ?_
  refine at_block ?_
  refine at_loopk (X := Unit) (fun u => True) (fun u => 0) (fun u => []) (C := [(0, _), (1, _), (2, _), (3, _), (4, _), (10, _), (11, _)]) ⟨rfl, rfl, rfl, rfl, rfl, rfl, rfl, trivial⟩ () (trivial) ⟨rfl, rfl, rfl, rfl, rfl, rfl, rfl, trivial⟩ ?_
  intro u hu L hL1
  refine at_envE (by simp only [List.nil_append, List.cons_append]; rfl) ?_
  refine at_block ?_
  refine at_seq ?_
  refine at_region ?_
  refine at_q rfl rfl (by decide) (qt_move rfl rfl) ?_
  refine at_q rfl rfl (by decide) (qt_move rfl rfl) ?_
  refine at_q rfl rfl (by decide) (qt_sub rfl rfl rfl (by omega) (by omega)) ?_
  refine at_q rfl rfl (by decide) (qt_assign rfl rfl) ?_
  refine at_end ?_
  refine at_seq ?_
  refine at_seq ?_
  refine at_region ?_
  refine at_q rfl rfl (by decide) (qt_move rfl rfl) ?_
  refine at_q rfl rfl (by decide) (qt_leq rfl rfl rfl) ?_
  refine at_end ?_
  refine at_cond rfl (fun c1 => ?_) (fun c1 => ?_)
  · try simp only [decide_eq_true_eq, decide_eq_false_iff_not, beq_iff_eq, beq_eq_false_iff_ne, Bool.not_eq_true', Bool.not_eq_false', Bool.not_true, Bool.not_false, Int.not_lt, Int.not_le, ne_eq, Nat.not_lt, Nat.not_le] at c1
    refine at_seq ?_
    refine at_region ?_
    refine at_q rfl rfl (by decide) (qt_move rfl rfl) ?_
    refine at_q rfl rfl (by decide) (qt_move rfl rfl) ?_
    refine at_q rfl rfl (by decide) (qt_move rfl rfl) ?_
    refine at_q rfl rfl (by decide) (qt_move rfl rfl) ?_
    refine at_q rfl rfl (by decide) (qt_call ok_slices_insertionSortCmpFunc_impl_Pt rfl rfl (fun w h => ins_nil v w)) ?_
    refine at_end ?_
    refine at_retc ?_
    refine then_ret ?_
    refine pass_ret ?_
    refine then_ret ?_
    refine pass_ret ?_
    refine at_ret0 rfl ?_
    intro w' hs
    exact ⟨rfl, hs.fin⟩
  · try simp only [decide_eq_true_eq, decide_eq_false_iff_not, beq_iff_eq, beq_eq_false_iff_ne, Bool.not_eq_true', Bool.not_eq_false', Bool.not_true, Bool.not_false, Int.not_lt, Int.not_le, ne_eq, Nat.not_lt, Nat.not_le] at c1
    omega
theorem len_nil (w : World) : Calls Try.prog 171 #[.int .u64 0] w fun e w' => (∃ l : Int, e = .returned (.int .i64 l)) ∧ w = w' :=
  (Any.bits_Len (SlLaysF0.n15.bits (P := Try.prog) (ρ := sortPt_ren) { sortPt with }) 0 w (by omega) (by omega)).mono fun _ _ ⟨he, hw⟩ => ⟨⟨_, he⟩, hw.symm⟩
theorem sort_nil (w : World) : Calls Try.prog 148 #[.slice none 0 0, .func (.func 97) #[] #[]] w fun e w' => e = .returned (.tuple #[]) ∧ Over w w' := by
  go_enter Try.func148, Try.ntmps148
  go_wp2_with fail
  go_at_call 171
  refine (len_nil _).mono ?_
  rintro e w1 ⟨⟨l, rfl⟩, rfl⟩
  go_wp2_with fail
  go_at_call 170
  refine (pdq_nil _ _ _).mono ?_
  rintro e w1 ⟨rfl, hb⟩
  go_wp2_with fail
  go_end0
  exact ⟨rfl, hb⟩
theorem Compact_nil (w : World) : Calls Try.prog 149 #[.slice none 0 0] w fun e w' => e = .returned (.slice none 0 0) ∧ Over w w' := by
  refine walk_from (m := 61) (Try.func149) rfl rfl (Nat.le_of_ble_eq_true rfl) ?_
  refine at_seq ?_
  refine at_region ?_
  refine at_q rfl rfl (by decide) (qt_assign rfl rfl) ?_
  refine at_end ?_
  refine at_seq ?_
  refine at_seq ?_
  refine at_region ?_
  refine at_q rfl rfl (by decide) (qt_move rfl rfl) ?_
  refine at_q rfl rfl (by decide) (qt_len rfl rfl tyl_sl_impl_Pt) ?_
  refine at_q rfl rfl (by decide) (qt_lss rfl rfl rfl) ?_
  refine at_end ?_
  refine at_cond rfl (fun c1 => ?_) (fun c1 => ?_)
  · try simp only [decide_eq_true_eq, decide_eq_false_iff_not, beq_iff_eq, beq_eq_false_iff_ne, Bool.not_eq_true', Bool.not_eq_false', Bool.not_true, Bool.not_false, Int.not_lt, Int.not_le, ne_eq, Nat.not_lt, Nat.not_le] at c1
    refine at_seq ?_
    refine at_region ?_
    refine at_q rfl rfl (by decide) (qt_move rfl rfl) ?_
    refine at_q rfl rfl (by decide) (qt_assign rfl rfl) ?_
    refine at_end ?_
    refine at_retc ?_
    refine then_ret ?_
    refine at_ret1 rfl (.tmp rfl) ?_
    intro w' hs
    exact ⟨rfl, hs.fin⟩
  · try simp only [decide_eq_true_eq, decide_eq_false_iff_not, beq_iff_eq, beq_eq_false_iff_ne, Bool.not_eq_true', Bool.not_eq_false', Bool.not_true, Bool.not_false, Int.not_lt, Int.not_le, ne_eq, Nat.not_lt, Nat.not_le] at c1
    omega
theorem hotPoints_nil (A : Option Addr) (c : Nat) (w : World) :
    Calls Try.prog 102 #[.slice A 0 c] w fun e w' => e = .returned (.slice none 0 0) ∧ Over w w' := by
  refine walk_from (m := 64) (Try.func102) rfl rfl (Nat.le_of_ble_eq_true rfl) ?_
  refine at_seq ?_
  refine at_region ?_
  refine at_q rfl rfl (by decide) (qt_assign rfl rfl) ?_
  refine at_end ?_
  refine at_seq ?_
  refine at_region ?_
  refine at_q rfl rfl (by decide) (qt_assign rfl rfl) ?_
  refine at_end ?_
  refine at_seq ?_
  refine at_seq ?_
  refine at_region ?_
  refine at_q rfl rfl (by decide) (qt_move rfl rfl) ?_
  refine at_q rfl rfl (by decide) (qt_len rfl rfl tyl_sl_impl_leg) ?_
  refine at_q rfl rfl (by decide) (qt_move rfl rfl) ?_
  refine at_end ?_
  refine at_block ?_
  refine at_loopk (X := Unit) (fun u => True) (fun u => 0) (fun u => [(3, .slice none 0 0), (12, .int .i64 0)]) (C := [(0, _), (2, _), (10, _), (11, _)]) ⟨rfl, rfl, rfl, rfl, trivial⟩ () (trivial) ⟨rfl, rfl, rfl, rfl, rfl, rfl, trivial⟩ ?_
  intro u hu L hL1
  refine at_envE (by simp only [List.nil_append, List.cons_append]; rfl) ?_
  refine at_seq ?_
  refine at_region ?_
  refine at_q rfl rfl (by decide) (qt_lss rfl rfl rfl) ?_
  refine at_end ?_
  refine at_seq ?_
  refine at_cond rfl (fun c1 => ?_) (fun c1 => ?_)
  · try simp only [decide_eq_true_eq, decide_eq_false_iff_not, beq_iff_eq, beq_eq_false_iff_ne, Bool.not_eq_true', Bool.not_eq_false', Bool.not_true, Bool.not_false, Int.not_lt, Int.not_le, ne_eq, Nat.not_lt, Nat.not_le] at c1
    omega
  · try simp only [decide_eq_true_eq, decide_eq_false_iff_not, beq_iff_eq, beq_eq_false_iff_ne, Bool.not_eq_true', Bool.not_eq_false', Bool.not_true, Bool.not_false, Int.not_lt, Int.not_le, ne_eq, Nat.not_lt, Nat.not_le] at c1
    refine at_exit ?_
    refine pass_then (fun h => by cases h) ?_
    refine pass_then (fun h => by cases h) ?_
    refine pass_hit ?_
    refine norm_then ?_
    refine at_seq ?_
    refine at_region ?_
    refine at_q rfl rfl (by decide) (qt_move rfl rfl) ?_
    refine at_q rfl rfl (by decide) (qt_call ok_slices_SortFunc_sl_impl_Pt_impl_Pt rfl rfl (fun w h => sort_nil w)) ?_
    refine at_end ?_
    refine at_seq ?_
    refine at_region ?_
    refine at_q rfl rfl (by decide) (qt_move rfl rfl) ?_
    refine at_q rfl rfl (by decide) (qt_call ok_slices_Compact_sl_impl_Pt_impl_Pt rfl rfl (fun w h => Compact_nil w)) ?_
    refine at_q rfl rfl (by decide) (qt_assign rfl rfl) ?_
    refine at_end ?_
    refine at_retc ?_
    refine at_ret1 rfl (.tmp rfl) ?_
    intro w' hs
    exact ⟨rfl, hs.fin⟩
theorem hotPoints_any (A : Option Addr) (n c : Nat) (ls : List Leg) (w : World) (h : Legs w A n ls) (hok : ∀ l ∈ ls, legOk l) (hn : n ≤ 400) (hc : n ≤ c) :
    Calls Try.prog 102 #[.slice A n c] w fun e w' => ∃ v, e = .returned v ∧ w'.ownsRow w.heap.size 24 2 v (putAll (hpI ls n)).length ((putAll (hpI ls n)).flatMap ptCells) ∧ Over w w' := by
  by_cases h0 : 0 < n
  · exact hotPoints_pos A n c ls w h hok hn hc h0
  · obtain rfl : n = 0 := by omega
    refine (hotPoints_nil A c w).mono ?_
    rintro e w' ⟨rfl, hO⟩
    exact ⟨_, rfl, ⟨rfl, .inl ⟨rfl, rfl⟩⟩, hO⟩
/-- The hot points of a region; the code. -/
def htR (rs : List Ring_) : List Pn := if regionB rs = true then putAll (hpI (edgesAll rs) (edgesAll rs).length) else []
def htC (rs : List Ring_) : Int := if regionB rs = true then 0 else 1
theorem reg400 {rs : List Ring_} (h : regionB rs = true) : (edgesAll rs).length ≤ 400 := by
  simp only [regionB, Bool.and_eq_true, decide_eq_true_eq] at h
  exact h.2
theorem rowOwn3 {w w' : World} {Rs : List Res} (hs : St ⟨w, []⟩ Rs w') {k B T n : Nat} {x : Option Addr × Nat} {xs : List (Int × Int)} (hk : Rs[k]? = some (rowR B T 2 n (xs.flatMap ptCells) x)) (hn : xs.length = n) : OwnP w.heap.size w'.heap.size w' x.1 n xs := by
  have hr := hs.all k _ hk
  have h := ownP_row (x := x) hr.1 hn
  refine ⟨h.1, fun h0 => ?_⟩
  obtain ⟨b, o, T', cs, e, _, _, hh, hc⟩ := h.2 h0
  refine ⟨b, o, T', cs, e, ?_, lt_of_some hh, hh, hc⟩
  exact (hr.2.1 b (by show Value.ownBlock (.slice x.1 n x.2) = some b; rw [e]; rfl)).elim id (fun h => by cases h)
theorem HotPoints_any (A : Option Addr) (n c : Nat) (rs : List Ring_) (w : World) (h : Rings w A n rs) (ht : (total rs : Int) ≤ 1048577) :
    Calls Try.prog 52 #[regV A n c] w fun e w' => ∃ A' c', e = .returned (.tuple #[.slice A' (htR rs).length c', .int .i64 (htC rs)]) ∧ OwnP w.heap.size w'.heap.size w' A' (htR rs).length (htR rs) ∧ Over w w' := by
  have hl := h.1
  refine walk_from (m := 10) (Try.func52) rfl rfl (Nat.le_of_ble_eq_true rfl) ?_
  refine at_seq ?_
  refine at_region ?_
  refine at_op rfl ?_
  refine op_box rfl rfl (rfl) rfl (by decide) (fun b1 => ?_)
  refine at_rsE (by simp only [List.nil_append, List.cons_append, List.set_cons_zero, List.set_cons_succ, Value.cells, List.toList_toArray]; rfl) ?_
  refine at_q rfl rfl (by decide) (qt_assign rfl rfl) ?_
  refine at_q rfl rfl (by decide) (qt_assign rfl rfl) ?_
  refine at_end ?_
  refine at_seq ?_
  refine at_seq ?_
  refine at_region ?_
  refine at_q rfl rfl (by decide) (qt_loadS rfl rfl tys_impl_Region rfl (rdAll (k := 0) rfl)) ?_
  refine at_q rfl rfl (by decide) (qt_call ok_impl_ValidRegion rfl rfl (fun w1 hs => ValidRegion_any A n c rs w1 (h.over hs.fin) ht)) ?_
  refine at_q rfl rfl (by decide) (qt_not rfl rfl) ?_
  refine at_end ?_
  refine at_cond rfl (fun c1 => ?_) (fun c1 => ?_)
  · try simp only [decide_eq_true_eq, decide_eq_false_iff_not, beq_iff_eq, beq_eq_false_iff_ne, Bool.not_eq_true', Bool.not_eq_false', Bool.not_true, Bool.not_false, Int.not_lt, Int.not_le, ne_eq, Nat.not_lt, Nat.not_le] at c1
    refine at_seq ?_
    refine at_region ?_
    refine at_q rfl rfl (by decide) (qt_assign rfl rfl) ?_
    refine at_q rfl rfl (by decide) (qt_assign rfl rfl) ?_
    refine at_end ?_
    refine at_retc ?_
    refine then_ret ?_
    refine at_ret2 rfl (.tmp rfl) (.tmp rfl) ?_
    intro w' hs
    exact ⟨none, 0, by simp [htR, htC, c1], by simp only [htR, c1]; exact OwnP.nil none, hs.fin⟩
  · try simp only [decide_eq_true_eq, decide_eq_false_iff_not, beq_iff_eq, beq_eq_false_iff_ne, Bool.not_eq_true', Bool.not_eq_false', Bool.not_true, Bool.not_false, Int.not_lt, Int.not_le, ne_eq, Nat.not_lt, Nat.not_le] at c1
    have hr : regionB rs = true := by simpa using c1
    have hok := regOk hr
    have h4 := reg400 hr
    refine at_skip ?_
    refine norm_then ?_
    refine at_seq ?_
    refine at_region ?_
    refine at_q rfl rfl (by decide) (qt_loadS rfl rfl tys_impl_Region rfl (rdAll (k := 0) rfl)) ?_
    refine at_op rfl ?_
    refine op_call ok_impl_edgesOf (v := fun x => .slice x.1 _ x.2) (r := fun x => rowR 0 122 4 _ _ x) (H := fun _ => True) rfl rfl rfl (by decide) (fun w1 hs => newRow' (edgesOf_any A n c rs w1 (h.over hs.fin) ht)) ?_
    rintro ⟨eA, ec⟩ -
    refine at_rsE (by simp only [List.nil_append, List.cons_append, List.set_cons_zero, List.set_cons_succ, Value.cells, List.toList_toArray]; rfl) ?_
    refine at_op rfl ?_
    refine op_call ok_impl_hotPoints (v := fun x => .slice x.1 _ x.2) (r := fun x => rowR 0 24 2 _ _ x) (H := fun _ => True) rfl rfl rfl (by decide) (fun w1 hs => newRow' (hotPoints_any eA _ ec (edgesAll rs) w1 (rowLegs (k := 1) rfl rfl w1 hs) hok h4 (rowCap (hs.all 1 _ rfl).1))) ?_
    rintro ⟨pA, pc⟩ -
    refine at_rsE (by simp only [List.nil_append, List.cons_append, List.set_cons_zero, List.set_cons_succ, Value.cells, List.toList_toArray]; rfl) ?_
    refine at_q rfl rfl (by decide) (qt_assign rfl rfl) ?_
    refine at_q rfl rfl (by decide) (qt_assign rfl rfl) ?_
    refine at_end ?_
    refine at_retc ?_
    refine at_ret2 rfl (.tmp rfl) (.tmp rfl) ?_
    intro w' hs
    have e1 : htR rs = putAll (hpI (edgesAll rs) (edgesAll rs).length) := if_pos hr
    have e2 : htC rs = 0 := if_pos hr
    exact ⟨pA, pc, by rw [e1, e2], by rw [e1]; exact rowOwn3 hs (k := 2) rfl rfl, hs.fin⟩
theorem specHotPoints_any (A : Option Addr) (n c : Nat) (rs : List Ring_) (w : World) (h : Rings w A n rs) (ht : (total rs : Int) ≤ 1048577) :
    Calls Try.prog 51 #[regV A n c] w fun e w' => ∃ A' c', e = .returned (.tuple #[.slice A' (htR rs).length c', .int .i64 (htC rs)]) ∧ OwnP w.heap.size w'.heap.size w' A' (htR rs).length (htR rs) ∧ Over w w' := by
  have hl := h.1
  refine walk_from (m := 8) (Try.func51) rfl rfl (Nat.le_of_ble_eq_true rfl) ?_
  refine at_seq ?_
  refine at_region ?_
  refine at_op rfl ?_
  refine op_box rfl rfl (rfl) rfl (by decide) (fun b1 => ?_)
  refine at_rsE (by simp only [List.nil_append, List.cons_append, List.set_cons_zero, List.set_cons_succ, Value.cells, List.toList_toArray]; rfl) ?_
  refine at_q rfl rfl (by decide) (qt_assign rfl rfl) ?_
  refine at_q rfl rfl (by decide) (qt_assign rfl rfl) ?_
  refine at_end ?_
  refine at_seq ?_
  refine at_seq ?_
  refine at_region ?_
  refine at_q rfl rfl (by decide) (qt_call ok_spec_l13Ok rfl rfl (fun w1 hs => l13Ok_any _ _ A n c rs w1 (rd1 (k := 0) rfl rfl w1 hs) (lt_of_some (hs.cel (k := 0) rfl)) (h.over hs.fin) ht)) ?_
  refine at_q rfl rfl (by decide) (qt_not rfl rfl) ?_
  refine at_end ?_
  refine at_cond rfl (fun c1 => ?_) (fun c1 => ?_)
  · try simp only [decide_eq_true_eq, decide_eq_false_iff_not, beq_iff_eq, beq_eq_false_iff_ne, Bool.not_eq_true', Bool.not_eq_false', Bool.not_true, Bool.not_false, Int.not_lt, Int.not_le, ne_eq, Nat.not_lt, Nat.not_le] at c1
    refine at_seq ?_
    refine at_region ?_
    refine at_q rfl rfl (by decide) (qt_assign rfl rfl) ?_
    refine at_q rfl rfl (by decide) (qt_assign rfl rfl) ?_
    refine at_end ?_
    refine at_retc ?_
    refine then_ret ?_
    refine at_ret2 rfl (.tmp rfl) (.tmp rfl) ?_
    intro w' hs
    exact ⟨none, 0, by simp [htR, htC, c1], by simp only [htR, c1]; exact OwnP.nil none, hs.fin⟩
  · try simp only [decide_eq_true_eq, decide_eq_false_iff_not, beq_iff_eq, beq_eq_false_iff_ne, Bool.not_eq_true', Bool.not_eq_false', Bool.not_true, Bool.not_false, Int.not_lt, Int.not_le, ne_eq, Nat.not_lt, Nat.not_le] at c1
    have hr : regionB rs = true := by simpa using c1
    have hok := regOk hr
    have h4 := reg400 hr
    refine at_skip ?_
    refine norm_then ?_
    refine at_seq ?_
    refine at_region ?_
    refine at_op rfl ?_
    refine op_call ok_spec_l13All (v := fun x => .slice x.1 _ x.2) (r := fun x => rowR 0 117 4 _ _ x) (H := fun _ => True) rfl rfl rfl (by decide) (fun w1 hs => newRow' ((l13All_any _ _ A n c rs w1 (rd1 (k := 0) rfl rfl w1 hs) (lt_of_some (hs.cel (k := 0) rfl)) (h.over hs.fin) ht).mono fun e w' ⟨v, h1, _, h2, h3⟩ => ⟨v, h1, h2, h3⟩)) ?_
    rintro ⟨eA, ec⟩ -
    refine at_rsE (by simp only [List.nil_append, List.cons_append, List.set_cons_zero, List.set_cons_succ, Value.cells, List.toList_toArray]; rfl) ?_
    refine at_op rfl ?_
    refine op_call ok_spec_l13Hot (v := fun x => .slice x.1 _ x.2) (r := fun x => rowR 0 24 2 _ _ x) (H := fun _ => True) rfl rfl rfl (by decide) (fun w1 hs => newRow' (l13Hot_any eA _ ec (edgesAll rs) w1 (rowLegs (k := 1) rfl rfl w1 hs) hok h4)) ?_
    rintro ⟨pA, pc⟩ -
    refine at_rsE (by simp only [List.nil_append, List.cons_append, List.set_cons_zero, List.set_cons_succ, Value.cells, List.toList_toArray]; rfl) ?_
    refine at_q rfl rfl (by decide) (qt_assign rfl rfl) ?_
    refine at_q rfl rfl (by decide) (qt_assign rfl rfl) ?_
    refine at_end ?_
    refine at_retc ?_
    refine at_ret2 rfl (.tmp rfl) (.tmp rfl) ?_
    intro w' hs
    have e1 : htR rs = putAll (hpI (edgesAll rs) (edgesAll rs).length) := if_pos hr
    have e2 : htC rs = 0 := if_pos hr
    exact ⟨pA, pc, by rw [e1, e2], by rw [e1]; exact rowOwn3 hs (k := 2) rfl rfl, hs.fin⟩
theorem htR_len (rs : List Ring_) : (htR rs).length ≤ 200000 := by
  unfold htR
  split
  · rename_i h
    have h1 := reg400 h
    have h2 := putAll_len (hpI (edgesAll rs) (edgesAll rs).length)
    have h3 := hpI_len (edgesAll rs) (edgesAll rs).length
    have h4 : (edgesAll rs).length * ((edgesAll rs).length + 2) ≤ 400 * 402 := Nat.mul_le_mul h1 (by omega)
    omega
  · simp
theorem slcCode {P : Program} {f : FuncId} {args : Array Value} {w1 : World} {xs : List (Int × Int)} {code : Int} (h : Calls P f args w1 fun e w' => ∃ A' c', e = .returned (.tuple #[.slice A' xs.length c', .int .i64 code]) ∧ OwnP w1.heap.size w'.heap.size w' A' xs.length xs ∧ Over w1 w') :
    Calls P f args w1 fun e w' => ∃ x : (Option Addr × Nat) × Nat × Nat, e = .returned (.tuple #[.slice x.1.1 xs.length x.1.2, .int .i64 code]) ∧ Over w1 w' ∧ (ptsR xs.length xs x.2.1 x.2.2 x.1.1).P w' ∧ (∀ b, (ptsR xs.length xs x.2.1 x.2.2 x.1.1).F b → w1.heap.size ≤ b) ∧ (ptsR xs.length xs x.2.1 x.2.2 x.1.1).B = 0 ∧ True :=
  ptsNew (V := fun A c => .tuple #[.slice A xs.length c, .int .i64 code]) h
theorem markSlc {lo hi n c : Nat} {A : Option Addr} {xs : List (Int × Int)} {w : World} (h : OwnP lo hi w A n xs) (hz : hi ≤ w.heap.size) (hb : 1 + 2 * (n : Int) ≤ 4611686018427387904) :
    Calls Try.prog 47 #[.slice A n c, .int .i64 1] w fun e w' => e = .returned (.int .i64 (1 + 2 * (n : Int))) ∧ Wrs (ptsR n xs lo hi A).F w w' ∧ (ptsR n (marks 1 n) lo hi A).P w' :=
  (markPtS_any lo hi A n c xs 1 w h (by omega) hb).mono (by rintro e w' ⟨he, hw, hg⟩; exact ⟨he, hw.mono fun _ h => h.2.2, ptsP hg (Nat.le_trans hz hw.size)⟩)
theorem law_HotPoints (A : Option Addr) (n c : Nat) (rs : List Ring_) (w : World) (h : Rings w A n rs) (hm : (n : Int) ≤ 9223372036854775807) :
    Calls Try.prog 12 #[regV A n c] w fun e w' => e = .returned (.bool true) ∧ Over w w' := by
  have hl := h.1
  have hz : (total rs : Int) ≤ 1048576 → szV 1048576 (total rs) = 1048576 - total rs := szV_small
  have hz2 : ¬ (total rs : Int) ≤ 1048576 → szV 1048576 (total rs) = -1 := szV_big
  have hsm := htR_len rs
  refine walk_from (m := 96) (Try.func12) rfl rfl (Nat.le_of_ble_eq_true rfl) ?_
  refine at_seq ?_
  refine at_region ?_
  refine at_op rfl ?_
  refine op_box rfl rfl (rfl) rfl (by decide) (fun b1 => ?_)
  refine at_rsE (by simp only [List.nil_append, List.cons_append, List.set_cons_zero, List.set_cons_succ, Value.cells, List.toList_toArray]; rfl) ?_
  refine at_q rfl rfl (by decide) (qt_assign rfl rfl) ?_
  refine at_end ?_
  refine at_seq ?_
  refine at_region ?_
  refine at_q rfl rfl (by decide) (qt_assign rfl rfl) ?_
  refine at_end ?_
  refine at_seq ?_
  refine at_region ?_
  refine at_q rfl rfl (by decide) (qt_loadS rfl rfl tys_laws_Region rfl (rdAll (k := 0) rfl)) ?_
  refine at_q rfl rfl (by decide) (qt_move rfl rfl) ?_
  refine at_q rfl rfl (by decide) (qt_call ok_laws_szRegion rfl rfl (fun w1 hs => szRegion_any A n c rs 1048576 w1 (h.over hs.fin) (by omega) (by omega) hm)) ?_
  refine at_q rfl rfl (by decide) (qt_assign rfl rfl) ?_
  refine at_end ?_
  refine at_seq ?_
  refine at_seq ?_
  refine at_region ?_
  refine at_q rfl rfl (by decide) (qt_move rfl rfl) ?_
  refine at_q rfl rfl (by decide) (qt_lss rfl rfl rfl) ?_
  refine at_end ?_
  refine at_cond rfl (fun c1 => ?_) (fun c1 => ?_)
  · try simp only [decide_eq_true_eq, decide_eq_false_iff_not, beq_iff_eq, beq_eq_false_iff_ne, Bool.not_eq_true', Bool.not_eq_false', Bool.not_true, Bool.not_false, Int.not_lt, Int.not_le, ne_eq, Nat.not_lt, Nat.not_le] at c1
    refine at_seq ?_
    refine at_region ?_
    refine at_q rfl rfl (by decide) (qt_assign rfl rfl) ?_
    refine at_end ?_
    refine at_retc ?_
    refine then_ret ?_
    refine at_ret1 rfl (.tmp rfl) ?_
    intro w' hs
    exact ⟨rfl, hs.fin⟩
  · try simp only [decide_eq_true_eq, decide_eq_false_iff_not, beq_iff_eq, beq_eq_false_iff_ne, Bool.not_eq_true', Bool.not_eq_false', Bool.not_true, Bool.not_false, Int.not_lt, Int.not_le, ne_eq, Nat.not_lt, Nat.not_le] at c1
    have ht : (total rs : Int) ≤ 1048576 := Decidable.byContradiction fun ht => by have := hz2 ht; omega
    clear hz hz2 hm
    have hts := total_sum ht hl
    refine at_skip ?_
    refine norm_then ?_
    refine at_seq ?_
    refine at_region ?_
    refine at_q rfl rfl (by decide) (qt_loadS rfl rfl tys_laws_Region rfl (rdAll (k := 0) rfl)) ?_
    refine at_op rfl ?_
    refine op_call ok_laws_toRegion (X := Nat × Nat × Nat) (v := fun x => regV (some ⟨x.1, 0, none⟩) n n) (r := fun x => gegR n rs x.2.1 x.2.2 (some ⟨x.1, 0, none⟩)) (H := fun _ => True) rfl rfl rfl (by decide) (fun w1 hs => gegNew1 (toRegion_new A n c rs w1 (h.over hs.fin) ht)) ?_
    rintro ⟨tg, tlo, thi⟩ -
    refine at_rsE (by simp only [List.nil_append, List.cons_append, List.set_cons_zero, List.set_cons_succ, Value.cells, List.toList_toArray]; rfl) ?_
    refine at_op rfl ?_
    refine op_call ok_spec_HotPoints (X := (Option Addr × Nat) × Nat × Nat) (v := fun x => .tuple #[.slice x.1.1 _ x.1.2, .int .i64 _]) (r := fun x => ptsR _ _ x.2.1 x.2.2 x.1.1) (H := fun _ => True) rfl rfl rfl (by decide) (fun w1 hs => slcCode (specHotPoints_any _ n n rs w1 (gegRings (k := 1) rfl w1 hs) (Int.le_trans ht (by decide)))) ?_
    rintro ⟨⟨wA, wc⟩, wlo, whi⟩ -
    refine at_rsE (by simp only [List.nil_append, List.cons_append, List.set_cons_zero, List.set_cons_succ, Value.cells, List.toList_toArray]; rfl) ?_
    refine at_q rfl rfl (by decide) (qt_move rfl rfl) ?_
    refine at_q rfl rfl (by decide) (qt_extract rfl rfl rfl) ?_
    refine at_q rfl rfl (by decide) (qt_extract rfl rfl rfl) ?_
    refine at_q rfl rfl (by decide) (qt_assign rfl rfl) ?_
    refine at_q rfl rfl (by decide) (qt_assign rfl rfl) ?_
    refine at_end ?_
    refine at_seq ?_
    refine at_region ?_
    refine at_q rfl rfl (by decide) (qt_loadS rfl rfl tys_laws_Region rfl (rdAll (k := 0) rfl)) ?_
    refine at_op rfl ?_
    refine op_call ok_laws_toRegion (X := Nat × Nat × Nat) (v := fun x => regV (some ⟨x.1, 0, none⟩) n n) (r := fun x => gegR n rs x.2.1 x.2.2 (some ⟨x.1, 0, none⟩)) (H := fun _ => True) rfl rfl rfl (by decide) (fun w1 hs => gegNew1 (toRegion_new A n c rs w1 (h.over hs.fin) ht)) ?_
    rintro ⟨tg, tlo, thi⟩ -
    refine at_rsE (by simp only [List.nil_append, List.cons_append, List.set_cons_zero, List.set_cons_succ, Value.cells, List.toList_toArray]; rfl) ?_
    refine at_op rfl ?_
    refine op_alloc rfl tyz_impl_Region rfl (by decide) (fun b2 => ?_)
    refine at_rsE (by simp only [List.nil_append, List.cons_append, List.set_cons_zero, List.set_cons_succ, Value.cells, List.toList_toArray]; rfl) ?_
    refine at_op rfl ?_
    refine op_storeAll' (k := 4) rfl rfl rfl rfl (rfl) (by rfl) tyz_impl_Region.szx rfl rfl rfl ?_
    refine at_rsE (by simp only [List.nil_append, List.cons_append, List.set_cons_zero, List.set_cons_succ, Value.cells, List.toList_toArray]; rfl) ?_
    refine at_end ?_
    refine at_seq ?_
    refine at_region ?_
    refine at_q rfl rfl (by decide) (qt_loadS rfl rfl tys_impl_Region rfl (rdAll (k := 4) rfl)) ?_
    refine at_op rfl ?_
    refine op_call ok_impl_HotPoints (X := (Option Addr × Nat) × Nat × Nat) (v := fun x => .tuple #[.slice x.1.1 _ x.1.2, .int .i64 _]) (r := fun x => ptsR _ _ x.2.1 x.2.2 x.1.1) (H := fun _ => True) rfl rfl rfl (by decide) (fun w1 hs => slcCode (HotPoints_any _ n n rs w1 (gegRings (k := 3) rfl w1 hs) (Int.le_trans ht (by decide)))) ?_
    rintro ⟨⟨gA, gc⟩, glo, ghi⟩ -
    refine at_rsE (by simp only [List.nil_append, List.cons_append, List.set_cons_zero, List.set_cons_succ, Value.cells, List.toList_toArray]; rfl) ?_
    refine at_q rfl rfl (by decide) (qt_move rfl rfl) ?_
    refine at_q rfl rfl (by decide) (qt_extract rfl rfl rfl) ?_
    refine at_q rfl rfl (by decide) (qt_extract rfl rfl rfl) ?_
    refine at_q rfl rfl (by decide) (qt_assign rfl rfl) ?_
    refine at_q rfl rfl (by decide) (qt_assign rfl rfl) ?_
    refine at_end ?_
    refine at_seq ?_
    refine at_seq ?_
    refine at_region ?_
    refine at_q rfl rfl (by decide) (qt_move rfl rfl) ?_
    refine at_q rfl rfl (by decide) (qt_move rfl rfl) ?_
    refine at_q rfl rfl (by decide) (qt_call ok_laws_eqPtS rfl rfl (fun w1 hs => eqPtS_same _ _ _ _ _ (htR rs) w1 (ptsPts (k := 5) rfl w1 hs) (ptsPts (k := 2) rfl w1 hs) (by omega))) ?_
    refine at_q rfl rfl (by decide) (qt_not rfl rfl) ?_
    refine at_q rfl rfl (by decide) (qt_move rfl rfl) ?_
    refine at_as 36 (.bool false) rfl (by rw [notTrue]) ?_
    refine at_on rfl rfl rfl rfl ?_
    refine op_q rfl (by decide) (qt_move rfl rfl) ?_
    refine at_on rfl rfl rfl rfl ?_
    refine op_q rfl (by decide) (qt_move rfl rfl) ?_
    refine at_on rfl rfl rfl rfl ?_
    refine op_q rfl (by decide) (qt_neq rfl rfl rfl) ?_
    refine at_q rfl rfl (by decide) (qt_pickF rfl rfl rfl) ?_
    refine at_end ?_
    refine at_no rfl (neSelf _) ?_
    refine at_skip ?_
    refine norm_then ?_
    refine at_seq ?_
    refine at_seq ?_
    refine dg_start mixed rfl ?_
    refine dg_phase 5 ?_
    refine dg_q (i := 0) rfl (by kernel_rfl) (by kernel_rfl) (by kernel_rfl) [] (by kernel_rfl) (fun _ _ _ h => h) rfl rfl (by decide) (fun _ h => h.upto ⟨rfl, rfl, rfl, rfl, rfl, rfl, trivial⟩) (qt_loadS rfl rfl tys_impl_Region rfl (rdAll (k := 4) rfl)) ?_
    refine dg_q (i := 1) rfl (by kernel_rfl) (by kernel_rfl) (by kernel_rfl) [] (by kernel_rfl) (fun _ _ _ h => h) rfl rfl (by decide) (fun _ h => h.upto ⟨rfl, rfl, rfl, rfl, rfl, rfl, trivial⟩) (qt_loadS rfl rfl tys_laws_Region rfl (rdAll (k := 0) rfl)) ?_
    refine dg_one (i := 2) rfl (by decide) (by kernel_rfl) rfl ?_
    refine op_call ok_laws_toRegion (X := Nat × Nat × Nat) (v := fun x => regV (some ⟨x.1, 0, none⟩) n n) (r := fun x => gegR n rs x.2.1 x.2.2 (some ⟨x.1, 0, none⟩)) (H := fun _ => True) rfl rfl rfl (by decide) (fun w1 hs => gegNew1 (toRegion_new A n c rs w1 (h.over hs.fin) ht)) ?_
    rintro ⟨tg, tlo, thi⟩ -
    refine at_rsE (by simp only [List.nil_append, List.cons_append, List.set_cons_zero, List.set_cons_succ, Value.cells, List.toList_toArray]; rfl) ?_
    refine dr_more (fun _ h => h.upto ⟨rfl, rfl, rfl, rfl, rfl, rfl, trivial⟩) ?_
    refine dg_q (i := 3) rfl (by kernel_rfl) (by kernel_rfl) (by kernel_rfl) [] (by kernel_rfl) (fun _ _ _ h => h) rfl rfl (by decide) (fun _ h => h.upto ⟨rfl, rfl, rfl, rfl, rfl, rfl, rfl, trivial⟩) (qt_call ok_laws_eqRegion rfl rfl (fun w1 hs => eqRegion_same _ _ _ _ _ rs w1 (gegRings (k := 3) rfl w1 hs) (gegRings (k := 6) rfl w1 hs) ht)) ?_
    refine dg_q (i := 4) rfl (by kernel_rfl) (by kernel_rfl) (by kernel_rfl) [] (by kernel_rfl) (fun _ _ _ h => h) rfl rfl (by decide) (fun _ h => h.upto ⟨rfl, rfl, rfl, rfl, rfl, rfl, rfl, trivial⟩) (qt_not rfl rfl) ?_
    refine dg_done (by kernel_rfl) ?_
    refine norm_then ?_
    refine at_no rfl (rfl) ?_
    refine at_skip ?_
    refine norm_then ?_
    refine at_seq ?_
    refine at_region ?_
    refine at_q rfl rfl (by decide) (qt_assign rfl rfl) ?_
    refine at_end ?_
    refine at_seq ?_
    refine at_region ?_
    refine at_q rfl rfl (by decide) (qt_loadS rfl rfl tys_impl_Region rfl (rdAll (k := 4) rfl)) ?_
    refine at_q rfl rfl (by decide) (qt_move rfl rfl) ?_
    refine at_op rfl ?_
    refine op_callw (k := 3) (r' := gegR n (marksR 1 rs) _ _ _) ok_laws_markRegion rfl rfl rfl (by decide) rfl (fun w1 hs => markGeg (gegS (k := 3) rfl w1 hs) (gegH (k := 3) rfl w1 hs) hts) (fun _ h => h) rfl ?_
    refine at_rsE (by simp only [List.nil_append, List.cons_append, List.set_cons_zero, List.set_cons_succ, Value.cells, List.toList_toArray]; rfl) ?_
    refine at_q rfl rfl (by decide) (qt_assign rfl rfl) ?_
    refine at_end ?_
    refine at_seq ?_
    refine at_seq ?_
    refine at_region ?_
    refine at_q rfl rfl (by decide) (qt_move rfl rfl) ?_
    refine at_q rfl rfl (by decide) (qt_lss rfl rfl rfl) ?_
    refine at_q rfl rfl (by decide) (qt_move rfl rfl) ?_
    refine at_as 51 (.bool false) rfl (by rw [(posF _)]) ?_
    refine at_on rfl rfl rfl rfl ?_
    refine op_q rfl (by decide) (qt_move rfl rfl) ?_
    refine at_on rfl rfl rfl rfl ?_
    refine op_q rfl (by decide) (qt_move rfl rfl) ?_
    refine at_on rfl rfl rfl rfl ?_
    refine op_q rfl (by decide) (qt_call ok_laws_eqPtS rfl rfl (fun w1 hs => eqPtS_same _ _ _ _ _ (htR rs) w1 (ptsPts (k := 5) rfl w1 hs) (ptsPts (k := 2) rfl w1 hs) (by omega))) ?_
    refine at_on rfl rfl rfl rfl ?_
    refine op_q rfl (by decide) (qt_not rfl rfl) ?_
    refine at_q rfl rfl (by decide) (qt_pickF rfl rfl rfl) ?_
    refine at_q rfl rfl (by decide) (qt_move rfl rfl) ?_
    refine at_as 57 (.bool false) rfl (by rw [notTrue]) ?_
    refine at_on rfl rfl rfl rfl ?_
    refine op_q rfl (by decide) (qt_move rfl rfl) ?_
    refine at_on rfl rfl rfl rfl ?_
    refine op_q rfl (by decide) (qt_move rfl rfl) ?_
    refine at_on rfl rfl rfl rfl ?_
    refine op_q rfl (by decide) (qt_neq rfl rfl rfl) ?_
    refine at_q rfl rfl (by decide) (qt_pickF rfl rfl rfl) ?_
    refine at_end ?_
    refine at_no rfl (neSelf _) ?_
    refine at_skip ?_
    refine norm_then ?_
    refine at_seq ?_
    refine at_region ?_
    refine at_q rfl rfl (by decide) (qt_assign rfl rfl) ?_
    refine at_end ?_
    refine at_seq ?_
    refine at_region ?_
    refine at_q rfl rfl (by decide) (qt_move rfl rfl) ?_
    refine at_q rfl rfl (by decide) (qt_move rfl rfl) ?_
    refine at_op rfl ?_
    refine op_callw (k := 5) (r' := ptsR _ (marks 1 _) _ _ _) ok_laws_markPtS rfl rfl rfl (by decide) rfl (fun w1 hs => markSlc (ptsS (k := 5) rfl w1 hs) (ptsH (k := 5) rfl w1 hs) (by omega)) (fun _ h => h) rfl ?_
    refine at_rsE (by simp only [List.nil_append, List.cons_append, List.set_cons_zero, List.set_cons_succ, Value.cells, List.toList_toArray]; rfl) ?_
    refine at_q rfl rfl (by decide) (qt_assign rfl rfl) ?_
    refine at_end ?_
    refine at_seq ?_
    refine at_region ?_
    refine at_q rfl rfl (by decide) (qt_assign rfl rfl) ?_
    refine at_end ?_
    refine at_seq ?_
    refine at_region ?_
    refine at_q rfl rfl (by decide) (qt_move rfl rfl) ?_
    refine at_q rfl rfl (by decide) (qt_move rfl rfl) ?_
    refine at_q rfl rfl (by decide) (qt_call ok_laws_heldPtS rfl rfl (fun w1 hs => heldPtS_any _ _ _ 1 w1 (ptsPts (k := 5) rfl w1 hs) (by omega) (by omega))) ?_
    refine at_q rfl rfl (by decide) (qt_assign rfl rfl) ?_
    refine at_end ?_
    refine at_seq ?_
    refine at_seq ?_
    refine at_region ?_
    refine at_q rfl rfl (by decide) (qt_move rfl rfl) ?_
    refine at_q rfl rfl (by decide) (qt_lss rfl rfl rfl) ?_
    refine at_end ?_
    refine at_no rfl (posF _) ?_
    refine at_skip ?_
    refine norm_then ?_
    refine at_seq ?_
    refine at_seq ?_
    refine at_region ?_
    refine at_q rfl rfl (by decide) (qt_move rfl rfl) ?_
    refine at_q rfl rfl (by decide) (qt_move rfl rfl) ?_
    refine at_q rfl rfl (by decide) (qt_neq rfl rfl rfl) ?_
    refine at_end ?_
    refine at_no rfl (neSelf _) ?_
    refine at_skip ?_
    refine norm_then ?_
    refine at_seq ?_
    refine at_region ?_
    refine at_q rfl rfl (by decide) (qt_loadS rfl rfl tys_laws_Region rfl (rdAll (k := 0) rfl)) ?_
    refine at_op rfl ?_
    refine op_call ok_laws_toRegion (X := Nat × Nat × Nat) (v := fun x => regV (some ⟨x.1, 0, none⟩) n n) (r := fun x => gegR n rs x.2.1 x.2.2 (some ⟨x.1, 0, none⟩)) (H := fun _ => True) rfl rfl rfl (by decide) (fun w1 hs => gegNew1 (toRegion_new A n c rs w1 (h.over hs.fin) ht)) ?_
    rintro ⟨tg, tlo, thi⟩ -
    refine at_rsE (by simp only [List.nil_append, List.cons_append, List.set_cons_zero, List.set_cons_succ, Value.cells, List.toList_toArray]; rfl) ?_
    refine at_op rfl ?_
    refine op_call ok_impl_HotPoints (X := (Option Addr × Nat) × Nat × Nat) (v := fun x => .tuple #[.slice x.1.1 _ x.1.2, .int .i64 _]) (r := fun x => ptsR _ _ x.2.1 x.2.2 x.1.1) (H := fun _ => True) rfl rfl rfl (by decide) (fun w1 hs => slcCode (HotPoints_any _ n n rs w1 (gegRings (k := 7) rfl w1 hs) (Int.le_trans ht (by decide)))) ?_
    rintro ⟨⟨hA, hc⟩, hlo, hhi⟩ -
    refine at_rsE (by simp only [List.nil_append, List.cons_append, List.set_cons_zero, List.set_cons_succ, Value.cells, List.toList_toArray]; rfl) ?_
    refine at_q rfl rfl (by decide) (qt_move rfl rfl) ?_
    refine at_q rfl rfl (by decide) (qt_extract rfl rfl rfl) ?_
    refine at_q rfl rfl (by decide) (qt_extract rfl rfl rfl) ?_
    refine at_q rfl rfl (by decide) (qt_assign rfl rfl) ?_
    refine at_q rfl rfl (by decide) (qt_assign rfl rfl) ?_
    refine at_end ?_
    refine at_seq ?_
    refine at_seq ?_
    refine at_region ?_
    refine at_q rfl rfl (by decide) (qt_move rfl rfl) ?_
    refine at_q rfl rfl (by decide) (qt_move rfl rfl) ?_
    refine at_q rfl rfl (by decide) (qt_call ok_laws_eqPtS rfl rfl (fun w1 hs => eqPtS_same _ _ _ _ _ (htR rs) w1 (ptsPts (k := 8) rfl w1 hs) (ptsPts (k := 2) rfl w1 hs) (by omega))) ?_
    refine at_q rfl rfl (by decide) (qt_not rfl rfl) ?_
    refine at_q rfl rfl (by decide) (qt_move rfl rfl) ?_
    refine at_as 83 (.bool false) rfl (by rw [notTrue]) ?_
    refine at_on rfl rfl rfl rfl ?_
    refine op_q rfl (by decide) (qt_move rfl rfl) ?_
    refine at_on rfl rfl rfl rfl ?_
    refine op_q rfl (by decide) (qt_move rfl rfl) ?_
    refine at_on rfl rfl rfl rfl ?_
    refine op_q rfl (by decide) (qt_neq rfl rfl rfl) ?_
    refine at_q rfl rfl (by decide) (qt_pickF rfl rfl rfl) ?_
    refine at_end ?_
    refine at_no rfl (neSelf _) ?_
    refine at_skip ?_
    refine norm_then ?_
    refine at_seq ?_
    refine at_region ?_
    refine at_q rfl rfl (by decide) (qt_assign rfl rfl) ?_
    refine at_end ?_
    refine at_seq ?_
    refine at_region ?_
    refine at_q rfl rfl (by decide) (qt_move rfl rfl) ?_
    refine at_q rfl rfl (by decide) (qt_move rfl rfl) ?_
    refine at_q rfl rfl (by decide) (qt_call ok_laws_heldPtS rfl rfl (fun w1 hs => heldPtS_any _ _ _ 1 w1 (ptsPts (k := 5) rfl w1 hs) (by omega) (by omega))) ?_
    refine at_q rfl rfl (by decide) (qt_assign rfl rfl) ?_
    refine at_end ?_
    refine at_seq ?_
    refine at_seq ?_
    refine at_region ?_
    refine at_q rfl rfl (by decide) (qt_move rfl rfl) ?_
    refine at_q rfl rfl (by decide) (qt_lss rfl rfl rfl) ?_
    refine at_end ?_
    refine at_no rfl (posF _) ?_
    refine at_skip ?_
    refine norm_then ?_
    refine at_seq ?_
    refine at_seq ?_
    refine at_region ?_
    refine at_q rfl rfl (by decide) (qt_move rfl rfl) ?_
    refine at_q rfl rfl (by decide) (qt_move rfl rfl) ?_
    refine at_q rfl rfl (by decide) (qt_neq rfl rfl rfl) ?_
    refine at_end ?_
    refine at_no rfl (neSelf _) ?_
    refine at_skip ?_
    refine norm_then ?_
    refine at_seq ?_
    refine at_region ?_
    refine at_q rfl rfl (by decide) (qt_assign rfl rfl) ?_
    refine at_end ?_
    refine at_retc ?_
    refine at_ret1 rfl (.tmp rfl) ?_
    intro w' hs
    exact ⟨rfl, hs.fin⟩
end Go.Proofs.Ytnalgllmdpcjcaa
namespace Go.Proofs.Ytnalgllmdpcjcaa.fnExactHotPointsDone
open Go Go.ChangeShapes Go.WideShapes Go.ChangeAt Go.RowKit Go.Joins Go.Deep
set_option linter.unusedVariables false

set_option maxRecDepth 100000 in
theorem lifted (os : Os) (started : os.Started) (H : Type) (enc : TypeId × Value → H) :
    ReturnsInHanded {} Try.checked os 12 .any (Rows.fnExactHotPointsSpec.pre6 enc Try.prog Try.f12 Rows.fnExactHotPointsRow.domain false) (Rows.fnExactHotPointsSpec.post enc Try.prog Try.f12 false true false false) := by
  refine returnsInHanded_of_change (C := Try.checked) ownK started (by kernel_rfl) Try.func12
    (ChangeSpec.witness6 (enc := enc) (C := Try.checked) false ⟨#[], #[.agg #[.slice none 0 0]], []⟩ 8 (by kernel_rfl) (by kernel_rfl) (by kernel_rfl) (by kernel_rfl)) ?_
  intro W base args ds gs before hval0 hW hcnd _
  have hval : ∀ (j : Nat) t v, Try.f12.params[j]? = some t → args[j]? = some v → Value.okWide Try.prog W .any base t v := hval0
  have hW' := hW
  obtain ⟨p, q, hA0, hV, rfl, hfz, hnd⟩ := hW
  have hA : DataW.TrodAll enc Try.prog W 0 (fun _ => true) true Try.f12.params.toList args.toList ds p := hA0
  rw [Try.params12] at hA hval
  obtain ⟨v0, vs0, d0, ds0, p0, q0, hargs, rfl, rfl, h0, r0⟩ := trodAll_cons hA
  obtain ⟨rfl, rfl, rfl⟩ := trodAll_nil r0
  obtain rfl : args = #[v0] := by cases args; simp_all
  obtain ⟨rfl, rfl⟩ := trodVars_none hV
  have k0 := h0
  have lt0 : ∀ x ∈ p0, x.block < W.heap.size := by obtain ⟨m, hm⟩ := k0; exact DataW.trod_lt m _ _ _ hm
  obtain ⟨A0, n0, c0, rs0, rfl, hp0, hm0⟩ := open_region (hval 0 _ v0 rfl rfl) h0
  clear hA0 hval0
  refine (law_HotPoints A0 n0 c0 rs0 W hp0 hm0).mono fun e W' ⟨he, bel⟩ => ?_
  subst he
  exact ⟨_, rfl, _, _, _, [], _, [], hW', trodAll_mk1 (shut_bool Try.underlying4 _), (trodAll_cons_mk (Below.trod laidOutB_ (by kernel_rfl) (of_decide_eq_true (by kernel_rfl)) k0 bel lt0) trodAll_mk0), rfl, Below.frame bel _, fun h => by cases h⟩

theorem fact0 : Rows.fnExactHotPointsRow.wf (OpenSpec.ofChange Rows.fnExactHotPointsSpec) = true := by kernel_rfl
theorem fact3 : Try.f12.params.all (Try.checked.prog.readableRec ·) = true := by kernel_rfl
theorem fact4 : namedTie Try.checked.prog Rows.fnExactHotPointsRow.named Rows.fnExactHotPointsSpec.vars = true := by kernel_rfl
theorem fact5 : (Rows.fnExactHotPointsRow.stops == []) = true := by kernel_rfl
theorem fact7 : (Rows.fnExactHotPointsRow.knobs == []) = true := by kernel_rfl
theorem fact9 : (Rows.fnExactHotPointsRow.inPlace == Try.checked.prog.inPlace 12) = true := by kernel_rfl
theorem fact10 : (Rows.fnExactHotPointsRow.unfollowed == Try.checked.prog.unfollowed 12) = true := by kernel_rfl
theorem fact11 : (Rows.fnExactHotPointsRow.recurses == Try.checked.prog.recurses 12) = true := by kernel_rfl
theorem fact12 : (Rows.fnExactHotPointsRow.named == Try.checked.prog.varsNamed 12) = true := by kernel_rfl
theorem fact13 : (Rows.fnExactHotPointsRow.maps == (Try.f12.params.toList ++ Rows.fnExactHotPointsSpec.plain.varTypes Try.checked.prog).any (Try.checked.prog.mapsRec ·)) = true := by kernel_rfl
theorem fact14 : (Rows.fnExactHotPointsRow.ifaces == (Try.f12.params.toList ++ Rows.fnExactHotPointsSpec.plain.varTypes Try.checked.prog).any (Try.checked.prog.ifacesRec ·)) = true := by kernel_rfl
theorem fact15 : (Rows.fnExactHotPointsRow.mapsOut == Try.checked.prog.mapsAmong Try.f12.resultTypes.toList) = true := by kernel_rfl
theorem fact16 : (Rows.fnExactHotPointsRow.loops == (Try.f12.params.toList ++ Rows.fnExactHotPointsSpec.plain.varTypes Try.checked.prog).any (Try.checked.prog.loopsFrom ·)) = true := by kernel_rfl
theorem fact17 : (Rows.fnExactHotPointsRow.wideKeys == (Try.f12.params.toList ++ Rows.fnExactHotPointsSpec.plain.varTypes Try.checked.prog ++ Try.f12.resultTypes.toList).any (Try.checked.prog.wideKeysFrom ·)) = true := by kernel_rfl
theorem fact18 : Rows.fnExactHotPointsSpec.vars.all (Try.checked.prog.varReadable ·) = true := by kernel_rfl
theorem fact19 : Try.f12.resultTypes.all (fun t => Try.checked.prog.readableRec t && decide (t < Try.checked.prog.types.size)) = true := by kernel_rfl
theorem fact20 : (Rows.fnExactHotPointsRow.ifacesOut == Try.f12.resultTypes.toList.any (Try.checked.prog.ifacesRec ·)) = true := by kernel_rfl
theorem fact21 : (Rows.fnExactHotPointsRow.loopsOut == Try.f12.resultTypes.toList.any (Try.checked.prog.loopsFrom ·)) = true := by kernel_rfl
theorem fact23 : Rows.fnExactHotPointsRow.shortTexts.isNone = true := by kernel_rfl
theorem fact29 : (Rows.fnExactHotPointsRow.pinned == Rows.fnExactHotPointsRow.pinnedBy) = true := by kernel_rfl
theorem fact30 : (Rows.fnExactHotPointsRow.veiled == (Try.f12.params.toList ++ Rows.fnExactHotPointsSpec.plain.varTypes Try.checked.prog ++ Try.f12.resultTypes.toList).any (Try.checked.prog.veiledRec ·)) = true := by kernel_rfl
theorem fact31 : Rows.fnExactHotPointsRow.veiledFits Try.checked.prog Try.f12.params.toList (Try.f12.params.toList ++ Rows.fnExactHotPointsSpec.plain.varTypes Try.checked.prog ++ Try.f12.resultTypes.toList) = true := by kernel_rfl
theorem closed_ : joinedFacts Try.checked.prog 12 Try.f12 Rows.fnExactHotPointsSpec Rows.fnExactHotPointsRow = true := by
  unfold joinedFacts
  exact andB (andB (andB (andB (andB (andB (andB (andB (andB (andB (andB (andB (andB (andB (andB (andB (andB (andB (andB (andB (andB (andB (andB (andB (andB (andB (andB (andB (andB (andB (andB (fact0) once1) once2) fact3) fact4) fact5) once6) fact7) once8) fact9) fact10) fact11) fact12) fact13) fact14) fact15) fact16) fact17) fact18) fact19) fact20) fact21) once22) fact23) once24) once25) once26) once27) (by kernel_rfl)) fact29) fact30) fact31
theorem proved : Rows.FnExactHotPointsSaid :=
  OpenClaim.holds_of_wide 12 Try.f12 rfl rfl rfl rfl rfl rfl rfl ⟨rfl, rfl, rfl, rfl, rfl⟩ rfl rfl rfl rfl rfl (by kernel_rfl) Try.func12 closed_
    (of_decide_eq_true (by kernel_rfl)) (by unfold Func.isWrapper; first | (rw [if_pos (by decide +kernel)]; kernel_rfl) | (rw [if_neg (by decide +kernel)]; exact ⟨rfl, rfl⟩))
    (fun os started H enc _ => lifted os started H enc)
#print axioms proved
end Go.Proofs.Ytnalgllmdpcjcaa.fnExactHotPointsDone
