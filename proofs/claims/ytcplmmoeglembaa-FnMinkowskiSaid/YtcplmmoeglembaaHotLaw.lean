/- slices.Compact at points; HotPoints, both sides; the law. -/
import Derived.Test.YtcplmmoeglembaaSortPt
namespace Go.Proofs.Ytcplmmoeglembaa
open Go Go.Shelf Go.RowKit
set_option linter.unusedVariables false
set_option linter.unusedSimpArgs false
set_option maxRecDepth 100000
set_option maxHeartbeats 4000000
open Go Go.RowKit
set_option linter.unusedVariables false
set_option linter.unusedSimpArgs false

theorem compP_snoc : ∀ (l : List Pn) (q p : Pn), compP (l ++ [q] ++ [p]) = compP (l ++ [q]) ++ (if q = p then [] else [p])
  | [], q, p => by
    simp only [List.nil_append, List.singleton_append, compP]
    split
    · rename_i h; rw [h]
    · rfl
  | [a], q, p => by
    have h := compP_snoc [] q p
    simp only [List.nil_append, List.singleton_append, List.cons_append] at h ⊢
    rw [compP, h]
    conv => rhs; rw [compP]
    split <;> rfl
  | a :: b :: l, q, p => by
    have h := compP_snoc (b :: l) q p
    simp only [List.cons_append] at h ⊢
    rw [compP, h]
    conv => rhs; rw [compP]
    split <;> rfl
theorem compP_take {xs : List Pn} {i : Nat} (h1 : 1 ≤ i) (h : i < xs.length) : compP (xs.take (i + 1)) = compP (xs.take i) ++ (if pt xs (i - 1) = pt xs i then [] else [pt xs i]) := by
  obtain ⟨j, rfl⟩ : ∃ j, i = j + 1 := ⟨i - 1, by omega⟩
  rw [List.take_succ_eq_append_getElem h, List.take_succ_eq_append_getElem (show j < xs.length by omega), compP_snoc, pt_at h, pt_at (show j < xs.length by omega)]
  rfl
theorem compP_len : ∀ l : List Pn, (compP l).length ≤ l.length
  | [] => Nat.le_refl _
  | [_] => Nat.le_refl _
  | p :: q :: l => by
    have := compP_len (q :: l)
    unfold compP
    simp only [List.length_cons] at *
    split
    · omega
    · rw [List.length_cons]; omega
/-- No two neighbours among the first i are the same. -/
theorem compP_same {xs : List Pn} : ∀ i, i ≤ xs.length → (∀ j, 1 ≤ j → j < i → ¬ pt xs (j - 1) = pt xs j) → compP (xs.take i) = xs.take i
  | 0, _, _ => rfl
  | 1, h, _ => by
    match xs, h with
    | p :: l, _ => rfl
  | i + 2, h, hj => by
    rw [compP_take (by omega) (by omega), compP_same (i + 1) (by omega) (fun j h1 h2 => hj j h1 (by omega)), if_neg (hj (i + 1) (by omega) (by omega)), ← pt_at (by omega)]
    exact (List.take_succ_eq_append_getElem (by omega)).symm
/-- The points of a slice that is being closed up. -/
def clo (xs : List Pn) (i : Nat) : List Pn := compP (xs.take i) ++ xs.drop (compP (xs.take i)).length
theorem clo_len {xs : List Pn} {i : Nat} (h : i ≤ xs.length) : (clo xs i).length = xs.length := by
  have := compP_len (xs.take i)
  rw [List.length_take] at this
  rw [clo, List.length_append, List.length_drop]
  omega
theorem clo_at {xs : List Pn} {i j : Nat} (h : (compP (xs.take i)).length ≤ j) : pt (clo xs i) j = pt xs j := by
  simp only [pt, px, py, List.getD, clo, List.getElem?_append_right h, List.getElem?_drop]
  rw [show (compP (xs.take i)).length + (j - (compP (xs.take i)).length) = j by omega]
theorem clo_no {xs : List Pn} {i : Nat} (h1 : 1 ≤ i) (h : i < xs.length) (he : pt xs (i - 1) = pt xs i) : clo xs (i + 1) = clo xs i := by rw [clo, compP_take h1 h, if_pos he, List.append_nil]; rfl
theorem clo_yes {xs : List Pn} {i : Nat} (h1 : 1 ≤ i) (h : i < xs.length) (he : ¬ pt xs (i - 1) = pt xs i) (hk : (compP (xs.take i)).length < xs.length) : (clo xs (i + 1)).flatMap ptCells = splice ((clo xs i).flatMap ptCells) ((compP (xs.take i)).length * 2) (ptCells (pt xs i)) := by
  rw [clo, clo, compP_take h1 h, if_neg he]
  generalize compP (xs.take i) = C at *
  rw [List.drop_eq_getElem_cons hk, List.length_append, List.length_singleton, List.flatMap_append, List.flatMap_append, List.flatMap_append, List.flatMap_cons]
  have hC : C.length * 2 = (C.flatMap ptCells).length := (ptCells_len C).symm
  rw [hC]
  simp only [ptCells, splice, List.flatMap_cons, List.flatMap_nil, List.append_nil, List.cons_append, List.nil_append]
  rw [List.set_append_right _ _ (Nat.le_refl _), Nat.sub_self, List.set_cons_zero, List.set_append_right _ _ (by omega), show (C.flatMap ptCells).length + 1 - (C.flatMap ptCells).length = 1 by omega]
  simp [ptCells]
def zerosP (m : Nat) : List Value := (Builtin.zeroCells (Value.agg #[.int .i64 0, .int .i64 0]).cells m).toList
theorem zerosP_len (m : Nat) : (zerosP m).length = m * 2 := by
  rw [zerosP, Array.length_toList, size_zeroCells]
  rfl
theorem zerosP_one (m : Nat) : (zerosP m).all (·.oneCell') = true := by
  rw [List.all_eq_true]
  intro v hv
  rw [zerosP, Array.mem_toList_iff, Builtin.zeroCells] at hv
  obtain ⟨i, hi, rfl⟩ := Array.mem_map.1 hv
  have : i % 2 < 2 := Nat.mod_lt _ (by decide)
  show (#[Value.int .i64 0, Value.int .i64 0][i % 2]!).oneCell' = true
  rcases (show i % 2 = 0 ∨ i % 2 = 1 by omega) with e | e <;> rw [e] <;> rfl
theorem splice_left {l r vs : List Value} : ∀ {off : Nat}, off + vs.length ≤ l.length → splice (l ++ r) off vs = splice l off vs ++ r := by
  induction vs generalizing l with
  | nil => intro off _; rfl
  | cons v vs ih =>
    intro off h
    simp only [List.length_cons] at h
    rw [splice, splice, List.set_append_left _ _ (by omega)]
    exact ih (by simp; omega)
/-- How many points stay of the first i. -/
def kc (xs : List Pn) (i : Nat) : Nat := (compP (xs.take i)).length
theorem kc_le (xs : List Pn) (i : Nat) : kc xs i ≤ i := by have := compP_len (xs.take i); rw [List.length_take] at this; unfold kc; omega
theorem kc_same {xs : List Pn} {i : Nat} (h1 : 1 ≤ i) (h : i < xs.length) (he : pt xs (i - 1) = pt xs i) : kc xs (i + 1) = kc xs i := by rw [kc, compP_take h1 h, if_pos he, List.append_nil]; rfl
theorem kc_more {xs : List Pn} {i : Nat} (h1 : 1 ≤ i) (h : i < xs.length) (he : ¬ pt xs (i - 1) = pt xs i) : kc xs (i + 1) = kc xs i + 1 := by rw [kc, compP_take h1 h, if_neg he, List.length_append]; rfl
theorem ptNe {xs : List Pn} {j i : Nat} : ((px xs j == px xs i) && (py xs j == py xs i)) = decide (pt xs i = pt xs j) := by
  rw [Bool.eq_iff_iff]
  simp [pt, Prod.ext_iff]
  constructor <;> (rintro ⟨h1, h2⟩; exact ⟨h1.symm, h2.symm⟩)
theorem compP_whole {xs : List Pn} (h : ∀ j, 1 ≤ j → j < xs.length → ¬ pt xs (j - 1) = pt xs j) : compP xs = xs := by
  have := compP_same xs.length (Nat.le_refl _) h
  rwa [List.take_length] at this
theorem take_whole {xs : List Pn} {rest : List Value} : (xs.flatMap ptCells ++ rest).take (xs.length * 2) = xs.flatMap ptCells := List.take_left' (ptCells_len xs)
theorem take_clear {xs : List Pn} {rest zs : List Value} {n c : Nat} (hn : xs.length = n) (hl : ((clo xs n).flatMap ptCells ++ rest).length = c * 2) (hK : kc xs n * 2 + zs.length ≤ c * 2) :
    (splice ((clo xs n).flatMap ptCells ++ rest) (0 + kc xs n * 2) zs).take ((compP xs).length * 2) = (compP xs).flatMap ptCells := by
  have e : (compP xs).length = kc xs n := by rw [kc, ← hn, List.take_length]
  have ec : compP (xs.take n) = compP xs := by rw [← hn, List.take_length]
  apply List.ext_getElem?
  intro i
  rw [List.getElem?_take, e, Nat.zero_add]
  by_cases hi : i < kc xs n * 2
  · rw [if_pos hi, splice_get i (by omega), if_neg (by omega), clo, List.flatMap_append, List.append_assoc, List.getElem?_append_left (by rw [ptCells_len]; exact hi), ec]
  · rw [if_neg hi, List.getElem?_eq_none (by rw [ptCells_len, e]; omega)]
theorem Compact_cel (b T c n : Nat) (xs : List Pn) (rest : List Value) (w : World) (hh : w.heap[b]? = some (.cells (xs.flatMap ptCells ++ rest).toArray T (0, 0))) (hc : n ≤ c) (hl : ((xs.flatMap ptCells) ++ rest).length = c * 2) (hn : xs.length = n) (hn2 : n ≤ 1048577) :
    Calls Try.prog 94 #[.slice (some ⟨b, 0, none⟩) n c] w fun e w' => e = .returned (.slice (some ⟨b, 0, none⟩) (compP xs).length c) ∧ Wr b w w' ∧ ∃ cs : List Value, w'.heap[b]? = some (.cells cs.toArray T (0, 0)) ∧ cs.length = c * 2 ∧ cs.take ((compP xs).length * 2) = (compP xs).flatMap ptCells := by
  have hr2 : ∀ (zs : List Pn), zs.length = n → ∀ k, k < n → ∀ w' : World, w'.heap[b]? = some (.cells (zs.flatMap ptCells ++ rest).toArray T (0, 0)) → ∀ (q : Nat) (v : Value), [Value.int .i64 (px zs k), Value.int .i64 (py zs k)][q]? = some v → w'.cell? ⟨b, 0 + k * 2 + q, none⟩ = some v := fun zs hz k hk w' hw q v hv => by
    have hq : q < 2 := by have := (List.getElem?_eq_some_iff.1 hv).1; simpa using this
    rw [cell_of_row w' b _ _ T (0, 0) hw, Nat.zero_add]
    have hf := ptFlat zs k q (by omega) hq
    rw [at_p (by omega)] at hf
    have : (zs.flatMap ptCells ++ rest).toArray[k * 2 + q]? = (zs.flatMap ptCells)[k * 2 + q]? := by
      rw [List.getElem?_toArray, List.getElem?_append_left (by rw [ptCells_len]; omega)]
    rw [this, hf]
    exact hv
  refine walk_from1 (m := 61) (Try.func94) rfl rfl (Nat.le_of_ble_eq_true rfl) (hh) ?_
  refine at_seq ?_
  refine at_region ?_
  refine at_q rfl rfl (by decide) (qt_assign rfl rfl) ?_
  refine at_end ?_
  refine at_seq ?_
  refine at_seq ?_
  refine at_region ?_
  refine at_q rfl rfl (by decide) (qt_move rfl rfl) ?_
  refine at_q rfl rfl (by decide) (qt_len rfl rfl tyl_sl_impl_Pt) ?_
  refine at_q rfl rfl (by decide) (qt_lss rfl rfl rfl) ?_
  refine at_end ?_
  refine at_cond rfl (fun c1 => ?_) (fun c1 => ?_)
  · try simp only [decide_eq_true_eq, decide_eq_false_iff_not, beq_iff_eq, beq_eq_false_iff_ne, Bool.not_eq_true', Bool.not_eq_false', Bool.not_true, Bool.not_false, Int.not_lt, Int.not_le, ne_eq, Nat.not_lt, Nat.not_le] at c1
    refine at_seq ?_
    refine at_region ?_
    refine at_q rfl rfl (by decide) (qt_move rfl rfl) ?_
    refine at_q rfl rfl (by decide) (qt_assign rfl rfl) ?_
    refine at_end ?_
    refine at_retc ?_
    refine then_ret ?_
    refine at_ret1 rfl (.tmp rfl) ?_
    intro w' hs
    exact ⟨by rw [compP_whole fun j h1 h2 => absurd h2 (by omega), hn], hs.over.wr, _, hs.cel (k := 0) rfl, hl, by rw [compP_whole fun j h1 h2 => absurd h2 (by omega)]; exact take_whole⟩
  · try simp only [decide_eq_true_eq, decide_eq_false_iff_not, beq_iff_eq, beq_eq_false_iff_ne, Bool.not_eq_true', Bool.not_eq_false', Bool.not_true, Bool.not_false, Int.not_lt, Int.not_le, ne_eq, Nat.not_lt, Nat.not_le] at c1
    refine at_skip ?_
    refine norm_then ?_
    refine at_seq ?_
    refine at_seq ?_
    refine at_region ?_
    refine at_q rfl rfl (by decide) (qt_assign rfl rfl) ?_
    refine at_end ?_
    refine at_block ?_
    refine at_loopk (X := Nat) (fun k => 1 ≤ k ∧ k ≤ n ∧ (∀ j, 1 ≤ j → j < k → ¬ pt xs (j - 1) = pt xs j)) (fun k => n - k) (fun k => [(3, .int .i64 (k : Int))]) (C := [(0, _), (2, _)]) ⟨rfl, rfl, trivial⟩ 1 (⟨Nat.le_refl _, by omega, fun j h1 h2 => absurd h2 (by omega)⟩) ⟨rfl, rfl, rfl, trivial⟩ ?_
    intro k hk L hL1
    refine at_envE (by simp only [List.nil_append, List.cons_append]; rfl) ?_
    refine at_seq ?_
    refine at_seq ?_
    refine at_region ?_
    refine at_q rfl rfl (by decide) (qt_move rfl rfl) ?_
    refine at_q rfl rfl (by decide) (qt_move rfl rfl) ?_
    refine at_q rfl rfl (by decide) (qt_len rfl rfl tyl_sl_impl_Pt) ?_
    refine at_q rfl rfl (by decide) (qt_lss rfl rfl rfl) ?_
    refine at_end ?_
    refine at_cond rfl (fun c2 => ?_) (fun c2 => ?_)
    · try simp only [decide_eq_true_eq, decide_eq_false_iff_not, beq_iff_eq, beq_eq_false_iff_ne, Bool.not_eq_true', Bool.not_eq_false', Bool.not_true, Bool.not_false, Int.not_lt, Int.not_le, ne_eq, Nat.not_lt, Nat.not_le] at c2
      refine at_skip ?_
      refine norm_then ?_
      refine at_seq ?_
      refine at_block ?_
      refine at_seq ?_
      refine dg_start mixed rfl ?_
      refine dg_phase 10 ?_
      refine dg_q (i := 0) rfl (by kernel_rfl) (by kernel_rfl) (by kernel_rfl) [] (by kernel_rfl) (fun _ _ _ h => h) rfl rfl (by decide) (fun _ h => h.upto ⟨rfl, trivial⟩) (qt_move rfl rfl) ?_
      refine dg_q (i := 1) rfl (by kernel_rfl) (by kernel_rfl) (by kernel_rfl) [] (by kernel_rfl) (fun _ _ _ h => h) rfl rfl (by decide) (fun _ h => h.upto ⟨rfl, trivial⟩) (qt_move rfl rfl) ?_
      refine dg_q (i := 2) rfl (by kernel_rfl) (by kernel_rfl) (by kernel_rfl) [] (by kernel_rfl) (fun _ _ _ h => h) rfl rfl (by decide) (fun _ h => h.upto ⟨rfl, trivial⟩) (qt_index rfl rfl rfl tyl_sl_impl_Pt (by omega)) ?_
      refine dg_q (i := 3) rfl (by kernel_rfl) (by kernel_rfl) (by kernel_rfl) [] (by kernel_rfl) (fun _ _ _ h => h) rfl rfl (by decide) (fun _ h => h.upto ⟨rfl, trivial⟩) (qt_loadS rfl rfl tys_impl_Pt rfl (fun w' hs => hr2 xs hn k (by omega) w' (hs.cel (k := 0) rfl))) ?_
      refine dg_q (i := 4) rfl (by kernel_rfl) (by kernel_rfl) (by kernel_rfl) [] (by kernel_rfl) (fun _ _ _ h => h) rfl rfl (by decide) (fun _ h => h.upto ⟨rfl, trivial⟩) (qt_move rfl rfl) ?_
      refine dg_q (i := 5) rfl (by kernel_rfl) (by kernel_rfl) (by kernel_rfl) [] (by kernel_rfl) (fun _ _ _ h => h) rfl rfl (by decide) (fun _ h => h.upto ⟨rfl, trivial⟩) (qt_move rfl rfl) ?_
      refine dg_q (i := 6) rfl (by kernel_rfl) (by kernel_rfl) (by kernel_rfl) [] (by kernel_rfl) (fun _ _ _ h => h) rfl rfl (by decide) (fun _ h => h.upto ⟨rfl, trivial⟩) ((qt_sub rfl rfl rfl (by omega) (by omega)).as (congrArg _ (show ((k : Int) - 1) = ((k - 1 : Nat) : Int) by omega))) ?_
      refine dg_q (i := 7) rfl (by kernel_rfl) (by kernel_rfl) (by kernel_rfl) [] (by kernel_rfl) (fun _ _ _ h => h) rfl rfl (by decide) (fun _ h => h.upto ⟨rfl, trivial⟩) (qt_index rfl rfl rfl tyl_sl_impl_Pt (by omega)) ?_
      refine dg_q (i := 8) rfl (by kernel_rfl) (by kernel_rfl) (by kernel_rfl) [] (by kernel_rfl) (fun _ _ _ h => h) rfl rfl (by decide) (fun _ h => h.upto ⟨rfl, trivial⟩) (qt_loadS rfl rfl tys_impl_Pt rfl (fun w' hs => hr2 xs hn (k - 1) (by omega) w' (hs.cel (k := 0) rfl))) ?_
      refine dg_q (i := 9) rfl (by kernel_rfl) (by kernel_rfl) (by kernel_rfl) [] (by kernel_rfl) (fun _ _ _ h => h) rfl rfl (by decide) (fun _ h => h.upto ⟨rfl, trivial⟩) (qt_eqlS_impl_Pt rfl rfl rfl) ?_
      refine dg_done (by kernel_rfl) ?_
      refine norm_then ?_
      refine at_cond rfl (fun c3 => ?_) (fun c3 => ?_)
      · try simp only [decide_eq_true_eq, decide_eq_false_iff_not, beq_iff_eq, beq_eq_false_iff_ne, Bool.not_eq_true', Bool.not_eq_false', Bool.not_true, Bool.not_false, Int.not_lt, Int.not_le, ne_eq, Nat.not_lt, Nat.not_le] at c3
        have hkn : k < n := (by omega)
        have hdup : pt xs (k - 1) = pt xs k := of_decide_eq_true (ptNe ▸ c3)
        have hoff : offL 0 k c 2 = 0 + k * 2 := by rw [offL, if_neg (by omega)]
        have hcs : compP (xs.take k) = xs.take k := compP_same k (by omega) hk.2.2
        have hck : kc xs k = k := by rw [kc, hcs, List.length_take]; omega
        have hck1 : kc xs (k + 1) = k := by rw [kc_same hk.1 (by omega) hdup, hck]
        have hclo : clo xs (k + 1) = xs := by rw [clo, compP_take hk.1 (by omega), if_pos hdup, List.append_nil, hcs, List.length_take, Nat.min_eq_left (by omega), List.take_append_drop]
        refine at_seq ?_
        refine at_region ?_
        refine at_q rfl rfl (by decide) (qt_move rfl rfl) ?_
        refine at_q rfl rfl (by decide) (qt_move rfl rfl) ?_
        refine at_q rfl rfl (by decide) ((qt_sliceL rfl rfl rfl tyl_sl_impl_Pt (by omega)).as ((slicedL (b := b) (o := 0) (l := k) (h := n) (m := c) (s := 2) hc (by omega)).trans (by rw [hoff]))) ?_
        refine at_q rfl rfl (by decide) (qt_assign rfl rfl) ?_
        refine at_end ?_
        refine at_seq ?_
        refine at_seq ?_
        refine at_region ?_
        refine at_q rfl rfl (by decide) (qt_assign rfl rfl) ?_
        refine at_end ?_
        refine at_block ?_
        refine at_loopc (X := Nat) (fun j => 1 ≤ j ∧ k + j ≤ n ∧ kc xs (k + j) + 1 ≤ k + j) (fun j => n - j) (fun j => [(3, .int .i64 (kc xs (k + j) : Int)), (5, .int .i64 (j : Int))]) (C := [(0, _), (2, _), (10, _), (11, _), (12, _), (13, _), (16, _), (17, _), (18, _), (19, _), (20, _), (21, _), (22, _), (23, _), (24, _), (25, _), (26, _), (27, _), (28, _), (4, _)]) ⟨rfl, rfl, rfl, rfl, rfl, rfl, rfl, rfl, rfl, rfl, rfl, rfl, rfl, rfl, rfl, rfl, rfl, rfl, rfl, rfl, trivial⟩ (fun j => [.cel b T ((clo xs (k + j)).flatMap ptCells ++ rest)]) 1 (⟨Nat.le_refl _, by omega, by omega⟩) ⟨(by rw [hck1]; rfl), rfl, rfl, rfl, rfl, rfl, rfl, rfl, rfl, rfl, rfl, rfl, rfl, rfl, rfl, rfl, rfl, rfl, rfl, rfl, rfl, rfl, trivial⟩ (fun _ h => h.upto ⟨by rw [hclo], trivial⟩) ?_
        intro j hj L hL2
        refine at_envE (by simp only [List.nil_append, List.cons_append]; rfl) ?_
        refine at_rsE (by first | (dsimp only; done) | (dsimp only; rfl) | rfl) ?_
        have hcl : (clo xs (k + j)).length = n := (clo_len (by omega)).trans hn
        refine at_seq ?_
        refine at_seq ?_
        refine at_region ?_
        refine at_q rfl rfl (by decide) (qt_move rfl rfl) ?_
        refine at_q rfl rfl (by decide) (qt_move rfl rfl) ?_
        refine at_q rfl rfl (by decide) (qt_len rfl rfl tyl_sl_impl_Pt) ?_
        refine at_q rfl rfl (by decide) (qt_lss rfl rfl rfl) ?_
        refine at_end ?_
        refine at_cond rfl (fun c4 => ?_) (fun c4 => ?_)
        · try simp only [decide_eq_true_eq, decide_eq_false_iff_not, beq_iff_eq, beq_eq_false_iff_ne, Bool.not_eq_true', Bool.not_eq_false', Bool.not_true, Bool.not_false, Int.not_lt, Int.not_le, ne_eq, Nat.not_lt, Nat.not_le] at c4
          have hjl : k + j < n := (by omega)
          have hrd : ∀ i, kc xs (k + j) ≤ i → i < n → ∀ w' : World, w'.heap[b]? = some (.cells ((clo xs (k + j)).flatMap ptCells ++ rest).toArray T (0, 0)) → ∀ (q : Nat) (v : Value), [Value.int .i64 (px xs i), Value.int .i64 (py xs i)][q]? = some v → w'.cell? ⟨b, 0 + i * 2 + q, none⟩ = some v := fun i h1 h2 w' hw q v hv => hr2 (clo xs (k + j)) hcl i h2 w' hw q v (by rw [show px (clo xs (k + j)) i = px xs i from congrArg Prod.fst (clo_at h1), show py (clo xs (k + j)) i = py xs i from congrArg Prod.snd (clo_at h1)]; exact hv)
          refine at_skip ?_
          refine norm_then ?_
          refine at_seq ?_
          refine at_block ?_
          refine at_seq ?_
          refine dg_start mixed rfl ?_
          refine dg_phase 10 ?_
          refine dg_q (i := 0) rfl (by kernel_rfl) (by kernel_rfl) (by kernel_rfl) [] (by kernel_rfl) (fun _ _ _ h => h) rfl rfl (by decide) (fun _ h => h.upto ⟨rfl, trivial⟩) (qt_move rfl rfl) ?_
          refine dg_q (i := 1) rfl (by kernel_rfl) (by kernel_rfl) (by kernel_rfl) [] (by kernel_rfl) (fun _ _ _ h => h) rfl rfl (by decide) (fun _ h => h.upto ⟨rfl, trivial⟩) (qt_move rfl rfl) ?_
          refine dg_q (i := 2) rfl (by kernel_rfl) (by kernel_rfl) (by kernel_rfl) [] (by kernel_rfl) (fun _ _ _ h => h) rfl rfl (by decide) (fun _ h => h.upto ⟨rfl, trivial⟩) (qt_index rfl rfl rfl tyl_sl_impl_Pt (by omega)) ?_
          refine dg_q (i := 3) rfl (by kernel_rfl) (by kernel_rfl) (by kernel_rfl) [] (by kernel_rfl) (fun _ _ _ h => h) rfl rfl (by decide) (fun _ h => h.upto ⟨rfl, trivial⟩) (qt_loadS rfl rfl tys_impl_Pt rfl (fun w' hs q v hv => by rw [show 0 + k * 2 + j * 2 + q = 0 + (k + j) * 2 + q by omega]; exact hrd (k + j) (by omega) hjl w' (hs.cel (k := 0) rfl) q v hv)) ?_
          refine dg_q (i := 4) rfl (by kernel_rfl) (by kernel_rfl) (by kernel_rfl) [] (by kernel_rfl) (fun _ _ _ h => h) rfl rfl (by decide) (fun _ h => h.upto ⟨rfl, trivial⟩) (qt_move rfl rfl) ?_
          refine dg_q (i := 5) rfl (by kernel_rfl) (by kernel_rfl) (by kernel_rfl) [] (by kernel_rfl) (fun _ _ _ h => h) rfl rfl (by decide) (fun _ h => h.upto ⟨rfl, trivial⟩) (qt_move rfl rfl) ?_
          refine dg_q (i := 6) rfl (by kernel_rfl) (by kernel_rfl) (by kernel_rfl) [] (by kernel_rfl) (fun _ _ _ h => h) rfl rfl (by decide) (fun _ h => h.upto ⟨rfl, trivial⟩) ((qt_sub rfl rfl rfl (by omega) (by omega)).as (congrArg _ (show ((j : Int) - 1) = ((j - 1 : Nat) : Int) by omega))) ?_
          refine dg_q (i := 7) rfl (by kernel_rfl) (by kernel_rfl) (by kernel_rfl) [] (by kernel_rfl) (fun _ _ _ h => h) rfl rfl (by decide) (fun _ h => h.upto ⟨rfl, trivial⟩) (qt_index rfl rfl rfl tyl_sl_impl_Pt (by omega)) ?_
          refine dg_q (i := 8) rfl (by kernel_rfl) (by kernel_rfl) (by kernel_rfl) [] (by kernel_rfl) (fun _ _ _ h => h) rfl rfl (by decide) (fun _ h => h.upto ⟨rfl, trivial⟩) (qt_loadS rfl rfl tys_impl_Pt rfl (fun w' hs q v hv => by rw [show 0 + k * 2 + (j - 1) * 2 + q = 0 + (k + j - 1) * 2 + q by omega]; exact hrd (k + j - 1) (by omega) (by omega) w' (hs.cel (k := 0) rfl) q v hv)) ?_
          refine dg_q (i := 9) rfl (by kernel_rfl) (by kernel_rfl) (by kernel_rfl) [] (by kernel_rfl) (fun _ _ _ h => h) rfl rfl (by decide) (fun _ h => h.upto ⟨rfl, trivial⟩) (qt_neqS_impl_Pt rfl rfl rfl) ?_
          refine dg_done (by kernel_rfl) ?_
          refine norm_then ?_
          refine at_cond rfl (fun c5 => ?_) (fun c5 => ?_)
          · try simp only [decide_eq_true_eq, decide_eq_false_iff_not, beq_iff_eq, beq_eq_false_iff_ne, Bool.not_eq_true', Bool.not_eq_false', Bool.not_true, Bool.not_false, Int.not_lt, Int.not_le, ne_eq, Nat.not_lt, Nat.not_le] at c5
            refine at_seq ?_
            refine at_region ?_
            refine at_q rfl rfl (by decide) (qt_move rfl rfl) ?_
            refine at_q rfl rfl (by decide) (qt_move rfl rfl) ?_
            refine at_q rfl rfl (by decide) (qt_move rfl rfl) ?_
            refine at_q rfl rfl (by decide) (qt_move rfl rfl) ?_
            refine at_q rfl rfl (by decide) (qt_index rfl rfl rfl tyl_sl_impl_Pt (by omega)) ?_
            refine at_q rfl rfl (by decide) (qt_loadS rfl rfl tys_impl_Pt rfl (fun w' hs q v hv => by rw [show 0 + k * 2 + j * 2 + q = 0 + (k + j) * 2 + q by omega]; exact hrd (k + j) (by omega) hjl w' (hs.cel (k := 0) rfl) q v hv)) ?_
            refine at_q rfl rfl (by decide) (qt_index rfl rfl rfl tyl_sl_impl_Pt (by omega)) ?_
            refine at_op rfl ?_
            refine op_store (k := 0) rfl rfl rfl rfl rfl (by rfl) tyz_impl_Pt.szx rfl rfl (by rw [List.length_append, ptCells_len, hcl]; simp only [List.length_cons, List.length_nil]; omega) ?_
            refine at_end ?_
            refine at_region ?_
            refine at_q rfl rfl (by decide) (qt_move rfl rfl) ?_
            refine at_q rfl rfl (by decide) (qt_add rfl rfl rfl (by omega) (by omega)) ?_
            refine at_q rfl rfl (by decide) (qt_assign rfl rfl) ?_
            refine at_nil ?_
            refine norm_block ?_
            refine norm_then ?_
            refine at_region ?_
            refine at_q rfl rfl (by decide) (qt_move rfl rfl) ?_
            refine at_q rfl rfl (by decide) (qt_add rfl rfl rfl (by omega) (by omega)) ?_
            refine at_q rfl rfl (by decide) (qt_assign rfl rfl) ?_
            refine at_end ?_
            exact at_againc hL2 (j + 1) (⟨by omega, by omega, by rw [← Nat.add_assoc, kc_more (by omega) (by omega) (of_decide_eq_false (ptNe ▸ c5))]; omega⟩) (by omega) ⟨vi (by rw [← Nat.add_assoc, kc_more (by omega) (by omega) (of_decide_eq_false (ptNe ▸ c5))]; omega), vi (by omega), rfl, rfl, rfl, rfl, rfl, rfl, rfl, rfl, rfl, rfl, rfl, rfl, rfl, rfl, rfl, rfl, rfl, rfl, rfl, rfl, trivial⟩ (fun _ h => h.upto ⟨by rw [← Nat.add_assoc, clo_yes (by omega) (by omega) (of_decide_eq_false (ptNe ▸ c5)) (by show kc xs (k + j) < xs.length; omega), splice_left (by rw [ptCells_len, hcl]; exact (show 0 + kc xs (k + j) * 2 + 2 ≤ n * 2 by omega)), Nat.zero_add]; rfl, trivial⟩)
          · try simp only [decide_eq_true_eq, decide_eq_false_iff_not, beq_iff_eq, beq_eq_false_iff_ne, Bool.not_eq_true', Bool.not_eq_false', Bool.not_true, Bool.not_false, Int.not_lt, Int.not_le, ne_eq, Nat.not_lt, Nat.not_le] at c5
            refine at_skip ?_
            refine norm_block ?_
            refine norm_then ?_
            refine at_region ?_
            refine at_q rfl rfl (by decide) (qt_move rfl rfl) ?_
            refine at_q rfl rfl (by decide) (qt_add rfl rfl rfl (by omega) (by omega)) ?_
            refine at_q rfl rfl (by decide) (qt_assign rfl rfl) ?_
            refine at_end ?_
            exact at_againc hL2 (j + 1) (⟨by omega, by omega, by rw [← Nat.add_assoc, kc_same (by omega) (by omega) (of_decide_eq_true (ptNe ▸ c5))]; omega⟩) (by omega) ⟨vi (by rw [← Nat.add_assoc, kc_same (by omega) (by omega) (of_decide_eq_true (ptNe ▸ c5))]), vi (by omega), rfl, rfl, rfl, rfl, rfl, rfl, rfl, rfl, rfl, rfl, rfl, rfl, rfl, rfl, rfl, rfl, rfl, rfl, rfl, rfl, trivial⟩ (fun _ h => h.upto ⟨by rw [← Nat.add_assoc, clo_no (by omega) (by omega) (of_decide_eq_true (ptNe ▸ c5))], trivial⟩)
        · try simp only [decide_eq_true_eq, decide_eq_false_iff_not, beq_iff_eq, beq_eq_false_iff_ne, Bool.not_eq_true', Bool.not_eq_false', Bool.not_true, Bool.not_false, Int.not_lt, Int.not_le, ne_eq, Nat.not_lt, Nat.not_le] at c4
          refine at_exit ?_
          refine pass_then (fun h => by cases h) ?_
          refine pass_then (fun h => by cases h) ?_
          refine pass_hit ?_
          refine norm_then ?_
          refine at_seq ?_
          refine at_region ?_
          refine at_q rfl rfl (by decide) (qt_move rfl rfl) ?_
          refine at_q rfl rfl (by decide) (qt_move rfl rfl) ?_
          refine at_q rfl rfl (by decide) ((qt_sliceL rfl rfl rfl tyl_sl_impl_Pt (by omega)).as (slicedL (b := b) (o := 0) (l := kc xs (k + j)) (h := n) (m := c) (s := 2) hc (by omega))) ?_
          refine at_op rfl ?_
          refine op_clear (k := 0) (zs := zerosP (n - kc xs (k + j))) rfl tyl_sl_impl_Pt tyz_impl_Pt rfl rfl (by omega) rfl rfl (zerosP_one _) (by rw [List.length_append, ptCells_len, hcl, zerosP_len, offL, if_neg (by omega)]; omega) ?_
          refine at_rsE (by simp only [List.nil_append, List.cons_append, List.set_cons_zero, List.set_cons_succ, Value.cells, List.toList_toArray]; rfl) ?_
          refine at_end ?_
          refine at_seq ?_
          refine at_region ?_
          refine at_q rfl rfl (by decide) (qt_move rfl rfl) ?_
          refine at_q rfl rfl (by decide) (qt_move rfl rfl) ?_
          refine at_q rfl rfl (by decide) ((qt_sliceH rfl rfl rfl tyl_sl_impl_Pt (by omega)).as (slicedH _ _ _ _ _)) ?_
          refine at_q rfl rfl (by decide) (qt_assign rfl rfl) ?_
          refine at_end ?_
          refine at_retc ?_
          refine pass_ret ?_
          refine then_ret ?_
          refine then_ret ?_
          refine pass_ret ?_
          refine then_ret ?_
          refine at_ret1 rfl (.tmp rfl) ?_
          intro w' hs
          have hkj : k + j = n := by omega
          have hK : (compP xs).length = kc xs n := by rw [kc, ← hn, List.take_length]
          have hlc : ((clo xs n).flatMap ptCells ++ rest).length = c * 2 := by rw [← hl, List.length_append, List.length_append, ptCells_len, ptCells_len, clo_len (by omega)]
          have hoK : offL 0 (kc xs n) c 2 = 0 + kc xs n * 2 := by rw [offL, if_neg (by rw [← hkj]; omega)]
          rw [hkj, hoK] at hs
          rw [hkj] at hj
          exact ⟨by rw [hK, hkj], hs.over.wr, _, hs.cel (k := 0) rfl, by rw [splice_len]; exact hlc, take_clear hn hlc (by rw [zerosP_len]; omega)⟩
      · try simp only [decide_eq_true_eq, decide_eq_false_iff_not, beq_iff_eq, beq_eq_false_iff_ne, Bool.not_eq_true', Bool.not_eq_false', Bool.not_true, Bool.not_false, Int.not_lt, Int.not_le, ne_eq, Nat.not_lt, Nat.not_le] at c3
        have hne : ¬ pt xs (k - 1) = pt xs k := of_decide_eq_false (ptNe ▸ c3)
        refine at_skip ?_
        refine norm_block ?_
        refine norm_then ?_
        refine at_region ?_
        refine at_q rfl rfl (by decide) (qt_move rfl rfl) ?_
        refine at_q rfl rfl (by decide) (qt_add rfl rfl rfl (by omega) (by omega)) ?_
        refine at_q rfl rfl (by decide) (qt_assign rfl rfl) ?_
        refine at_end ?_
        exact at_againk hL1 (k + 1) (⟨by omega, by omega, fun j h1 h2 => (Nat.lt_or_ge j k).elim (fun h3 => hk.2.2 j h1 h3) (fun h3 => (show k = j by omega) ▸ hne)⟩) (by omega) ⟨vi (by omega), rfl, rfl, trivial⟩ (fun _ h => h.upto ⟨rfl, trivial⟩)
    · try simp only [decide_eq_true_eq, decide_eq_false_iff_not, beq_iff_eq, beq_eq_false_iff_ne, Bool.not_eq_true', Bool.not_eq_false', Bool.not_true, Bool.not_false, Int.not_lt, Int.not_le, ne_eq, Nat.not_lt, Nat.not_le] at c2
      refine at_exit ?_
      refine pass_then (fun h => by cases h) ?_
      refine pass_then (fun h => by cases h) ?_
      refine pass_hit ?_
      refine norm_then ?_
      refine at_seq ?_
      refine at_region ?_
      refine at_q rfl rfl (by decide) (qt_move rfl rfl) ?_
      refine at_q rfl rfl (by decide) (qt_assign rfl rfl) ?_
      refine at_end ?_
      refine at_retc ?_
      refine at_ret1 rfl (.tmp rfl) ?_
      intro w' hs
      have hkn : k = n := by omega
      have hw := compP_whole (xs := xs) fun j h1 h2 => hk.2.2 j h1 (by omega)
      exact ⟨by rw [hw, hn], hs.over.wr, _, hs.cel (k := 0) rfl, hl, by rw [hw]; exact take_whole⟩
/-- A row without neighbours that are the same. -/
theorem Compact_row {N c n : Nat} {A : Option Addr} {xs : List Pn} {w : World} (h : w.ownsRow N 34 2 (.slice A n c) n (xs.flatMap ptCells)) (hn : xs.length = n) (h0 : 0 < n) (hn2 : n ≤ 1048577) :
    Calls Try.prog 94 #[.slice A n c] w fun e w' => e = .returned (.slice A (compP xs).length c) ∧ Wrs (rowR N 34 2 n (xs.flatMap ptCells) (A, c)).F w w' ∧ (rowR N 34 2 (compP xs).length ((compP xs).flatMap ptCells) (A, c)).P w' := by
  rcases h.2 with ⟨_, e⟩ | ⟨g, cap, cur, e, hb, hg, hcap, hmax, hsz, htk⟩
  · omega
  · injection e with e1 e2 e3
    subst e1 e3
    have hcur : cur.toList = xs.flatMap ptCells ++ cur.toList.drop (n * 2) := by rw [← htk, List.take_append_drop]
    have hg' : w.heap[g]? = some (.cells (xs.flatMap ptCells ++ cur.toList.drop (n * 2)).toArray 34 (0, 0)) := by rw [← hcur, Array.toArray_toList]; exact hg
    have hle := compP_len xs
    refine (Compact_cel g _ c n xs (cur.toList.drop (n * 2)) w hg' hcap (by rw [← hcur]; simpa using hsz) hn hn2).mono ?_
    rintro e w' ⟨rfl, hw, cs, hh, hcl, htk'⟩
    refine ⟨rfl, ⟨hw.os, hw.tape, hw.output, hw.size, fun q hq hne => hw.block q hq (fun e => hne (by subst e; rfl))⟩, ?_⟩
    exact ⟨ptCells_len _, .inr ⟨g, c, _, rfl, hb, hh, by omega, hmax, by simpa using hcl, by rw [List.toList_toArray]; exact htk'⟩⟩
theorem pre_cells1 (ls : List Leg) (i : Nat) : (preL ls i 0).flatMap ptCells = (hpI ls i).flatMap ptCells ++ [.int .i64 (lg ls i).ax, .int .i64 (lg ls i).ay, .int .i64 (lg ls i).bx, .int .i64 (lg ls i).b_y] ∧ (preL ls i 0).length = (hpI ls i).length + 2 := by
  unfold preL cz
  rw [List.append_nil, List.flatMap_append, List.length_append]
  exact ⟨rfl, rfl⟩
theorem pre_yes {ls : List Leg} {i k : Nat} (h : meetS (lA (lg ls i)) (lB (lg ls i)) (lA (lg ls k)) (lB (lg ls k)) = 2) : preL ls i (k + 1) = preL ls i k ++ [crP (lA (lg ls i)) (lB (lg ls i)) (lA (lg ls k)) (lB (lg ls k))] := by
  rw [preL, cz, if_pos h, ← List.append_assoc]
  rfl
theorem pre_no {ls : List Leg} {i k : Nat} (h : ¬ meetS (lA (lg ls i)) (lB (lg ls i)) (lA (lg ls k)) (lB (lg ls k)) = 2) : preL ls i (k + 1) = preL ls i k := by
  rw [preL, cz, if_neg h, List.append_nil]
  rfl
theorem cz_bd {ls : List Leg} (hok : ∀ l ∈ ls, legOk l) {i : Nat} (hi : i < ls.length) : ∀ k, k ≤ i → ∀ p ∈ cz ls i k, bdW p
  | 0, _, p, hp => by simp [cz] at hp
  | k + 1, hk, p, hp => by
    unfold cz at hp
    rcases List.mem_append.1 hp with h | h
    · exact cz_bd hok hi k (by omega) p h
    · split at h
      · rename_i hm
        rw [List.mem_singleton.1 h]
        exact crP_bd (lA_ok (lg_ok hok hi)) (lB_ok (lg_ok hok hi)) (lA_ok (lg_ok hok (by omega))) (lB_ok (lg_ok hok (by omega))) (meet2 hm).2
      · simp at h
theorem hpI_bd {ls : List Leg} (hok : ∀ l ∈ ls, legOk l) : ∀ i, i ≤ ls.length → ∀ p ∈ hpI ls i, bdW p
  | 0, _, p, hp => by simp [hpI] at hp
  | i + 1, hi, p, hp => by
    unfold hpI at hp
    rcases List.mem_append.1 hp with h | h
    · rcases List.mem_append.1 h with h | h
      · exact hpI_bd hok i (by omega) p h
      · simp only [List.mem_cons, List.not_mem_nil, or_false] at h
        rcases h with rfl | rfl
        · exact (lA_ok (lg_ok hok (by omega))).wide
        · exact (lB_ok (lg_ok hok (by omega))).wide
    · exact cz_bd hok (by omega) i (Nat.le_refl _) p h
theorem hpI_pos {ls : List Leg} {i : Nat} (h : 0 < i) : 0 < (hpI ls i).length := by
  obtain ⟨j, rfl⟩ : ∃ j, i = j + 1 := ⟨i - 1, by omega⟩
  unfold hpI
  simp
  omega
theorem sort_put {B g c n : Nat} {xs : List Pn} {w : World} (h : (rowR B 34 2 n (xs.flatMap ptCells) (some ⟨g, 0, none⟩, c)).P w) (hl : xs.length = n) (hx : ∀ p ∈ xs, bdW p) (hn : n ≤ 1048576) (h0 : 0 < n) :
    Calls Try.prog 92 #[.slice (some ⟨g, 0, none⟩) n c, .func (.func 93) #[] #[]] w fun e w' => ∃ x : { ys : List Pn // ys.Perm xs ∧ Ris ys }, e = .returned (.tuple #[]) ∧ Wrs (rowR B 34 2 n (xs.flatMap ptCells) (some ⟨g, 0, none⟩, c)).F w w' ∧ (rowR 0 34 2 n (x.1.flatMap ptCells) (some ⟨g, 0, none⟩, c)).P w' ∧ (∀ b, (rowR 0 34 2 n (x.1.flatMap ptCells) (some ⟨g, 0, none⟩, c)).F b → (rowR B 34 2 n (xs.flatMap ptCells) (some ⟨g, 0, none⟩, c)).F b ∨ w.heap.size ≤ b) ∧ (rowR 0 34 2 n (x.1.flatMap ptCells) (some ⟨g, 0, none⟩, c)).B = 0 := by
  refine (sort_row h hl hx hn h0).mono ?_
  rintro e w' ⟨rfl, ys, hp, hr, hw, ho⟩
  exact ⟨⟨ys, hp, hr⟩, rfl, hw.mono fun b hb => by subst hb; rfl, ho, fun b hb => .inl hb, rfl⟩
theorem ins_nil (v : Value) (w : World) : Calls Try.prog 118 #[.slice none 0 0, .int .i64 0, .int .i64 0, v] w fun e w' => e = .returned (.tuple #[]) ∧ Over w w' := by
  refine walk_from (m := 53) (Try.func118) rfl rfl (Nat.le_of_ble_eq_true rfl) ?_
  refine at_seq ?_
  refine at_region ?_
  refine at_q rfl rfl (by decide) (qt_move rfl rfl) ?_
  refine at_q rfl rfl (by decide) (qt_add rfl rfl rfl (by omega) (by omega)) ?_
  refine at_q rfl rfl (by decide) (qt_assign rfl rfl) ?_
  refine at_end ?_
  refine at_block ?_
  refine at_loopk (X := Unit) (fun u => True) (fun u => 0) (fun u => [(8, .int .i64 1)]) (C := [(0, _), (1, _), (2, _), (3, _)]) ⟨rfl, rfl, rfl, rfl, trivial⟩ () (trivial) ⟨rfl, rfl, rfl, rfl, rfl, trivial⟩ ?_
  intro u hu L hL1
  refine at_envE (by simp only [List.nil_append, List.cons_append]; rfl) ?_
  refine at_seq ?_
  refine at_seq ?_
  refine at_region ?_
  refine at_q rfl rfl (by decide) (qt_move rfl rfl) ?_
  refine at_q rfl rfl (by decide) (qt_move rfl rfl) ?_
  refine at_q rfl rfl (by decide) (qt_lss rfl rfl rfl) ?_
  refine at_end ?_
  refine at_cond rfl (fun c1 => ?_) (fun c1 => ?_)
  · try simp only [decide_eq_true_eq, decide_eq_false_iff_not, beq_iff_eq, beq_eq_false_iff_ne, Bool.not_eq_true', Bool.not_eq_false', Bool.not_true, Bool.not_false, Int.not_lt, Int.not_le, ne_eq, Nat.not_lt, Nat.not_le] at c1
    omega
  · try simp only [decide_eq_true_eq, decide_eq_false_iff_not, beq_iff_eq, beq_eq_false_iff_ne, Bool.not_eq_true', Bool.not_eq_false', Bool.not_true, Bool.not_false, Int.not_lt, Int.not_le, ne_eq, Nat.not_lt, Nat.not_le] at c1
    refine at_exit ?_
    refine pass_then (fun h => by cases h) ?_
    refine pass_then (fun h => by cases h) ?_
    refine pass_hit ?_
    refine at_end0 rfl ?_
    intro w' hs
    exact ⟨rfl, hs.fin⟩
theorem pdq_nil (l : Int) (v : Value) (w : World) : Calls Try.prog 111 #[.slice none 0 0, .int .i64 0, .int .i64 0, .int .i64 l, v] w fun e w' => e = .returned (.tuple #[]) ∧ Over w w' := by
  refine walk_from (m := 148) (Try.func111) rfl rfl (Nat.le_of_ble_eq_true rfl) ?_
  refine at_seq ?_
  refine at_region ?_
  refine at_q rfl rfl (by decide) (qt_assign rfl rfl) ?_
  refine at_end ?_
  refine at_seq ?_
  refine at_region ?_
  refine at_q rfl rfl (by decide) (qt_assign rfl rfl) ?_
  refine at_end ?_
  refine at_block ?_
  refine at_loopk (X := Unit) (fun u => True) (fun u => 0) (fun u => []) (C := [(0, _), (1, _), (2, _), (3, _), (4, _), (10, _), (11, _)]) ⟨rfl, rfl, rfl, rfl, rfl, rfl, rfl, trivial⟩ () (trivial) ⟨rfl, rfl, rfl, rfl, rfl, rfl, rfl, trivial⟩ ?_
  intro u hu L hL1
  refine at_envE (by simp only [List.nil_append, List.cons_append]; rfl) ?_
  refine at_block ?_
  refine at_seq ?_
  refine at_region ?_
  refine at_q rfl rfl (by decide) (qt_move rfl rfl) ?_
  refine at_q rfl rfl (by decide) (qt_move rfl rfl) ?_
  refine at_q rfl rfl (by decide) (qt_sub rfl rfl rfl (by omega) (by omega)) ?_
  refine at_q rfl rfl (by decide) (qt_assign rfl rfl) ?_
  refine at_end ?_
  refine at_seq ?_
  refine at_seq ?_
  refine at_region ?_
  refine at_q rfl rfl (by decide) (qt_move rfl rfl) ?_
  refine at_q rfl rfl (by decide) (qt_leq rfl rfl rfl) ?_
  refine at_end ?_
  refine at_cond rfl (fun c1 => ?_) (fun c1 => ?_)
  · try simp only [decide_eq_true_eq, decide_eq_false_iff_not, beq_iff_eq, beq_eq_false_iff_ne, Bool.not_eq_true', Bool.not_eq_false', Bool.not_true, Bool.not_false, Int.not_lt, Int.not_le, ne_eq, Nat.not_lt, Nat.not_le] at c1
    refine at_seq ?_
    refine at_region ?_
    refine at_q rfl rfl (by decide) (qt_move rfl rfl) ?_
    refine at_q rfl rfl (by decide) (qt_move rfl rfl) ?_
    refine at_q rfl rfl (by decide) (qt_move rfl rfl) ?_
    refine at_q rfl rfl (by decide) (qt_move rfl rfl) ?_
    refine at_q rfl rfl (by decide) (qt_call ok_slices_insertionSortCmpFunc_impl_Pt rfl rfl (fun w h => ins_nil v w)) ?_
    refine at_end ?_
    refine at_retc ?_
    refine then_ret ?_
    refine pass_ret ?_
    refine then_ret ?_
    refine pass_ret ?_
    refine at_ret0 rfl ?_
    intro w' hs
    exact ⟨rfl, hs.fin⟩
  · try simp only [decide_eq_true_eq, decide_eq_false_iff_not, beq_iff_eq, beq_eq_false_iff_ne, Bool.not_eq_true', Bool.not_eq_false', Bool.not_true, Bool.not_false, Int.not_lt, Int.not_le, ne_eq, Nat.not_lt, Nat.not_le] at c1
    omega
theorem len_nil (w : World) : Calls Try.prog 112 #[.int .u64 0] w fun e w' => (∃ l : Int, e = .returned (.int .i64 l)) ∧ w = w' :=
  (Any.bits_Len (SlLaysF0.n15.bits (P := Try.prog) (ρ := sortPt_ren) { sortPt with }) 0 w (by omega) (by omega)).mono fun _ _ ⟨he, hw⟩ => ⟨⟨_, he⟩, hw.symm⟩
theorem sort_nil (w : World) : Calls Try.prog 92 #[.slice none 0 0, .func (.func 93) #[] #[]] w fun e w' => e = .returned (.tuple #[]) ∧ Over w w' := by
  go_enter Try.func92, Try.ntmps92
  go_wp2_with fail
  go_at_call 112
  refine (len_nil _).mono ?_
  rintro e w1 ⟨⟨l, rfl⟩, rfl⟩
  go_wp2_with fail
  go_at_call 111
  refine (pdq_nil _ _ _).mono ?_
  rintro e w1 ⟨rfl, hb⟩
  go_wp2_with fail
  go_end0
  exact ⟨rfl, hb⟩
theorem Compact_nil (w : World) : Calls Try.prog 94 #[.slice none 0 0] w fun e w' => e = .returned (.slice none 0 0) ∧ Over w w' := by
  refine walk_from (m := 61) (Try.func94) rfl rfl (Nat.le_of_ble_eq_true rfl) ?_
  refine at_seq ?_
  refine at_region ?_
  refine at_q rfl rfl (by decide) (qt_assign rfl rfl) ?_
  refine at_end ?_
  refine at_seq ?_
  refine at_seq ?_
  refine at_region ?_
  refine at_q rfl rfl (by decide) (qt_move rfl rfl) ?_
  refine at_q rfl rfl (by decide) (qt_len rfl rfl tyl_sl_impl_Pt) ?_
  refine at_q rfl rfl (by decide) (qt_lss rfl rfl rfl) ?_
  refine at_end ?_
  refine at_cond rfl (fun c1 => ?_) (fun c1 => ?_)
  · try simp only [decide_eq_true_eq, decide_eq_false_iff_not, beq_iff_eq, beq_eq_false_iff_ne, Bool.not_eq_true', Bool.not_eq_false', Bool.not_true, Bool.not_false, Int.not_lt, Int.not_le, ne_eq, Nat.not_lt, Nat.not_le] at c1
    refine at_seq ?_
    refine at_region ?_
    refine at_q rfl rfl (by decide) (qt_move rfl rfl) ?_
    refine at_q rfl rfl (by decide) (qt_assign rfl rfl) ?_
    refine at_end ?_
    refine at_retc ?_
    refine then_ret ?_
    refine at_ret1 rfl (.tmp rfl) ?_
    intro w' hs
    exact ⟨rfl, hs.fin⟩
  · try simp only [decide_eq_true_eq, decide_eq_false_iff_not, beq_iff_eq, beq_eq_false_iff_ne, Bool.not_eq_true', Bool.not_eq_false', Bool.not_true, Bool.not_false, Int.not_lt, Int.not_le, ne_eq, Nat.not_lt, Nat.not_le] at c1
    omega
/-- The hot points of a region; the code. -/
def htR (rs : List Ring_) : List Pn := if regionB rs = true then putAll (hpI (edgesAll rs) (edgesAll rs).length) else []
def htC (rs : List Ring_) : Int := if regionB rs = true then 0 else 1
theorem reg400 {rs : List Ring_} (h : regionB rs = true) : (edgesAll rs).length ≤ 400 := by
  simp only [regionB, Bool.and_eq_true, decide_eq_true_eq] at h
  exact h.2
theorem rowOwn3 {w w' : World} {Rs : List Res} (hs : St ⟨w, []⟩ Rs w') {k B T n : Nat} {x : Option Addr × Nat} {xs : List (Int × Int)} (hk : Rs[k]? = some (rowR B T 2 n (xs.flatMap ptCells) x)) (hn : xs.length = n) : OwnP w.heap.size w'.heap.size w' x.1 n xs := by
  have hr := hs.all k _ hk
  have h := ownP_row (x := x) hr.1 hn
  refine ⟨h.1, fun h0 => ?_⟩
  obtain ⟨b, o, T', cs, e, _, _, hh, hc⟩ := h.2 h0
  refine ⟨b, o, T', cs, e, ?_, lt_of_some hh, hh, hc⟩
  exact (hr.2.1 b (by show Value.ownBlock (.slice x.1 n x.2) = some b; rw [e]; rfl)).elim id (fun h => by cases h)
theorem htR_len (rs : List Ring_) : (htR rs).length ≤ 200000 := by
  unfold htR
  split
  · rename_i h
    have h1 := reg400 h
    have h2 := putAll_len (hpI (edgesAll rs) (edgesAll rs).length)
    have h3 := hpI_len (edgesAll rs) (edgesAll rs).length
    have h4 : (edgesAll rs).length * ((edgesAll rs).length + 2) ≤ 400 * 402 := Nat.mul_le_mul h1 (by omega)
    omega
  · simp
theorem slcCode {P : Program} {f : FuncId} {args : Array Value} {w1 : World} {xs : List (Int × Int)} {code : Int} (h : Calls P f args w1 fun e w' => ∃ A' c', e = .returned (.tuple #[.slice A' xs.length c', .int .i64 code]) ∧ OwnP w1.heap.size w'.heap.size w' A' xs.length xs ∧ Over w1 w') :
    Calls P f args w1 fun e w' => ∃ x : (Option Addr × Nat) × Nat × Nat, e = .returned (.tuple #[.slice x.1.1 xs.length x.1.2, .int .i64 code]) ∧ Over w1 w' ∧ (ptsR xs.length xs x.2.1 x.2.2 x.1.1).P w' ∧ (∀ b, (ptsR xs.length xs x.2.1 x.2.2 x.1.1).F b → w1.heap.size ≤ b) ∧ (ptsR xs.length xs x.2.1 x.2.2 x.1.1).B = 0 ∧ True :=
  ptsNew (V := fun A c => .tuple #[.slice A xs.length c, .int .i64 code]) h
theorem markSlc {lo hi n c : Nat} {A : Option Addr} {xs : List (Int × Int)} {w : World} (h : OwnP lo hi w A n xs) (hz : hi ≤ w.heap.size) (hb : 1 + 2 * (n : Int) ≤ 4611686018427387904) :
    Calls Try.prog 18 #[.slice A n c, .int .i64 1] w fun e w' => e = .returned (.int .i64 (1 + 2 * (n : Int))) ∧ Wrs (ptsR n xs lo hi A).F w w' ∧ (ptsR n (marks 1 n) lo hi A).P w' :=
  (markPtS_any lo hi A n c xs 1 w h (by omega) hb).mono (by rintro e w' ⟨he, hw, hg⟩; exact ⟨he, hw.mono fun _ h => h.2.2, ptsP hg (Nat.le_trans hz hw.size)⟩)
end Go.Proofs.Ytcplmmoeglembaa
