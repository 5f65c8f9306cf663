/- Stable sorting of rings in place: merges and blocks. -/
import Derived.Test.YtbdlbemlgghgbaaStab
import Derived.Test.YtbdlbemlgghgbaaSrc
namespace Go.Proofs.Ytbdlbemlgghgbaa
open Go Go.RowKit
set_option linter.unusedVariables false
set_option linter.unusedSimpArgs false
set_option maxRecDepth 100000
set_option maxHeartbeats 4000000
set_option linter.unusedVariables false
set_option linter.unusedSimpArgs false

section
variable {lt : Value → Value → Bool}
theorem srt_at {R : List Value} (h : Srt lt R) {i j : Nat} (hij : i < j) (hj : j < R.length) : lt R[j] R[i] = false :=
  List.pairwise_iff_getElem.1 h i j (by omega) hj hij
theorem at_take {R : List Value} {n : Nat} {r : Value} (h : r ∈ R.take n) : ∃ i, ∃ hi : i < R.length, i < n ∧ R[i] = r := by
  obtain ⟨i, hi, e⟩ := List.getElem_of_mem h
  rw [List.length_take] at hi
  exact ⟨i, by omega, by omega, by rw [← e, List.getElem_take]⟩
theorem at_drop {R : List Value} {n : Nat} {r : Value} (h : r ∈ R.drop n) : ∃ i, ∃ hi : i < R.length, n ≤ i ∧ R[i] = r := by
  obtain ⟨i, hi, e⟩ := List.getElem_of_mem h
  rw [List.length_drop] at hi
  exact ⟨n + i, by omega, by omega, by rw [← e, List.getElem_drop]⟩
/-- All up to h come ahead of x. -/
theorem srch_lo (W : Weak lt) {R : List Value} (hS : Srt lt R) {h : Nat} {x : Value} (hh : h < R.length) (hx : lt R[h] x = true) : ∀ r ∈ R.take (h + 1), lt r x = true := by
  intro r hr
  obtain ⟨i, hi, hin, rfl⟩ := at_take hr
  rcases Nat.lt_or_eq_of_le (show i ≤ h by omega) with h1 | rfl
  · exact W.le_lt (srt_at hS h1 hh) hx
  · exact hx
theorem srch_hi (W : Weak lt) {R : List Value} (hS : Srt lt R) {h : Nat} {x : Value} (hh : h < R.length) (hx : lt R[h] x = false) : ∀ r ∈ R.drop h, lt r x = false := by
  intro r hr
  obtain ⟨i, hi, hin, rfl⟩ := at_drop hr
  rcases Nat.lt_or_eq_of_le hin with h1 | rfl
  · exact W.neg _ _ _ (srt_at hS h1 hi) hx
  · exact hx
/-- y comes ahead of none up to h. -/
theorem srch_lo2 (W : Weak lt) {L : List Value} (hS : Srt lt L) {h : Nat} {y : Value} (hh : h < L.length) (hy : lt y L[h] = false) : ∀ l ∈ L.take (h + 1), lt y l = false := by
  intro r hr
  obtain ⟨i, hi, hin, rfl⟩ := at_take hr
  rcases Nat.lt_or_eq_of_le (show i ≤ h by omega) with h1 | rfl
  · exact W.neg _ _ _ hy (srt_at hS h1 hh)
  · exact hy
theorem srch_hi2 (W : Weak lt) {L : List Value} (hS : Srt lt L) {h : Nat} {y : Value} (hh : h < L.length) (hy : lt y L[h] = true) : ∀ l ∈ L.drop h, lt y l = true := by
  intro r hr
  obtain ⟨i, hi, hin, rfl⟩ := at_drop hr
  rcases Nat.lt_or_eq_of_le hin with h1 | rfl
  · exact W.lt_le hy (srt_at hS h1 hi)
  · exact hy
/-- One element on its way up. -/
theorem move_up (A R B : List Value) (x : Value) {k : Nat} (hk : k < R.length) : swap2 (A ++ (R.take k ++ x :: R.drop k) ++ B) (A.length + k) (A.length + k + 1) = A ++ (R.take (k + 1) ++ x :: R.drop (k + 1)) ++ B := by
  have := swap2_pcs (A := A ++ R.take k) (x := x) (M := []) (y := R[k]) (B := R.drop (k + 1) ++ B) (i := A.length + k) (j := A.length + k + 1) (by simp; omega) (by simp; omega)
  rw [List.drop_eq_getElem_cons hk, List.take_succ_eq_append_getElem hk]
  simp only [List.append_assoc, List.cons_append, List.nil_append] at this ⊢
  exact this
theorem swap2_comm {l : List Value} {i j : Nat} (h : i ≠ j) : swap2 l i j = swap2 l j i := by
  unfold swap2
  cases hi : l[i]? <;> cases hj : l[j]? <;> simp only
  exact List.set_comm _ _ h
theorem move_down (A L B : List Value) (y : Value) {k : Nat} (h0 : 0 < k) (hk : k ≤ L.length) : swap2 (A ++ (L.take k ++ y :: L.drop k) ++ B) (A.length + k) (A.length + k - 1) = A ++ (L.take (k - 1) ++ y :: L.drop (k - 1)) ++ B := by
  obtain ⟨k, rfl⟩ : ∃ q, k = q + 1 := ⟨k - 1, by omega⟩
  rw [show A.length + (k + 1) - 1 = A.length + k by omega, show k + 1 - 1 = k by omega, ← move_up A L B y (by omega : k < L.length)]
  rw [swap2_comm (by omega)]
  have hb : A.length + k + 1 < (A ++ (L.take k ++ y :: L.drop k) ++ B).length := by simp; omega
  rw [show A.length + (k + 1) = A.length + k + 1 by omega]
  obtain ⟨u, hu⟩ : ∃ u, (A ++ (L.take k ++ y :: L.drop k) ++ B)[A.length + k]? = some u := ⟨_, List.getElem?_eq_getElem (by omega)⟩
  obtain ⟨v, hv⟩ : ∃ v, (A ++ (L.take k ++ y :: L.drop k) ++ B)[A.length + k + 1]? = some v := ⟨_, List.getElem?_eq_getElem hb⟩
  generalize A ++ (L.take k ++ y :: L.drop k) ++ B = l at *
  rw [swap2_at hu hv, swap2_at (i := A.length + k) (j := A.length + k + 1) (x := v) (y := u)]
  · apply List.ext_getElem?
    intro q
    by_cases h1 : A.length + k + 1 = q
    · subst h1; rw [List.getElem?_set_self (by simp; omega), hv]
    · rw [List.getElem?_set_ne h1]
      by_cases h2 : A.length + k = q
      · subst h2; rw [List.getElem?_set_self (by simp; omega), hu]
      · rw [List.getElem?_set_ne h2, List.getElem?_set_ne h1, List.getElem?_set_ne h2]
  · rw [List.getElem?_set_ne (by omega), List.getElem?_set_self (by omega)]
  · rw [List.getElem?_set_self (by simp; omega)]
/-- Where a merge is split: s of the first list and t of the second come ahead. -/
theorem mrg_at (W : Weak lt) {L R : List Value} (hL : Srt lt L) (hR : Srt lt R) {s t : Nat} (h1 : s = 0 ∨ t = R.length ∨ ∃ (hs : s - 1 < L.length) (ht : t < R.length), lt R[t] L[s - 1] = false)
    (h2 : t = 0 ∨ s = L.length ∨ ∃ (ht : t - 1 < R.length) (hs : s < L.length), lt R[t - 1] L[s] = true) (hs : s ≤ L.length) (ht : t ≤ R.length) :
    mrg lt L R = mrg lt (L.take s) (R.take t) ++ mrg lt (L.drop s) (R.drop t) := by
  rw [← mrg_split, List.take_append_drop, List.take_append_drop]
  · intro l hl r hr
    obtain ⟨i, hi, hin, rfl⟩ := at_take hl
    obtain ⟨j, hj, hjn, rfl⟩ := at_drop hr
    rcases h1 with h1 | h1 | ⟨g1, g2, h1⟩
    · omega
    · omega
    · exact srch_lo2 W hL g1 (srch_hi W hR g2 h1 _ (List.mem_iff_getElem.2 ⟨j - t, by rw [List.length_drop]; omega, by rw [List.getElem_drop]; congr 1; omega⟩)) _ (List.mem_iff_getElem.2 ⟨i, by rw [List.length_take]; omega, by rw [List.getElem_take]⟩)
  · intro r hr l hl
    obtain ⟨j, hj, hjn, rfl⟩ := at_take hr
    obtain ⟨i, hi, hin, rfl⟩ := at_drop hl
    rcases h2 with h2 | h2 | ⟨g1, g2, h2⟩
    · omega
    · omega
    · exact srch_hi2 W hL g2 (srch_lo W hR g1 h2 _ (List.mem_iff_getElem.2 ⟨j, by rw [List.length_take]; omega, by rw [List.getElem_take]⟩)) _ (List.mem_iff_getElem.2 ⟨i - s, by rw [List.length_drop]; omega, by rw [List.getElem_drop]; congr 1; omega⟩)
end
theorem blk_mem {lt : Value → Value → Bool} (k : Nat) (xs : List Value) (z : Value) : z ∈ blk lt k xs ↔ z ∈ xs := by
  induction xs using blk.induct k with
  | case1 xs h => rw [blk, dif_pos h, srt_mem]
  | case2 xs h ih =>
    rw [blk, dif_neg h, List.mem_append, srt_mem, ih, ← List.mem_append, List.take_append_drop]
theorem blk_len {lt : Value → Value → Bool} (k : Nat) (xs : List Value) : (blk lt k xs).length = xs.length := by
  induction xs using blk.induct k with
  | case1 xs h => rw [blk, dif_pos h, srt_len]
  | case2 xs h ih =>
    rw [blk, dif_neg h, List.length_append, srt_len, ih, ← List.length_append, List.take_append_drop]
/-- Sorted by blocks of k up to a; behind it the list Z stands for X.drop a. -/
structure PreI (lt : Value → Value → Bool) (X : List Value) (k a : Nat) (F : List Value) : Prop where
  len : F.length = a
  eq : F ++ blk lt k (X.drop a) = blk lt k X
  le : a ≤ X.length
theorem PreI.zero {lt : Value → Value → Bool} {X : List Value} {k : Nat} : PreI lt X k 0 [] := ⟨rfl, rfl, Nat.zero_le _⟩
theorem PreI.mem {lt : Value → Value → Bool} {X F : List Value} {k a : Nat} (h : PreI lt X k a F) {z : Value} (hz : z ∈ F) : z ∈ X := (blk_mem k X z).1 (h.eq ▸ List.mem_append_left _ hz)
theorem PreI.step {lt : Value → Value → Bool} {X F : List Value} {k a : Nat} (h : PreI lt X k a F) (hk : 0 < k) (hl : a + k ≤ X.length) : PreI lt X k (a + k) (F ++ srt lt ((X.drop a).take k)) := by
  refine ⟨by rw [List.length_append, srt_len, h.len, List.length_take, List.length_drop]; omega, ?_, hl⟩
  rw [← h.eq, blk_le (xs := X.drop a) hk (by rw [List.length_drop]; omega), List.drop_drop, List.append_assoc]
theorem PreI.fin {lt : Value → Value → Bool} {X F : List Value} {k a : Nat} (h : PreI lt X k a F) (hl : X.length ≤ a + k) : F ++ srt lt (X.drop a) = blk lt k X := by
  rw [← h.eq, blk_short (xs := X.drop a) (by rw [List.length_drop]; omega)]
theorem PreI.cut {X F B : List Value} {k a : Nat} : F ++ (X.drop a ++ B) = F ++ (X.drop a).take k ++ (X.drop (a + k) ++ B) := by
  rw [← List.drop_drop, List.append_assoc F, ← List.append_assoc (List.take k _), List.take_append_drop]
theorem PreI.two {lt : Value → Value → Bool} (W : Weak lt) {X F B : List Value} {k a : Nat} (h : PreI lt X (2 * k) a F) (hk : 0 < k) (hl : a + 2 * k ≤ X.length) :
    F ++ (blk lt k (X.drop a) ++ B) = F ++ srt lt ((X.drop a).take k) ++ srt lt (((X.drop a).drop k).take k) ++ (blk lt k (X.drop (a + 2 * k)) ++ B) ∧
    PreI lt X (2 * k) (a + 2 * k) (F ++ mrg lt (srt lt ((X.drop a).take k)) (srt lt (((X.drop a).drop k).take k))) := by
  obtain ⟨e1, e2⟩ := blk_two W (xs := X.drop a) hk (by rw [List.length_drop]; omega)
  refine ⟨by rw [e1, List.drop_drop, List.drop_drop]; simp only [List.append_assoc], ?_, ?_, hl⟩
  · rw [List.length_append, mrg_len, srt_len, srt_len, h.len]
    simp
    omega
  · rw [← h.eq, e2, List.drop_drop (i := 2 * k), List.append_assoc]
theorem PreI.last {lt : Value → Value → Bool} (W : Weak lt) {X F B : List Value} {k a : Nat} (h : PreI lt X (2 * k) a F) (hk : 0 < k) (h1 : a + k < X.length) (hl : X.length ≤ a + 2 * k) :
    F ++ (blk lt k (X.drop a) ++ B) = F ++ srt lt ((X.drop a).take k) ++ srt lt ((X.drop a).drop k) ++ B ∧
    F ++ mrg lt (srt lt ((X.drop a).take k)) (srt lt ((X.drop a).drop k)) = blk lt (2 * k) X := by
  obtain ⟨e1, e2⟩ := blk_last W (xs := X.drop a) hk (by rw [List.length_drop]; omega) (by rw [List.length_drop]; omega)
  exact ⟨by rw [e1]; simp only [List.append_assoc], by rw [← h.eq, e2]⟩
theorem PreI.none {lt : Value → Value → Bool} {X F B : List Value} {k a : Nat} (h : PreI lt X (2 * k) a F) (h1 : X.length ≤ a + k) : F ++ (blk lt k (X.drop a) ++ B) = blk lt (2 * k) X ++ B := by
  rw [← h.eq, blk_end (xs := X.drop a) (by rw [List.length_drop]; omega), List.append_assoc]
theorem PreI.all {lt : Value → Value → Bool} {X F B : List Value} {k a q n : Nat} (h : PreI lt X k a F) {S : Value → Prop} (hX : ∀ z ∈ X, S z) (hn : X.length = n) : Up n S (F ++ (X.drop a ++ B)) ∧ Up n S (F ++ (blk lt q (X.drop a) ++ B)) := by
  have h1 := h.len
  have h2 := h.le
  constructor <;> rw [← List.append_assoc]
  · exact up_of (fun z hz => (List.mem_append.1 hz).elim (fun hz => hX z (h.mem hz)) (fun hz => hX z (List.mem_of_mem_drop hz))) (by simp; omega)
  · exact up_of (fun z hz => (List.mem_append.1 hz).elim (fun hz => hX z (h.mem hz)) (fun hz => hX z (List.mem_of_mem_drop ((blk_mem _ _ _).1 hz)))) (by simp [blk_len]; omega)
theorem PreI.lens {lt : Value → Value → Bool} {X F B : List Value} {k a q : Nat} (h : PreI lt X k a F) : X.length ≤ (F ++ (X.drop a ++ B)).length ∧ X.length ≤ (F ++ (blk lt q (X.drop a) ++ B)).length := by
  have := h.len
  have := h.le
  constructor <;> simp [blk_len] <;> omega
theorem cells_eq {l l' : List Value} {T : Nat} (e : l = l') : some (Obj.cells l.toArray T (0, 0)) = some (Obj.cells l'.toArray T (0, 0)) := by rw [e]
theorem stable_cells (b T : Nat) (X B : List Value) (n c : Nat) (S : Value → Prop) (cr : Value → Value → Int) (w : World) (hC : CmpOk w b S cr) (hh : w.heap[b]? = some (.cells (X ++ B).toArray T (0, 0)))
    (hX : X.length = n) (hn : n ≤ 1099511627776) (hS : ∀ x ∈ X, S x)
    (hM : ∀ (A L R Z : List Value) (a m e_ : Nat) (w1 : World), CmpOk w1 b S cr → w1.heap[b]? = some (.cells (A ++ L ++ R ++ Z).toArray T (0, 0)) → A.length = a → a + L.length = m → m + R.length = e_ → 0 < L.length → 0 < R.length → e_ ≤ n → n ≤ (A ++ L ++ R ++ Z).length → Srt (ltC cr) L → Srt (ltC cr) R → Up n S (A ++ L ++ R ++ Z) →
      Calls Try.prog 88 #[.slice (some ⟨b, 0, none⟩) n c, .int .i64 (a : Int), .int .i64 (m : Int), .int .i64 (e_ : Int), .func (.func 74) #[] #[]] w1 fun e w' => e = .returned (.tuple #[]) ∧ Wr b w1 w' ∧ w'.heap[b]? = some (.cells (A ++ mrg (ltC cr) L R ++ Z).toArray T (0, 0))) :
    Calls Try.prog 83 #[.slice (some ⟨b, 0, none⟩) n c, .int .i64 (n : Int), .func (.func 74) #[] #[]] w fun e w' => e = .returned (.tuple #[]) ∧ Wr b w w' ∧ w'.heap[b]? = some (.cells (srt (ltC cr) X ++ B).toArray T (0, 0)) := by
  have W := hC.weak
  refine walk_from1 (m := 63) (Try.func83) rfl rfl (Nat.le_of_ble_eq_true rfl) (hh) ?_
  refine at_seq ?_
  refine at_region ?_
  refine at_q rfl rfl (by decide) (qt_assign rfl rfl) ?_
  refine at_end ?_
  refine at_seq ?_
  refine at_region ?_
  refine at_q rfl rfl (by decide) (qt_move rfl rfl) ?_
  refine at_q rfl rfl (by decide) (qt_assign rfl rfl) ?_
  refine at_q rfl rfl (by decide) (qt_assign rfl rfl) ?_
  refine at_end ?_
  refine at_seq ?_
  refine at_block ?_
  refine at_loopc (X := Nat × List Value) (fun x => PreI (ltC cr) X 20 x.1 x.2) (fun x => n + 20 - x.1) (fun x => [(7, .int .i64 (x.1 : Int)), (8, .int .i64 ((x.1 + 20 : Nat) : Int))]) (C := [(0, _), (1, _), (2, _), (6, _)]) ⟨rfl, rfl, rfl, rfl, trivial⟩ (fun x => [.cel b T (x.2 ++ (X.drop x.1 ++ B))]) (0, []) (PreI.zero) ⟨rfl, rfl, rfl, rfl, rfl, rfl, trivial⟩ (fun _ h => h) ?_
  intro ⟨a, F⟩ hx L hL1
  refine at_envE (by simp only [List.nil_append, List.cons_append]; rfl) ?_
  refine at_rsE (by first | (dsimp only; done) | (dsimp only; rfl) | rfl) ?_
  have hx1 : PreI (ltC cr) X 20 a F := hx
  have hle := hx1.le
  have hfl := hx1.len
  refine at_seq ?_
  refine at_seq ?_
  refine at_region ?_
  refine at_q rfl rfl (by decide) (qt_move rfl rfl) ?_
  refine at_q rfl rfl (by decide) (qt_move rfl rfl) ?_
  refine at_q rfl rfl (by decide) (qt_leq rfl rfl rfl) ?_
  refine at_end ?_
  refine at_cond rfl (fun c1 => ?_) (fun c1 => ?_)
  · try simp only [decide_eq_true_eq, decide_eq_false_iff_not, beq_iff_eq, beq_eq_false_iff_ne, Bool.not_eq_true', Bool.not_eq_false', Bool.not_true, Bool.not_false, Int.not_lt, Int.not_le, ne_eq, Nat.not_lt, Nat.not_le] at c1
    have hlt : a + 20 ≤ n := (by omega)
    refine at_skip ?_
    refine norm_then ?_
    refine at_block ?_
    refine at_seq ?_
    refine at_region ?_
    refine at_q rfl rfl (by decide) (qt_move rfl rfl) ?_
    refine at_q rfl rfl (by decide) (qt_move rfl rfl) ?_
    refine at_q rfl rfl (by decide) (qt_move rfl rfl) ?_
    refine at_q rfl rfl (by decide) (qt_move rfl rfl) ?_
    refine at_op rfl ?_
    refine op_callm (k := 0) ok_slices_insertionSortCmpFunc_impl_Ring rfl rfl rfl (by decide) rfl (fun w1 h1 => insertion_cells b T F ((X.drop a).take 20) (X.drop (a + 20) ++ B) n c a (a + 20) S cr w1 (hC.over h1.over) ((h1.cel (k := 0) rfl).trans (cells_eq PreI.cut)) hfl (by simp; omega) hlt (by rw [← PreI.cut, ← hX]; exact (hx1.lens (q := 0)).1) hn (by rw [← PreI.cut]; exact (hx1.all (q := 0) hS hX).1)) ?_
    refine at_rsE (by simp only [List.nil_append, List.cons_append, List.set_cons_zero, List.set_cons_succ, Value.cells, List.toList_toArray]; rfl) ?_
    refine at_end ?_
    refine at_seq ?_
    refine at_region ?_
    refine at_q rfl rfl (by decide) (qt_move rfl rfl) ?_
    refine at_q rfl rfl (by decide) (qt_assign rfl rfl) ?_
    refine at_end ?_
    refine at_region ?_
    refine at_q rfl rfl (by decide) (qt_move rfl rfl) ?_
    refine at_q rfl rfl (by decide) (qt_move rfl rfl) ?_
    refine at_q rfl rfl (by decide) (qt_add rfl rfl rfl (by omega) (by omega)) ?_
    refine at_q rfl rfl (by decide) (qt_assign rfl rfl) ?_
    refine at_nil ?_
    refine norm_block ?_
    refine norm_then ?_
    exact at_againc hL1 ((a + 20, F ++ srt (ltC cr) ((X.drop a).take 20))) (hx1.step (by decide) (by omega)) (by simp only; omega) ⟨rfl, vi (by omega), rfl, rfl, rfl, rfl, trivial⟩ (fun _ h => h.upto ⟨rfl, trivial⟩)
  · try simp only [decide_eq_true_eq, decide_eq_false_iff_not, beq_iff_eq, beq_eq_false_iff_ne, Bool.not_eq_true', Bool.not_eq_false', Bool.not_true, Bool.not_false, Int.not_lt, Int.not_le, ne_eq, Nat.not_lt, Nat.not_le] at c1
    refine at_exit ?_
    refine pass_then (fun h => by cases h) ?_
    refine pass_then (fun h => by cases h) ?_
    refine pass_hit ?_
    refine norm_then ?_
    refine at_seq ?_
    refine at_region ?_
    refine at_q rfl rfl (by decide) (qt_move rfl rfl) ?_
    refine at_q rfl rfl (by decide) (qt_move rfl rfl) ?_
    refine at_q rfl rfl (by decide) (qt_move rfl rfl) ?_
    refine at_q rfl rfl (by decide) (qt_move rfl rfl) ?_
    refine at_op rfl ?_
    refine op_callm (k := 0) ok_slices_insertionSortCmpFunc_impl_Ring rfl rfl rfl (by decide) rfl (fun w1 h1 => insertion_cells b T F (X.drop a) B n c a n S cr w1 (hC.over h1.over) ((h1.cel (k := 0) rfl).trans (cells_eq (List.append_assoc ..).symm)) hfl (by simp; omega) (Nat.le_refl _) (by rw [List.append_assoc, ← hX]; exact (hx1.lens (q := 0)).1) hn (by rw [List.append_assoc]; exact (hx1.all (q := 0) hS hX).1)) ?_
    refine at_rsE (by simp only [List.nil_append, List.cons_append, List.set_cons_zero, List.set_cons_succ, Value.cells, List.toList_toArray]; rfl) ?_
    rw [show F ++ srt (ltC cr) (X.drop a) = blk (ltC cr) 20 X from hx1.fin (by omega)]
    refine at_end ?_
    refine at_block ?_
    refine at_loopc (X := Nat × Value × Value) (fun x => 20 ≤ x.1 ∧ x.1 ≤ 2 * n + 40) (fun x => n - x.1) (fun x => [(6, .int .i64 (x.1 : Int)), (7, x.2.1), (8, x.2.2)]) (C := [(0, _), (1, _), (2, _)]) ⟨rfl, rfl, rfl, trivial⟩ (fun x => [.cel b T (blk (ltC cr) x.1 X ++ B)]) (20, .int .i64 (a : Int), .int .i64 ((a + 20 : Nat) : Int)) (⟨Nat.le_refl _, (by show 20 ≤ 2 * n + 40; omega)⟩) ⟨rfl, rfl, rfl, rfl, rfl, rfl, trivial⟩ (fun _ h => h) ?_
    intro ⟨k, v7, v8⟩ hk L hL2
    refine at_envE (by simp only [List.nil_append, List.cons_append]; rfl) ?_
    refine at_rsE (by first | (dsimp only; done) | (dsimp only; rfl) | rfl) ?_
    have hk1 : 20 ≤ k := hk.1
    have hk2 : k ≤ 2 * n + 40 := hk.2
    refine at_seq ?_
    refine at_seq ?_
    refine at_region ?_
    refine at_q rfl rfl (by decide) (qt_move rfl rfl) ?_
    refine at_q rfl rfl (by decide) (qt_move rfl rfl) ?_
    refine at_q rfl rfl (by decide) (qt_lss rfl rfl rfl) ?_
    refine at_end ?_
    refine at_cond rfl (fun c2 => ?_) (fun c2 => ?_)
    · try simp only [decide_eq_true_eq, decide_eq_false_iff_not, beq_iff_eq, beq_eq_false_iff_ne, Bool.not_eq_true', Bool.not_eq_false', Bool.not_true, Bool.not_false, Int.not_lt, Int.not_le, ne_eq, Nat.not_lt, Nat.not_le] at c2
      have hkn : k < n := (by omega)
      refine at_skip ?_
      refine norm_then ?_
      refine at_block ?_
      refine at_seq ?_
      refine at_region ?_
      refine at_q rfl rfl (by decide) (qt_move rfl rfl) ?_
      refine at_q rfl rfl (by decide) (qt_mul rfl rfl rfl (by omega) (by omega)) ?_
      refine at_q rfl rfl (by decide) (qt_assign rfl rfl) ?_
      refine at_q rfl rfl (by decide) (qt_assign rfl rfl) ?_
      refine at_end ?_
      refine at_seq ?_
      refine at_block ?_
      refine at_loopc (X := Nat × List Value) (fun y => PreI (ltC cr) X (2 * k) y.1 y.2) (fun y => n + 2 * k - y.1) (fun y => [(7, .int .i64 (y.1 : Int)), (8, .int .i64 ((y.1 + 2 * k : Nat) : Int))]) (C := [(0, _), (1, _), (2, _), (6, _), (28, _), (29, _), (30, _), (31, _), (32, _)]) ⟨rfl, rfl, rfl, rfl, rfl, rfl, rfl, rfl, rfl, trivial⟩ (fun y => [.cel b T (y.2 ++ (blk (ltC cr) k (X.drop y.1) ++ B))]) (0, []) (PreI.zero) ⟨rfl, vi (by omega), rfl, rfl, rfl, rfl, rfl, rfl, rfl, rfl, rfl, trivial⟩ (fun _ h => h) ?_
      intro ⟨d, G⟩ hy L hL3
      refine at_envE (by simp only [List.nil_append, List.cons_append]; rfl) ?_
      refine at_rsE (by first | (dsimp only; done) | (dsimp only; rfl) | rfl) ?_
      have hy1 : PreI (ltC cr) X (2 * k) d G := hy
      have hld := hy1.le
      have hgl := hy1.len
      refine at_seq ?_
      refine at_seq ?_
      refine at_region ?_
      refine at_q rfl rfl (by decide) (qt_move rfl rfl) ?_
      refine at_q rfl rfl (by decide) (qt_move rfl rfl) ?_
      refine at_q rfl rfl (by decide) (qt_leq rfl rfl rfl) ?_
      refine at_end ?_
      refine at_cond rfl (fun c3 => ?_) (fun c3 => ?_)
      · try simp only [decide_eq_true_eq, decide_eq_false_iff_not, beq_iff_eq, beq_eq_false_iff_ne, Bool.not_eq_true', Bool.not_eq_false', Bool.not_true, Bool.not_false, Int.not_lt, Int.not_le, ne_eq, Nat.not_lt, Nat.not_le] at c3
        have hd2 : d + 2 * k ≤ n := (by omega)
        obtain ⟨e1, e2⟩ := hy1.two W (B := B) (by omega) (by omega)
        refine at_skip ?_
        refine norm_then ?_
        refine at_block ?_
        refine at_seq ?_
        refine at_region ?_
        refine at_q rfl rfl (by decide) (qt_move rfl rfl) ?_
        refine at_q rfl rfl (by decide) (qt_move rfl rfl) ?_
        refine at_q rfl rfl (by decide) (qt_move rfl rfl) ?_
        refine at_q rfl rfl (by decide) (qt_move rfl rfl) ?_
        refine at_q rfl rfl (by decide) (qt_add rfl rfl rfl (by omega) (by omega)) ?_
        refine at_q rfl rfl (by decide) (qt_move rfl rfl) ?_
        refine at_q rfl rfl (by decide) (qt_move rfl rfl) ?_
        refine at_op rfl ?_
        refine op_callm (k := 0) ok_slices_symMergeCmpFunc_impl_Ring rfl rfl rfl (by decide) rfl (fun w1 h1 => hM G (srt (ltC cr) ((X.drop d).take k)) (srt (ltC cr) (((X.drop d).drop k).take k)) (blk (ltC cr) k (X.drop (d + 2 * k)) ++ B) d (d + k) (d + 2 * k) w1 (hC.over h1.over) ((h1.cel (k := 0) rfl).trans (cells_eq e1)) hgl (by rw [srt_len]; simp; omega) (by rw [srt_len]; simp; omega) (by rw [srt_len]; simp; omega) (by rw [srt_len]; simp; omega) hd2 (by rw [← e1, ← hX]; exact (hy1.lens (q := k)).2) (srt_srt W _) (srt_srt W _) (by rw [← e1]; exact (hy1.all (q := k) hS hX).2)) ?_
        refine at_rsE (by simp only [List.nil_append, List.cons_append, List.set_cons_zero, List.set_cons_succ, Value.cells, List.toList_toArray]; rfl) ?_
        refine at_end ?_
        refine at_seq ?_
        refine at_region ?_
        refine at_q rfl rfl (by decide) (qt_move rfl rfl) ?_
        refine at_q rfl rfl (by decide) (qt_assign rfl rfl) ?_
        refine at_end ?_
        refine at_region ?_
        refine at_q rfl rfl (by decide) (qt_move rfl rfl) ?_
        refine at_q rfl rfl (by decide) (qt_move rfl rfl) ?_
        refine at_q rfl rfl (by decide) (qt_mul rfl rfl rfl (by omega) (by omega)) ?_
        refine at_q rfl rfl (by decide) (qt_add rfl rfl rfl (by omega) (by omega)) ?_
        refine at_q rfl rfl (by decide) (qt_assign rfl rfl) ?_
        refine at_nil ?_
        refine norm_block ?_
        refine norm_then ?_
        exact at_againc hL3 ((d + 2 * k, G ++ mrg (ltC cr) (srt (ltC cr) ((X.drop d).take k)) (srt (ltC cr) (((X.drop d).drop k).take k)))) (e2) (by simp only; omega) ⟨rfl, vi (by omega), rfl, rfl, rfl, rfl, rfl, rfl, rfl, rfl, rfl, trivial⟩ (fun _ h => h.upto ⟨rfl, trivial⟩)
      · try simp only [decide_eq_true_eq, decide_eq_false_iff_not, beq_iff_eq, beq_eq_false_iff_ne, Bool.not_eq_true', Bool.not_eq_false', Bool.not_true, Bool.not_false, Int.not_lt, Int.not_le, ne_eq, Nat.not_lt, Nat.not_le] at c3
        refine at_exit ?_
        refine pass_then (fun h => by cases h) ?_
        refine pass_then (fun h => by cases h) ?_
        refine pass_hit ?_
        refine norm_then ?_
        refine at_seq ?_
        refine at_seq ?_
        refine at_region ?_
        refine at_q rfl rfl (by decide) (qt_move rfl rfl) ?_
        refine at_q rfl rfl (by decide) (qt_move rfl rfl) ?_
        refine at_q rfl rfl (by decide) (qt_add rfl rfl rfl (by omega) (by omega)) ?_
        refine at_q rfl rfl (by decide) (qt_assign rfl rfl) ?_
        refine at_end ?_
        refine at_seq ?_
        refine at_region ?_
        refine at_q rfl rfl (by decide) (qt_move rfl rfl) ?_
        refine at_q rfl rfl (by decide) (qt_move rfl rfl) ?_
        refine at_q rfl rfl (by decide) (qt_lss rfl rfl rfl) ?_
        refine at_end ?_
        refine at_cond rfl (fun c4 => ?_) (fun c4 => ?_)
        · try simp only [decide_eq_true_eq, decide_eq_false_iff_not, beq_iff_eq, beq_eq_false_iff_ne, Bool.not_eq_true', Bool.not_eq_false', Bool.not_true, Bool.not_false, Int.not_lt, Int.not_le, ne_eq, Nat.not_lt, Nat.not_le] at c4
          have hdk : d + k < n := (by omega)
          obtain ⟨e3, e4⟩ := hy1.last W (B := B) (by omega) (by omega) (by omega)
          refine at_region ?_
          refine at_q rfl rfl (by decide) (qt_move rfl rfl) ?_
          refine at_q rfl rfl (by decide) (qt_move rfl rfl) ?_
          refine at_q rfl rfl (by decide) (qt_move rfl rfl) ?_
          refine at_q rfl rfl (by decide) (qt_move rfl rfl) ?_
          refine at_q rfl rfl (by decide) (qt_move rfl rfl) ?_
          refine at_op rfl ?_
          refine op_callm (k := 0) ok_slices_symMergeCmpFunc_impl_Ring rfl rfl rfl (by decide) rfl (fun w1 h1 => hM G (srt (ltC cr) ((X.drop d).take k)) (srt (ltC cr) ((X.drop d).drop k)) B d (d + k) n w1 (hC.over h1.over) ((h1.cel (k := 0) rfl).trans (cells_eq e3)) hgl (by rw [srt_len]; simp; omega) (by rw [srt_len]; simp; omega) (by rw [srt_len]; simp; omega) (by rw [srt_len]; simp; omega) (Nat.le_refl _) (by rw [← e3, ← hX]; exact (hy1.lens (q := k)).2) (srt_srt W _) (srt_srt W _) (by rw [← e3]; exact (hy1.all (q := k) hS hX).2)) ?_
          refine at_rsE (by simp only [List.nil_append, List.cons_append, List.set_cons_zero, List.set_cons_succ, Value.cells, List.toList_toArray]; rfl) ?_
          rw [e4]
          refine at_end ?_
          refine at_region ?_
          refine at_q rfl rfl (by decide) (qt_move rfl rfl) ?_
          refine at_q rfl rfl (by decide) (qt_mul rfl rfl rfl (by omega) (by omega)) ?_
          refine at_q rfl rfl (by decide) (qt_assign rfl rfl) ?_
          refine at_nil ?_
          refine norm_block ?_
          refine norm_then ?_
          exact at_againc hL2 ((2 * k, .int .i64 (d : Int), .int .i64 ((d + 2 * k : Nat) : Int))) (⟨show 20 ≤ 2 * k by omega, show 2 * k ≤ 2 * n + 40 by omega⟩) (by simp only; omega) ⟨vi (by show (k : Int) * 2 = ((2 * k : Nat) : Int); omega), rfl, rfl, rfl, rfl, rfl, trivial⟩ (fun _ h => h.upto ⟨rfl, trivial⟩)
        · try simp only [decide_eq_true_eq, decide_eq_false_iff_not, beq_iff_eq, beq_eq_false_iff_ne, Bool.not_eq_true', Bool.not_eq_false', Bool.not_true, Bool.not_false, Int.not_lt, Int.not_le, ne_eq, Nat.not_lt, Nat.not_le] at c4
          rw [show G ++ (blk (ltC cr) k (X.drop d) ++ B) = blk (ltC cr) (2 * k) X ++ B from hy1.none (by omega)]
          refine at_skip ?_
          refine norm_then ?_
          refine at_region ?_
          refine at_q rfl rfl (by decide) (qt_move rfl rfl) ?_
          refine at_q rfl rfl (by decide) (qt_mul rfl rfl rfl (by omega) (by omega)) ?_
          refine at_q rfl rfl (by decide) (qt_assign rfl rfl) ?_
          refine at_nil ?_
          refine norm_block ?_
          refine norm_then ?_
          exact at_againc hL2 ((2 * k, .int .i64 (d : Int), .int .i64 ((d + 2 * k : Nat) : Int))) (⟨show 20 ≤ 2 * k by omega, show 2 * k ≤ 2 * n + 40 by omega⟩) (by simp only; omega) ⟨vi (by show (k : Int) * 2 = ((2 * k : Nat) : Int); omega), rfl, rfl, rfl, rfl, rfl, trivial⟩ (fun _ h => h.upto ⟨rfl, trivial⟩)
    · try simp only [decide_eq_true_eq, decide_eq_false_iff_not, beq_iff_eq, beq_eq_false_iff_ne, Bool.not_eq_true', Bool.not_eq_false', Bool.not_true, Bool.not_false, Int.not_lt, Int.not_le, ne_eq, Nat.not_lt, Nat.not_le] at c2
      refine at_exit ?_
      refine pass_then (fun h => by cases h) ?_
      refine pass_then (fun h => by cases h) ?_
      refine pass_hit ?_
      refine at_end0 rfl ?_
      intro w' hs
      exact ⟨rfl, hs.over.wr, by rw [← blk_short (lt := ltC cr) (k := k) (xs := X) (by omega)]; exact hs.cel (k := 0) rfl⟩
/-- The contract of a merge over stretches shorter than m. -/
def MrgC (b T n c : Nat) (S : Value → Prop) (cr : Value → Value → Int) (top : Nat) : Prop :=
  ∀ (A L R Z : List Value) (a m e_ : Nat) (w1 : World), L.length + R.length < top → CmpOk w1 b S cr → w1.heap[b]? = some (.cells (A ++ L ++ R ++ Z).toArray T (0, 0)) → A.length = a → a + L.length = m → m + R.length = e_ → 0 < L.length → 0 < R.length → e_ ≤ n → n ≤ (A ++ L ++ R ++ Z).length → Srt (ltC cr) L → Srt (ltC cr) R → Up n S (A ++ L ++ R ++ Z) →
      Calls Try.prog 88 #[.slice (some ⟨b, 0, none⟩) n c, .int .i64 (a : Int), .int .i64 (m : Int), .int .i64 (e_ : Int), .func (.func 74) #[] #[]] w1 fun e w' => e = .returned (.tuple #[]) ∧ Wr b w1 w' ∧ w'.heap[b]? = some (.cells (A ++ mrg (ltC cr) L R ++ Z).toArray T (0, 0))
/-- The place of x among R is between i and j. -/
structure S1I (lt : Value → Value → Bool) (R : List Value) (x : Value) (i j : Nat) : Prop where
  le : i ≤ j ∧ j ≤ R.length
  lo : ∀ r ∈ R.take i, lt r x = true
  hi : ∀ r ∈ R.drop j, lt r x = false
theorem S1I.start {lt : Value → Value → Bool} {R : List Value} {x : Value} : S1I lt R x 0 R.length := ⟨⟨by omega, by omega⟩, fun r hr => by simp at hr, fun r hr => by simp at hr⟩
theorem S1I.fin {lt : Value → Value → Bool} {R : List Value} {x : Value} {i : Nat} (h : S1I lt R x i i) : mrg lt [x] R = R.take i ++ x :: R.drop i := by
  rw [← mrg_one x _ _ h.lo h.hi, List.take_append_drop]
theorem S1I.yes {lt : Value → Value → Bool} (W : Weak lt) {R : List Value} (hS : Srt lt R) {x : Value} {i j h : Nat} (s : S1I lt R x i j) (h1 : i ≤ h) (h2 : h < j) {r : Value} (hr : R[h]? = some r) (hx : lt r x = true) : S1I lt R x (h + 1) j := by
  obtain ⟨g, e⟩ := List.getElem?_eq_some_iff.1 hr
  subst e
  exact ⟨⟨by omega, s.le.2⟩, srch_lo W hS g hx, s.hi⟩
theorem S1I.no {lt : Value → Value → Bool} (W : Weak lt) {R : List Value} (hS : Srt lt R) {x : Value} {i j h : Nat} (s : S1I lt R x i j) (h1 : i ≤ h) (h2 : h < j) {r : Value} (hr : R[h]? = some r) (hx : lt r x = false) : S1I lt R x i h := by
  obtain ⟨g, e⟩ := List.getElem?_eq_some_iff.1 hr
  subst e
  exact ⟨⟨by omega, by omega⟩, s.lo, srch_hi W hS g hx⟩
/-- The place of y among L is between i and j. -/
structure S2I (lt : Value → Value → Bool) (L : List Value) (y : Value) (i j : Nat) : Prop where
  le : i ≤ j ∧ j ≤ L.length
  lo : ∀ l ∈ L.take i, lt y l = false
  hi : ∀ l ∈ L.drop j, lt y l = true
theorem S2I.start {lt : Value → Value → Bool} {L : List Value} {y : Value} : S2I lt L y 0 L.length := ⟨⟨by omega, by omega⟩, fun r hr => by simp at hr, fun r hr => by simp at hr⟩
theorem S2I.fin {lt : Value → Value → Bool} {L : List Value} {y : Value} {i : Nat} (h : S2I lt L y i i) : mrg lt L [y] = L.take i ++ y :: L.drop i := by
  rw [← mrg_two y _ _ h.lo h.hi, List.take_append_drop]
theorem S2I.yes {lt : Value → Value → Bool} (W : Weak lt) {L : List Value} (hS : Srt lt L) {y : Value} {i j h : Nat} (s : S2I lt L y i j) (h1 : i ≤ h) (h2 : h < j) {l : Value} (hl : L[h]? = some l) (hy : lt y l = false) : S2I lt L y (h + 1) j := by
  obtain ⟨g, e⟩ := List.getElem?_eq_some_iff.1 hl
  subst e
  exact ⟨⟨by omega, s.le.2⟩, srch_lo2 W hS g hy, s.hi⟩
theorem S2I.no {lt : Value → Value → Bool} (W : Weak lt) {L : List Value} (hS : Srt lt L) {y : Value} {i j h : Nat} (s : S2I lt L y i j) (h1 : i ≤ h) (h2 : h < j) {l : Value} (hl : L[h]? = some l) (hy : lt y l = true) : S2I lt L y i h := by
  obtain ⟨g, e⟩ := List.getElem?_eq_some_iff.1 hl
  subst e
  exact ⟨⟨by omega, by omega⟩, s.lo, srch_hi2 W hS g hy⟩
/-- Where a merge is split in general: h elements come ahead, between s and u of them out of G. -/
structure GI (lt : Value → Value → Bool) (G R : List Value) (h s u : Nat) : Prop where
  b : h ≤ s + R.length ∧ s ≤ u ∧ u ≤ G.length ∧ u ≤ h
  lo : s = 0 ∨ h = s + R.length ∨ ∃ x y, G[s - 1]? = some x ∧ R[h - s]? = some y ∧ lt y x = false
  hi : u = h ∨ u = G.length ∨ ∃ x y, G[u]? = some x ∧ R[h - u - 1]? = some y ∧ lt y x = true
theorem GI.fin {lt : Value → Value → Bool} (W : Weak lt) {G R : List Value} (hG : Srt lt G) (hR : Srt lt R) {h s : Nat} (g : GI lt G R h s s) : mrg lt G R = mrg lt (G.take s) (R.take (h - s)) ++ mrg lt (G.drop s) (R.drop (h - s)) := by
  obtain ⟨b1, b2, b3, b4⟩ := g.b
  refine mrg_at W hG hR ?_ ?_ b3 (by omega)
  · rcases g.lo with e | e | ⟨x, y, e1, e2, e3⟩
    · exact .inl e
    · exact .inr (.inl (by omega))
    · obtain ⟨q1, rfl⟩ := List.getElem?_eq_some_iff.1 e1
      obtain ⟨q2, rfl⟩ := List.getElem?_eq_some_iff.1 e2
      exact .inr (.inr ⟨q1, q2, e3⟩)
  · rcases g.hi with e | e | ⟨x, y, e1, e2, e3⟩
    · exact .inl (by omega)
    · exact .inr (.inl e)
    · obtain ⟨q1, rfl⟩ := List.getElem?_eq_some_iff.1 e1
      obtain ⟨q2, rfl⟩ := List.getElem?_eq_some_iff.1 e2
      exact .inr (.inr ⟨q2, q1, e3⟩)
theorem GI.yes {lt : Value → Value → Bool} {G R : List Value} {h s u c : Nat} (g : GI lt G R h s u) (h1 : s ≤ c) (h2 : c < u) {x y : Value} (hx : G[c]? = some x) (hy : R[h - c - 1]? = some y) (hc : lt y x = false) : GI lt G R h (c + 1) u :=
  ⟨by have := g.b; omega, .inr (.inr ⟨x, y, hx, by rw [show h - (c + 1) = h - c - 1 by omega]; exact hy, hc⟩), g.hi⟩
theorem GI.no {lt : Value → Value → Bool} {G R : List Value} {h s u c : Nat} (g : GI lt G R h s u) (h1 : s ≤ c) (h2 : c < u) {x y : Value} (hx : G[c]? = some x) (hy : R[h - c - 1]? = some y) (hc : lt y x = true) : GI lt G R h s c :=
  ⟨by have := g.b; omega, g.lo, .inr (.inr ⟨x, y, hx, hy, hc⟩)⟩
end Go.Proofs.Ytbdlbemlgghgbaa
