/- Stable sorting of rings in place: plain law, swaps, rotation, insertion. -/
import Derived.Test.YtbdlbemlgghgbaaMem
import Derived.Test.YtbdlbemlgghgbaaSimp
import Derived.Test.YtbdlbemlgghgbaaSd2
namespace Go.Proofs.Ytbdlbemlgghgbaa
open Go Go.RowKit
set_option linter.unusedVariables false
set_option linter.unusedSimpArgs false
set_option maxRecDepth 100000
set_option maxHeartbeats 4000000
open Go
set_option linter.unusedVariables false
set_option linter.unusedSimpArgs false

/-- A weak order told by "comes strictly ahead of". -/
structure Weak {α : Type} (lt : α → α → Bool) : Prop where
  asym : ∀ a b, lt a b = true → lt b a = false
  neg : ∀ a b c, lt a b = false → lt b c = false → lt a c = false
def Srt {α : Type} (lt : α → α → Bool) (l : List α) : Prop := l.Pairwise (fun a b => lt b a = false)
/-- The element comes behind all that it does not precede. -/
def insS {α : Type} (lt : α → α → Bool) (x : α) : List α → List α
  | [] => [x]
  | y :: l => if lt x y then x :: y :: l else y :: insS lt x l
def srt {α : Type} (lt : α → α → Bool) (l : List α) : List α := l.foldl (fun acc x => insS lt x acc) []
/-- Two sorted lists as one; of equal elements those of the first list come first. -/
def mrg {α : Type} (lt : α → α → Bool) : List α → List α → List α
  | [], ys => ys
  | x :: xs, [] => x :: xs
  | x :: xs, y :: ys => if lt y x then y :: mrg lt (x :: xs) ys else x :: mrg lt xs (y :: ys)
termination_by xs ys => xs.length + ys.length

section
variable {α : Type} {lt : α → α → Bool}
theorem insS_cons (x y : α) (l : List α) : insS lt x (y :: l) = if lt x y then x :: y :: l else y :: insS lt x l := rfl
theorem mrg_nilL (ys : List α) : mrg lt [] ys = ys := by rw [mrg]
theorem mrg_nilR (xs : List α) : mrg lt xs [] = xs := by cases xs <;> rw [mrg]
theorem mrg_cons (x y : α) (xs ys : List α) : mrg lt (x :: xs) (y :: ys) = if lt y x then y :: mrg lt (x :: xs) ys else x :: mrg lt xs (y :: ys) := by rw [mrg]
theorem insS_mem {x z : α} {l : List α} : z ∈ insS lt x l ↔ z = x ∨ z ∈ l := by
  induction l with
  | nil => simp [insS]
  | cons y l ih =>
    rw [insS_cons]
    split
    · simp
    · rw [List.mem_cons, List.mem_cons, ih]
      constructor
      · rintro (h | h | h)
        · exact .inr (.inl h)
        · exact .inl h
        · exact .inr (.inr h)
      · rintro (h | h | h)
        · exact .inr (.inl h)
        · exact .inl h
        · exact .inr (.inr h)
theorem insS_len (x : α) (l : List α) : (insS lt x l).length = l.length + 1 := by
  induction l with
  | nil => rfl
  | cons y l ih =>
    rw [insS_cons]
    split <;> simp [ih]
theorem insS_srt (W : Weak lt) {x : α} {l : List α} (h : Srt lt l) : Srt lt (insS lt x l) := by
  induction l with
  | nil => exact List.pairwise_singleton _ _
  | cons y l ih =>
    obtain ⟨h1, h2⟩ := List.pairwise_cons.1 h
    rw [insS_cons]
    split
    · rename_i hxy
      refine List.pairwise_cons.2 ⟨fun z hz => ?_, h⟩
      rcases List.mem_cons.1 hz with rfl | hz
      · exact W.asym _ _ hxy
      · exact W.neg _ _ _ (h1 z hz) (W.asym _ _ hxy)
    · rename_i hxy
      refine List.pairwise_cons.2 ⟨fun z hz => ?_, ih h2⟩
      rcases insS_mem.1 hz with rfl | hz
      · simpa using hxy
      · exact h1 z hz
theorem insF_srt (W : Weak lt) {l acc : List α} (h : Srt lt acc) : Srt lt (l.foldl (fun acc x => insS lt x acc) acc) := by
  induction l generalizing acc with
  | nil => exact h
  | cons x l ih => exact ih (insS_srt W h)
theorem srt_srt (W : Weak lt) (l : List α) : Srt lt (srt lt l) := insF_srt W List.Pairwise.nil
theorem insF_len (l acc : List α) : (l.foldl (fun acc x => insS lt x acc) acc).length = acc.length + l.length := by
  induction l generalizing acc with
  | nil => rfl
  | cons x l ih => rw [List.foldl_cons, ih, insS_len, List.length_cons]; omega
theorem srt_len (l : List α) : (srt lt l).length = l.length := by rw [srt, insF_len]; simp
theorem srt_snoc (l : List α) (x : α) : srt lt (l ++ [x]) = insS lt x (srt lt l) := by rw [srt, List.foldl_append]; rfl
theorem insF_mem (l acc : List α) (z : α) : z ∈ l.foldl (fun acc x => insS lt x acc) acc ↔ z ∈ acc ∨ z ∈ l := by
  induction l generalizing acc with
  | nil => simp
  | cons x l ih =>
    rw [List.foldl_cons, ih, insS_mem, List.mem_cons]
    constructor
    · rintro ((h | h) | h)
      · exact .inr (.inl h)
      · exact .inl h
      · exact .inr (.inr h)
    · rintro (h | h | h)
      · exact .inl (.inr h)
      · exact .inl (.inl h)
      · exact .inr h
theorem srt_mem (l : List α) (z : α) : z ∈ srt lt l ↔ z ∈ l := by rw [srt, insF_mem]; simp
theorem mrg_len (xs ys : List α) : (mrg lt xs ys).length = xs.length + ys.length := by
  induction xs, ys using mrg.induct (lt := lt) with
  | case1 ys => rw [mrg_nilL]; simp
  | case2 x xs => rw [mrg_nilR]; simp
  | case3 x xs y ys h ih => rw [mrg_cons, if_pos h, List.length_cons, ih]; simp; omega
  | case4 x xs y ys h ih => rw [mrg_cons, if_neg h, List.length_cons, ih]; simp; omega
theorem mrg_mem (xs ys : List α) (z : α) : z ∈ mrg lt xs ys ↔ z ∈ xs ∨ z ∈ ys := by
  induction xs, ys using mrg.induct (lt := lt) with
  | case1 ys => rw [mrg_nilL]; simp
  | case2 x xs => rw [mrg_nilR]; simp
  | case3 x xs y ys h ih =>
    rw [mrg_cons, if_pos h, List.mem_cons, ih, List.mem_cons (a := z) (b := y)]
    constructor
    · rintro (h | h | h)
      · exact .inr (.inl h)
      · exact .inl h
      · exact .inr (.inr h)
    · rintro (h | h | h)
      · exact .inr (.inl h)
      · exact .inl h
      · exact .inr (.inr h)
  | case4 x xs y ys h ih =>
    rw [mrg_cons, if_neg h, List.mem_cons, ih, List.mem_cons (a := z) (b := x), or_assoc]
theorem mrg_srt (W : Weak lt) (xs ys : List α) (hx : Srt lt xs) (hy : Srt lt ys) : Srt lt (mrg lt xs ys) := by
  induction xs, ys using mrg.induct (lt := lt) with
  | case1 ys => rw [mrg_nilL]; exact hy
  | case2 x xs => rw [mrg_nilR]; exact hx
  | case3 x xs y ys h ih =>
    obtain ⟨h1, h2⟩ := List.pairwise_cons.1 hx
    obtain ⟨h3, h4⟩ := List.pairwise_cons.1 hy
    rw [mrg_cons, if_pos h]
    refine List.pairwise_cons.2 ⟨fun z hz => ?_, ih hx h4⟩
    rcases (mrg_mem _ _ _).1 hz with hz | hz
    · rcases List.mem_cons.1 hz with rfl | hz
      · exact W.asym _ _ h
      · exact W.neg _ _ _ (h1 z hz) (W.asym _ _ h)
    · exact h3 z hz
  | case4 x xs y ys h ih =>
    obtain ⟨h1, h2⟩ := List.pairwise_cons.1 hx
    obtain ⟨h3, h4⟩ := List.pairwise_cons.1 hy
    have hyx : lt y x = false := by simpa using h
    rw [mrg_cons, if_neg h]
    refine List.pairwise_cons.2 ⟨fun z hz => ?_, ih h2 hy⟩
    rcases (mrg_mem _ _ _).1 hz with hz | hz
    · exact h1 z hz
    · rcases List.mem_cons.1 hz with rfl | hz
      · exact hyx
      · exact W.neg _ _ _ (h3 z hz) hyx
/-- a < b and c not ahead of b, so a < c. -/
theorem Weak.lt_le (W : Weak lt) {a b c : α} (h1 : lt a b = true) (h2 : lt c b = false) : lt a c = true := by
  cases h : lt a c with
  | true => rfl
  | false => rw [W.neg _ _ _ h h2] at h1; cases h1
theorem Weak.le_lt (W : Weak lt) {a b c : α} (h1 : lt b a = false) (h2 : lt b c = true) : lt a c = true := by
  cases h : lt a c with
  | true => rfl
  | false => rw [W.neg _ _ _ h1 h] at h2; cases h2
theorem mrg_insS (W : Weak lt) (x : α) (X Y : List α) : mrg lt X (insS lt x Y) = insS lt x (mrg lt X Y) := by
  induction X, Y using mrg.induct (lt := lt) with
  | case1 ys => rw [mrg_nilL, mrg_nilL]
  | case2 a X =>
    rw [mrg_nilR]
    show mrg lt (a :: X) [x] = _
    generalize a :: X = Z
    induction Z with
    | nil => rw [mrg_nilL]; rfl
    | cons a Z ih =>
      rw [mrg_cons, insS_cons, mrg_nilR]
      by_cases h : lt x a = true
      · rw [if_pos h, if_pos h]
      · rw [if_neg h, if_neg h, ih]
  | case3 a X b Y h ih =>
    rw [insS_cons, mrg_cons a b, if_pos h, insS_cons]
    by_cases hx : lt x b = true
    · have hxa : lt x a = true := W.lt_le hx (W.asym _ _ h)
      rw [if_pos hx, if_pos hx, mrg_cons, if_pos hxa, mrg_cons, if_pos h]
    · rw [if_neg hx, if_neg hx, mrg_cons, if_pos h, ih]
  | case4 a X b Y h ih =>
    rw [mrg_cons a b, if_neg h, insS_cons x a]
    by_cases hx : lt x a = true
    · have hxb : lt x b = true := W.lt_le hx (by simpa using h)
      rw [if_pos hx, insS_cons, if_pos hxb, mrg_cons, if_pos hx, mrg_cons, if_neg h]
    · rw [if_neg hx, ← ih, insS_cons]
      by_cases hxb : lt x b = true
      · rw [if_pos hxb, mrg_cons, if_neg hx]
      · rw [if_neg hxb, mrg_cons, if_neg h]
theorem insF_mrg (W : Weak lt) (X B Y : List α) : B.foldl (fun acc x => insS lt x acc) (mrg lt X Y) = mrg lt X (B.foldl (fun acc x => insS lt x acc) Y) := by
  induction B generalizing Y with
  | nil => rfl
  | cons b B ih => rw [List.foldl_cons, List.foldl_cons, ← mrg_insS W, ih]
theorem srt_append (W : Weak lt) (A B : List α) : srt lt (A ++ B) = mrg lt (srt lt A) (srt lt B) := by
  rw [srt, List.foldl_append, srt, srt, ← insF_mrg W, mrg_nilR]
theorem insS_cut (x : α) (P Q : List α) (h1 : ∀ p ∈ P, lt x p = false) (h2 : ∀ q, Q.head? = some q → lt x q = true) : insS lt x (P ++ Q) = P ++ x :: Q := by
  induction P with
  | nil =>
    cases Q with
    | nil => rfl
    | cons q Q => rw [List.nil_append, insS_cons, if_pos (h2 q rfl)]; rfl
  | cons p P ih =>
    rw [List.cons_append, insS_cons, if_neg (by rw [h1 p (List.mem_cons_self ..)]; simp), ih (fun q hq => h1 q (List.mem_cons_of_mem _ hq))]
    rfl
theorem mrg_split (L1 L2 R1 R2 : List α) (h1 : ∀ l ∈ L1, ∀ r ∈ R2, lt r l = false) (h2 : ∀ r ∈ R1, ∀ l ∈ L2, lt r l = true) :
    mrg lt (L1 ++ L2) (R1 ++ R2) = mrg lt L1 R1 ++ mrg lt L2 R2 := by
  induction L1, R1 using mrg.induct (lt := lt) with
  | case1 R1 =>
    rw [mrg_nilL]
    induction R1 with
    | nil => rfl
    | cons r R1 ih =>
      cases L2 with
      | nil => rw [List.nil_append, mrg_nilL, mrg_nilL]
      | cons l L2 =>
        rw [List.nil_append, List.cons_append, mrg_cons, if_pos (h2 r (List.mem_cons_self ..) l (List.mem_cons_self ..)), List.cons_append]
        rw [show mrg lt (l :: L2) (R1 ++ R2) = R1 ++ mrg lt (l :: L2) R2 from ih (fun q hq => h2 q (List.mem_cons_of_mem _ hq))]
  | case2 l L1 =>
    rw [mrg_nilR, List.nil_append]
    clear h2
    generalize l :: L1 = Z at h1
    induction Z with
    | nil => rfl
    | cons a Z ih =>
      cases R2 with
      | nil => rw [mrg_nilR, mrg_nilR]
      | cons r R2 =>
        rw [List.cons_append, mrg_cons, if_neg (by rw [h1 a (List.mem_cons_self ..) r (List.mem_cons_self ..)]; simp), ih (fun l hl => h1 l (List.mem_cons_of_mem _ hl))]
        rfl
  | case3 l L1 r R1 h ih =>
    rw [List.cons_append, List.cons_append, mrg_cons, if_pos h, mrg_cons, if_pos h, List.cons_append]
    rw [← ih h1 (fun q hq => h2 q (List.mem_cons_of_mem _ hq))]
    rfl
  | case4 l L1 r R1 h ih =>
    rw [List.cons_append, List.cons_append, mrg_cons, if_neg h, mrg_cons, if_neg h, List.cons_append]
    rw [← ih (fun q hq => h1 q (List.mem_cons_of_mem _ hq)) h2]
    rfl
theorem mrg_all (L R : List α) (h : ∀ l ∈ L, ∀ r ∈ R, lt r l = false) : mrg lt L R = L ++ R := by
  have := mrg_split (lt := lt) L [] [] R h (fun r hr => by cases hr)
  rwa [List.append_nil, List.nil_append, mrg_nilR, mrg_nilL] at this
theorem mrg_none (L R : List α) (h : ∀ r ∈ R, ∀ l ∈ L, lt r l = true) : mrg lt L R = R ++ L := by
  have := mrg_split (lt := lt) [] L R [] (fun r hr => by cases hr) h
  rwa [List.append_nil, List.nil_append, mrg_nilR, mrg_nilL] at this
theorem mrg_one (x : α) (R1 R2 : List α) (h1 : ∀ r ∈ R1, lt r x = true) (h2 : ∀ r ∈ R2, lt r x = false) : mrg lt [x] (R1 ++ R2) = R1 ++ x :: R2 := by
  have := mrg_split (lt := lt) [] [x] R1 R2 (fun r hr => by cases hr) (fun r hr l hl => by cases List.mem_singleton.1 hl; exact h1 r hr)
  rw [List.nil_append, mrg_nilL, mrg_all [x] R2 (fun l hl r hr => by cases List.mem_singleton.1 hl; exact h2 r hr)] at this
  exact this
theorem mrg_two (y : α) (L1 L2 : List α) (h1 : ∀ l ∈ L1, lt y l = false) (h2 : ∀ l ∈ L2, lt y l = true) : mrg lt (L1 ++ L2) [y] = L1 ++ y :: L2 := by
  have := mrg_split (lt := lt) L1 L2 [] [y] (fun l hl r hr => by cases List.mem_singleton.1 hr; exact h1 l hl) (fun r hr => by cases hr)
  rw [List.nil_append, mrg_nilR, mrg_none L2 [y] (fun r hr l hl => by cases List.mem_singleton.1 hr; exact h2 l hl)] at this
  exact this

/-- A list sorted by blocks of k. -/
def blk (lt : α → α → Bool) (k : Nat) (xs : List α) : List α :=
  if h : k = 0 ∨ xs.length ≤ k then srt lt xs else srt lt (xs.take k) ++ blk lt k (xs.drop k)
termination_by xs.length
decreasing_by simp only [not_or] at h; rw [List.length_drop]; omega
theorem blk_short {k : Nat} {xs : List α} (h : xs.length ≤ k) : blk lt k xs = srt lt xs := by rw [blk, dif_pos (.inr h)]
theorem blk_long {k : Nat} {xs : List α} (h : 0 < k) (h2 : k < xs.length) : blk lt k xs = srt lt (xs.take k) ++ blk lt k (xs.drop k) := by rw [blk, dif_neg (by omega)]
theorem blk_le {k : Nat} {xs : List α} (h : 0 < k) (h2 : k ≤ xs.length) : blk lt k xs = srt lt (xs.take k) ++ blk lt k (xs.drop k) := by
  rcases Nat.lt_or_eq_of_le h2 with h3 | h3
  · exact blk_long h h3
  · rw [blk_short (by omega), List.take_of_length_le (by omega), List.drop_of_length_le (by omega), blk_short (by simp)]
    simp [srt]
theorem blk_two (W : Weak lt) {k : Nat} {xs : List α} (h : 0 < k) (h2 : 2 * k ≤ xs.length) :
    blk lt k xs = srt lt (xs.take k) ++ (srt lt ((xs.drop k).take k) ++ blk lt k (xs.drop (2 * k))) ∧
    blk lt (2 * k) xs = mrg lt (srt lt (xs.take k)) (srt lt ((xs.drop k).take k)) ++ blk lt (2 * k) (xs.drop (2 * k)) := by
  constructor
  · rw [blk_le h (by omega), blk_le (xs := xs.drop k) h (by rw [List.length_drop]; omega), List.drop_drop, show k + k = 2 * k by omega]
  · rw [blk_le (by omega) h2, ← srt_append W, ← List.take_add, show k + k = 2 * k by omega]
theorem blk_last (W : Weak lt) {k : Nat} {xs : List α} (h : 0 < k) (h1 : k < xs.length) (h2 : xs.length ≤ 2 * k) :
    blk lt k xs = srt lt (xs.take k) ++ srt lt (xs.drop k) ∧ blk lt (2 * k) xs = mrg lt (srt lt (xs.take k)) (srt lt (xs.drop k)) := by
  constructor
  · rw [blk_long h h1, blk_short (xs := xs.drop k) (by rw [List.length_drop]; omega)]
  · rw [blk_short h2, ← srt_append W, List.take_append_drop]
theorem blk_end {k : Nat} {xs : List α} (h2 : xs.length ≤ k) : blk lt k xs = blk lt (2 * k) xs := by rw [blk_short h2, blk_short (by omega)]
end
def swap2 (l : List Value) (i j : Nat) : List Value := match l[i]?, l[j]? with
  | some x, some y => (l.set i y).set j x
  | _, _ => l
theorem swap2_len (l : List Value) (i j : Nat) : (swap2 l i j).length = l.length := by
  unfold swap2
  split <;> simp
theorem swap2_at {l : List Value} {i j : Nat} {x y : Value} (hx : l[i]? = some x) (hy : l[j]? = some y) : swap2 l i j = (l.set i y).set j x := by
  unfold swap2
  rw [hx, hy]
theorem swap2_mem {l : List Value} {i j : Nat} {z : Value} (h : z ∈ swap2 l i j) : z ∈ l := by
  unfold swap2 at h
  split at h
  · rename_i x y hx hy
    rcases List.mem_or_eq_of_mem_set h with h | rfl
    · rcases List.mem_or_eq_of_mem_set h with h | rfl
      · exact h
      · exact List.mem_of_getElem? hy
    · exact List.mem_of_getElem? hx
  · exact h
def swapN (l : List Value) (a b : Nat) : Nat → List Value
  | 0 => l
  | k + 1 => swap2 (swapN l a b k) (a + k) (b + k)
theorem swapN_len (l : List Value) (a b k : Nat) : (swapN l a b k).length = l.length := by
  induction k with
  | zero => rfl
  | succ k ih => rw [swapN, swap2_len, ih]
theorem swapN_mem {l : List Value} {a b k : Nat} {z : Value} (h : z ∈ swapN l a b k) : z ∈ l := by
  induction k with
  | zero => exact h
  | succ k ih => exact ih (swap2_mem h)
/-- The first n elements are all of a kind. -/
def Up (n : Nat) (S : Value → Prop) (l : List Value) : Prop := ∀ i x, i < n → l[i]? = some x → S x
theorem Up.mono {n : Nat} {S S' : Value → Prop} {l : List Value} (h : Up n S l) (hS : ∀ x, S x → S' x) : Up n S' l := fun i x hi hx => hS x (h i x hi hx)
theorem Up.swap2 {n : Nat} {S : Value → Prop} {l : List Value} {i j : Nat} (h : Up n S l) (hi : i < n) (hj : j < n) : Up n S (swap2 l i j) := by
  unfold Go.Proofs.Ytbdlbemlgghgbaa.swap2
  split
  · rename_i x y hx hy
    intro q z hq hz
    rw [List.getElem?_set] at hz
    split at hz
    · split at hz
      · injection hz with hz
        exact hz ▸ h i x hi hx
      · cases hz
    · rw [List.getElem?_set] at hz
      split at hz
      · split at hz
        · injection hz with hz
          exact hz ▸ h j y hj hy
        · cases hz
      · exact h q z hq hz
  · exact h
theorem up_of {n : Nat} {S : Value → Prop} {P B : List Value} (h : ∀ x ∈ P, S x) (hl : n ≤ P.length) : Up n S (P ++ B) := fun i x hi hx => by
  rw [List.getElem?_append_left (by omega)] at hx
  exact h x (List.mem_of_getElem? hx)
/-- What lies in the middle may be put in another order. -/
theorem up_mid {n : Nat} {S : Value → Prop} {A X Y Z : List Value} (h : Up n S (A ++ X ++ Z)) (hY : ∀ y ∈ Y, y ∈ X) (hl : Y.length = X.length) (hn : A.length + X.length ≤ n) : Up n S (A ++ Y ++ Z) := fun i x hi hx => by
  by_cases h1 : i < A.length
  · refine h i x hi ?_
    rw [List.append_assoc, List.getElem?_append_left h1] at hx ⊢
    exact hx
  · by_cases h2 : i < A.length + Y.length
    · rw [List.getElem?_append_left (by simpa using h2), List.getElem?_append_right (by omega)] at hx
      obtain ⟨j, hj, e⟩ := List.getElem_of_mem (hY x (List.mem_of_getElem? hx))
      refine h (A.length + j) x (by omega) ?_
      rw [List.getElem?_append_left (by simp; omega), List.getElem?_append_right (by omega), Nat.add_sub_cancel_left, List.getElem?_eq_getElem hj, e]
    · refine h i x hi ?_
      rw [List.getElem?_append_right (by simp; omega)] at hx ⊢
      rw [← hx]
      congr 1
      simp [hl]
theorem swapN_up {n : Nat} {S : Value → Prop} {l : List Value} {a b : Nat} (h : Up n S l) : ∀ k, a + k ≤ n → b + k ≤ n → Up n S (swapN l a b k)
  | 0, _, _ => h
  | k + 1, h1, h2 => (swapN_up h k (by omega) (by omega)).swap2 (by omega) (by omega)
theorem swap2_pcs {A M B : List Value} {x y : Value} {i j : Nat} (hi : A.length = i) (hj : (A ++ x :: M).length = j) : swap2 (A ++ x :: (M ++ y :: B)) i j = A ++ y :: (M ++ x :: B) := by
  subst hi
  rw [swap2_at (x := x) (y := y) (by simp) (by rw [show A ++ x :: (M ++ y :: B) = (A ++ x :: M) ++ y :: B by simp, ← hj, List.getElem?_append_right (Nat.le_refl _)]; simp)]
  rw [List.set_append_right _ _ (Nat.le_refl _), Nat.sub_self, List.set_cons_zero, show A ++ y :: (M ++ y :: B) = (A ++ y :: M) ++ y :: B by simp, List.set_append_right _ _ (by rw [← hj]; simp)]
  have : j - (A ++ y :: M).length = 0 := by rw [← hj]; simp
  rw [this, List.set_cons_zero]
  simp
/-- Stretches of one length change places. -/
theorem swapN_pcs {U V : List Value} (hUV : U.length = V.length) (A M B : List Value) {b : Nat} (hb : (A ++ U ++ M).length = b) : swapN (A ++ U ++ M ++ V ++ B) A.length b U.length = A ++ V ++ M ++ U ++ B := by
  have key : ∀ (k : Nat), k ≤ U.length → swapN (A ++ U ++ M ++ V ++ B) A.length b k = A ++ (V.take k ++ U.drop k) ++ M ++ (U.take k ++ V.drop k) ++ B := by
    intro k
    induction k with
    | zero => intro _; simp [swapN]
    | succ k ih =>
      intro hk
      rw [swapN, ih (by omega)]
      have hu : k < U.length := by omega
      have hv : k < V.length := by omega
      rw [List.drop_eq_getElem_cons hu, List.drop_eq_getElem_cons hv, List.take_succ_eq_append_getElem hu, List.take_succ_eq_append_getElem hv]
      have := swap2_pcs (A := A ++ V.take k) (x := U[k]) (M := U.drop (k + 1) ++ M ++ U.take k) (y := V[k]) (B := V.drop (k + 1) ++ B) (i := A.length + k) (j := b + k)
        (by rw [List.length_append, List.length_take]; omega) (by rw [← hb]; simp; omega)
      simp only [List.append_assoc, List.cons_append, List.nil_append] at this ⊢
      exact this
  rw [key _ (Nat.le_refl _), List.take_of_length_le (by omega), List.drop_of_length_le (Nat.le_refl _), List.take_of_length_le (Nat.le_refl _), List.drop_of_length_le (by omega)]
  simp

section
variable {P : Program} {w0 : Bs} {Rs : List Res}
theorem rdS1 {k b T off i : Nat} {cs : List Value} {v : Value} (hk : Rs[k]? = some (.cel b T cs)) (hv : cs[i]? = some v) (he : off = i) : ∀ w, St w0 Rs w → ∀ j x, [v][j]? = some x → w.cell? ⟨b, off + j, none⟩ = some x := fun w h j x hx => by
  subst he
  match j, hx with
  | 0, hx =>
    cases hx
    exact rd1 hk hv w h
end
theorem swapRange_cells (b T : Nat) (cs : List Value) (n c i j m : Nat) (fv : Value) (w : World) (hh : w.heap[b]? = some (.cells cs.toArray T (0, 0))) (hl : n ≤ cs.length) (h1 : i + m ≤ n) (h2 : j + m ≤ n) (hn : n ≤ 1099511627776)
    (hone : Up n (fun x => x.oneCell' = true) cs) :
    Calls Try.prog 90 #[.slice (some ⟨b, 0, none⟩) n c, .int .i64 (i : Int), .int .i64 (j : Int), .int .i64 (m : Int), fv] w fun e w' => e = .returned (.tuple #[]) ∧ Wr b w w' ∧ w'.heap[b]? = some (.cells (swapN cs i j m).toArray T (0, 0)) := by
  refine walk_from1 (m := 38) (Try.func90) rfl rfl (Nat.le_of_ble_eq_true rfl) (hh) ?_
  refine at_seq ?_
  refine at_region ?_
  refine at_q rfl rfl (by decide) (qt_assign rfl rfl) ?_
  refine at_end ?_
  refine at_block ?_
  refine at_loopc (X := Nat × List Value) (fun x => x.1 ≤ m ∧ x.2 = swapN cs i j x.1) (fun x => m - x.1) (fun x => [(10, .int .i64 (x.1 : Int))]) (C := [(0, _), (1, _), (2, _), (3, _)]) ⟨rfl, rfl, rfl, rfl, trivial⟩ (fun x => [.cel b T x.2]) (0, cs) (⟨Nat.zero_le _, rfl⟩) ⟨rfl, rfl, rfl, rfl, rfl, trivial⟩ (fun _ h => h) ?_
  intro ⟨k, ds⟩ hx L hL1
  refine at_envE (by simp only [List.nil_append, List.cons_append]; rfl) ?_
  refine at_rsE (by first | (dsimp only; done) | (dsimp only; rfl) | rfl) ?_
  have hk : k ≤ m := hx.1
  have hds : ds = swapN cs i j k := hx.2
  have hlen : ds.length = cs.length := by rw [hds, swapN_len]
  refine at_seq ?_
  refine at_seq ?_
  refine at_region ?_
  refine at_q rfl rfl (by decide) (qt_move rfl rfl) ?_
  refine at_q rfl rfl (by decide) (qt_move rfl rfl) ?_
  refine at_q rfl rfl (by decide) (qt_lss rfl rfl rfl) ?_
  refine at_end ?_
  refine at_cond rfl (fun c1 => ?_) (fun c1 => ?_)
  · try simp only [decide_eq_true_eq, decide_eq_false_iff_not, beq_iff_eq, beq_eq_false_iff_ne, Bool.not_eq_true', Bool.not_eq_false', Bool.not_true, Bool.not_false, Int.not_lt, Int.not_le, ne_eq, Nat.not_lt, Nat.not_le] at c1
    have hlt : k < m := (by omega)
    obtain ⟨x, hx1⟩ : ∃ x, ds[i + k]? = some x := ⟨_, List.getElem?_eq_getElem (by omega)⟩
    obtain ⟨y, hy1⟩ : ∃ y, ds[j + k]? = some y := ⟨_, List.getElem?_eq_getElem (by omega)⟩
    have hxo : [x].all (·.oneCell') = true := by simp [swapN_up hone k (by omega) (by omega) (i + k) x (by omega) (hds ▸ hx1)]
    have hyo : [y].all (·.oneCell') = true := by simp [swapN_up hone k (by omega) (by omega) (j + k) y (by omega) (hds ▸ hy1)]
    refine at_skip ?_
    refine norm_then ?_
    refine at_seq ?_
    refine at_block ?_
    refine dg_start mixed rfl ?_
    refine dh_phase 21 23 [0] ?_
    refine dh_q (i := 0) rfl (by kernel_rfl) (by kernel_rfl) (by kernel_rfl) [] (by kernel_rfl) (fun _ _ _ h => h) rfl rfl (by decide) (fun _ h => h.upto ⟨rfl, trivial⟩) (qt_move rfl rfl) ?_
    refine dh_q (i := 1) rfl (by kernel_rfl) (by kernel_rfl) (by kernel_rfl) [] (by kernel_rfl) (fun _ _ _ h => h) rfl rfl (by decide) (fun _ h => h.upto ⟨rfl, trivial⟩) (qt_move rfl rfl) ?_
    refine dh_q (i := 2) rfl (by kernel_rfl) (by kernel_rfl) (by kernel_rfl) [] (by kernel_rfl) (fun _ _ _ h => h) rfl rfl (by decide) (fun _ h => h.upto ⟨rfl, trivial⟩) (qt_move rfl rfl) ?_
    refine dh_q (i := 3) rfl (by kernel_rfl) (by kernel_rfl) (by kernel_rfl) [] (by kernel_rfl) (fun _ _ _ h => h) rfl rfl (by decide) (fun _ h => h.upto ⟨rfl, trivial⟩) (qt_add rfl rfl rfl (by omega) (by omega)) ?_
    refine dh_ql (i := 4) rfl (by kernel_rfl) (by kernel_rfl) (by kernel_rfl) [] (by kernel_rfl) (fun _ _ _ h => h) rfl rfl (by decide) (fun _ h => h.upto ⟨rfl, trivial⟩) (qt_move rfl rfl) (qt_move rfl rfl) ?_
    refine dh_ql (i := 5) rfl (by kernel_rfl) (by kernel_rfl) (by kernel_rfl) [] (by kernel_rfl) (fun _ _ _ h => h) rfl rfl (by decide) (fun _ h => h.upto ⟨rfl, trivial⟩) (qt_move rfl rfl) (qt_move rfl rfl) ?_
    refine dh_ql (i := 6) rfl (by kernel_rfl) (by kernel_rfl) (by kernel_rfl) [] (by kernel_rfl) (fun _ _ _ h => h) rfl rfl (by decide) (fun _ h => h.upto ⟨rfl, trivial⟩) (qt_move rfl rfl) (qt_move rfl rfl) ?_
    refine dh_ql (i := 7) rfl (by kernel_rfl) (by kernel_rfl) (by kernel_rfl) [] (by kernel_rfl) (fun _ _ _ h => h) rfl rfl (by decide) (fun _ h => h.upto ⟨rfl, trivial⟩) (qt_add rfl rfl rfl (by omega) (by omega)) (qt_add rfl rfl rfl (by omega) (by omega)) ?_
    refine dh_q (i := 8) rfl (by kernel_rfl) (by kernel_rfl) (by kernel_rfl) [] (by kernel_rfl) (fun _ _ _ h => h) rfl rfl (by decide) (fun _ h => h.upto ⟨rfl, trivial⟩) (qt_move rfl rfl) ?_
    refine dh_q (i := 9) rfl (by kernel_rfl) (by kernel_rfl) (by kernel_rfl) [] (by kernel_rfl) (fun _ _ _ h => h) rfl rfl (by decide) (fun _ h => h.upto ⟨rfl, trivial⟩) (qt_move rfl rfl) ?_
    refine dh_q (i := 10) rfl (by kernel_rfl) (by kernel_rfl) (by kernel_rfl) [] (by kernel_rfl) (fun _ _ _ h => h) rfl rfl (by decide) (fun _ h => h.upto ⟨rfl, trivial⟩) (qt_move rfl rfl) ?_
    refine dh_q (i := 11) rfl (by kernel_rfl) (by kernel_rfl) (by kernel_rfl) [] (by kernel_rfl) (fun _ _ _ h => h) rfl rfl (by decide) (fun _ h => h.upto ⟨rfl, trivial⟩) (qt_add rfl rfl rfl (by omega) (by omega)) ?_
    refine dh_q (i := 12) rfl (by kernel_rfl) (by kernel_rfl) (by kernel_rfl) [] (by kernel_rfl) (fun _ _ _ h => h) rfl rfl (by decide) (fun _ h => h.upto ⟨rfl, trivial⟩) (qt_index (j := j + k) rfl rfl rfl tyl_sl_impl_Ring (by omega)) ?_
    refine dh_q (i := 13) rfl (by kernel_rfl) (by kernel_rfl) (by kernel_rfl) [] (by kernel_rfl) (fun _ _ _ h => h) rfl rfl (by decide) (fun _ h => h.upto ⟨rfl, trivial⟩) (qt_loadS rfl rfl tys_impl_Ring rfl (rdS1 (k := 0) rfl hy1 (by omega))) ?_
    refine dh_q (i := 14) rfl (by kernel_rfl) (by kernel_rfl) (by kernel_rfl) [18, 19] (by kernel_rfl) (fun _ _ _ h => h) rfl rfl (by decide) (fun _ h => h.upto ⟨rfl, trivial⟩) (qt_move rfl rfl) ?_
    refine dh_q (i := 15) rfl (by kernel_rfl) (by kernel_rfl) (by kernel_rfl) [17, 18, 19] (by kernel_rfl) (fun _ _ _ h => h) rfl rfl (by decide) (fun _ h => h.upto ⟨rfl, trivial⟩) (qt_move rfl rfl) ?_
    refine dh_q (i := 16) rfl (by kernel_rfl) (by kernel_rfl) (by kernel_rfl) [17, 18, 19] (by kernel_rfl) (fun _ _ _ h => h) rfl rfl (by decide) (fun _ h => h.upto ⟨rfl, trivial⟩) (qt_move rfl rfl) ?_
    refine dh_q (i := 17) rfl (by kernel_rfl) (by kernel_rfl) (by kernel_rfl) [18, 19] (by kernel_rfl) (fun _ _ _ h => h) rfl rfl (by decide) (fun _ h => h.upto ⟨rfl, trivial⟩) (qt_add rfl rfl rfl (by omega) (by omega)) ?_
    refine dh_q (i := 18) rfl (by kernel_rfl) (by kernel_rfl) (by kernel_rfl) [19] (by kernel_rfl) (fun _ _ _ h => h) rfl rfl (by decide) (fun _ h => h.upto ⟨rfl, trivial⟩) (qt_index (j := i + k) rfl rfl rfl tyl_sl_impl_Ring (by omega)) ?_
    refine dh_q (i := 19) rfl (by kernel_rfl) (by kernel_rfl) (by kernel_rfl) [] (by kernel_rfl) (fun _ _ _ h => h) rfl rfl (by decide) (fun _ h => h.upto ⟨rfl, trivial⟩) (qt_loadS rfl rfl tys_impl_Ring rfl (rdS1 (k := 0) rfl hx1 (by omega))) ?_
    refine dh_q (i := 20) rfl (by kernel_rfl) (by kernel_rfl) (by kernel_rfl) [] (by kernel_rfl) (fun _ _ _ h => h) rfl rfl (by decide) (fun _ h => h.upto ⟨rfl, trivial⟩) (qt_index (j := i + k) rfl rfl rfl tyl_sl_impl_Ring (by omega)) ?_
    refine dh_bar rfl (by kernel_rfl) rfl ?_
    refine op_store (k := 0) rfl rfl rfl rfl rfl hyo tyz_impl_Ring.szx rfl rfl (by simp; omega) ?_
    refine dr_keep (fun _ h => (h.wk [0]).upto ⟨rfl, trivial⟩) ?_
    refine at_rsE (by simp only [List.nil_append, List.cons_append, List.set_cons_zero, List.set_cons_succ, Value.cells, List.toList_toArray]; rfl) ?_
    refine dg_q (i := 22) rfl (by kernel_rfl) (by kernel_rfl) (by kernel_rfl) [] (by kernel_rfl) (fun _ _ _ h => h) rfl rfl (by decide) (fun _ h => (h.wk [0]).upto ⟨rfl, trivial⟩) (qt_index (j := j + k) rfl rfl rfl tyl_sl_impl_Ring (by omega)) ?_
    refine dg_bar rfl (by kernel_rfl) rfl ?_
    refine op_store (k := 0) rfl rfl rfl rfl rfl hxo tyz_impl_Ring.szx rfl rfl (by rw [splice_len]; simp; omega) ?_
    refine dg_end (by kernel_rfl) ?_
    refine norm_block ?_
    refine norm_then ?_
    refine at_region ?_
    refine at_q rfl rfl (by decide) (qt_move rfl rfl) ?_
    refine at_q rfl rfl (by decide) (qt_add rfl rfl rfl (by omega) (by omega)) ?_
    refine at_q rfl rfl (by decide) (qt_assign rfl rfl) ?_
    refine at_end ?_
    exact at_againc hL1 ((k + 1, _)) (⟨show k + 1 ≤ m by omega, (by show List.set (List.set ds _ _) _ _ = _; rw [swapN, ← hds, swap2_at hx1 hy1]; simp only [Nat.zero_add, Nat.mul_one])⟩) (by simp only; omega) ⟨vi (by omega), rfl, rfl, rfl, rfl, trivial⟩ (fun _ h => h.upto ⟨rfl, trivial⟩)
  · try simp only [decide_eq_true_eq, decide_eq_false_iff_not, beq_iff_eq, beq_eq_false_iff_ne, Bool.not_eq_true', Bool.not_eq_false', Bool.not_true, Bool.not_false, Int.not_lt, Int.not_le, ne_eq, Nat.not_lt, Nat.not_le] at c1
    refine at_exit ?_
    refine pass_then (fun h => by cases h) ?_
    refine pass_then (fun h => by cases h) ?_
    refine pass_hit ?_
    refine at_end0 rfl ?_
    intro w' hs
    have hkm : k = m := (by omega)
    subst hkm
    exact ⟨rfl, hs.over.wr, hds ▸ hs.cel (k := 0) rfl⟩
/-- What is left to rotate: U and V between X and Y. -/
structure RotI (t : List Value) (m n i j : Nat) (ds : List Value) : Prop where
  ex : ∃ X U V Y : List Value, ds = X ++ U ++ V ++ Y ∧ X.length + i = m ∧ U.length = i ∧ V.length = j ∧ X ++ V ++ U ++ Y = t
  i0 : 0 < i
  j0 : 0 < j
  le : m + j ≤ n
  one : Up n (fun x => x.oneCell' = true) ds
theorem RotI.len {t : List Value} {m n i j : Nat} {ds : List Value} (h : RotI t m n i j ds) : ds.length = t.length ∧ i ≤ m := by
  obtain ⟨X, U, V, Y, rfl, h1, h2, h3, rfl⟩ := h.ex
  simp
  omega
theorem RotI.left {t : List Value} {m n i j : Nat} {ds : List Value} (h : RotI t m n i j ds) (hij : j < i) : RotI t m n (i - j) j (swapN ds (m - i) m j) := by
  obtain ⟨X, U, V, Y, rfl, h1, h2, h3, e⟩ := h.ex
  refine ⟨⟨X ++ V, U.drop j, U.take j, Y, ?_, ?_, ?_, ?_, ?_⟩, by omega, h.j0, h.le, swapN_up h.one j (by have := h.le; omega) (by have := h.le; omega)⟩
  · have := swapN_pcs (U := U.take j) (V := V) (by simp; omega) X (U.drop j) Y (b := m) (by simp; omega)
    rw [List.append_assoc X, List.take_append_drop, show X.length = m - i by omega, show (U.take j).length = j by simp; omega] at this
    rw [this]
  · simp; omega
  · simp; omega
  · simp; omega
  · rw [List.append_assoc (X ++ V), List.take_append_drop]
    exact e
theorem RotI.right {t : List Value} {m n i j : Nat} {ds : List Value} (h : RotI t m n i j ds) (hij : i < j) : RotI t m n i (j - i) (swapN ds (m - i) (m + j - i) i) := by
  obtain ⟨X, U, V, Y, rfl, h1, h2, h3, e⟩ := h.ex
  refine ⟨⟨X, V.drop (j - i), V.take (j - i), U ++ Y, ?_, by omega, ?_, ?_, ?_⟩, h.i0, by omega, by have := h.le; omega, swapN_up h.one i (by have := h.le; omega) (by have := h.le; omega)⟩
  · have := swapN_pcs (U := U) (V := V.drop (j - i)) (by simp; omega) X (V.take (j - i)) Y (b := m + j - i) (by simp; omega)
    rw [List.append_assoc (X ++ U), List.take_append_drop, show X.length = m - i by omega, h2] at this
    rw [this]
    simp only [List.append_assoc]
  · simp; omega
  · simp; omega
  · rw [← e]
    rw [List.append_assoc X, List.take_append_drop, List.append_assoc, List.append_assoc, List.append_assoc]
theorem RotI.fin {t : List Value} {m n i : Nat} {ds : List Value} (h : RotI t m n i i ds) : swapN ds (m - i) m i = t := by
  obtain ⟨X, U, V, Y, rfl, h1, h2, h3, e⟩ := h.ex
  have := swapN_pcs (U := U) (V := V) (by omega) X [] Y (b := m) (by simp; omega)
  rw [List.append_nil, List.append_nil, show X.length = m - i by omega, h2] at this
  rw [this, e]

theorem rotate_cells (b T : Nat) (A G R B : List Value) (n c a m e_ : Nat) (fv : Value) (w : World) (hh : w.heap[b]? = some (.cells (A ++ G ++ R ++ B).toArray T (0, 0)))
    (ha : A.length = a) (hm : a + G.length = m) (he : m + R.length = e_) (hG : 0 < G.length) (hR : 0 < R.length) (hen : e_ ≤ n) (hl : n ≤ (A ++ G ++ R ++ B).length) (hn : n ≤ 1099511627776)
    (hone : Up n (fun x => x.oneCell' = true) (A ++ G ++ R ++ B)) :
    Calls Try.prog 89 #[.slice (some ⟨b, 0, none⟩) n c, .int .i64 (a : Int), .int .i64 (m : Int), .int .i64 (e_ : Int), fv] w fun e w' => e = .returned (.tuple #[]) ∧ Wr b w w' ∧ w'.heap[b]? = some (.cells (A ++ R ++ G ++ B).toArray T (0, 0)) := by
  have hlt : n ≤ (A ++ R ++ G ++ B).length := by simp at hl ⊢; omega
  refine walk_from1 (m := 58) (Try.func89) rfl rfl (Nat.le_of_ble_eq_true rfl) (hh) ?_
  refine at_seq ?_
  refine at_region ?_
  refine at_q rfl rfl (by decide) (qt_move rfl rfl) ?_
  refine at_q rfl rfl (by decide) (qt_move rfl rfl) ?_
  refine at_q rfl rfl (by decide) (qt_sub rfl rfl rfl (by omega) (by omega)) ?_
  refine at_q rfl rfl (by decide) (qt_assign rfl rfl) ?_
  refine at_end ?_
  refine at_seq ?_
  refine at_region ?_
  refine at_q rfl rfl (by decide) (qt_move rfl rfl) ?_
  refine at_q rfl rfl (by decide) (qt_move rfl rfl) ?_
  refine at_q rfl rfl (by decide) (qt_sub rfl rfl rfl (by omega) (by omega)) ?_
  refine at_q rfl rfl (by decide) (qt_assign rfl rfl) ?_
  refine at_end ?_
  refine at_seq ?_
  refine at_block ?_
  refine at_loopc (X := Nat × Nat × List Value) (fun x => RotI (A ++ R ++ G ++ B) m n x.1 x.2.1 x.2.2) (fun x => x.1 + x.2.1) (fun x => [(10, .int .i64 (x.1 : Int)), (11, .int .i64 (x.2.1 : Int))]) (C := [(0, _), (2, _), (4, _)]) ⟨rfl, rfl, rfl, trivial⟩ (fun x => [.cel b T x.2.2]) (G.length, R.length, A ++ G ++ R ++ B) (⟨⟨A, G, R, B, rfl, (by show A.length + G.length = m; omega), rfl, rfl, rfl⟩, hG, hR, (by show m + R.length ≤ n; omega), hone⟩) ⟨vi (by omega), vi (by show (e_ : Int) - (m : Int) = ((R.length : Nat) : Int); omega), rfl, rfl, rfl, trivial⟩ (fun _ h => h) ?_
  intro ⟨i, j, ds⟩ hx L hL1
  refine at_envE (by simp only [List.nil_append, List.cons_append]; rfl) ?_
  refine at_rsE (by first | (dsimp only; done) | (dsimp only; rfl) | rfl) ?_
  have hx' : RotI (A ++ R ++ G ++ B) m n i j ds := hx
  have hlen := hx'.len
  have hle := hx'.le
  have hi0 := hx'.i0
  have hj0 := hx'.j0
  refine at_seq ?_
  refine at_seq ?_
  refine at_region ?_
  refine at_q rfl rfl (by decide) (qt_move rfl rfl) ?_
  refine at_q rfl rfl (by decide) (qt_move rfl rfl) ?_
  refine at_q rfl rfl (by decide) (qt_neq rfl rfl rfl) ?_
  refine at_end ?_
  refine at_cond rfl (fun c1 => ?_) (fun c1 => ?_)
  · try simp only [decide_eq_true_eq, decide_eq_false_iff_not, beq_iff_eq, beq_eq_false_iff_ne, Bool.not_eq_true', Bool.not_eq_false', Bool.not_true, Bool.not_false, Int.not_lt, Int.not_le, ne_eq, Nat.not_lt, Nat.not_le] at c1
    have hne : i ≠ j := (by omega)
    refine at_skip ?_
    refine norm_then ?_
    refine at_block ?_
    refine at_seq ?_
    refine at_region ?_
    refine at_q rfl rfl (by decide) (qt_move rfl rfl) ?_
    refine at_q rfl rfl (by decide) (qt_move rfl rfl) ?_
    refine at_q rfl rfl (by decide) (qt_gtr rfl rfl rfl) ?_
    refine at_end ?_
    refine at_cond rfl (fun c2 => ?_) (fun c2 => ?_)
    · try simp only [decide_eq_true_eq, decide_eq_false_iff_not, beq_iff_eq, beq_eq_false_iff_ne, Bool.not_eq_true', Bool.not_eq_false', Bool.not_true, Bool.not_false, Int.not_lt, Int.not_le, ne_eq, Nat.not_lt, Nat.not_le] at c2
      have hji : j < i := (by omega)
      refine at_seq ?_
      refine at_region ?_
      refine at_q rfl rfl (by decide) (qt_move rfl rfl) ?_
      refine at_q rfl rfl (by decide) (qt_move rfl rfl) ?_
      refine at_q rfl rfl (by decide) (qt_move rfl rfl) ?_
      refine at_q rfl rfl (by decide) (qt_sub rfl rfl rfl (by omega) (by omega)) ?_
      refine at_q rfl rfl (by decide) (qt_move rfl rfl) ?_
      refine at_q rfl rfl (by decide) (qt_move rfl rfl) ?_
      refine at_q rfl rfl (by decide) (qt_move rfl rfl) ?_
      refine at_as 27 (.int .i64 ((m - i : Nat) : Int)) rfl (congrArg _ (by omega)) ?_
      refine at_op rfl ?_
      refine op_callm (k := 0) ok_slices_swapRangeCmpFunc_impl_Ring rfl rfl rfl (by decide) rfl (fun w1 h1 => swapRange_cells b T ds n c (m - i) m j fv w1 (h1.cel (k := 0) rfl) (by omega) (by omega) (by omega) hn hx'.one) ?_
      refine at_rsE (by simp only [List.nil_append, List.cons_append, List.set_cons_zero, List.set_cons_succ, Value.cells, List.toList_toArray]; rfl) ?_
      refine at_end ?_
      refine at_region ?_
      refine at_q rfl rfl (by decide) (qt_move rfl rfl) ?_
      refine at_q rfl rfl (by decide) (qt_move rfl rfl) ?_
      refine at_q rfl rfl (by decide) (qt_sub rfl rfl rfl (by omega) (by omega)) ?_
      refine at_q rfl rfl (by decide) (qt_assign rfl rfl) ?_
      refine at_nil ?_
      refine norm_block ?_
      refine norm_then ?_
      exact at_againc hL1 ((i - j, j, _)) (hx'.left hji) (by simp only; omega) ⟨vi (by omega), rfl, rfl, rfl, rfl, trivial⟩ (fun _ h => h.upto ⟨rfl, trivial⟩)
    · try simp only [decide_eq_true_eq, decide_eq_false_iff_not, beq_iff_eq, beq_eq_false_iff_ne, Bool.not_eq_true', Bool.not_eq_false', Bool.not_true, Bool.not_false, Int.not_lt, Int.not_le, ne_eq, Nat.not_lt, Nat.not_le] at c2
      have hji : i < j := (by simp at c2; omega)
      refine at_seq ?_
      refine at_region ?_
      refine at_q rfl rfl (by decide) (qt_move rfl rfl) ?_
      refine at_q rfl rfl (by decide) (qt_move rfl rfl) ?_
      refine at_q rfl rfl (by decide) (qt_move rfl rfl) ?_
      refine at_q rfl rfl (by decide) (qt_sub rfl rfl rfl (by omega) (by omega)) ?_
      refine at_q rfl rfl (by decide) (qt_move rfl rfl) ?_
      refine at_q rfl rfl (by decide) (qt_move rfl rfl) ?_
      refine at_q rfl rfl (by decide) (qt_add rfl rfl rfl (by omega) (by omega)) ?_
      refine at_q rfl rfl (by decide) (qt_move rfl rfl) ?_
      refine at_q rfl rfl (by decide) (qt_sub rfl rfl rfl (by omega) (by omega)) ?_
      refine at_q rfl rfl (by decide) (qt_move rfl rfl) ?_
      refine at_q rfl rfl (by decide) (qt_move rfl rfl) ?_
      refine at_as 38 (.int .i64 ((m - i : Nat) : Int)) rfl (congrArg _ (by omega)) ?_
      refine at_as 43 (.int .i64 ((m + j - i : Nat) : Int)) rfl (congrArg _ (by omega)) ?_
      refine at_op rfl ?_
      refine op_callm (k := 0) ok_slices_swapRangeCmpFunc_impl_Ring rfl rfl rfl (by decide) rfl (fun w1 h1 => swapRange_cells b T ds n c (m - i) (m + j - i) i fv w1 (h1.cel (k := 0) rfl) (by omega) (by omega) (by omega) hn hx'.one) ?_
      refine at_rsE (by simp only [List.nil_append, List.cons_append, List.set_cons_zero, List.set_cons_succ, Value.cells, List.toList_toArray]; rfl) ?_
      refine at_end ?_
      refine at_region ?_
      refine at_q rfl rfl (by decide) (qt_move rfl rfl) ?_
      refine at_q rfl rfl (by decide) (qt_move rfl rfl) ?_
      refine at_q rfl rfl (by decide) (qt_sub rfl rfl rfl (by omega) (by omega)) ?_
      refine at_q rfl rfl (by decide) (qt_assign rfl rfl) ?_
      refine at_nil ?_
      refine norm_block ?_
      refine norm_then ?_
      exact at_againc hL1 ((i, j - i, _)) (hx'.right hji) (by simp only; omega) ⟨rfl, vi (by show (j : Int) - (i : Int) = ((j - i : Nat) : Int); omega), rfl, rfl, rfl, trivial⟩ (fun _ h => h.upto ⟨rfl, trivial⟩)
  · try simp only [decide_eq_true_eq, decide_eq_false_iff_not, beq_iff_eq, beq_eq_false_iff_ne, Bool.not_eq_true', Bool.not_eq_false', Bool.not_true, Bool.not_false, Int.not_lt, Int.not_le, ne_eq, Nat.not_lt, Nat.not_le] at c1
    refine at_exit ?_
    refine pass_then (fun h => by cases h) ?_
    refine pass_then (fun h => by cases h) ?_
    refine pass_hit ?_
    refine norm_then ?_
    refine at_region ?_
    refine at_q rfl rfl (by decide) (qt_move rfl rfl) ?_
    refine at_q rfl rfl (by decide) (qt_move rfl rfl) ?_
    refine at_q rfl rfl (by decide) (qt_move rfl rfl) ?_
    refine at_q rfl rfl (by decide) (qt_sub rfl rfl rfl (by omega) (by omega)) ?_
    refine at_q rfl rfl (by decide) (qt_move rfl rfl) ?_
    refine at_q rfl rfl (by decide) (qt_move rfl rfl) ?_
    refine at_q rfl rfl (by decide) (qt_move rfl rfl) ?_
    refine at_as 53 (.int .i64 ((m - i : Nat) : Int)) rfl (congrArg _ (by omega)) ?_
    refine at_op rfl ?_
    refine op_callm (k := 0) ok_slices_swapRangeCmpFunc_impl_Ring rfl rfl rfl (by decide) rfl (fun w1 h1 => swapRange_cells b T ds n c (m - i) m i fv w1 (h1.cel (k := 0) rfl) (by omega) (by omega) (by omega) hn hx'.one) ?_
    refine at_rsE (by simp only [List.nil_append, List.cons_append, List.set_cons_zero, List.set_cons_succ, Value.cells, List.toList_toArray]; rfl) ?_
    refine at_nil ?_
    refine at_end0 rfl ?_
    intro w' hs
    have hij : i = j := (by omega)
    subst hij
    exact ⟨rfl, hs.over.wr, by rw [← hx'.fin]; exact hs.cel (k := 0) rfl⟩
def ltC (cr : Value → Value → Int) (x y : Value) : Bool := decide (cr x y < 0)
/-- The comparison answers so at the elements S, whatever block b holds. -/
structure CmpOk (w : World) (b : Nat) (S : Value → Prop) (cr : Value → Value → Int) : Prop where
  call : ∀ x, S x → ∀ y, S y → ∀ w', Ovx ⟨w, [b]⟩ w' → Calls Try.prog 74 #[.agg #[x], .agg #[y]] w' fun e w'' => e = .returned (.int .i64 (cr x y)) ∧ Over w' w''
  weak : Weak (ltC cr)
  one : ∀ x, S x → x.oneCell' = true
theorem CmpOk.over {w w1 : World} {b : Nat} {S : Value → Prop} {cr : Value → Value → Int} (h : CmpOk w b S cr) (ho : Ovx ⟨w, [b]⟩ w1) : CmpOk w1 b S cr :=
  ⟨fun x hx y hy w' hw => h.call x hx y hy w' ⟨hw.os.trans ho.os, hw.tape.trans ho.tape, hw.output.trans ho.output, Nat.le_trans ho.size hw.size, fun q hq hne => (hw.block q (Nat.lt_of_lt_of_le hq ho.size) hne).trans (ho.block q hq hne)⟩, h.weak, h.one⟩

theorem srt_last {lt : Value → Value → Bool} (W : Weak lt) {P Q : List Value} {p x : Value} (h : Srt lt (P ++ p :: Q)) (hx : lt x p = false) : ∀ q ∈ P ++ [p], lt x q = false := by
  intro q hq
  rcases List.mem_append.1 hq with hq | hq
  · exact W.neg _ _ _ hx ((List.pairwise_append.1 h).2.2 q hq p (List.mem_cons_self ..))
  · cases List.mem_singleton.1 hq
    exact hx
/-- The element x on its way down. -/
structure InsI (lt : Value → Value → Bool) (A Y R : List Value) (x : Value) (j : Nat) (ds : List Value) : Prop where
  ex : ∃ P Q : List Value, ds = A ++ (P ++ x :: Q) ++ R ∧ A.length + P.length = j ∧ P ++ Q = Y ∧ ∀ q ∈ Q, lt x q = true
theorem InsI.low {lt : Value → Value → Bool} {A Y R : List Value} {x : Value} {j : Nat} {ds : List Value} (h : InsI lt A Y R x j ds) (hj : j ≤ A.length) : ds = A ++ insS lt x Y ++ R := by
  obtain ⟨P, Q, rfl, h1, rfl, h3⟩ := h.ex
  obtain rfl : P = [] := List.eq_nil_of_length_eq_zero (by omega)
  rw [insS_cut x [] Q (fun p hp => by cases hp) (fun q hq => h3 q (List.mem_of_mem_head? hq))]
theorem InsI.last {lt : Value → Value → Bool} {A Y R : List Value} {x : Value} {j : Nat} {ds : List Value} (h : InsI lt A Y R x j ds) (hj : A.length < j) :
    ∃ p, ds[j]? = some x ∧ ds[j - 1]? = some p ∧ (Weak lt → Srt lt Y → lt x p = false → ds = A ++ insS lt x Y ++ R) ∧ (lt x p = true → InsI lt A Y R x (j - 1) (swap2 ds j (j - 1))) := by
  obtain ⟨P, Q, rfl, h1, rfl, h3⟩ := h.ex
  rcases List.eq_nil_or_concat P with rfl | ⟨P, p, rfl⟩
  · simp at h1; omega
  rw [List.concat_eq_append, List.length_append, List.length_singleton] at h1
  simp only [List.concat_eq_append]
  have e1 : A ++ (P ++ [p] ++ x :: Q) ++ R = (A ++ P) ++ p :: x :: (Q ++ R) := by simp
  have g1 : (A ++ (P ++ [p] ++ x :: Q) ++ R)[j]? = some x := by
    rw [e1, List.getElem?_append_right (by simp; omega), show j - (A ++ P).length = 1 by simp; omega]
    rfl
  have g2 : (A ++ (P ++ [p] ++ x :: Q) ++ R)[j - 1]? = some p := by
    rw [e1, List.getElem?_append_right (by simp; omega), show j - 1 - (A ++ P).length = 0 by simp; omega]
    rfl
  refine ⟨p, g1, g2, fun W hs hx => ?_, fun hx => ⟨P, p :: Q, ?_, by omega, by simp, fun q hq => ?_⟩⟩
  · rw [insS_cut x (P ++ [p]) Q (srt_last W (Q := Q) (by simpa using hs) hx) (fun q hq => h3 q (List.mem_of_mem_head? hq))]
  · rw [swap2_at g1 g2, e1, List.set_append_right _ _ (by simp; omega), show j - (A ++ P).length = 1 by simp; omega, List.set_append_right _ _ (by simp; omega), show j - 1 - (A ++ P).length = 0 by simp; omega]
    simp
  · rcases List.mem_cons.1 hq with rfl | hq
    · exact hx
    · exact h3 q hq
/-- The first elements are sorted. -/
structure InsO (lt : Value → Value → Bool) (A X B : List Value) (i : Nat) (ds : List Value) : Prop where
  lo : A.length < i
  hi : i ≤ A.length + X.length ∨ i = A.length + 1
  eq : ds = A ++ srt lt (X.take (i - A.length)) ++ (X.drop (i - A.length) ++ B)
theorem InsO.start {lt : Value → Value → Bool} {A X B : List Value} : InsO lt A X B (A.length + 1) (A ++ X ++ B) := by
  refine ⟨by omega, .inr rfl, ?_⟩
  rw [Nat.add_sub_cancel_left]
  cases X with
  | nil => simp [srt]
  | cons x X => simp [srt, insS]
theorem InsO.len {lt : Value → Value → Bool} {A X B : List Value} {i : Nat} {ds : List Value} (h : InsO lt A X B i ds) : ds.length = (A ++ X ++ B).length := by
  rw [h.eq]
  simp [srt_len]
  omega
theorem InsO.fin {lt : Value → Value → Bool} {A X B : List Value} {i : Nat} {ds : List Value} (h : InsO lt A X B i ds) (hi : A.length + X.length ≤ i) : ds = A ++ srt lt X ++ B := by
  rw [h.eq, List.take_of_length_le (by omega), List.drop_of_length_le (by omega)]
  rfl
theorem InsO.in_ {lt : Value → Value → Bool} {A X B : List Value} {i : Nat} {ds : List Value} (h : InsO lt A X B i ds) (hi : i < A.length + X.length) :
    ∃ x, InsI lt A (srt lt (X.take (i - A.length))) (X.drop (i - A.length + 1) ++ B) x i ds ∧ ∀ fs, fs = A ++ insS lt x (srt lt (X.take (i - A.length))) ++ (X.drop (i - A.length + 1) ++ B) → InsO lt A X B (i + 1) fs := by
  have := h.lo
  have hk : i - A.length < X.length := by omega
  refine ⟨X[i - A.length], ⟨srt lt (X.take (i - A.length)), [], ?_, ?_, by simp, fun q hq => by cases hq⟩, fun fs e => ⟨by omega, .inl (by omega), ?_⟩⟩
  · rw [h.eq, List.drop_eq_getElem_cons hk]
    simp only [List.append_assoc, List.cons_append, List.nil_append]
  · rw [srt_len, List.length_take]
    omega
  · rw [e, show i + 1 - A.length = i - A.length + 1 by omega, List.take_succ_eq_append_getElem hk, srt_snoc]
theorem insertion_cells (b T : Nat) (A X B : List Value) (n c a e_ : Nat) (S : Value → Prop) (cr : Value → Value → Int) (w : World) (hC : CmpOk w b S cr) (hh : w.heap[b]? = some (.cells (A ++ X ++ B).toArray T (0, 0)))
    (ha : A.length = a) (he : a + X.length = e_) (hen : e_ ≤ n) (hl : n ≤ (A ++ X ++ B).length) (hn : n ≤ 1099511627776) (hS : Up n S (A ++ X ++ B)) :
    Calls Try.prog 87 #[.slice (some ⟨b, 0, none⟩) n c, .int .i64 (a : Int), .int .i64 (e_ : Int), .func (.func 74) #[] #[]] w fun e w' => e = .returned (.tuple #[]) ∧ Wr b w w' ∧ w'.heap[b]? = some (.cells (A ++ srt (ltC cr) X ++ B).toArray T (0, 0)) := by
  subst ha
  refine walk_from1 (m := 53) (Try.func87) rfl rfl (Nat.le_of_ble_eq_true rfl) (hh) ?_
  refine at_seq ?_
  refine at_region ?_
  refine at_q rfl rfl (by decide) (qt_move rfl rfl) ?_
  refine at_q rfl rfl (by decide) (qt_add rfl rfl rfl (by omega) (by omega)) ?_
  refine at_q rfl rfl (by decide) (qt_assign rfl rfl) ?_
  refine at_end ?_
  refine at_block ?_
  refine at_loopc (X := Nat × List Value) (fun x => InsO (ltC cr) A X B x.1 x.2 ∧ Up n S x.2) (fun x => e_ - x.1) (fun x => [(8, .int .i64 (x.1 : Int))]) (C := [(0, _), (1, _), (2, _), (3, _)]) ⟨rfl, rfl, rfl, rfl, trivial⟩ (fun x => [.cel b T x.2]) (A.length + 1, A ++ X ++ B) (⟨InsO.start, hS⟩) ⟨rfl, rfl, rfl, rfl, rfl, trivial⟩ (fun _ h => h) ?_
  intro ⟨i, ds⟩ hx L hL1
  refine at_envE (by simp only [List.nil_append, List.cons_append]; rfl) ?_
  refine at_rsE (by first | (dsimp only; done) | (dsimp only; rfl) | rfl) ?_
  have hx1 : InsO (ltC cr) A X B i ds := hx.1
  have hSd : Up n S ds := hx.2
  have hlo := hx1.lo
  refine at_seq ?_
  refine at_seq ?_
  refine at_region ?_
  refine at_q rfl rfl (by decide) (qt_move rfl rfl) ?_
  refine at_q rfl rfl (by decide) (qt_move rfl rfl) ?_
  refine at_q rfl rfl (by decide) (qt_lss rfl rfl rfl) ?_
  refine at_end ?_
  refine at_cond rfl (fun c1 => ?_) (fun c1 => ?_)
  · try simp only [decide_eq_true_eq, decide_eq_false_iff_not, beq_iff_eq, beq_eq_false_iff_ne, Bool.not_eq_true', Bool.not_eq_false', Bool.not_true, Bool.not_false, Int.not_lt, Int.not_le, ne_eq, Nat.not_lt, Nat.not_le] at c1
    have hlt : i < e_ := (by omega)
    obtain ⟨x, hin, hout⟩ := hx1.in_ (by omega)
    refine at_skip ?_
    refine norm_then ?_
    refine at_seq ?_
    refine at_block ?_
    refine at_seq ?_
    refine at_region ?_
    refine at_q rfl rfl (by decide) (qt_move rfl rfl) ?_
    refine at_q rfl rfl (by decide) (qt_assign rfl rfl) ?_
    refine at_end ?_
    refine at_block ?_
    refine at_loopc (X := Nat × List Value) (fun y => InsI (ltC cr) A (srt (ltC cr) (X.take (i - A.length))) (X.drop (i - A.length + 1) ++ B) x y.1 y.2 ∧ A.length ≤ y.1 ∧ y.1 ≤ i ∧ y.2.length = (A ++ X ++ B).length ∧ Up n S y.2) (fun y => y.1) (fun y => [(9, .int .i64 (y.1 : Int))]) (C := [(0, _), (1, _), (2, _), (3, _), (8, _), (12, _), (13, _), (14, _), (17, _)]) ⟨rfl, rfl, rfl, rfl, rfl, rfl, rfl, rfl, rfl, trivial⟩ (fun y => [.cel b T y.2]) (i, ds) (⟨hin, by show A.length ≤ i; omega, Nat.le_refl _, hx1.len, hSd⟩) ⟨rfl, rfl, rfl, rfl, rfl, rfl, rfl, rfl, rfl, rfl, trivial⟩ (fun _ h => h) ?_
    intro ⟨j, fs⟩ hy L hL2
    refine at_envE (by simp only [List.nil_append, List.cons_append]; rfl) ?_
    refine at_rsE (by first | (dsimp only; done) | (dsimp only; rfl) | rfl) ?_
    have hy1 : InsI (ltC cr) A (srt (ltC cr) (X.take (i - A.length))) (X.drop (i - A.length + 1) ++ B) x j fs := hy.1
    have hy2 : A.length ≤ j := hy.2.1
    have hy3 : j ≤ i := hy.2.2.1
    have hy4 : fs.length = (A ++ X ++ B).length := hy.2.2.2.1
    have hSf : Up n S fs := hy.2.2.2.2
    refine at_seq ?_
    refine at_seq ?_
    refine dg_start mixed rfl ?_
    refine dg_phase 17 ?_
    refine dg_q (i := 0) rfl (by kernel_rfl) (by kernel_rfl) (by kernel_rfl) [] (by kernel_rfl) (fun _ _ _ h => h) rfl rfl (by decide) (fun _ h => h.upto ⟨rfl, trivial⟩) (qt_move rfl rfl) ?_
    refine dg_q (i := 1) rfl (by kernel_rfl) (by kernel_rfl) (by kernel_rfl) [] (by kernel_rfl) (fun _ _ _ h => h) rfl rfl (by decide) (fun _ h => h.upto ⟨rfl, trivial⟩) (qt_move rfl rfl) ?_
    refine dg_q (i := 2) rfl (by kernel_rfl) (by kernel_rfl) (by kernel_rfl) [] (by kernel_rfl) (fun _ _ _ h => h) rfl rfl (by decide) (fun _ h => h.upto ⟨rfl, trivial⟩) (qt_gtr rfl rfl rfl) ?_
    refine dg_q (i := 3) rfl (by kernel_rfl) (by kernel_rfl) (by kernel_rfl) [] (by kernel_rfl) (fun _ _ _ h => h) rfl rfl (by decide) (fun _ h => h.upto ⟨rfl, trivial⟩) (qt_move rfl rfl) ?_
    refine at_bsplit 21 rfl (fun g1 => ?_) (fun g1 => ?_)
    · try simp only [decide_eq_true_eq, decide_eq_false_iff_not, beq_iff_eq, beq_eq_false_iff_ne, Bool.not_eq_true', Bool.not_eq_false', Bool.not_true, Bool.not_false, Int.not_lt, Int.not_le, ne_eq, Nat.not_lt, Nat.not_le] at g1
      have hjl : A.length < j := (by simp at g1; omega)
      obtain ⟨p, u1, u2, hstop, hgo⟩ := hy1.last hjl
      have hSx := hSf j x (by omega) u1
      have hSp := hSf (j - 1) p (by omega) u2
      have hxo : [x].all (·.oneCell') = true := by simp [hC.one x hSx]
      have hpo : [p].all (·.oneCell') = true := by simp [hC.one p hSp]
      refine dg_qg (i := 4) rfl (by kernel_rfl) (by kernel_rfl) (by kernel_rfl) [] (by kernel_rfl) (fun _ _ _ h => h) rfl rfl rfl rfl rfl (by decide) (fun _ h => h.upto ⟨rfl, trivial⟩) (qt_move rfl rfl) ?_
      refine dg_qg (i := 5) rfl (by kernel_rfl) (by kernel_rfl) (by kernel_rfl) [] (by kernel_rfl) (fun _ _ _ h => h) rfl rfl rfl rfl rfl (by decide) (fun _ h => h.upto ⟨rfl, trivial⟩) (qt_move rfl rfl) ?_
      refine dg_qg (i := 6) rfl (by kernel_rfl) (by kernel_rfl) (by kernel_rfl) [] (by kernel_rfl) (fun _ _ _ h => h) rfl rfl rfl rfl rfl (by decide) (fun _ h => h.upto ⟨rfl, trivial⟩) (qt_move rfl rfl) ?_
      refine dg_qg (i := 7) rfl (by kernel_rfl) (by kernel_rfl) (by kernel_rfl) [] (by kernel_rfl) (fun _ _ _ h => h) rfl rfl rfl rfl rfl (by decide) (fun _ h => h.upto ⟨rfl, trivial⟩) (qt_index (j := j) rfl rfl rfl tyl_sl_impl_Ring (by omega)) ?_
      refine dg_qg (i := 8) rfl (by kernel_rfl) (by kernel_rfl) (by kernel_rfl) [] (by kernel_rfl) (fun _ _ _ h => h) rfl rfl rfl rfl rfl (by decide) (fun _ h => h.upto ⟨rfl, trivial⟩) (qt_loadS rfl rfl tys_impl_Ring rfl (rdS1 (k := 0) rfl u1 (by omega))) ?_
      refine dg_qg (i := 9) rfl (by kernel_rfl) (by kernel_rfl) (by kernel_rfl) [] (by kernel_rfl) (fun _ _ _ h => h) rfl rfl rfl rfl rfl (by decide) (fun _ h => h.upto ⟨rfl, trivial⟩) (qt_move rfl rfl) ?_
      refine dg_qg (i := 10) rfl (by kernel_rfl) (by kernel_rfl) (by kernel_rfl) [] (by kernel_rfl) (fun _ _ _ h => h) rfl rfl rfl rfl rfl (by decide) (fun _ h => h.upto ⟨rfl, trivial⟩) (qt_move rfl rfl) ?_
      refine dg_qg (i := 11) rfl (by kernel_rfl) (by kernel_rfl) (by kernel_rfl) [] (by kernel_rfl) (fun _ _ _ h => h) rfl rfl rfl rfl rfl (by decide) (fun _ h => h.upto ⟨rfl, trivial⟩) ((qt_sub rfl rfl rfl (by omega) (by omega)).as (show Value.int .i64 ((j : Int) - 1) = Value.int .i64 ((j - 1 : Nat) : Int) from congrArg _ (by omega))) ?_
      refine dg_qg (i := 12) rfl (by kernel_rfl) (by kernel_rfl) (by kernel_rfl) [] (by kernel_rfl) (fun _ _ _ h => h) rfl rfl rfl rfl rfl (by decide) (fun _ h => h.upto ⟨rfl, trivial⟩) (qt_index (j := j - 1) rfl rfl rfl tyl_sl_impl_Ring (by omega)) ?_
      refine dg_qg (i := 13) rfl (by kernel_rfl) (by kernel_rfl) (by kernel_rfl) [] (by kernel_rfl) (fun _ _ _ h => h) rfl rfl rfl rfl rfl (by decide) (fun _ h => h.upto ⟨rfl, trivial⟩) (qt_loadS rfl rfl tys_impl_Ring rfl (rdS1 (k := 0) rfl u2 (by omega))) ?_
      refine dg_qg (i := 14) rfl (by kernel_rfl) (by kernel_rfl) (by kernel_rfl) [] (by kernel_rfl) (fun _ _ _ h => h) rfl rfl rfl rfl rfl (by decide) (fun _ h => h.upto ⟨rfl, trivial⟩) (qt_callk ok_impl_orderRings_1 rfl rfl rfl (fun w1 h1 => hC.call x hSx p hSp w1 h1.over)) ?_
      refine dg_qg (i := 15) rfl (by kernel_rfl) (by kernel_rfl) (by kernel_rfl) [] (by kernel_rfl) (fun _ _ _ h => h) rfl rfl rfl rfl rfl (by decide) (fun _ h => h.upto ⟨rfl, trivial⟩) (qt_lss rfl rfl rfl) ?_
      refine dg_q (i := 16) rfl (by kernel_rfl) (by kernel_rfl) (by kernel_rfl) [] (by kernel_rfl) (fun _ _ _ h => h) rfl rfl (by decide) (fun _ h => h.upto ⟨rfl, trivial⟩) (qt_pickT rfl rfl rfl) ?_
      refine dg_done (by kernel_rfl) ?_
      refine norm_then ?_
      refine at_cond rfl (fun c2 => ?_) (fun c2 => ?_)
      · try simp only [decide_eq_true_eq, decide_eq_false_iff_not, beq_iff_eq, beq_eq_false_iff_ne, Bool.not_eq_true', Bool.not_eq_false', Bool.not_true, Bool.not_false, Int.not_lt, Int.not_le, ne_eq, Nat.not_lt, Nat.not_le] at c2
        have hlx : ltC cr x p = true := (by simpa [ltC] using c2)
        refine at_skip ?_
        refine norm_then ?_
        refine at_seq ?_
        refine at_block ?_
        refine dg_start mixed rfl ?_
        refine dh_phase 15 17 [0] ?_
        refine dh_q (i := 0) rfl (by kernel_rfl) (by kernel_rfl) (by kernel_rfl) [] (by kernel_rfl) (fun _ _ _ h => h) rfl rfl (by decide) (fun _ h => h.upto ⟨rfl, trivial⟩) (qt_move rfl rfl) ?_
        refine dh_q (i := 1) rfl (by kernel_rfl) (by kernel_rfl) (by kernel_rfl) [] (by kernel_rfl) (fun _ _ _ h => h) rfl rfl (by decide) (fun _ h => h.upto ⟨rfl, trivial⟩) (qt_move rfl rfl) ?_
        refine dh_ql (i := 2) rfl (by kernel_rfl) (by kernel_rfl) (by kernel_rfl) [] (by kernel_rfl) (fun _ _ _ h => h) rfl rfl (by decide) (fun _ h => h.upto ⟨rfl, trivial⟩) (qt_move rfl rfl) (qt_move rfl rfl) ?_
        refine dh_ql (i := 3) rfl (by kernel_rfl) (by kernel_rfl) (by kernel_rfl) [] (by kernel_rfl) (fun _ _ _ h => h) rfl rfl (by decide) (fun _ h => h.upto ⟨rfl, trivial⟩) (qt_move rfl rfl) (qt_move rfl rfl) ?_
        refine dh_ql (i := 4) rfl (by kernel_rfl) (by kernel_rfl) (by kernel_rfl) [] (by kernel_rfl) (fun _ _ _ h => h) rfl rfl (by decide) (fun _ h => h.upto ⟨rfl, trivial⟩) ((qt_sub rfl rfl rfl (by omega) (by omega)).as (show Value.int .i64 ((j : Int) - 1) = Value.int .i64 ((j - 1 : Nat) : Int) from congrArg _ (by omega))) ((qt_sub rfl rfl rfl (by omega) (by omega)).as (show Value.int .i64 ((j : Int) - 1) = Value.int .i64 ((j - 1 : Nat) : Int) from congrArg _ (by omega))) ?_
        refine dh_q (i := 5) rfl (by kernel_rfl) (by kernel_rfl) (by kernel_rfl) [] (by kernel_rfl) (fun _ _ _ h => h) rfl rfl (by decide) (fun _ h => h.upto ⟨rfl, trivial⟩) (qt_move rfl rfl) ?_
        refine dh_q (i := 6) rfl (by kernel_rfl) (by kernel_rfl) (by kernel_rfl) [] (by kernel_rfl) (fun _ _ _ h => h) rfl rfl (by decide) (fun _ h => h.upto ⟨rfl, trivial⟩) (qt_move rfl rfl) ?_
        refine dh_q (i := 7) rfl (by kernel_rfl) (by kernel_rfl) (by kernel_rfl) [] (by kernel_rfl) (fun _ _ _ h => h) rfl rfl (by decide) (fun _ h => h.upto ⟨rfl, trivial⟩) ((qt_sub rfl rfl rfl (by omega) (by omega)).as (show Value.int .i64 ((j : Int) - 1) = Value.int .i64 ((j - 1 : Nat) : Int) from congrArg _ (by omega))) ?_
        refine dh_q (i := 8) rfl (by kernel_rfl) (by kernel_rfl) (by kernel_rfl) [] (by kernel_rfl) (fun _ _ _ h => h) rfl rfl (by decide) (fun _ h => h.upto ⟨rfl, trivial⟩) (qt_index (j := j - 1) rfl rfl rfl tyl_sl_impl_Ring (by omega)) ?_
        refine dh_q (i := 9) rfl (by kernel_rfl) (by kernel_rfl) (by kernel_rfl) [] (by kernel_rfl) (fun _ _ _ h => h) rfl rfl (by decide) (fun _ h => h.upto ⟨rfl, trivial⟩) (qt_loadS rfl rfl tys_impl_Ring rfl (rdS1 (k := 0) rfl u2 (by omega))) ?_
        refine dh_q (i := 10) rfl (by kernel_rfl) (by kernel_rfl) (by kernel_rfl) [12, 13] (by kernel_rfl) (fun _ _ _ h => h) rfl rfl (by decide) (fun _ h => h.upto ⟨rfl, trivial⟩) (qt_move rfl rfl) ?_
        refine dh_q (i := 11) rfl (by kernel_rfl) (by kernel_rfl) (by kernel_rfl) [12, 13] (by kernel_rfl) (fun _ _ _ h => h) rfl rfl (by decide) (fun _ h => h.upto ⟨rfl, trivial⟩) (qt_move rfl rfl) ?_
        refine dh_q (i := 12) rfl (by kernel_rfl) (by kernel_rfl) (by kernel_rfl) [13] (by kernel_rfl) (fun _ _ _ h => h) rfl rfl (by decide) (fun _ h => h.upto ⟨rfl, trivial⟩) (qt_index (j := j) rfl rfl rfl tyl_sl_impl_Ring (by omega)) ?_
        refine dh_q (i := 13) rfl (by kernel_rfl) (by kernel_rfl) (by kernel_rfl) [] (by kernel_rfl) (fun _ _ _ h => h) rfl rfl (by decide) (fun _ h => h.upto ⟨rfl, trivial⟩) (qt_loadS rfl rfl tys_impl_Ring rfl (rdS1 (k := 0) rfl u1 (by omega))) ?_
        refine dh_q (i := 14) rfl (by kernel_rfl) (by kernel_rfl) (by kernel_rfl) [] (by kernel_rfl) (fun _ _ _ h => h) rfl rfl (by decide) (fun _ h => h.upto ⟨rfl, trivial⟩) (qt_index (j := j) rfl rfl rfl tyl_sl_impl_Ring (by omega)) ?_
        refine dh_bar rfl (by kernel_rfl) rfl ?_
        refine op_store (k := 0) rfl rfl rfl rfl rfl hpo tyz_impl_Ring.szx rfl rfl (by simp; omega) ?_
        refine dr_keep (fun _ h => (h.wk [0]).upto ⟨rfl, trivial⟩) ?_
        refine at_rsE (by simp only [List.nil_append, List.cons_append, List.set_cons_zero, List.set_cons_succ, Value.cells, List.toList_toArray]; rfl) ?_
        refine dg_q (i := 16) rfl (by kernel_rfl) (by kernel_rfl) (by kernel_rfl) [] (by kernel_rfl) (fun _ _ _ h => h) rfl rfl (by decide) (fun _ h => (h.wk [0]).upto ⟨rfl, trivial⟩) (qt_index (j := j - 1) rfl rfl rfl tyl_sl_impl_Ring (by omega)) ?_
        refine dg_bar rfl (by kernel_rfl) rfl ?_
        refine op_store (k := 0) rfl rfl rfl rfl rfl hxo tyz_impl_Ring.szx rfl rfl (by rw [splice_len]; simp; omega) ?_
        refine dg_end (by kernel_rfl) ?_
        refine norm_block ?_
        refine norm_then ?_
        refine at_region ?_
        refine at_q rfl rfl (by decide) (qt_move rfl rfl) ?_
        refine at_q rfl rfl (by decide) (qt_sub rfl rfl rfl (by omega) (by omega)) ?_
        refine at_q rfl rfl (by decide) (qt_assign rfl rfl) ?_
        refine at_end ?_
        exact at_againc hL2 ((j - 1, _)) (⟨(by have := hgo hlx; rw [swap2_at u1 u2] at this; simpa only [splice, Nat.zero_add, Nat.mul_one] using this), (by show A.length ≤ j - 1; omega), (by show j - 1 ≤ i; omega), (by show (List.set (List.set fs _ _) _ _).length = _; rw [List.length_set, List.length_set]; exact hy4), (by have := hSf.swap2 (i := j) (j := j - 1) (by omega) (by omega); rw [swap2_at u1 u2] at this; simpa only [splice, Nat.zero_add, Nat.mul_one] using this)⟩) (by simp only; omega) ⟨vi (by omega), rfl, rfl, rfl, rfl, rfl, rfl, rfl, rfl, rfl, trivial⟩ (fun _ h => h.upto ⟨rfl, trivial⟩)
      · try simp only [decide_eq_true_eq, decide_eq_false_iff_not, beq_iff_eq, beq_eq_false_iff_ne, Bool.not_eq_true', Bool.not_eq_false', Bool.not_true, Bool.not_false, Int.not_lt, Int.not_le, ne_eq, Nat.not_lt, Nat.not_le] at c2
        have hlx : ltC cr x p = false := (by simpa [ltC] using c2)
        refine at_exit ?_
        refine pass_then (fun h => by cases h) ?_
        refine pass_then (fun h => by cases h) ?_
        refine pass_hit ?_
        refine norm_block ?_
        refine norm_then ?_
        refine at_region ?_
        refine at_q rfl rfl (by decide) (qt_move rfl rfl) ?_
        refine at_q rfl rfl (by decide) (qt_add rfl rfl rfl (by omega) (by omega)) ?_
        refine at_q rfl rfl (by decide) (qt_assign rfl rfl) ?_
        refine at_end ?_
        exact at_againc hL1 ((i + 1, _)) (⟨hout _ (hstop hC.weak (srt_srt hC.weak _) hlx), hSf⟩) (by simp only; omega) ⟨vi (by omega), rfl, rfl, rfl, rfl, trivial⟩ (fun _ h => h.upto ⟨rfl, trivial⟩)
    · try simp only [decide_eq_true_eq, decide_eq_false_iff_not, beq_iff_eq, beq_eq_false_iff_ne, Bool.not_eq_true', Bool.not_eq_false', Bool.not_true, Bool.not_false, Int.not_lt, Int.not_le, ne_eq, Nat.not_lt, Nat.not_le] at g1
      have hjl : j ≤ A.length := (by simp at g1; omega)
      refine dg_off (i := 4) rfl (by kernel_rfl) (by kernel_rfl) (by kernel_rfl) [] (by kernel_rfl) (fun _ _ _ h => h) rfl rfl rfl rfl (by decide) rfl (by decide) (fun _ h => h.upto ⟨rfl, trivial⟩) ?_
      refine dg_off (i := 5) rfl (by kernel_rfl) (by kernel_rfl) (by kernel_rfl) [] (by kernel_rfl) (fun _ _ _ h => h) rfl rfl rfl rfl (by decide) rfl (by decide) (fun _ h => h.upto ⟨rfl, trivial⟩) ?_
      refine dg_off (i := 6) rfl (by kernel_rfl) (by kernel_rfl) (by kernel_rfl) [] (by kernel_rfl) (fun _ _ _ h => h) rfl rfl rfl rfl (by decide) rfl (by decide) (fun _ h => h.upto ⟨rfl, trivial⟩) ?_
      refine dg_off (i := 7) rfl (by kernel_rfl) (by kernel_rfl) (by kernel_rfl) [] (by kernel_rfl) (fun _ _ _ h => h) rfl rfl rfl rfl (by decide) rfl (by decide) (fun _ h => h.upto ⟨rfl, trivial⟩) ?_
      refine dg_off (i := 8) rfl (by kernel_rfl) (by kernel_rfl) (by kernel_rfl) [] (by kernel_rfl) (fun _ _ _ h => h) rfl rfl rfl rfl (by decide) rfl (by decide) (fun _ h => h.upto ⟨rfl, trivial⟩) ?_
      refine dg_off (i := 9) rfl (by kernel_rfl) (by kernel_rfl) (by kernel_rfl) [] (by kernel_rfl) (fun _ _ _ h => h) rfl rfl rfl rfl (by decide) rfl (by decide) (fun _ h => h.upto ⟨rfl, trivial⟩) ?_
      refine dg_off (i := 10) rfl (by kernel_rfl) (by kernel_rfl) (by kernel_rfl) [] (by kernel_rfl) (fun _ _ _ h => h) rfl rfl rfl rfl (by decide) rfl (by decide) (fun _ h => h.upto ⟨rfl, trivial⟩) ?_
      refine dg_off (i := 11) rfl (by kernel_rfl) (by kernel_rfl) (by kernel_rfl) [] (by kernel_rfl) (fun _ _ _ h => h) rfl rfl rfl rfl (by decide) rfl (by decide) (fun _ h => h.upto ⟨rfl, trivial⟩) ?_
      refine dg_off (i := 12) rfl (by kernel_rfl) (by kernel_rfl) (by kernel_rfl) [] (by kernel_rfl) (fun _ _ _ h => h) rfl rfl rfl rfl (by decide) rfl (by decide) (fun _ h => h.upto ⟨rfl, trivial⟩) ?_
      refine dg_off (i := 13) rfl (by kernel_rfl) (by kernel_rfl) (by kernel_rfl) [] (by kernel_rfl) (fun _ _ _ h => h) rfl rfl rfl rfl (by decide) rfl (by decide) (fun _ h => h.upto ⟨rfl, trivial⟩) ?_
      refine dg_off (i := 14) rfl (by kernel_rfl) (by kernel_rfl) (by kernel_rfl) [] (by kernel_rfl) (fun _ _ _ h => h) rfl rfl rfl rfl (by decide) rfl (by decide) (fun _ h => h.upto ⟨rfl, trivial⟩) ?_
      refine dg_off (i := 15) rfl (by kernel_rfl) (by kernel_rfl) (by kernel_rfl) [] (by kernel_rfl) (fun _ _ _ h => h) rfl rfl rfl rfl (by decide) rfl (by decide) (fun _ h => h.upto ⟨rfl, trivial⟩) ?_
      refine dg_q (i := 16) rfl (by kernel_rfl) (by kernel_rfl) (by kernel_rfl) [] (by kernel_rfl) (fun _ _ _ h => h) rfl rfl (by decide) (fun _ h => h.upto ⟨rfl, trivial⟩) (qt_pickF rfl rfl rfl) ?_
      refine dg_done (by kernel_rfl) ?_
      refine norm_then ?_
      refine at_no rfl rfl ?_
      refine at_exit ?_
      refine pass_then (fun h => by cases h) ?_
      refine pass_then (fun h => by cases h) ?_
      refine pass_hit ?_
      refine norm_block ?_
      refine norm_then ?_
      refine at_region ?_
      refine at_q rfl rfl (by decide) (qt_move rfl rfl) ?_
      refine at_q rfl rfl (by decide) (qt_add rfl rfl rfl (by omega) (by omega)) ?_
      refine at_q rfl rfl (by decide) (qt_assign rfl rfl) ?_
      refine at_end ?_
      exact at_againc hL1 ((i + 1, _)) (⟨hout _ (hy1.low hjl), hSf⟩) (by simp only; omega) ⟨vi (by omega), rfl, rfl, rfl, rfl, trivial⟩ (fun _ h => h.upto ⟨rfl, trivial⟩)
  · try simp only [decide_eq_true_eq, decide_eq_false_iff_not, beq_iff_eq, beq_eq_false_iff_ne, Bool.not_eq_true', Bool.not_eq_false', Bool.not_true, Bool.not_false, Int.not_lt, Int.not_le, ne_eq, Nat.not_lt, Nat.not_le] at c1
    refine at_exit ?_
    refine pass_then (fun h => by cases h) ?_
    refine pass_then (fun h => by cases h) ?_
    refine pass_hit ?_
    refine at_end0 rfl ?_
    intro w' hs
    exact ⟨rfl, hs.over.wr, by rw [← hx1.fin (by omega)]; exact hs.cel (k := 0) rfl⟩
end Go.Proofs.Ytbdlbemlgghgbaa
