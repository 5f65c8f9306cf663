/- Stable sorting in place: plain law (weak orders, insertion, merging, blocks, swaps, rotation, searches). -/
import Derived.Test.YtakdjgldcpompaaGreatMem
namespace Go.Proofs.YtakdjgldcpompaaGreat
set_option linter.unusedVariables false
set_option linter.unusedSimpArgs false

section
variable {α : Type}
/-- A weak order told by "comes strictly ahead of". -/
structure Weak {α : Type} (lt : α → α → Bool) : Prop where
 asym : ∀ a b, lt a b = true → lt b a = false
 neg : ∀ a b c, lt a b = false → lt b c = false → lt a c = false
def Srt {α : Type} (lt : α → α → Bool) (l : List α) : Prop := l.Pairwise (fun a b => lt b a = false)
/-- The element comes behind all that it does not precede. -/
def insS {α : Type} (lt : α → α → Bool) (x : α) : List α → List α
 | [] => [x]
 | y :: l => if lt x y then x :: y :: l else y :: insS lt x l
def srt {α : Type} (lt : α → α → Bool) (l : List α) : List α := l.foldl (fun acc x => insS lt x acc) []
/-- Two sorted lists as one; of equal elements those of the first list come first. -/
def mrg {α : Type} (lt : α → α → Bool) : List α → List α → List α
 | [], ys => ys
 | x :: xs, [] => x :: xs
 | x :: xs, y :: ys => if lt y x then y :: mrg lt (x :: xs) ys else x :: mrg lt xs (y :: ys)
termination_by xs ys => xs.length + ys.length
section
variable {α : Type} {lt : α → α → Bool}
theorem insS_cons (x y : α) (l : List α) : insS lt x (y :: l) = if lt x y then x :: y :: l else y :: insS lt x l := rfl
theorem mrg_nilL (ys : List α) : mrg lt [] ys = ys := by rw [mrg]
theorem mrg_nilR (xs : List α) : mrg lt xs [] = xs := by cases xs <;> rw [mrg]
theorem mrg_cons (x y : α) (xs ys : List α) : mrg lt (x :: xs) (y :: ys) = if lt y x then y :: mrg lt (x :: xs) ys else x :: mrg lt xs (y :: ys) := by rw [mrg]
theorem insS_mem {x z : α} {l : List α} : z ∈ insS lt x l ↔ z = x ∨ z ∈ l := by
 induction l with
 | nil => simp [insS]
 | cons y l ih =>
  rw [insS_cons]
  split
  ·simp
  ·rw [List.mem_cons, List.mem_cons, ih]
   constructor
   ·rintro (h | h | h)
    ·exact .inr (.inl h)
    ·exact .inl h
    ·exact .inr (.inr h)
   ·rintro (h | h | h)
    ·exact .inr (.inl h)
    ·exact .inl h
    ·exact .inr (.inr h)
theorem insS_len (x : α) (l : List α) : (insS lt x l).length = l.length + 1 := by
 induction l with
 | nil => rfl
 | cons y l ih =>
  rw [insS_cons]
  split <;> simp [ih]
theorem insS_srt (W : Weak lt) {x : α} {l : List α} (h : Srt lt l) : Srt lt (insS lt x l) := by
 induction l with
 | nil => exact List.pairwise_singleton _ _
 | cons y l ih =>
  obtain ⟨h1, h2⟩ := List.pairwise_cons.1 h
  rw [insS_cons]
  split
  ·rename_i hxy
   refine List.pairwise_cons.2 ⟨fun z hz => ?_, h⟩
   rcases List.mem_cons.1 hz with rfl | hz
   ·exact W.asym _ _ hxy
   ·exact W.neg _ _ _ (h1 z hz) (W.asym _ _ hxy)
  ·rename_i hxy
   refine List.pairwise_cons.2 ⟨fun z hz => ?_, ih h2⟩
   rcases insS_mem.1 hz with rfl | hz
   ·simpa using hxy
   ·exact h1 z hz
theorem insF_srt (W : Weak lt) {l acc : List α} (h : Srt lt acc) : Srt lt (l.foldl (fun acc x => insS lt x acc) acc) := by
 induction l generalizing acc with
 | nil => exact h
 | cons x l ih => exact ih (insS_srt W h)
theorem srt_srt (W : Weak lt) (l : List α) : Srt lt (srt lt l) := insF_srt W List.Pairwise.nil
theorem insF_len (l acc : List α) : (l.foldl (fun acc x => insS lt x acc) acc).length = acc.length + l.length := by
 induction l generalizing acc with
 | nil => rfl
 | cons x l ih => rw [List.foldl_cons, ih, insS_len, List.length_cons]; omega
theorem srt_len (l : List α) : (srt lt l).length = l.length := by rw [srt, insF_len]; simp
theorem srt_snoc (l : List α) (x : α) : srt lt (l ++ [x]) = insS lt x (srt lt l) := by rw [srt, List.foldl_append]; rfl
theorem insF_mem (l acc : List α) (z : α) : z ∈ l.foldl (fun acc x => insS lt x acc) acc ↔ z ∈ acc ∨ z ∈ l := by
 induction l generalizing acc with
 | nil => simp
 | cons x l ih =>
  rw [List.foldl_cons, ih, insS_mem, List.mem_cons]
  constructor
  ·rintro ((h | h) | h)
   ·exact .inr (.inl h)
   ·exact .inl h
   ·exact .inr (.inr h)
  ·rintro (h | h | h)
   ·exact .inl (.inr h)
   ·exact .inl (.inl h)
   ·exact .inr h
theorem srt_mem (l : List α) (z : α) : z ∈ srt lt l ↔ z ∈ l := by rw [srt, insF_mem]; simp
theorem mrg_len (xs ys : List α) : (mrg lt xs ys).length = xs.length + ys.length := by
 induction xs, ys using mrg.induct (lt := lt) with
 | case1 ys => rw [mrg_nilL]; simp
 | case2 x xs => rw [mrg_nilR]; simp
 | case3 x xs y ys h ih => rw [mrg_cons, if_pos h, List.length_cons, ih]; simp; omega
 | case4 x xs y ys h ih => rw [mrg_cons, if_neg h, List.length_cons, ih]; simp; omega
theorem mrg_mem (xs ys : List α) (z : α) : z ∈ mrg lt xs ys ↔ z ∈ xs ∨ z ∈ ys := by
 induction xs, ys using mrg.induct (lt := lt) with
 | case1 ys => rw [mrg_nilL]; simp
 | case2 x xs => rw [mrg_nilR]; simp
 | case3 x xs y ys h ih =>
  rw [mrg_cons, if_pos h, List.mem_cons, ih, List.mem_cons (a := z) (b := y)]
  constructor
  ·rintro (h | h | h)
   ·exact .inr (.inl h)
   ·exact .inl h
   ·exact .inr (.inr h)
  ·rintro (h | h | h)
   ·exact .inr (.inl h)
   ·exact .inl h
   ·exact .inr (.inr h)
 | case4 x xs y ys h ih =>
  rw [mrg_cons, if_neg h, List.mem_cons, ih, List.mem_cons (a := z) (b := x), or_assoc]
/-- a < b and c not ahead of b, so a < c. -/
theorem Weak.lt_le (W : Weak lt) {a b c : α} (h1 : lt a b = true) (h2 : lt c b = false) : lt a c = true := by
 cases h : lt a c with
 | true => rfl
 | false => rw [W.neg _ _ _ h h2] at h1; cases h1
theorem Weak.le_lt (W : Weak lt) {a b c : α} (h1 : lt b a = false) (h2 : lt b c = true) : lt a c = true := by
 cases h : lt a c with
 | true => rfl
 | false => rw [W.neg _ _ _ h1 h] at h2; cases h2
theorem mrg_insS (W : Weak lt) (x : α) (X Y : List α) : mrg lt X (insS lt x Y) = insS lt x (mrg lt X Y) := by
 induction X, Y using mrg.induct (lt := lt) with
 | case1 ys => rw [mrg_nilL, mrg_nilL]
 | case2 a X =>
  rw [mrg_nilR]
  show mrg lt (a :: X) [x] = _
  generalize a :: X = Z
  induction Z with
  | nil => rw [mrg_nilL]; rfl
  | cons a Z ih =>
   rw [mrg_cons, insS_cons, mrg_nilR]
   by_cases h : lt x a = true
   ·rw [if_pos h, if_pos h]
   ·rw [if_neg h, if_neg h, ih]
 | case3 a X b Y h ih =>
  rw [insS_cons, mrg_cons a b, if_pos h, insS_cons]
  by_cases hx : lt x b = true
  ·have hxa : lt x a = true := W.lt_le hx (W.asym _ _ h)
   rw [if_pos hx, if_pos hx, mrg_cons, if_pos hxa, mrg_cons, if_pos h]
  ·rw [if_neg hx, if_neg hx, mrg_cons, if_pos h, ih]
 | case4 a X b Y h ih =>
  rw [mrg_cons a b, if_neg h, insS_cons x a]
  by_cases hx : lt x a = true
  ·have hxb : lt x b = true := W.lt_le hx (by simpa using h)
   rw [if_pos hx, insS_cons, if_pos hxb, mrg_cons, if_pos hx, mrg_cons, if_neg h]
  ·rw [if_neg hx, ← ih, insS_cons]
   by_cases hxb : lt x b = true
   ·rw [if_pos hxb, mrg_cons, if_neg hx]
   ·rw [if_neg hxb, mrg_cons, if_neg h]
theorem insF_mrg (W : Weak lt) (X B Y : List α) : B.foldl (fun acc x => insS lt x acc) (mrg lt X Y) = mrg lt X (B.foldl (fun acc x => insS lt x acc) Y) := by
 induction B generalizing Y with
 | nil => rfl
 | cons b B ih => rw [List.foldl_cons, List.foldl_cons, ← mrg_insS W, ih]
theorem srt_append (W : Weak lt) (A B : List α) : srt lt (A ++ B) = mrg lt (srt lt A) (srt lt B) := by
 rw [srt, List.foldl_append, srt, srt, ← insF_mrg W, mrg_nilR]
theorem insS_cut (x : α) (P Q : List α) (h1 : ∀ p ∈ P, lt x p = false) (h2 : ∀ q, Q.head? = some q → lt x q = true) : insS lt x (P ++ Q) = P ++ x :: Q := by
 induction P with
 | nil =>
  cases Q with
  | nil => rfl
  | cons q Q => rw [List.nil_append, insS_cons, if_pos (h2 q rfl)]; rfl
 | cons p P ih =>
  rw [List.cons_append, insS_cons, if_neg (by rw [h1 p (List.mem_cons_self ..)]; simp), ih (fun q hq => h1 q (List.mem_cons_of_mem _ hq))]
  rfl
theorem mrg_split (L1 L2 R1 R2 : List α) (h1 : ∀ l ∈ L1, ∀ r ∈ R2, lt r l = false) (h2 : ∀ r ∈ R1, ∀ l ∈ L2, lt r l = true) :
  mrg lt (L1 ++ L2) (R1 ++ R2) = mrg lt L1 R1 ++ mrg lt L2 R2 := by
 induction L1, R1 using mrg.induct (lt := lt) with
 | case1 R1 =>
  rw [mrg_nilL]
  induction R1 with
  | nil => rfl
  | cons r R1 ih =>
   cases L2 with
   | nil => rw [List.nil_append, mrg_nilL, mrg_nilL]
   | cons l L2 =>
    rw [List.nil_append, List.cons_append, mrg_cons, if_pos (h2 r (List.mem_cons_self ..) l (List.mem_cons_self ..)), List.cons_append]
    rw [show mrg lt (l :: L2) (R1 ++ R2) = R1 ++ mrg lt (l :: L2) R2 from ih (fun q hq => h2 q (List.mem_cons_of_mem _ hq))]
 | case2 l L1 =>
  rw [mrg_nilR, List.nil_append]
  clear h2
  generalize l :: L1 = Z at h1
  induction Z with
  | nil => rfl
  | cons a Z ih =>
   cases R2 with
   | nil => rw [mrg_nilR, mrg_nilR]
   | cons r R2 =>
    rw [List.cons_append, mrg_cons, if_neg (by rw [h1 a (List.mem_cons_self ..) r (List.mem_cons_self ..)]; simp), ih (fun l hl => h1 l (List.mem_cons_of_mem _ hl))]
    rfl
 | case3 l L1 r R1 h ih =>
  rw [List.cons_append, List.cons_append, mrg_cons, if_pos h, mrg_cons, if_pos h, List.cons_append]
  rw [← ih h1 (fun q hq => h2 q (List.mem_cons_of_mem _ hq))]
  rfl
 | case4 l L1 r R1 h ih =>
  rw [List.cons_append, List.cons_append, mrg_cons, if_neg h, mrg_cons, if_neg h, List.cons_append]
  rw [← ih (fun q hq => h1 q (List.mem_cons_of_mem _ hq)) h2]
  rfl
theorem mrg_all (L R : List α) (h : ∀ l ∈ L, ∀ r ∈ R, lt r l = false) : mrg lt L R = L ++ R := by
 have := mrg_split (lt := lt) L [] [] R h (fun r hr => by cases hr)
 rwa [List.append_nil, List.nil_append, mrg_nilR, mrg_nilL] at this
theorem mrg_none (L R : List α) (h : ∀ r ∈ R, ∀ l ∈ L, lt r l = true) : mrg lt L R = R ++ L := by
 have := mrg_split (lt := lt) [] L R [] (fun r hr => by cases hr) h
 rwa [List.append_nil, List.nil_append, mrg_nilR, mrg_nilL] at this
theorem mrg_one (x : α) (R1 R2 : List α) (h1 : ∀ r ∈ R1, lt r x = true) (h2 : ∀ r ∈ R2, lt r x = false) : mrg lt [x] (R1 ++ R2) = R1 ++ x :: R2 := by
 have := mrg_split (lt := lt) [] [x] R1 R2 (fun r hr => by cases hr) (fun r hr l hl => by cases List.mem_singleton.1 hl; exact h1 r hr)
 rw [List.nil_append, mrg_nilL, mrg_all [x] R2 (fun l hl r hr => by cases List.mem_singleton.1 hl; exact h2 r hr)] at this
 exact this
theorem mrg_two (y : α) (L1 L2 : List α) (h1 : ∀ l ∈ L1, lt y l = false) (h2 : ∀ l ∈ L2, lt y l = true) : mrg lt (L1 ++ L2) [y] = L1 ++ y :: L2 := by
 have := mrg_split (lt := lt) L1 L2 [] [y] (fun l hl r hr => by cases List.mem_singleton.1 hr; exact h1 l hl) (fun r hr => by cases hr)
 rw [List.nil_append, mrg_nilR, mrg_none L2 [y] (fun r hr l hl => by cases List.mem_singleton.1 hr; exact h2 l hl)] at this
 exact this
/-- A list sorted by blocks of k. -/
def blk (lt : α → α → Bool) (k : Nat) (xs : List α) : List α :=
 if h : k = 0 ∨ xs.length ≤ k then srt lt xs else srt lt (xs.take k) ++ blk lt k (xs.drop k)
termination_by xs.length
decreasing_by simp only [not_or] at h; rw [List.length_drop]; omega
theorem blk_short {k : Nat} {xs : List α} (h : xs.length ≤ k) : blk lt k xs = srt lt xs := by rw [blk, dif_pos (.inr h)]
theorem blk_long {k : Nat} {xs : List α} (h : 0 < k) (h2 : k < xs.length) : blk lt k xs = srt lt (xs.take k) ++ blk lt k (xs.drop k) := by rw [blk, dif_neg (by omega)]
theorem blk_le {k : Nat} {xs : List α} (h : 0 < k) (h2 : k ≤ xs.length) : blk lt k xs = srt lt (xs.take k) ++ blk lt k (xs.drop k) := by
 rcases Nat.lt_or_eq_of_le h2 with h3 | h3
 ·exact blk_long h h3
 ·rw [blk_short (by omega), List.take_of_length_le (by omega), List.drop_of_length_le (by omega), blk_short (by simp)]
  simp [srt]
theorem blk_two (W : Weak lt) {k : Nat} {xs : List α} (h : 0 < k) (h2 : 2 * k ≤ xs.length) :
  blk lt k xs = srt lt (xs.take k) ++ (srt lt ((xs.drop k).take k) ++ blk lt k (xs.drop (2 * k))) ∧
  blk lt (2 * k) xs = mrg lt (srt lt (xs.take k)) (srt lt ((xs.drop k).take k)) ++ blk lt (2 * k) (xs.drop (2 * k)) := by
 constructor
 ·rw [blk_le h (by omega), blk_le (xs := xs.drop k) h (by rw [List.length_drop]; omega), List.drop_drop, show k + k = 2 * k by omega]
 ·rw [blk_le (by omega) h2, ← srt_append W, ← List.take_add, show k + k = 2 * k by omega]
theorem blk_last (W : Weak lt) {k : Nat} {xs : List α} (h : 0 < k) (h1 : k < xs.length) (h2 : xs.length ≤ 2 * k) :
  blk lt k xs = srt lt (xs.take k) ++ srt lt (xs.drop k) ∧ blk lt (2 * k) xs = mrg lt (srt lt (xs.take k)) (srt lt (xs.drop k)) := by
 constructor
 ·rw [blk_long h h1, blk_short (xs := xs.drop k) (by rw [List.length_drop]; omega)]
 ·rw [blk_short h2, ← srt_append W, List.take_append_drop]
theorem blk_end {k : Nat} {xs : List α} (h2 : xs.length ≤ k) : blk lt k xs = blk lt (2 * k) xs := by rw [blk_short h2, blk_short (by omega)]
end
def swap2 (l : List α) (i j : Nat) : List α := match l[i]?, l[j]? with
 | some x, some y => (l.set i y).set j x
 | _, _ => l
theorem swap2_len (l : List α) (i j : Nat) : (swap2 l i j).length = l.length := by
 unfold swap2
 split <;> simp
theorem swap2_at {l : List α} {i j : Nat} {x y : α} (hx : l[i]? = some x) (hy : l[j]? = some y) : swap2 l i j = (l.set i y).set j x := by
 unfold swap2
 rw [hx, hy]
def swapN (l : List α) (a b : Nat) : Nat → List α
 | 0 => l
 | k + 1 => swap2 (swapN l a b k) (a + k) (b + k)
theorem swapN_len (l : List α) (a b k : Nat) : (swapN l a b k).length = l.length := by
 induction k with
 | zero => rfl
 | succ k ih => rw [swapN, swap2_len, ih]
/-- The first n elements are all of a kind. -/
def Up (n : Nat) (S : α → Prop) (l : List α) : Prop := ∀ i x, i < n → l[i]? = some x → S x
theorem Up.mono {n : Nat} {S S' : α → Prop} {l : List α} (h : Up n S l) (hS : ∀ x, S x → S' x) : Up n S' l := fun i x hi hx => hS x (h i x hi hx)
theorem Up.swap2 {n : Nat} {S : α → Prop} {l : List α} {i j : Nat} (h : Up n S l) (hi : i < n) (hj : j < n) : Up n S (swap2 l i j) := by
 unfold Go.Proofs.YtakdjgldcpompaaGreat.swap2
 split
 ·rename_i x y hx hy
  intro q z hq hz
  rw [List.getElem?_set] at hz
  split at hz
  ·split at hz
   ·injection hz with hz
    exact hz ▸ h i x hi hx
   ·cases hz
  ·rw [List.getElem?_set] at hz
   split at hz
   ·split at hz
    ·injection hz with hz
     exact hz ▸ h j y hj hy
    ·cases hz
   ·exact h q z hq hz
 ·exact h
theorem up_of {n : Nat} {S : α → Prop} {P B : List α} (h : ∀ x ∈ P, S x) (hl : n ≤ P.length) : Up n S (P ++ B) := fun i x hi hx => by
 rw [List.getElem?_append_left (by omega)] at hx
 exact h x (List.mem_of_getElem? hx)
/-- What lies in the middle may be put in another order. -/
theorem up_mid {n : Nat} {S : α → Prop} {A X Y Z : List α} (h : Up n S (A ++ X ++ Z)) (hY : ∀ y ∈ Y, y ∈ X) (hl : Y.length = X.length) (hn : A.length + X.length ≤ n) : Up n S (A ++ Y ++ Z) := fun i x hi hx => by
 by_cases h1 : i < A.length
 ·refine h i x hi ?_
  rw [List.append_assoc, List.getElem?_append_left h1] at hx ⊢
  exact hx
 ·by_cases h2 : i < A.length + Y.length
  ·rw [List.getElem?_append_left (by simpa using h2), List.getElem?_append_right (by omega)] at hx
   obtain ⟨j, hj, e⟩ := List.getElem_of_mem (hY x (List.mem_of_getElem? hx))
   refine h (A.length + j) x (by omega) ?_
   rw [List.getElem?_append_left (by simp; omega), List.getElem?_append_right (by omega), Nat.add_sub_cancel_left, List.getElem?_eq_getElem hj, e]
  ·refine h i x hi ?_
   rw [List.getElem?_append_right (by simp; omega)] at hx ⊢
   rw [← hx]
   congr 1
   simp [hl]
theorem swapN_up {n : Nat} {S : α → Prop} {l : List α} {a b : Nat} (h : Up n S l) : ∀ k, a + k ≤ n → b + k ≤ n → Up n S (swapN l a b k)
 | 0, _, _ => h
 | k + 1, h1, h2 => (swapN_up h k (by omega) (by omega)).swap2 (by omega) (by omega)
theorem swap2_pcs {A M B : List α} {x y : α} {i j : Nat} (hi : A.length = i) (hj : (A ++ x :: M).length = j) : swap2 (A ++ x :: (M ++ y :: B)) i j = A ++ y :: (M ++ x :: B) := by
 subst hi
 rw [swap2_at (x := x) (y := y) (by simp) (by rw [show A ++ x :: (M ++ y :: B) = (A ++ x :: M) ++ y :: B by simp, ← hj, List.getElem?_append_right (Nat.le_refl _)]; simp)]
 rw [List.set_append_right _ _ (Nat.le_refl _), Nat.sub_self, List.set_cons_zero, show A ++ y :: (M ++ y :: B) = (A ++ y :: M) ++ y :: B by simp, List.set_append_right _ _ (by rw [← hj]; simp)]
 have : j - (A ++ y :: M).length = 0 := by rw [← hj]; simp
 rw [this, List.set_cons_zero]
 simp
/-- Stretches of one length change places. -/
theorem swapN_pcs {U V : List α} (hUV : U.length = V.length) (A M B : List α) {b : Nat} (hb : (A ++ U ++ M).length = b) : swapN (A ++ U ++ M ++ V ++ B) A.length b U.length = A ++ V ++ M ++ U ++ B := by
 have key : ∀ (k : Nat), k ≤ U.length → swapN (A ++ U ++ M ++ V ++ B) A.length b k = A ++ (V.take k ++ U.drop k) ++ M ++ (U.take k ++ V.drop k) ++ B := by
  intro k
  induction k with
  | zero => intro _; simp [swapN]
  | succ k ih =>
   intro hk
   rw [swapN, ih (by omega)]
   have hu : k < U.length := by omega
   have hv : k < V.length := by omega
   rw [List.drop_eq_getElem_cons hu, List.drop_eq_getElem_cons hv, List.take_succ_eq_append_getElem hu, List.take_succ_eq_append_getElem hv]
   have := swap2_pcs (A := A ++ V.take k) (x := U[k]) (M := U.drop (k + 1) ++ M ++ U.take k) (y := V[k]) (B := V.drop (k + 1) ++ B) (i := A.length + k) (j := b + k)
    (by rw [List.length_append, List.length_take]; omega) (by rw [← hb]; simp; omega)
   simp only [List.append_assoc, List.cons_append, List.nil_append] at this ⊢
   exact this
 rw [key _ (Nat.le_refl _), List.take_of_length_le (by omega), List.drop_of_length_le (Nat.le_refl _), List.take_of_length_le (Nat.le_refl _), List.drop_of_length_le (by omega)]
 simp
section
end
/-- What is left to rotate: U and V between X and Y. -/
structure RotI (S : α → Prop) (t : List α) (m n i j : Nat) (ds : List α) : Prop where
 ex : ∃ X U V Y : List α, ds = X ++ U ++ V ++ Y ∧ X.length + i = m ∧ U.length = i ∧ V.length = j ∧ X ++ V ++ U ++ Y = t
 i0 : 0 < i
 j0 : 0 < j
 le : m + j ≤ n
 one : Up n S ds
theorem RotI.len {S : α → Prop} {t : List α} {m n i j : Nat} {ds : List α} (h : RotI S t m n i j ds) : ds.length = t.length ∧ i ≤ m := by
 obtain ⟨X, U, V, Y, rfl, h1, h2, h3, rfl⟩ := h.ex
 simp
 omega
theorem RotI.left {S : α → Prop} {t : List α} {m n i j : Nat} {ds : List α} (h : RotI S t m n i j ds) (hij : j < i) : RotI S t m n (i - j) j (swapN ds (m - i) m j) := by
 obtain ⟨X, U, V, Y, rfl, h1, h2, h3, e⟩ := h.ex
 refine ⟨⟨X ++ V, U.drop j, U.take j, Y, ?_, ?_, ?_, ?_, ?_⟩, by omega, h.j0, h.le, swapN_up h.one j (by have := h.le; omega) (by have := h.le; omega)⟩
 ·have := swapN_pcs (U := U.take j) (V := V) (by simp; omega) X (U.drop j) Y (b := m) (by simp; omega)
  rw [List.append_assoc X, List.take_append_drop, show X.length = m - i by omega, show (U.take j).length = j by simp; omega] at this
  rw [this]
 ·simp; omega
 ·simp; omega
 ·simp; omega
 ·rw [List.append_assoc (X ++ V), List.take_append_drop]
  exact e
theorem RotI.right {S : α → Prop} {t : List α} {m n i j : Nat} {ds : List α} (h : RotI S t m n i j ds) (hij : i < j) : RotI S t m n i (j - i) (swapN ds (m - i) (m + j - i) i) := by
 obtain ⟨X, U, V, Y, rfl, h1, h2, h3, e⟩ := h.ex
 refine ⟨⟨X, V.drop (j - i), V.take (j - i), U ++ Y, ?_, by omega, ?_, ?_, ?_⟩, h.i0, by omega, by have := h.le; omega, swapN_up h.one i (by have := h.le; omega) (by have := h.le; omega)⟩
 ·have := swapN_pcs (U := U) (V := V.drop (j - i)) (by simp; omega) X (V.take (j - i)) Y (b := m + j - i) (by simp; omega)
  rw [List.append_assoc (X ++ U), List.take_append_drop, show X.length = m - i by omega, h2] at this
  rw [this]
  simp only [List.append_assoc]
 ·simp; omega
 ·simp; omega
 ·rw [← e]
  rw [List.append_assoc X, List.take_append_drop, List.append_assoc, List.append_assoc, List.append_assoc]
theorem RotI.fin {S : α → Prop} {t : List α} {m n i : Nat} {ds : List α} (h : RotI S t m n i i ds) : swapN ds (m - i) m i = t := by
 obtain ⟨X, U, V, Y, rfl, h1, h2, h3, e⟩ := h.ex
 have := swapN_pcs (U := U) (V := V) (by omega) X [] Y (b := m) (by simp; omega)
 rw [List.append_nil, List.append_nil, show X.length = m - i by omega, h2] at this
 rw [this, e]
def ltC (cr : α → α → Int) (x y : α) : Bool := decide (cr x y < 0)
theorem srt_last {lt : α → α → Bool} (W : Weak lt) {P Q : List α} {p x : α} (h : Srt lt (P ++ p :: Q)) (hx : lt x p = false) : ∀ q ∈ P ++ [p], lt x q = false := by
 intro q hq
 rcases List.mem_append.1 hq with hq | hq
 ·exact W.neg _ _ _ hx ((List.pairwise_append.1 h).2.2 q hq p (List.mem_cons_self ..))
 ·cases List.mem_singleton.1 hq
  exact hx
/-- The element x on its way down. -/
structure InsI (lt : α → α → Bool) (A Y R : List α) (x : α) (j : Nat) (ds : List α) : Prop where
 ex : ∃ P Q : List α, ds = A ++ (P ++ x :: Q) ++ R ∧ A.length + P.length = j ∧ P ++ Q = Y ∧ ∀ q ∈ Q, lt x q = true
theorem InsI.low {lt : α → α → Bool} {A Y R : List α} {x : α} {j : Nat} {ds : List α} (h : InsI lt A Y R x j ds) (hj : j ≤ A.length) : ds = A ++ insS lt x Y ++ R := by
 obtain ⟨P, Q, rfl, h1, rfl, h3⟩ := h.ex
 obtain rfl : P = [] := List.eq_nil_of_length_eq_zero (by omega)
 rw [insS_cut x [] Q (fun p hp => by cases hp) (fun q hq => h3 q (List.mem_of_mem_head? hq))]
theorem InsI.last {lt : α → α → Bool} {A Y R : List α} {x : α} {j : Nat} {ds : List α} (h : InsI lt A Y R x j ds) (hj : A.length < j) :
  ∃ p, ds[j]? = some x ∧ ds[j - 1]? = some p ∧ (Weak lt → Srt lt Y → lt x p = false → ds = A ++ insS lt x Y ++ R) ∧ (lt x p = true → InsI lt A Y R x (j - 1) (swap2 ds j (j - 1))) := by
 obtain ⟨P, Q, rfl, h1, rfl, h3⟩ := h.ex
 rcases List.eq_nil_or_concat P with rfl | ⟨P, p, rfl⟩
 ·simp at h1; omega
 rw [List.concat_eq_append, List.length_append, List.length_singleton] at h1
 simp only [List.concat_eq_append]
 have e1 : A ++ (P ++ [p] ++ x :: Q) ++ R = (A ++ P) ++ p :: x :: (Q ++ R) := by simp
 have g1 : (A ++ (P ++ [p] ++ x :: Q) ++ R)[j]? = some x := by
  rw [e1, List.getElem?_append_right (by simp; omega), show j - (A ++ P).length = 1 by simp; omega]
  rfl
 have g2 : (A ++ (P ++ [p] ++ x :: Q) ++ R)[j - 1]? = some p := by
  rw [e1, List.getElem?_append_right (by simp; omega), show j - 1 - (A ++ P).length = 0 by simp; omega]
  rfl
 refine ⟨p, g1, g2, fun W hs hx => ?_, fun hx => ⟨P, p :: Q, ?_, by omega, by simp, fun q hq => ?_⟩⟩
 ·rw [insS_cut x (P ++ [p]) Q (srt_last W (Q := Q) (by simpa using hs) hx) (fun q hq => h3 q (List.mem_of_mem_head? hq))]
 ·rw [swap2_at g1 g2, e1, List.set_append_right _ _ (by simp; omega), show j - (A ++ P).length = 1 by simp; omega, List.set_append_right _ _ (by simp; omega), show j - 1 - (A ++ P).length = 0 by simp; omega]
  simp
 ·rcases List.mem_cons.1 hq with rfl | hq
  ·exact hx
  ·exact h3 q hq
/-- The first elements are sorted. -/
structure InsO (lt : α → α → Bool) (A X B : List α) (i : Nat) (ds : List α) : Prop where
 lo : A.length < i
 hi : i ≤ A.length + X.length ∨ i = A.length + 1
 eq : ds = A ++ srt lt (X.take (i - A.length)) ++ (X.drop (i - A.length) ++ B)
theorem InsO.start {lt : α → α → Bool} {A X B : List α} : InsO lt A X B (A.length + 1) (A ++ X ++ B) := by
 refine ⟨by omega, .inr rfl, ?_⟩
 rw [Nat.add_sub_cancel_left]
 cases X with
 | nil => simp [srt]
 | cons x X => simp [srt, insS]
theorem InsO.len {lt : α → α → Bool} {A X B : List α} {i : Nat} {ds : List α} (h : InsO lt A X B i ds) : ds.length = (A ++ X ++ B).length := by
 rw [h.eq]
 simp [srt_len]
 omega
theorem InsO.fin {lt : α → α → Bool} {A X B : List α} {i : Nat} {ds : List α} (h : InsO lt A X B i ds) (hi : A.length + X.length ≤ i) : ds = A ++ srt lt X ++ B := by
 rw [h.eq, List.take_of_length_le (by omega), List.drop_of_length_le (by omega)]
 rfl
theorem InsO.in_ {lt : α → α → Bool} {A X B : List α} {i : Nat} {ds : List α} (h : InsO lt A X B i ds) (hi : i < A.length + X.length) :
  ∃ x, InsI lt A (srt lt (X.take (i - A.length))) (X.drop (i - A.length + 1) ++ B) x i ds ∧ ∀ fs, fs = A ++ insS lt x (srt lt (X.take (i - A.length))) ++ (X.drop (i - A.length + 1) ++ B) → InsO lt A X B (i + 1) fs := by
 have := h.lo
 have hk : i - A.length < X.length := by omega
 refine ⟨X[i - A.length], ⟨srt lt (X.take (i - A.length)), [], ?_, ?_, by simp, fun q hq => by cases hq⟩, fun fs e => ⟨by omega, .inl (by omega), ?_⟩⟩
 ·rw [h.eq, List.drop_eq_getElem_cons hk]
  simp only [List.append_assoc, List.cons_append, List.nil_append]
 ·rw [srt_len, List.length_take]
  omega
 ·rw [e, show i + 1 - A.length = i - A.length + 1 by omega, List.take_succ_eq_append_getElem hk, srt_snoc]
section
variable {lt : α → α → Bool}
theorem srt_at {R : List α} (h : Srt lt R) {i j : Nat} (hij : i < j) (hj : j < R.length) : lt R[j] R[i] = false :=
 List.pairwise_iff_getElem.1 h i j (by omega) hj hij
theorem at_take {R : List α} {n : Nat} {r : α} (h : r ∈ R.take n) : ∃ i, ∃ hi : i < R.length, i < n ∧ R[i] = r := by
 obtain ⟨i, hi, e⟩ := List.getElem_of_mem h
 rw [List.length_take] at hi
 exact ⟨i, by omega, by omega, by rw [← e, List.getElem_take]⟩
theorem at_drop {R : List α} {n : Nat} {r : α} (h : r ∈ R.drop n) : ∃ i, ∃ hi : i < R.length, n ≤ i ∧ R[i] = r := by
 obtain ⟨i, hi, e⟩ := List.getElem_of_mem h
 rw [List.length_drop] at hi
 exact ⟨n + i, by omega, by omega, by rw [← e, List.getElem_drop]⟩
/-- All up to h come ahead of x. -/
theorem srch_lo (W : Weak lt) {R : List α} (hS : Srt lt R) {h : Nat} {x : α} (hh : h < R.length) (hx : lt R[h] x = true) : ∀ r ∈ R.take (h + 1), lt r x = true := by
 intro r hr
 obtain ⟨i, hi, hin, rfl⟩ := at_take hr
 rcases Nat.lt_or_eq_of_le (show i ≤ h by omega) with h1 | rfl
 ·exact W.le_lt (srt_at hS h1 hh) hx
 ·exact hx
theorem srch_hi (W : Weak lt) {R : List α} (hS : Srt lt R) {h : Nat} {x : α} (hh : h < R.length) (hx : lt R[h] x = false) : ∀ r ∈ R.drop h, lt r x = false := by
 intro r hr
 obtain ⟨i, hi, hin, rfl⟩ := at_drop hr
 rcases Nat.lt_or_eq_of_le hin with h1 | rfl
 ·exact W.neg _ _ _ (srt_at hS h1 hi) hx
 ·exact hx
/-- y comes ahead of none up to h. -/
theorem srch_lo2 (W : Weak lt) {L : List α} (hS : Srt lt L) {h : Nat} {y : α} (hh : h < L.length) (hy : lt y L[h] = false) : ∀ l ∈ L.take (h + 1), lt y l = false := by
 intro r hr
 obtain ⟨i, hi, hin, rfl⟩ := at_take hr
 rcases Nat.lt_or_eq_of_le (show i ≤ h by omega) with h1 | rfl
 ·exact W.neg _ _ _ hy (srt_at hS h1 hh)
 ·exact hy
theorem srch_hi2 (W : Weak lt) {L : List α} (hS : Srt lt L) {h : Nat} {y : α} (hh : h < L.length) (hy : lt y L[h] = true) : ∀ l ∈ L.drop h, lt y l = true := by
 intro r hr
 obtain ⟨i, hi, hin, rfl⟩ := at_drop hr
 rcases Nat.lt_or_eq_of_le hin with h1 | rfl
 ·exact W.lt_le hy (srt_at hS h1 hi)
 ·exact hy
/-- One element on its way up. -/
theorem move_up (A R B : List α) (x : α) {k : Nat} (hk : k < R.length) : swap2 (A ++ (R.take k ++ x :: R.drop k) ++ B) (A.length + k) (A.length + k + 1) = A ++ (R.take (k + 1) ++ x :: R.drop (k + 1)) ++ B := by
 have := swap2_pcs (A := A ++ R.take k) (x := x) (M := []) (y := R[k]) (B := R.drop (k + 1) ++ B) (i := A.length + k) (j := A.length + k + 1) (by simp; omega) (by simp; omega)
 rw [List.drop_eq_getElem_cons hk, List.take_succ_eq_append_getElem hk]
 simp only [List.append_assoc, List.cons_append, List.nil_append] at this ⊢
 exact this
theorem swap2_comm {l : List α} {i j : Nat} (h : i ≠ j) : swap2 l i j = swap2 l j i := by
 unfold swap2
 cases hi : l[i]? <;> cases hj : l[j]? <;> simp only
 exact List.set_comm _ _ h
theorem move_down (A L B : List α) (y : α) {k : Nat} (h0 : 0 < k) (hk : k ≤ L.length) : swap2 (A ++ (L.take k ++ y :: L.drop k) ++ B) (A.length + k) (A.length + k - 1) = A ++ (L.take (k - 1) ++ y :: L.drop (k - 1)) ++ B := by
 obtain ⟨k, rfl⟩ : ∃ q, k = q + 1 := ⟨k - 1, by omega⟩
 rw [show A.length + (k + 1) - 1 = A.length + k by omega, show k + 1 - 1 = k by omega, ← move_up A L B y (by omega : k < L.length)]
 rw [swap2_comm (by omega)]
 have hb : A.length + k + 1 < (A ++ (L.take k ++ y :: L.drop k) ++ B).length := by simp; omega
 rw [show A.length + (k + 1) = A.length + k + 1 by omega]
 obtain ⟨u, hu⟩ : ∃ u, (A ++ (L.take k ++ y :: L.drop k) ++ B)[A.length + k]? = some u := ⟨_, List.getElem?_eq_getElem (by omega)⟩
 obtain ⟨v, hv⟩ : ∃ v, (A ++ (L.take k ++ y :: L.drop k) ++ B)[A.length + k + 1]? = some v := ⟨_, List.getElem?_eq_getElem hb⟩
 generalize A ++ (L.take k ++ y :: L.drop k) ++ B = l at *
 rw [swap2_at hu hv, swap2_at (i := A.length + k) (j := A.length + k + 1) (x := v) (y := u)]
 ·apply List.ext_getElem?
  intro q
  by_cases h1 : A.length + k + 1 = q
  ·subst h1; rw [List.getElem?_set_self (by simp; omega), hv]
  ·rw [List.getElem?_set_ne h1]
   by_cases h2 : A.length + k = q
   ·subst h2; rw [List.getElem?_set_self (by simp; omega), hu]
   ·rw [List.getElem?_set_ne h2, List.getElem?_set_ne h1, List.getElem?_set_ne h2]
 ·rw [List.getElem?_set_ne (by omega), List.getElem?_set_self (by omega)]
 ·rw [List.getElem?_set_self (by simp; omega)]
/-- Where a merge is split: s of the first list and t of the second come ahead. -/
theorem mrg_at (W : Weak lt) {L R : List α} (hL : Srt lt L) (hR : Srt lt R) {s t : Nat} (h1 : s = 0 ∨ t = R.length ∨ ∃ (hs : s - 1 < L.length) (ht : t < R.length), lt R[t] L[s - 1] = false)
  (h2 : t = 0 ∨ s = L.length ∨ ∃ (ht : t - 1 < R.length) (hs : s < L.length), lt R[t - 1] L[s] = true) (hs : s ≤ L.length) (ht : t ≤ R.length) :
  mrg lt L R = mrg lt (L.take s) (R.take t) ++ mrg lt (L.drop s) (R.drop t) := by
 rw [← mrg_split, List.take_append_drop, List.take_append_drop]
 ·intro l hl r hr
  obtain ⟨i, hi, hin, rfl⟩ := at_take hl
  obtain ⟨j, hj, hjn, rfl⟩ := at_drop hr
  rcases h1 with h1 | h1 | ⟨g1, g2, h1⟩
  ·omega
  ·omega
  ·exact srch_lo2 W hL g1 (srch_hi W hR g2 h1 _ (List.mem_iff_getElem.2 ⟨j - t, by rw [List.length_drop]; omega, by rw [List.getElem_drop]; congr 1; omega⟩)) _ (List.mem_iff_getElem.2 ⟨i, by rw [List.length_take]; omega, by rw [List.getElem_take]⟩)
 ·intro r hr l hl
  obtain ⟨j, hj, hjn, rfl⟩ := at_take hr
  obtain ⟨i, hi, hin, rfl⟩ := at_drop hl
  rcases h2 with h2 | h2 | ⟨g1, g2, h2⟩
  ·omega
  ·omega
  ·exact srch_hi2 W hL g2 (srch_lo W hR g1 h2 _ (List.mem_iff_getElem.2 ⟨j, by rw [List.length_take]; omega, by rw [List.getElem_take]⟩)) _ (List.mem_iff_getElem.2 ⟨i - s, by rw [List.length_drop]; omega, by rw [List.getElem_drop]; congr 1; omega⟩)
end
theorem blk_mem {lt : α → α → Bool} (k : Nat) (xs : List α) (z : α) : z ∈ blk lt k xs ↔ z ∈ xs := by
 induction xs using blk.induct k with
 | case1 xs h => rw [blk, dif_pos h, srt_mem]
 | case2 xs h ih =>
  rw [blk, dif_neg h, List.mem_append, srt_mem, ih, ← List.mem_append, List.take_append_drop]
theorem blk_len {lt : α → α → Bool} (k : Nat) (xs : List α) : (blk lt k xs).length = xs.length := by
 induction xs using blk.induct k with
 | case1 xs h => rw [blk, dif_pos h, srt_len]
 | case2 xs h ih =>
  rw [blk, dif_neg h, List.length_append, srt_len, ih, ← List.length_append, List.take_append_drop]
/-- Sorted by blocks of k up to a; behind it the list Z stands for X.drop a. -/
structure PreI (lt : α → α → Bool) (X : List α) (k a : Nat) (F : List α) : Prop where
 len : F.length = a
 eq : F ++ blk lt k (X.drop a) = blk lt k X
 le : a ≤ X.length
theorem PreI.zero {lt : α → α → Bool} {X : List α} {k : Nat} : PreI lt X k 0 [] := ⟨rfl, rfl, Nat.zero_le _⟩
theorem PreI.mem {lt : α → α → Bool} {X F : List α} {k a : Nat} (h : PreI lt X k a F) {z : α} (hz : z ∈ F) : z ∈ X := (blk_mem k X z).1 (h.eq ▸ List.mem_append_left _ hz)
theorem PreI.step {lt : α → α → Bool} {X F : List α} {k a : Nat} (h : PreI lt X k a F) (hk : 0 < k) (hl : a + k ≤ X.length) : PreI lt X k (a + k) (F ++ srt lt ((X.drop a).take k)) := by
 refine ⟨by rw [List.length_append, srt_len, h.len, List.length_take, List.length_drop]; omega, ?_, hl⟩
 rw [← h.eq, blk_le (xs := X.drop a) hk (by rw [List.length_drop]; omega), List.drop_drop, List.append_assoc]
theorem PreI.fin {lt : α → α → Bool} {X F : List α} {k a : Nat} (h : PreI lt X k a F) (hl : X.length ≤ a + k) : F ++ srt lt (X.drop a) = blk lt k X := by
 rw [← h.eq, blk_short (xs := X.drop a) (by rw [List.length_drop]; omega)]
theorem PreI.cut {X F B : List α} {k a : Nat} : F ++ (X.drop a ++ B) = F ++ (X.drop a).take k ++ (X.drop (a + k) ++ B) := by
 rw [← List.drop_drop, List.append_assoc F, ← List.append_assoc (List.take k _), List.take_append_drop]
theorem PreI.two {lt : α → α → Bool} (W : Weak lt) {X F B : List α} {k a : Nat} (h : PreI lt X (2 * k) a F) (hk : 0 < k) (hl : a + 2 * k ≤ X.length) :
  F ++ (blk lt k (X.drop a) ++ B) = F ++ srt lt ((X.drop a).take k) ++ srt lt (((X.drop a).drop k).take k) ++ (blk lt k (X.drop (a + 2 * k)) ++ B) ∧
  PreI lt X (2 * k) (a + 2 * k) (F ++ mrg lt (srt lt ((X.drop a).take k)) (srt lt (((X.drop a).drop k).take k))) := by
 obtain ⟨e1, e2⟩ := blk_two W (xs := X.drop a) hk (by rw [List.length_drop]; omega)
 refine ⟨by rw [e1, List.drop_drop, List.drop_drop]; simp only [List.append_assoc], ?_, ?_, hl⟩
 ·rw [List.length_append, mrg_len, srt_len, srt_len, h.len]
  simp
  omega
 ·rw [← h.eq, e2, List.drop_drop (i := 2 * k), List.append_assoc]
theorem PreI.last {lt : α → α → Bool} (W : Weak lt) {X F B : List α} {k a : Nat} (h : PreI lt X (2 * k) a F) (hk : 0 < k) (h1 : a + k < X.length) (hl : X.length ≤ a + 2 * k) :
  F ++ (blk lt k (X.drop a) ++ B) = F ++ srt lt ((X.drop a).take k) ++ srt lt ((X.drop a).drop k) ++ B ∧
  F ++ mrg lt (srt lt ((X.drop a).take k)) (srt lt ((X.drop a).drop k)) = blk lt (2 * k) X := by
 obtain ⟨e1, e2⟩ := blk_last W (xs := X.drop a) hk (by rw [List.length_drop]; omega) (by rw [List.length_drop]; omega)
 exact ⟨by rw [e1]; simp only [List.append_assoc], by rw [← h.eq, e2]⟩
theorem PreI.none {lt : α → α → Bool} {X F B : List α} {k a : Nat} (h : PreI lt X (2 * k) a F) (h1 : X.length ≤ a + k) : F ++ (blk lt k (X.drop a) ++ B) = blk lt (2 * k) X ++ B := by
 rw [← h.eq, blk_end (xs := X.drop a) (by rw [List.length_drop]; omega), List.append_assoc]
theorem PreI.all {lt : α → α → Bool} {X F B : List α} {k a q n : Nat} (h : PreI lt X k a F) {S : α → Prop} (hX : ∀ z ∈ X, S z) (hn : X.length = n) : Up n S (F ++ (X.drop a ++ B)) ∧ Up n S (F ++ (blk lt q (X.drop a) ++ B)) := by
 have h1 := h.len
 have h2 := h.le
 constructor <;> rw [← List.append_assoc]
 ·exact up_of (fun z hz => (List.mem_append.1 hz).elim (fun hz => hX z (h.mem hz)) (fun hz => hX z (List.mem_of_mem_drop hz))) (by simp; omega)
 ·exact up_of (fun z hz => (List.mem_append.1 hz).elim (fun hz => hX z (h.mem hz)) (fun hz => hX z (List.mem_of_mem_drop ((blk_mem _ _ _).1 hz)))) (by simp [blk_len]; omega)
theorem PreI.lens {lt : α → α → Bool} {X F B : List α} {k a q : Nat} (h : PreI lt X k a F) : X.length ≤ (F ++ (X.drop a ++ B)).length ∧ X.length ≤ (F ++ (blk lt q (X.drop a) ++ B)).length := by
 have := h.len
 have := h.le
 constructor <;> simp [blk_len] <;> omega
/-- The place of x among R is between i and j. -/
structure S1I (lt : α → α → Bool) (R : List α) (x : α) (i j : Nat) : Prop where
 le : i ≤ j ∧ j ≤ R.length
 lo : ∀ r ∈ R.take i, lt r x = true
 hi : ∀ r ∈ R.drop j, lt r x = false
theorem S1I.start {lt : α → α → Bool} {R : List α} {x : α} : S1I lt R x 0 R.length := ⟨⟨by omega, by omega⟩, fun r hr => by simp at hr, fun r hr => by simp at hr⟩
theorem S1I.fin {lt : α → α → Bool} {R : List α} {x : α} {i : Nat} (h : S1I lt R x i i) : mrg lt [x] R = R.take i ++ x :: R.drop i := by
 rw [← mrg_one x _ _ h.lo h.hi, List.take_append_drop]
theorem S1I.yes {lt : α → α → Bool} (W : Weak lt) {R : List α} (hS : Srt lt R) {x : α} {i j h : Nat} (s : S1I lt R x i j) (h1 : i ≤ h) (h2 : h < j) {r : α} (hr : R[h]? = some r) (hx : lt r x = true) : S1I lt R x (h + 1) j := by
 obtain ⟨g, e⟩ := List.getElem?_eq_some_iff.1 hr
 subst e
 exact ⟨⟨by omega, s.le.2⟩, srch_lo W hS g hx, s.hi⟩
theorem S1I.no {lt : α → α → Bool} (W : Weak lt) {R : List α} (hS : Srt lt R) {x : α} {i j h : Nat} (s : S1I lt R x i j) (h1 : i ≤ h) (h2 : h < j) {r : α} (hr : R[h]? = some r) (hx : lt r x = false) : S1I lt R x i h := by
 obtain ⟨g, e⟩ := List.getElem?_eq_some_iff.1 hr
 subst e
 exact ⟨⟨by omega, by omega⟩, s.lo, srch_hi W hS g hx⟩
/-- The place of y among L is between i and j. -/
structure S2I (lt : α → α → Bool) (L : List α) (y : α) (i j : Nat) : Prop where
 le : i ≤ j ∧ j ≤ L.length
 lo : ∀ l ∈ L.take i, lt y l = false
 hi : ∀ l ∈ L.drop j, lt y l = true
theorem S2I.start {lt : α → α → Bool} {L : List α} {y : α} : S2I lt L y 0 L.length := ⟨⟨by omega, by omega⟩, fun r hr => by simp at hr, fun r hr => by simp at hr⟩
theorem S2I.fin {lt : α → α → Bool} {L : List α} {y : α} {i : Nat} (h : S2I lt L y i i) : mrg lt L [y] = L.take i ++ y :: L.drop i := by
 rw [← mrg_two y _ _ h.lo h.hi, List.take_append_drop]
theorem S2I.yes {lt : α → α → Bool} (W : Weak lt) {L : List α} (hS : Srt lt L) {y : α} {i j h : Nat} (s : S2I lt L y i j) (h1 : i ≤ h) (h2 : h < j) {l : α} (hl : L[h]? = some l) (hy : lt y l = false) : S2I lt L y (h + 1) j := by
 obtain ⟨g, e⟩ := List.getElem?_eq_some_iff.1 hl
 subst e
 exact ⟨⟨by omega, s.le.2⟩, srch_lo2 W hS g hy, s.hi⟩
theorem S2I.no {lt : α → α → Bool} (W : Weak lt) {L : List α} (hS : Srt lt L) {y : α} {i j h : Nat} (s : S2I lt L y i j) (h1 : i ≤ h) (h2 : h < j) {l : α} (hl : L[h]? = some l) (hy : lt y l = true) : S2I lt L y i h := by
 obtain ⟨g, e⟩ := List.getElem?_eq_some_iff.1 hl
 subst e
 exact ⟨⟨by omega, by omega⟩, s.lo, srch_hi2 W hS g hy⟩
/-- Where a merge is split in general: h elements come ahead, between s and u of them out of G. -/
structure GI (lt : α → α → Bool) (G R : List α) (h s u : Nat) : Prop where
 b : h ≤ s + R.length ∧ s ≤ u ∧ u ≤ G.length ∧ u ≤ h
 lo : s = 0 ∨ h = s + R.length ∨ ∃ x y, G[s - 1]? = some x ∧ R[h - s]? = some y ∧ lt y x = false
 hi : u = h ∨ u = G.length ∨ ∃ x y, G[u]? = some x ∧ R[h - u - 1]? = some y ∧ lt y x = true
theorem GI.fin {lt : α → α → Bool} (W : Weak lt) {G R : List α} (hG : Srt lt G) (hR : Srt lt R) {h s : Nat} (g : GI lt G R h s s) : mrg lt G R = mrg lt (G.take s) (R.take (h - s)) ++ mrg lt (G.drop s) (R.drop (h - s)) := by
 obtain ⟨b1, b2, b3, b4⟩ := g.b
 refine mrg_at W hG hR ?_ ?_ b3 (by omega)
 ·rcases g.lo with e | e | ⟨x, y, e1, e2, e3⟩
  ·exact .inl e
  ·exact .inr (.inl (by omega))
  ·obtain ⟨q1, rfl⟩ := List.getElem?_eq_some_iff.1 e1
   obtain ⟨q2, rfl⟩ := List.getElem?_eq_some_iff.1 e2
   exact .inr (.inr ⟨q1, q2, e3⟩)
 ·rcases g.hi with e | e | ⟨x, y, e1, e2, e3⟩
  ·exact .inl (by omega)
  ·exact .inr (.inl e)
  ·obtain ⟨q1, rfl⟩ := List.getElem?_eq_some_iff.1 e1
   obtain ⟨q2, rfl⟩ := List.getElem?_eq_some_iff.1 e2
   exact .inr (.inr ⟨q2, q1, e3⟩)
theorem GI.yes {lt : α → α → Bool} {G R : List α} {h s u c : Nat} (g : GI lt G R h s u) (h1 : s ≤ c) (h2 : c < u) {x y : α} (hx : G[c]? = some x) (hy : R[h - c - 1]? = some y) (hc : lt y x = false) : GI lt G R h (c + 1) u :=
 ⟨by have := g.b; omega, .inr (.inr ⟨x, y, hx, by rw [show h - (c + 1) = h - c - 1 by omega]; exact hy, hc⟩), g.hi⟩
theorem GI.no {lt : α → α → Bool} {G R : List α} {h s u c : Nat} (g : GI lt G R h s u) (h1 : s ≤ c) (h2 : c < u) {x y : α} (hx : G[c]? = some x) (hy : R[h - c - 1]? = some y) (hc : lt y x = true) : GI lt G R h s c :=
 ⟨by have := g.b; omega, g.lo, .inr (.inr ⟨x, y, hx, hy, hc⟩)⟩
section
variable {A G R Z : List α} {s t : Nat}
theorem rot_eq1 : A ++ G ++ R ++ Z = (A ++ G.take s) ++ G.drop s ++ R.take t ++ (R.drop t ++ Z) := by
 rw [List.append_assoc A (G.take s), List.take_append_drop, List.append_assoc (A ++ G) (R.take t), ← List.append_assoc (R.take t), List.take_append_drop, ← List.append_assoc]
theorem rot_eq2 : (A ++ G.take s) ++ R.take t ++ G.drop s ++ (R.drop t ++ Z) = A ++ (G.take s ++ R.take t) ++ (G.drop s ++ R.drop t) ++ Z := by simp only [List.append_assoc]
theorem rot_no (h : G.length ≤ s ∨ t = 0) : A ++ G ++ R ++ Z = A ++ (G.take s ++ R.take t) ++ (G.drop s ++ R.drop t) ++ Z := by
 rw [rot_eq1 (s := s) (t := t), ← rot_eq2]
 rcases h with h | h
 ·rw [List.drop_of_length_le h, List.append_nil, List.append_nil]
 ·subst h
  rw [List.take_zero, List.append_nil, List.append_nil]
theorem mg1_eq1 : A ++ (G.take s ++ R.take t) ++ (G.drop s ++ R.drop t) ++ Z = A ++ G.take s ++ R.take t ++ (G.drop s ++ R.drop t ++ Z) := by simp only [List.append_assoc]
theorem mg1_eq2 {M : List α} : A ++ M ++ (G.drop s ++ R.drop t ++ Z) = A ++ M ++ (G.drop s ++ R.drop t) ++ Z := by simp only [List.append_assoc]
theorem mg1_no {lt : α → α → Bool} (h : s = 0 ∨ t = 0) : G.take s ++ R.take t = mrg lt (G.take s) (R.take t) := by
 rcases h with rfl | rfl
 ·rw [List.take_zero, mrg_nilL]; rfl
 ·rw [List.take_zero, mrg_nilR, List.append_nil]
theorem mg2_eq1 {M : List α} : A ++ M ++ (G.drop s ++ R.drop t) ++ Z = A ++ M ++ G.drop s ++ R.drop t ++ Z := by simp only [List.append_assoc]
theorem mg2_eq2 {M M2 : List α} : A ++ M ++ M2 ++ Z = A ++ (M ++ M2) ++ Z := by simp only [List.append_assoc]
theorem mg2_no {lt : α → α → Bool} (h : G.length ≤ s ∨ R.length ≤ t) : G.drop s ++ R.drop t = mrg lt (G.drop s) (R.drop t) := by
 rcases h with h | h
 ·rw [List.drop_of_length_le h, mrg_nilL]; rfl
 ·rw [List.drop_of_length_le h, mrg_nilR, List.append_nil]
theorem GI.start {lt : α → α → Bool} {G R : List α} {h : Nat} (e : h = (G.length + R.length) / 2) : GI lt G R h (h - R.length) (min G.length h) :=
 ⟨by omega, by omega, by omega⟩
end
section
variable {α β : Type} {lt : α → α → Bool} {lt' : β → β → Bool} {f : α → β}
theorem insS_map {x : α} : ∀ {l : List α}, (∀ y ∈ l, lt' (f x) (f y) = lt x y) → insS lt' (f x) (l.map f) = (insS lt x l).map f
 | [], _ => rfl
 | y :: l, h => by
  rw [List.map_cons, insS_cons, insS_cons, h y (List.mem_cons_self ..)]
  split
  ·rfl
  ·rw [List.map_cons, insS_map fun z hz => h z (List.mem_cons_of_mem _ hz)]
theorem srt_map_aux : ∀ {l acc : List α}, (∀ x, (x ∈ acc ∨ x ∈ l) → ∀ y, (y ∈ acc ∨ y ∈ l) → lt' (f x) (f y) = lt x y) → (l.map f).foldl (fun acc x => insS lt' x acc) (acc.map f) = (l.foldl (fun acc x => insS lt x acc) acc).map f
 | [], _, _ => rfl
 | x :: l, acc, h => by
  rw [List.map_cons, List.foldl_cons, List.foldl_cons, insS_map fun y hy => h x (.inr (List.mem_cons_self ..)) y (.inl hy)]
  have key : ∀ u, (u ∈ insS lt x acc ∨ u ∈ l) → (u ∈ acc ∨ u ∈ x :: l) := fun u hu => by
   rcases hu with h' | h'
   ·rcases insS_mem.1 h' with rfl | h''
    ·exact .inr (List.mem_cons_self ..)
    ·exact .inl h''
   ·exact .inr (List.mem_cons_of_mem _ h')
  exact srt_map_aux fun u hu v hv => h u (key u hu) v (key v hv)
theorem srt_map {l : List α} (h : ∀ x ∈ l, ∀ y ∈ l, lt' (f x) (f y) = lt x y) : srt lt' (l.map f) = (srt lt l).map f :=
 srt_map_aux (acc := []) fun x hx y hy => h x (hx.resolve_left (by simp)) y (hy.resolve_left (by simp))
theorem insS_perm {x : α} : ∀ {l : List α}, (insS lt x l).Perm (x :: l)
 | [] => List.Perm.refl _
 | y :: l => by
  rw [insS_cons]
  split
  ·exact List.Perm.refl _
  ·exact ((insS_perm (l := l)).cons y).trans (List.Perm.swap x y l)
theorem insF_perm : ∀ {l acc : List α}, (l.foldl (fun acc x => insS lt x acc) acc).Perm (acc ++ l)
 | [], acc => by simp
 | x :: l, acc => by
  rw [List.foldl_cons]
  refine (insF_perm (l := l)).trans ?_
  refine ((insS_perm (x := x) (l := acc)).append_right l).trans ?_
  exact (List.perm_middle (a := x) (l₁ := acc) (l₂ := l)).symm
theorem srt_perm {l : List α} : (srt lt l).Perm l := by
 have := insF_perm (lt := lt) (l := l) (acc := [])
 rwa [List.nil_append] at this
end
end
end Go.Proofs.YtakdjgldcpompaaGreat
