import Derived.Test.YtjhaakollekjeaaDoorO22
import Derived.Test.YtjhaakollekjeaaDoorO21
import Derived.Test.YtjhaakollekjeaaDoorO25
namespace Go.Proofs.YtjhaakollekjeaaDoor
open Go Go.RowKit
set_option linter.unusedVariables false
set_option linter.unusedSimpArgs false
/-! ### Numbers -/
theorem dig_of (m : Nat) : (UInt8.ofNat (48 + m % 10)).toNat = 48 + m % 10 := by simp; omega
theorem digB_of (m : Nat) : digB (UInt8.ofNat (48 + m % 10)) = true := by
 unfold digB
 rw [dig_of, Bool.and_eq_true, decide_eq_true_iff, decide_eq_true_iff]
 omega
theorem dgL_all : ∀ (f m : Nat), (dgL f m).all digB = true
 | 0, _ => rfl
 | f + 1, m => by
  rw [dgL]
  split
  ·rfl
  ·rw [List.all_append, dgL_all f (m / 10), List.all_cons, digB_of]
   rfl
theorem numL_app (l : List UInt8) (b : UInt8) : numL (l ++ [b]) = 10 * numL l + (b.toNat - 48) := by
 unfold numL
 rw [List.foldl_append]
 rfl
theorem numL_dg : ∀ (f m : Nat), m < 10 ^ f → numL (dgL f m) = m
 | 0, m, h => by
  have : m = 0 := by simpa using h
  subst this; rfl
 | f + 1, m, h => by
  rw [dgL]
  split
  ·rename_i h0; rw [h0]; rfl
  ·rw [numL_app, numL_dg f (m / 10) (by rw [Nat.pow_succ] at h; omega), dig_of]
   omega
theorem dgN_num {m : Nat} (h : m < 10 ^ 18) : numL (dgN m) = m := by
 unfold dgN
 split
 ·rename_i h0; rw [h0]; rfl
 ·exact numL_dg 20 m (by omega)
theorem dgN_all (m : Nat) : (dgN m).all digB = true := by
 unfold dgN
 split
 ·rfl
 ·exact dgL_all 20 m
theorem dgN_len {m : Nat} (h : m < 10 ^ 18) : 1 ≤ (dgN m).length ∧ (dgN m).length ≤ 18 := by
 unfold dgN
 split
 ·exact ⟨by simp, by simp⟩
 ·rename_i h0
  refine ⟨?_, ?_⟩
  ·rw [dgL_step h0 (by omega), List.length_append]; simp
  ·rw [dgL_more 18 m h 20 (by omega)]
   exact dgL_len 18 m
theorem dig_no {l : List UInt8} (h : l.all digB = true) {b : UInt8} (hb : digB b = false) : b ∉ l := fun k => by
 have := List.all_eq_true.1 h b k
 rw [hb] at this
 cases this
theorem bar_dec (n : Int) : barL (decL n) = dgN n.natAbs ∧ (negB (decL n) = true ↔ n < 0) := by
 rw [decL_of]
 by_cases h : n < 0
 ·rw [if_pos h]
  exact ⟨rfl, fun _ => h, fun _ => rfl⟩
 ·rw [if_neg h, List.nil_append]
  have hn := dig_no (dgN_all n.natAbs) (b := 45) (by decide)
  cases hd : dgN n.natAbs with
  | nil => exact ⟨rfl, fun k => (by cases k), fun k => absurd k h⟩
  | cons c t =>
   rw [hd] at hn
   have hc : ¬ c = 45 := fun k => hn (by rw [k]; simp)
   exact ⟨by rw [bar_cons, if_neg hc], fun k => by rw [neg_cons] at k; exact absurd (of_decide_eq_true k) hc, fun k => absurd k h⟩
theorem val_dec {n : Int} (h : -1000000 ≤ n ∧ n ≤ 1000000) : valL (decL n) = n := by
 obtain ⟨h1, h2⟩ := bar_dec n
 have hm : n.natAbs < 10 ^ 18 := by omega
 unfold valL
 rw [h1, dgN_num hm]
 by_cases k : n < 0
 ·rw [if_pos (h2.2 k)]; omega
 ·rw [if_neg fun q => k (h2.1 q)]; omega
theorem okD_dec {n : Int} (h : -1000000 ≤ n ∧ n ≤ 1000000) : okD (decL n) = true := by
 obtain ⟨h1, _⟩ := bar_dec n
 obtain ⟨h3, h4⟩ := dgN_len (m := n.natAbs) (by omega)
 exact okD_all (by rw [h1]; exact h3) (by rw [h1]; exact h4) (by rw [h1]; exact dgN_all _) (by rw [val_dec h])
theorem dec_no' {n : Int} {b : UInt8} (hb : digB b = false) (h45 : b ≠ 45) : b ∉ decL n := fun k => by
 rw [decL_of] at k
 rcases List.mem_append.1 k with q | q
 ·split at q
  ·exact h45 (List.mem_singleton.1 q)
  ·cases q
 ·exact dig_no (dgN_all _) hb q
theorem pt_no {p : Pn} {b : UInt8} (hb : digB b = false) (h45 : b ≠ 45) (h44 : b ≠ 44) : b ∉ ptL p := fun k => by
 unfold ptL at k
 rcases List.mem_append.1 k with q | q
 ·rcases List.mem_append.1 q with r | r
  ·exact dec_no' hb h45 r
  ·exact h44 (List.mem_singleton.1 r)
 ·exact dec_no' hb h45 q
theorem txPt_pt {p : Pn} (h : okB p.1 p.2 = true) : txPt (ptL p) = some p := by
 have hb := okB_bd2 (p := p) h
 obtain ⟨⟨b1, b2⟩, b3, b4⟩ := hb
 have v1 := val_dec (n := p.1) (by omega)
 have v2 := val_dec (n := p.2) (by omega)
 have e : ptL p = decL p.1 ++ 44 :: decL p.2 := by simp [ptL]
 rw [e, txPt_cut (dec_no' (by decide) (by decide)), okD_dec (n := p.1) (by omega), okD_dec (n := p.2) (by omega), v1, v2, h]
 rfl
/-! ### Knots, loops, outlines -/
def knTx (k : Kn) : List UInt8 := (if k.2 = true then [] else [126]) ++ ptL k.1
def lpTo (l : List Kn) : Nat → List UInt8
 | 0 => []
 | k + 1 => lpTo l k ++ (if 0 < k then [32] else []) ++ knTx (kn l k)
def lpTx (l : List Kn) : List UInt8 := lpTo l l.length
def ouTo (ls : List (List Kn)) : Nat → List UInt8
 | 0 => []
 | k + 1 => ouTo ls k ++ (lpTx (lp ls k) ++ [10])
def ouTx (ls : List (List Kn)) : List UInt8 := ouTo ls ls.length
theorem knTx_len (k : Kn) : (knTx k).length ≤ 44 := by
 have := ptL_len k.1
 unfold knTx
 split <;> simp <;> omega
theorem lpTo_len (l : List Kn) : ∀ k, (lpTo l k).length ≤ 45 * k
 | 0 => Nat.le_refl _
 | k + 1 => by
  have := lpTo_len l k
  have := knTx_len (kn l k)
  rw [lpTo, List.length_append, List.length_append]
  split <;> simp <;> omega
theorem ouTo_len {ls : List (List Kn)} (h : ∀ j, j < ls.length → (lp ls j).length ≤ 60) : ∀ k, k ≤ ls.length → (ouTo ls k).length ≤ 2800 * k
 | 0, _ => Nat.le_refl _
 | k + 1, hk => by
  have := ouTo_len h k (by omega)
  have h1 := lpTo_len (lp ls k) (lp ls k).length
  have h2 := h k (by omega)
  rw [ouTo, List.length_append, List.length_append]
  unfold lpTx
  simp
  omega
theorem kn_no {k : Kn} {b : UInt8} (hb : digB b = false) (h45 : b ≠ 45) (h44 : b ≠ 44) (h126 : b ≠ 126) : b ∉ knTx k := fun m => by
 unfold knTx at m
 rcases List.mem_append.1 m with q | q
 ·split at q
  ·cases q
  ·exact h126 (List.mem_singleton.1 q)
 ·exact pt_no hb h45 h44 q
theorem lp_no10 (l : List Kn) : ∀ k, (10 : UInt8) ∉ lpTo l k
 | 0 => by simp [lpTo]
 | k + 1 => fun m => by
  rw [lpTo] at m
  rcases List.mem_append.1 m with q | q
  ·rcases List.mem_append.1 q with r | r
   ·exact lp_no10 l k r
   ·split at r
    ·exact absurd (List.mem_singleton.1 r) (by decide)
    ·cases r
  ·exact kn_no (by decide) (by decide) (by decide) (by decide) q
/-- Parts with another part behind. -/
theorem splL_more {b : UInt8} {q : List UInt8} (hq : b ∉ q) : ∀ l : List UInt8, splL b (l ++ b :: q) = splL b l ++ [q]
 | [] => by rw [List.nil_append, splL_hit, splL_one hq]; rfl
 | c :: l => by
  have ih := splL_more hq l
  rw [List.cons_append, splL, ih, splL]
  split
  ·rfl
  ·cases hs : splL b l with
   | nil => exact (splL_ne b l hs).elim
   | cons a t => rfl
theorem spl_lp (l : List Kn) : ∀ k, 0 < k → k ≤ l.length → splL 32 (lpTo l k) = (l.take k).map knTx
 | 0, h, _ => absurd h (by decide)
 | k + 1, _, hk => by
  have h32 : (32 : UInt8) ∉ knTx (kn l k) := kn_no (by decide) (by decide) (by decide) (by decide)
  have e : l.take (k + 1) = l.take k ++ [kn l k] := by rw [List.take_succ_eq_append_getElem (by omega), kn_at]
  rw [lpTo, e, List.map_append]
  by_cases h0 : 0 < k
  ·rw [if_pos h0, List.append_assoc]
   show splL 32 (lpTo l k ++ 32 :: knTx (kn l k)) = _
   rw [splL_more h32, spl_lp l k h0 (by omega)]
   rfl
  ·have : k = 0 := by omega
   subst this
   rw [if_neg h0]
   show splL 32 ([] ++ [] ++ knTx (kn l 0)) = _
   rw [List.nil_append, List.nil_append, splL_one h32]
   rfl
theorem spl_loop {l : List Kn} (h : 1 ≤ l.length) : splL 32 (lpTx l) = l.map knTx := by
 unfold lpTx
 rw [spl_lp l l.length (by omega) (Nat.le_refl _), List.take_length]
theorem spl_ou (ls : List (List Kn)) : ∀ k, k ≤ ls.length → splL 10 (ouTo ls k) = (ls.take k).map lpTx ++ [[]]
 | 0, _ => rfl
 | k + 1, hk => by
  have ih := spl_ou ls k (by omega)
  have e : ls.take (k + 1) = ls.take k ++ [lp ls k] := by rw [List.take_succ_eq_append_getElem (by omega), lp_at]
  have h10 : (10 : UInt8) ∉ lpTx (lp ls k) := lp_no10 _ _
  rw [ouTo, ← List.append_assoc, splL_end, e, List.map_append]
  have key : ∀ (m : List UInt8) (L : List (List UInt8)) (q : List UInt8), splL 10 m = L ++ [[]] → (10 : UInt8) ∉ q → splL 10 (m ++ q) = L ++ [q] := by
   intro m
   induction m with
   | nil =>
    intro L q h hq
    cases L with
    | nil => rw [List.nil_append, splL_one hq]; rfl
    | cons a t => simp [splL] at h
   | cons c m ih =>
    intro L q h hq
    rw [splL] at h
    rw [List.cons_append, splL]
    split at h
    ·rename_i hc
     rw [if_pos hc]
     cases L with
     | nil =>
      simp only [List.nil_append, List.cons.injEq, true_and] at h
      exact (splL_ne _ _ h).elim
     | cons a t =>
      simp only [List.cons_append, List.cons.injEq] at h
      rw [ih t q h.2 hq, ← h.1]
      rfl
    ·rename_i hc
     rw [if_neg hc]
     cases hs : splL 10 m with
     | nil => exact (splL_ne _ _ hs).elim
     | cons a t =>
      rw [hs] at h
      cases L with
      | nil => simp at h
      | cons a' t' =>
       simp only [List.cons_append, List.cons.injEq] at h
       have := ih (a :: t') q (by rw [hs, h.2]; rfl) hq
       rw [this, ← h.1]
       rfl
  rw [key _ _ _ ih h10]
  simp
theorem lin_ou (ls : List (List Kn)) : linI (ouTx ls) = some (ls.map lpTx) := by
 have h := spl_ou ls ls.length (Nat.le_refl _)
 rw [List.take_length] at h
 unfold ouTx
 cases hl : ls.length with
 | zero =>
  have : ls = [] := List.eq_nil_of_length_eq_zero hl
  subst this
  rfl
 | succ k =>
  have e : ouTo ls (k + 1) = (ouTo ls k ++ lpTx (lp ls k)) ++ [10] := by rw [ouTo, List.append_assoc]
  rw [hl] at h
  rw [e] at h ⊢
  rw [splL_end] at h
  have h2 := List.append_cancel_right h
  unfold linI
  rw [if_neg (by simp), if_pos (by simp), List.dropLast_concat, h2]
/-- A knot read. -/
def txKn (l : List UInt8) : Option Kn := match txPt (Lib.trimPrefix l [126]) with
 | some p => some (p, !Lib.hasPrefix l [126])
 | none => none
theorem txKn_kn {k : Kn} (h : knB k = true) : txKn (knTx k) = some k := by
 obtain ⟨p, on⟩ := k
 have h126 : (126 : UInt8) ∉ ptL p := pt_no (by decide) (by decide) (by decide)
 unfold txKn knTx
 cases on with
 | true =>
  have hp : Lib.hasPrefix (ptL p) [126] = false := by
   unfold Lib.hasPrefix
   cases hq : ptL p with
   | nil => rfl
   | cons c t =>
    rw [hq] at h126
    have : ((126 : UInt8) == c) = false := by rw [beq_eq_false_iff_ne]; exact fun k => h126 (by rw [k]; simp)
    simp [List.isPrefixOf, this]
  simp only [if_true, List.nil_append]
  unfold Lib.trimPrefix
  rw [hp]
  simp only [Bool.false_eq_true, if_false]
  rw [txPt_pt h]
  rfl
 | false =>
  have hp : Lib.hasPrefix (126 :: ptL p) [126] = true := by simp [Lib.hasPrefix, List.isPrefixOf]
  simp only [Bool.false_eq_true, if_false, List.cons_append, List.nil_append]
  unfold Lib.trimPrefix
  rw [hp]
  simp only [if_true, List.length_cons, List.length_nil, List.drop_succ_cons, List.drop_zero]
  rw [txPt_pt h]
  rfl
def txLpR (l : List UInt8) : Option (List Kn) := allO txKn (splL 32 l)
def txLp (l : List UInt8) : Option (List Kn) := match txLpR l with
 | some m => if loopB m = true then some m else none
 | none => none
def ouO : Option (List (List Kn)) → Option (List (List Kn))
 | some ls => if outB ls = true then some ls else none
 | none => none
def txOu (l : List UInt8) : Option (List (List Kn)) := match linI l with
 | some L => ouO (allO txLp L)
 | none => none
theorem allO_map {α β : Type} {f : β → Option α} {g : α → β} {P : α → Prop} (h : ∀ a, P a → f (g a) = some a) : ∀ l : List α, (∀ a ∈ l, P a) → allO f (l.map g) = some l
 | [], _ => rfl
 | a :: l, hl => by
  rw [List.map_cons, allO, h a (hl a (by simp)), allO_map h l fun b hb => hl b (List.mem_cons_of_mem _ hb)]
theorem txLp_lp {l : List Kn} (h : loopB l = true) : txLp (lpTx l) = some l := by
 have hk := h
 unfold loopB at hk
 rw [Bool.and_eq_true, Bool.and_eq_true, decide_eq_true_iff] at hk
 unfold txLp txLpR
 rw [spl_loop hk.1.1.1, allO_map (P := fun k => knB k = true) (fun a ha => txKn_kn ha) l fun a ha => List.all_eq_true.1 hk.2 a ha]
 show (if loopB l = true then some l else none) = some l
 rw [if_pos h]
theorem txOu_ou {ls : List (List Kn)} (h : outB ls = true) : txOu (ouTx ls) = some ls := by
 have hk := h
 unfold outB at hk
 rw [Bool.and_eq_true] at hk
 unfold txOu
 rw [lin_ou]
 show ouO (allO txLp (ls.map lpTx)) = some ls
 rw [allO_map (P := fun l => loopB l = true) (fun a ha => txLp_lp ha) ls fun a ha => List.all_eq_true.1 hk.2 a ha]
 show (if outB ls = true then some ls else none) = some ls
 rw [if_pos h]
end Go.Proofs.YtjhaakollekjeaaDoor
