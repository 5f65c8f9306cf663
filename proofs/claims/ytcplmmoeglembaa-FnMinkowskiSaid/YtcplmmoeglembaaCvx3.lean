/- Extents of hulls and of sums; points in hulls turned around; what FnMinkowski says in plain words. -/
import Derived.Test.YtcplmmoeglembaaCvx2
namespace Go.Proofs.Ytcplmmoeglembaa
open Go Go.RowKit
set_option linter.unusedVariables false
set_option linter.unusedSimpArgs false

/-! ### The greatest product -/
def maxD (xs : List Pn) (d : Pn) : Int := mxI (fun j => dotP (pt xs j) d) (xs.length - 1)
def minD (xs : List Pn) (d : Pn) : Int := mnI (fun j => dotP (pt xs j) d) (xs.length - 1)
theorem mxI_le {g : Nat → Int} : ∀ k j, j ≤ k → g j ≤ mxI g k := far_is.mx_all g
theorem mxI_mem {g : Nat → Int} : ∀ k, ∃ j, j ≤ k ∧ g j = mxI g k
  | 0 => ⟨0, Nat.le_refl _, rfl⟩
  | k + 1 => by
    obtain ⟨j, hj, e⟩ := mxI_mem (g := g) k
    unfold mxI
    rcases Int.le_total (g (k + 1)) (mxI g k) with h | h
    · exact ⟨j, by omega, by omega⟩
    · exact ⟨k + 1, Nat.le_refl _, by omega⟩
theorem maxD_ge {xs : List Pn} {d q : Pn} (h : q ∈ xs) : dotP q d ≤ maxD xs d := by
  obtain ⟨j, hj, rfl⟩ := List.getElem_of_mem h
  rw [pt_at hj]
  exact mxI_le (g := fun j => dotP (pt xs j) d) _ j (by omega)
theorem maxD_mem {xs : List Pn} {d : Pn} (h : 0 < xs.length) : ∃ q ∈ xs, dotP q d = maxD xs d := by
  obtain ⟨j, hj, e⟩ := mxI_mem (g := fun j => dotP (pt xs j) d) (xs.length - 1)
  exact ⟨_, pt_mem (by omega), e⟩
theorem maxD_is {xs : List Pn} {d : Pn} {M : Int} (h : ∀ q ∈ xs, dotP q d ≤ M) (h2 : ∃ q ∈ xs, dotP q d = M) : maxD xs d = M := by
  obtain ⟨q, hq, e⟩ := h2
  obtain ⟨r, hr, e2⟩ := maxD_mem (d := d) (List.length_pos_of_mem hq)
  have h1 := maxD_ge (d := d) hq
  have h3 := h r hr
  omega
theorem dot_neg2 (p d : Pn) : dotP p (negP d) = -dotP p d := by simp only [dotP, negP]; grind
theorem dot_neg1 (p d : Pn) : dotP (negP p) d = -dotP p d := by simp only [dotP, negP]; grind
theorem dot_add (p q d : Pn) : dotP (addP p q) d = dotP p d + dotP q d := by simp only [dotP, addP]; grind
theorem minD_max (xs : List Pn) (d : Pn) : minD xs d = -maxD xs (negP d) := by
  have := mx_neg (fun j => dotP (pt xs j) d) (xs.length - 1)
  have e : maxD xs (negP d) = mxI (fun j => -dotP (pt xs j) d) (xs.length - 1) := mx_congr _ fun j _ => dot_neg2 _ _
  rw [e, this]
  show minD xs d = _
  unfold minD
  omega
theorem maxD_neg {xs : List Pn} {d : Pn} (h : 0 < xs.length) : maxD (xs.map negP) d = maxD xs (negP d) := by
  refine maxD_is (fun q hq => ?_) ?_
  · obtain ⟨r, hr, rfl⟩ := List.mem_map.1 hq
    rw [dot_neg1, ← dot_neg2]
    exact maxD_ge hr
  · obtain ⟨r, hr, e⟩ := maxD_mem (d := negP d) h
    exact ⟨negP r, List.mem_map.2 ⟨r, hr, rfl⟩, by rw [dot_neg1, ← dot_neg2, e]⟩
theorem maxD_sms {a b : List Pn} {d : Pn} (ha : 0 < a.length) (hb : 0 < b.length) : maxD (smsP a b) d = maxD a d + maxD b d := by
  refine maxD_is (fun q hq => ?_) ?_
  · obtain ⟨r, hr, h⟩ := List.mem_flatMap.1 hq
    obtain ⟨s, hs, rfl⟩ := List.mem_map.1 h
    rw [dot_add]
    have := maxD_ge (d := d) hr
    have := maxD_ge (d := d) hs
    omega
  · obtain ⟨r, hr, e⟩ := maxD_mem (d := d) ha
    obtain ⟨s, hs, e2⟩ := maxD_mem (d := d) hb
    exact ⟨addP r s, List.mem_flatMap.2 ⟨r, hr, List.mem_map.2 ⟨s, hs, rfl⟩⟩, by rw [dot_add, e, e2]⟩
/-- A point on the left of an edge is not farther to the right than both its ends. -/
theorem dot_left {x y d : Pn} (hx : up x) (hy : up y) (hc : 0 ≤ cr y x) (hd : 0 ≤ d.1) : dotP x d ≤ 0 ∨ 0 ≤ dotP y d := by
  obtain ⟨x1, x2⟩ := x
  obtain ⟨y1, y2⟩ := y
  obtain ⟨d1, d2⟩ := d
  simp only [up, cr, dotP] at *
  rcases ilt 0 (x1 * d1 + x2 * d2) with h1 | h1
  · rcases ilt (y1 * d1 + y2 * d2) 0 with h2 | h2
    · exfalso
      have id : y2 * (x1 * d1 + x2 * d2) - x2 * (y1 * d1 + y2 * d2) = -(d1 * (y1 * x2 - y2 * x1)) := by grind
      have m0 := mul_nn hd hc
      have hx2 : 0 ≤ x2 := by omega
      have hy2 : 0 ≤ y2 := by omega
      have m1 := mul_nn hy2 (Int.le_of_lt h1)
      have m2 := mul_nn hx2 (show 0 ≤ -(y1 * d1 + y2 * d2) by omega)
      rw [Int.mul_neg] at m2
      have z1 : y2 = 0 := by
        rcases ilt 0 y2 with h | h
        · have := mul_pp h h1; omega
        · omega
      have z2 : x2 = 0 := by
        rcases ilt 0 x2 with h | h
        · have := mul_pp h (show 0 < -(y1 * d1 + y2 * d2) by omega)
          rw [Int.mul_neg] at this
          omega
        · omega
      subst z1 z2
      have y1p : 0 < y1 := by omega
      have := mul_nn (Int.le_of_lt y1p) hd
      simp at h2
      omega
    · exact .inr h2
  · exact .inl h1
theorem dot_vec (a b d : Pn) : dotP (vec a b) d = dotP b d - dotP a d := by simp only [dotP, vec]; grind
/-- Where a point lies among the points of a chain. -/
theorem between {xs : List Pn} {q : Pn} (h0 : ¬ ltY q (pt xs 0)) : ∀ n, n < xs.length → ¬ ltY (pt xs n) q → (∃ i, i ≤ n ∧ q = pt xs i) ∨ ∃ i, i + 1 ≤ n ∧ ltY (pt xs i) q ∧ ltY q (pt xs (i + 1))
  | 0, hn, h => by
    rcases ltY_tri q (pt xs 0) with h1 | h1 | h1
    · exact absurd h1 h0
    · exact .inl ⟨0, Nat.le_refl _, h1⟩
    · exact absurd h1 h
  | n + 1, hn, h => by
    rcases ltY_tri q (pt xs (n + 1)) with h1 | h1 | h1
    · rcases ltY_tri (pt xs n) q with h2 | h2 | h2
      · exact .inr ⟨n, Nat.le_refl _, h2, h1⟩
      · exact .inl ⟨n, by omega, h2.symm⟩
      · rcases between h0 n (by omega) (fun h' => ltY_irrefl _ (ltY_trans h' h2)) with ⟨i, hi, e⟩ | ⟨i, hi, e⟩
        · exact .inl ⟨i, by omega, e⟩
        · exact .inr ⟨i, by omega, e⟩
    · exact .inl ⟨n + 1, Nat.le_refl _, h1⟩
    · exact absurd h1 h
/-- To the right, the chain reaches as far as all points. -/
theorem chain_far {l : List Pn} (h : Asc l) {q d : Pn} (hq : q ∈ l) (hd : 0 ≤ d.1) : ∃ c ∈ chainP l, dotP q d ≤ dotP c d := by
  have h0 : 0 < l.length := List.length_pos_of_mem hq
  obtain ⟨c1, c2⟩ := chain_is h h0
  have hp := chain_pos h0
  have k1 : ¬ ltY q (pt (chainP l) 0) := by rw [chain_first h0]; exact asc_first h hq
  have k2 : ¬ ltY (pt (chainP l) ((chainP l).length - 1)) q := by rw [chain_end h0]; exact asc_last h hq
  rcases between k1 ((chainP l).length - 1) (by omega) k2 with ⟨i, hi, e⟩ | ⟨i, hi, e1, e2⟩
  · exact ⟨_, pt_mem (show i < (chainP l).length by omega), by rw [e]; exact Int.le_refl _⟩
  · have ht := c2 i (by omega) q hq e1 e2
    rw [tn_swap, tn_cr] at ht
    have hc : 0 ≤ cr (vec q (pt (chainP l) (i + 1))) (vec (pt (chainP l) i) q) := by rw [cr_neg]; exact ht
    rcases dot_left (up_vec.2 e1) (up_vec.2 e2) hc hd with h1 | h1
    · rw [dot_vec] at h1
      exact ⟨_, pt_mem (show i < (chainP l).length by omega), by omega⟩
    · rw [dot_vec] at h1
      exact ⟨_, pt_mem (show i + 1 < (chainP l).length by omega), by omega⟩
theorem hullS_far {all : List Pn} (ha : Asc all) {q d : Pn} (hq : q ∈ all) : ∃ c ∈ hullS all, dotP q d ≤ dotP c d := by
  rcases Nat.lt_or_ge all.length 3 with h | h
  · exact ⟨q, by rw [hullS, if_pos h]; exact hq, Int.le_refl _⟩
  · obtain ⟨h1, h2, h3⟩ := hull_chains ha h
    have hT := putAll_asc (hullS all)
    rcases ilt d.1 0 with hd | hd
    · obtain ⟨c, hc, e⟩ := chain_far (rv_asc ha) (q := negP q) (d := negP d) (mem_rv.2 (by rw [neg_neg]; exact hq)) (by show 0 ≤ -d.1; omega)
      have : negP c ∈ chainP all.reverse := by rw [chain_rev]; exact List.mem_map.2 ⟨c, hc, rfl⟩
      rw [← h3] at this
      refine ⟨negP c, (putAll_mem _ _).1 (List.mem_reverse.1 (chain_mem this)), ?_⟩
      rw [dot_neg1, dot_neg2] at e
      rw [dot_neg2] at e
      rw [dot_neg1]
      omega
    · obtain ⟨c, hc, e⟩ := chain_far ha hq hd
      rw [← h2] at hc
      exact ⟨c, (putAll_mem _ _).1 (chain_mem hc), e⟩
theorem maxD_hull {l : List Pn} {d : Pn} (h : 0 < l.length) : maxD (hullP l) d = maxD l d := by
  refine maxD_is (fun q hq => maxD_ge (hull_mem hq)) ?_
  obtain ⟨q, hq, e⟩ := maxD_mem (d := d) h
  obtain ⟨c, hc, e2⟩ := hullS_far (putAll_asc l) (q := q) (d := d) ((putAll_mem l q).2 hq)
  have := maxD_ge (d := d) (hull_mem (l := l) hc)
  exact ⟨c, hc, by omega⟩
def extD (xs : List Pn) (d : Pn) : Int := maxD xs d - minD xs d
theorem extD_sum {a b : List Pn} {d : Pn} (ha : 0 < a.length) (hb : 0 < b.length) : extD (hullP (smsP a b)) d = extD a d + extD b d := by
  have h0 : 0 < (smsP a b).length := by rw [sms_len]; exact Nat.mul_pos ha hb
  unfold extD
  rw [minD_max, minD_max, minD_max, maxD_hull h0, maxD_hull h0, maxD_sms ha hb, maxD_sms ha hb]
  omega
theorem extD_neg {a : List Pn} {d : Pn} (ha : 0 < a.length) : extD (hullP (a.map negP)) d = extD a d := by
  have h0 : 0 < (a.map negP).length := by rw [List.length_map]; exact ha
  unfold extD
  rw [minD_max, minD_max, maxD_hull h0, maxD_hull h0, maxD_neg ha, maxD_neg ha, show negP (negP d) = d from neg_neg d]
  omega
/-! ### Points in hulls turned around -/
theorem on2_neg (a b p : Pn) : on2 (negP a) (negP b) (negP p) = on2 a b p := by
  rw [Bool.eq_iff_iff, on2_iff, on2_iff, neg_tn]
  simp only [negP]
  omega
theorem on2_flip (a b p : Pn) : on2 a b p = on2 b a p := by
  have : tn a b p = 0 ↔ tn b a p = 0 := by
    have : tn b a p = -tn a b p := by simp only [tn, trn]; grind
    omega
  rw [Bool.eq_iff_iff, on2_iff, on2_iff, this, Int.min_comm, Int.max_comm, Int.min_comm a.2, Int.max_comm a.2]
theorem hasB_neg (h : List Pn) (p : Pn) (h0 : 0 < h.length) : hasB (h.map negP) (negP p) = hasB h p := by
  unfold hasB
  rw [List.length_map]
  split
  · rw [pt_neg h0, pt_neg (by omega), on2_neg]
  · rw [Bool.eq_iff_iff, List.all_eq_true, List.all_eq_true]
    have key : ∀ i, i < h.length → tn (pt (h.map negP) i) (pt (h.map negP) (nx (h.map negP) i)) (negP p) = tn (pt h i) (pt h (nx h i)) p := fun i hi => by
      have e : nx (h.map negP) i = nx h i := by simp [nx]
      rw [e, pt_neg hi, pt_neg (nx_lt i h0), neg_tn]
    constructor
    · intro H i hi
      have := H i hi
      rwa [key i (List.mem_range.1 hi)] at this
    · intro H i hi
      rw [key i (List.mem_range.1 hi)]
      exact H i hi
theorem hasB_turn (x y : List Pn) (p : Pn) (hx : 0 < x.length) (hy : 0 < y.length) : hasB (y ++ x) p = hasB (x ++ y) p := by
  have hl : (y ++ x).length = (x ++ y).length := by rw [List.length_append, List.length_append, Nat.add_comm]
  rcases Nat.lt_or_ge (x ++ y).length 3 with h | h
  · rw [List.length_append] at h
    match x, y, hx, hy with
    | [a], [b], _, _ => simp only [hasB]; simp [pt, px, py]; exact on2_flip _ _ _
    | _ :: _ :: _, _ :: _, _, _ => simp at h; omega
    | _ :: _, _ :: _ :: _, _, _ => simp at h; omega
  · have key : ∀ x y : List Pn, 3 ≤ (x ++ y).length → 0 < x.length → 0 < y.length → hasB (y ++ x) p = true → hasB (x ++ y) p = true := by
      intro x y h hx hy H
      have hl : (y ++ x).length = (x ++ y).length := by rw [List.length_append, List.length_append, Nat.add_comm]
      rw [hasB, if_neg (by omega), List.all_eq_true] at H
      refine hasB_yes (by omega) fun k hk => ?_
      have at1 : ∀ k, k < (x ++ y).length → pt (x ++ y) k = pt (y ++ x) (if k < x.length then y.length + k else k - x.length) := by
        intro k hk
        rw [List.length_append] at hk
        split
        · rename_i h1
          rw [pt_app1 h1, pt_app2 h1]
        · rename_i h1
          have := pt_app2 (xs := x) (ys := y) (i := k - x.length) (by omega)
          rw [show x.length + (k - x.length) = k by omega] at this
          rw [this, pt_app1 (by omega)]
      have hn : (x ++ y).length = x.length + y.length := List.length_append
      have hnx : nx (x ++ y) k = if k + 1 = x.length + y.length then 0 else k + 1 := by
        unfold nx
        rw [hn]
        split
        · rename_i e; rw [e, Nat.mod_self]
        · exact Nat.mod_eq_of_lt (by omega)
      have hn2 := nx_lt (xs := x ++ y) k (by omega)
      rw [at1 k hk, at1 _ hn2]
      have := of_decide_eq_true (H (if k < x.length then y.length + k else k - x.length) (List.mem_range.2 (by split <;> omega)))
      have e : nx (y ++ x) (if k < x.length then y.length + k else k - x.length) = (if nx (x ++ y) k < x.length then y.length + nx (x ++ y) k else nx (x ++ y) k - x.length) := by
        rw [hnx]
        unfold nx
        rw [List.length_append]
        by_cases c1 : k < x.length
        · rw [if_pos c1]
          by_cases c2 : k + 1 = x.length
          · rw [if_neg (show ¬ k + 1 = x.length + y.length by omega), if_neg (show ¬ k + 1 < x.length by omega)]
            rw [show y.length + k + 1 = y.length + x.length by omega, Nat.mod_self]
            omega
          · rw [if_neg (show ¬ k + 1 = x.length + y.length by omega), if_pos (show k + 1 < x.length by omega), Nat.mod_eq_of_lt (by omega)]
            omega
        · rw [if_neg c1]
          by_cases c2 : k + 1 = x.length + y.length
          · rw [if_pos c2, if_pos hx, Nat.mod_eq_of_lt (by omega)]
            omega
          · rw [if_neg c2, if_neg (show ¬ k + 1 < x.length by omega), Nat.mod_eq_of_lt (by omega)]
            omega
      rw [e] at this
      exact this
    rw [Bool.eq_iff_iff]
    exact ⟨key x y h hx hy, key y x (by omega) hy hx⟩
/-- A pen and its reflection hold the same points. -/
theorem has_refl {a : List Pn} (ha : penB a = true) (p : Pn) : hasB (hullP (a.map negP)) (negP p) = hasB a p := by
  obtain ⟨h1, h2, h3⟩ := pen_of ha
  have hA := putAll_asc a
  have hp := putAll_pos (l := a) (by omega)
  have e : putAll (a.map negP) = rv (putAll a) := asc_ext (putAll_asc _) (rv_asc hA) fun q => by
    rw [putAll_mem, mem_rv, putAll_mem, List.mem_map]
    constructor
    · rintro ⟨r, hr, rfl⟩; rw [neg_neg]; exact hr
    · intro h; exact ⟨_, h, neg_neg q⟩
  have h3' : hullS (putAll a) = a := h3
  show hasB (hullS (putAll (a.map negP))) (negP p) = hasB a p
  rw [e]
  conv => rhs; rw [← h3']
  generalize putAll a = all at *
  rcases Nat.lt_or_ge all.length 3 with h | h
  · rw [show hullS all = all from if_pos h, show hullS (rv all) = rv all from if_pos (by rw [rv_len]; exact h)]
    match all, hp with
    | [x], _ => exact hasB_neg [x] p (by simp)
    | [x, y], _ =>
      have : rv [x, y] = [negP y] ++ [negP x] := rfl
      rw [this, hasB_turn [negP x] [negP y] _ (by simp) (by simp)]
      exact hasB_neg [x, y] p (by simp)
    | _ :: _ :: _ :: _, _ => simp at h; omega
  · have g1 := chain_ge hA (by omega)
    have g2 := chain_ge (rv_asc hA) (by rw [rv_len]; omega)
    have s1 : 0 < (sideP all).length := by rw [side_len]; omega
    have s2 : 0 < (sideP all.reverse).length := by rw [side_len, chain_rev, List.length_map]; omega
    rw [show hullS all = sideP all ++ sideP all.reverse from if_neg (by omega), show hullS (rv all) = sideP (rv all) ++ sideP (rv all).reverse from if_neg (by rw [rv_len]; omega)]
    have e1 : sideP (rv all) = (sideP all.reverse).map negP := by rw [side_rev, map_negneg]
    have e2 : sideP (rv all).reverse = (sideP all).map negP := by rw [show (rv all).reverse = all.map negP by rw [rv, List.reverse_reverse], side_neg]
    rw [e1, e2, hasB_turn _ _ _ (by simpa using s1) (by simpa using s2), ← List.map_append]
    exact hasB_neg _ p (by rw [List.length_append]; omega)
end Go.Proofs.Ytcplmmoeglembaa
