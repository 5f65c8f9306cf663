/- Hulls: the hull of a hull, hulls turned around, extents of hulls, points in hulls. -/
import Derived.Test.YtcplmmoeglembaaCvx
namespace Go.Proofs.Ytcplmmoeglembaa
open Go Go.RowKit
set_option linter.unusedVariables false
set_option linter.unusedSimpArgs false

theorem asc_lt {l : List Pn} (h : Asc l) {i j : Nat} (hij : i < j) (hj : j < l.length) : ltY (pt l i) (pt l j) := by
  have := List.pairwise_iff_getElem.1 h i j (by omega) hj hij
  rwa [pt_at (by omega), pt_at hj] at this
theorem asc_first {l : List Pn} (h : Asc l) {q : Pn} (hq : q ∈ l) : ¬ ltY q (pt l 0) := by
  obtain ⟨j, hj, rfl⟩ := List.getElem_of_mem hq
  rw [pt_at hj]
  by_cases e : j = 0
  · rw [e]; exact ltY_irrefl _
  · exact fun h' => ltY_irrefl _ (ltY_trans h' (asc_lt h (by omega) hj))
theorem asc_last {l : List Pn} (h : Asc l) {q : Pn} (hq : q ∈ l) : ¬ ltY (pt l (l.length - 1)) q := by
  obtain ⟨j, hj, rfl⟩ := List.getElem_of_mem hq
  rw [pt_at hj]
  by_cases e : j = l.length - 1
  · rw [e]; exact ltY_irrefl _
  · exact fun h' => ltY_irrefl _ (ltY_trans h' (asc_lt h (by omega) (by omega)))
theorem chain_first {l : List Pn} (h : 0 < l.length) : pt (chainP l) 0 = pt l 0 := by
  have h1 := chain_head l
  have h2 := chain_pos h
  rw [List.head?_eq_getElem?, List.head?_eq_getElem?, List.getElem?_eq_getElem h2, List.getElem?_eq_getElem h] at h1
  injection h1 with h1
  rw [← pt_at h2, ← pt_at h, h1]
theorem chain_end {l : List Pn} (h : 0 < l.length) : pt (chainP l) ((chainP l).length - 1) = pt l (l.length - 1) := by
  have h1 := chain_last h
  have h2 := chain_pos h
  rw [List.getElem?_eq_getElem (by omega), List.getElem?_eq_getElem (by omega)] at h1
  injection h1 with h1
  rw [← pt_at (by omega), ← pt_at (by omega), h1]
theorem chain_is {l : List Pn} (h : Asc l) (h0 : 0 < l.length) : Cvx (chainP l) ∧ Lft (· ∈ l) (chainP l) := by
  have := chain_cvx h l.length h0 (Nat.le_refl _)
  rwa [List.take_length] at this
/-- Points between a chain and its points have the same chain. -/
theorem chain_between {l m : List Pn} (hl : Asc l) (hm : Asc m) (h0 : 0 < l.length) (hs : ∀ q ∈ m, q ∈ l) (hc : ∀ q ∈ chainP l, q ∈ m) : chainP m = chainP l := by
  obtain ⟨c1, c2⟩ := chain_is hl h0
  have p0 := chain_pos h0
  have m0 : 0 < m.length := List.length_pos_of_mem (hc _ (pt_mem p0))
  obtain ⟨d1, d2⟩ := chain_is hm m0
  have q0 := chain_pos m0
  have f1 : pt m 0 = pt l 0 := by
    have h1 := asc_first hm (hc _ (pt_mem p0))
    rw [chain_first h0] at h1
    have h2 := asc_first hl (hs _ (pt_mem m0))
    rcases ltY_tri (pt m 0) (pt l 0) with h | h | h
    · exact absurd h h2
    · exact h
    · exact absurd h h1
  have f2 : pt m (m.length - 1) = pt l (l.length - 1) := by
    have h1 := asc_last hm (hc _ (pt_mem (show (chainP l).length - 1 < (chainP l).length by omega)))
    rw [chain_end h0] at h1
    have h2 := asc_last hl (hs _ (pt_mem (show m.length - 1 < m.length by omega)))
    rcases ltY_tri (pt m (m.length - 1)) (pt l (l.length - 1)) with h | h | h
    · exact absurd h h1
    · exact h
    · exact absurd h h2
  refine cvx_unique (L := (· ∈ m)) d1 c1 d2 (fun i hi q hq => c2 i hi q (hs q hq)) q0 p0 (fun i hi => chain_mem (pt_mem hi)) (fun i hi => hc _ (pt_mem hi)) ?_ ?_ ?_
  · rw [chain_first m0, chain_first h0, f1]
  · rw [chain_end m0, chain_end h0, f2]
  · intro q hq
    rw [chain_end m0]
    exact asc_last hm hq

/-! ### Signs changed -/
theorem neg_neg (p : Pn) : negP (negP p) = p := by simp only [negP]; refine Prod.ext ?_ ?_ <;> simp only <;> omega
theorem neg_lt {p q : Pn} : ltY (negP p) (negP q) ↔ ltY q p := by simp only [ltY, negP]; omega
theorem neg_tn (a b c : Pn) : tn (negP a) (negP b) (negP c) = tn a b c := by simp only [tn, trn, negP]; grind
theorem pt_neg {xs : List Pn} {k : Nat} (h : k < xs.length) : pt (xs.map negP) k = negP (pt xs k) := by rw [← pt_at (by simpa using h), ← pt_at h, List.getElem_map]
theorem keep_neg (xs : List Pn) (p : Pn) : ∀ k, k ≤ xs.length → keepN (xs.map negP) (negP p) k = keepN xs p k
  | 0, _ => rfl
  | 1, _ => rfl
  | k + 2, h => by
    rw [keepN.eq_3, keepN.eq_3, pt_neg (by omega), pt_neg (by omega), neg_tn, keep_neg xs p (k + 1) (by omega)]
theorem push_neg (xs : List Pn) (p : Pn) : pushP (xs.map negP) (negP p) = (pushP xs p).map negP := by
  rw [pushP, pushP, List.length_map, keep_neg _ _ _ (Nat.le_refl _), List.map_append, List.map_take]
  rfl
theorem foldl_neg (l : List Pn) : ∀ xs : List Pn, (l.map negP).foldl pushP (xs.map negP) = (l.foldl pushP xs).map negP := by
  induction l with
  | nil => intro xs; rfl
  | cons p l ih => intro xs; rw [List.map_cons, List.foldl_cons, List.foldl_cons, push_neg, ih]
theorem chain_neg (l : List Pn) : chainP (l.map negP) = (chainP l).map negP := foldl_neg l []
theorem side_neg (l : List Pn) : sideP (l.map negP) = (sideP l).map negP := by rw [sideP, sideP, chain_neg, List.length_map, List.map_take]
/-- Points turned around: ascending again. -/
def rv (l : List Pn) : List Pn := (l.map negP).reverse
theorem rv_eq (l : List Pn) : rv l = l.reverse.map negP := by rw [rv, List.map_reverse]
theorem rv_asc {l : List Pn} (h : Asc l) : Asc (rv l) := by
  rw [rv, Asc, List.pairwise_reverse, List.pairwise_map]
  exact h.imp fun h => neg_lt.2 h
theorem mem_rv {l : List Pn} {q : Pn} : q ∈ rv l ↔ negP q ∈ l := by
  rw [rv, List.mem_reverse, List.mem_map]
  constructor
  · rintro ⟨r, hr, rfl⟩; rw [neg_neg]; exact hr
  · intro h; exact ⟨_, h, neg_neg q⟩
theorem rv_len (l : List Pn) : (rv l).length = l.length := by simp [rv]
theorem map_negneg (l : List Pn) : (l.map negP).map negP = l := by
  rw [List.map_map]
  conv => rhs; rw [← List.map_id l]
  exact List.map_congr_left fun p _ => neg_neg p
theorem chain_rev (l : List Pn) : chainP l.reverse = (chainP (rv l)).map negP := by rw [rv_eq, chain_neg, map_negneg]
theorem side_rev (l : List Pn) : sideP l.reverse = (sideP (rv l)).map negP := by rw [rv_eq, side_neg, map_negneg]
theorem side_of {l m : List Pn} (h : chainP l = chainP m) : sideP l = sideP m := by rw [sideP, sideP, h]
theorem putAll_self {l : List Pn} (h : Asc l) : putAll l = l := asc_ext (putAll_asc l) h (putAll_mem l)
theorem chain_ge {l : List Pn} (h : Asc l) (h2 : 2 ≤ l.length) : 2 ≤ (chainP l).length := chain_two h2 (asc_ends h h2)
/-- All of a chain but its last point. -/
theorem mem_side {l : List Pn} {q : Pn} (h : q ∈ chainP l) : q ∈ sideP l ∨ q = pt (chainP l) ((chainP l).length - 1) := by
  obtain ⟨j, hj, rfl⟩ := List.getElem_of_mem h
  by_cases e : j = (chainP l).length - 1
  · right; rw [pt_at hj, e]
  · left
    rw [sideP, List.mem_take_iff_getElem]
    exact ⟨j, by omega, rfl⟩
theorem side_zero {l : List Pn} (h : 2 ≤ (chainP l).length) : pt (chainP l) 0 ∈ sideP l := by
  rw [sideP, List.mem_take_iff_getElem]
  exact ⟨0, by omega, pt_at (by omega)⟩
/-- The points of a hull, in order: what its chains are. -/
theorem hull_chains {all : List Pn} (ha : Asc all) (h3 : 3 ≤ all.length) : (∀ q, q ∈ putAll (hullS all) → q ∈ all) ∧ chainP (putAll (hullS all)) = chainP all ∧ chainP (putAll (hullS all)).reverse = chainP all.reverse := by
  have hE : hullS all = sideP all ++ sideP all.reverse := by rw [hullS, if_neg (by omega)]
  have hsub : ∀ q, q ∈ putAll (hullS all) → q ∈ all := fun q hq => hullS_mem ((putAll_mem _ _).1 hq)
  have hT := putAll_asc (hullS all)
  have g1 := chain_ge ha (by omega)
  have g2 := chain_ge (rv_asc ha) (by rw [rv_len]; omega)
  have hmem : ∀ q, q ∈ putAll (hullS all) ↔ q ∈ sideP all ∨ negP q ∈ sideP (rv all) := fun q => by
    rw [putAll_mem, hE, List.mem_append, side_rev, List.mem_map]
    constructor
    · rintro (h | ⟨r, hr, rfl⟩)
      · exact .inl h
      · exact .inr (by rw [neg_neg]; exact hr)
    · rintro (h | h)
      · exact .inl h
      · exact .inr ⟨_, h, neg_neg q⟩
  have f1 : pt (rv all) 0 = negP (pt all (all.length - 1)) := by
    rw [rv, pt_rev (by simp; omega), List.length_map, pt_neg (by omega)]
    rfl
  have f2 : pt (rv all) (all.length - 1) = negP (pt all 0) := by
    rw [rv, pt_rev (by simp; omega), List.length_map, pt_neg (by omega)]
    rw [show all.length - 1 - (all.length - 1) = 0 by omega]
  have hU : ∀ q ∈ chainP all, q ∈ putAll (hullS all) := fun q hq => by
    rw [hmem]
    rcases mem_side hq with h | h
    · exact .inl h
    · right
      rw [h, chain_end (by omega)]
      have := side_zero g2
      rwa [chain_first (by rw [rv_len]; omega), f1] at this
  have hV : ∀ q ∈ chainP (rv all), negP q ∈ putAll (hullS all) := fun q hq => by
    rw [hmem, neg_neg]
    rcases mem_side hq with h | h
    · exact .inr h
    · left
      rw [h, chain_end (by rw [rv_len]; omega), rv_len, f2, neg_neg]
      have := side_zero g1
      rwa [chain_first (by omega)] at this
  refine ⟨hsub, chain_between ha hT (by omega) hsub hU, ?_⟩
  have := chain_between (rv_asc ha) (rv_asc hT) (by rw [rv_len]; omega) (fun q hq => mem_rv.2 (hsub _ (mem_rv.1 hq))) (fun q hq => mem_rv.2 (hV q hq))
  rw [chain_rev, chain_rev, this]
theorem hull_idem (xs : List Pn) : hullP (hullP xs) = hullP xs := by
  have ha := putAll_asc xs
  show hullS (putAll (hullS (putAll xs))) = hullS (putAll xs)
  generalize putAll xs = all at *
  rcases Nat.lt_or_ge all.length 3 with h | h
  · have e : hullS all = all := if_pos h
    rw [e, putAll_self ha, e]
  · obtain ⟨h1, h2, h3⟩ := hull_chains ha h
    have hE : hullS all = sideP all ++ sideP all.reverse := by rw [hullS, if_neg (by omega)]
    have hT := putAll_asc (hullS all)
    have s1 := side_of h2
    have s2 := side_of h3
    have g1 := chain_ge ha (by omega)
    have g2 := chain_ge (rv_asc ha) (by rw [rv_len]; omega)
    rw [← h2] at g1
    have l1 := chain_len (putAll (hullS all))
    rcases Nat.lt_or_ge (putAll (hullS all)).length 3 with hl | hl
    · have t2 : (putAll (hullS all)).length = 2 := by omega
      have e : hullS (putAll (hullS all)) = putAll (hullS all) := if_pos hl
      rw [e]
      conv => rhs; rw [hE, ← s1, ← s2]
      have l2 := chain_len (putAll (hullS all)).reverse
      rw [List.length_reverse] at l2
      have g2' : 2 ≤ (chainP (putAll (hullS all)).reverse).length := by rw [h3, chain_rev, List.length_map]; exact g2
      generalize putAll (hullS all) = T at *
      have c1 := chain_first (l := T) (by omega)
      have c2 := chain_first (l := T.reverse) (by simp; omega)
      rw [pt_rev (by omega), t2] at c2
      match T, t2 with
      | [a, b], _ =>
        have k1 : (chainP [a, b]).length = 2 := by simp at l1; omega
        have k2 : (chainP [a, b].reverse).length = 2 := by simp at l2 ⊢; simp at g2'; omega
        rw [sideP, sideP, k1, k2]
        match hU : chainP [a, b], k1, hV : chainP [a, b].reverse, k2 with
        | [u, u'], _, [v, v'], _ =>
          rw [hU] at c1
          rw [hV] at c2
          simp [pt, px, py] at c1 c2
          simp
          exact ⟨Prod.ext c1.1.symm c1.2.symm, Prod.ext c2.1.symm c2.2.symm⟩
    · rw [hullS, if_neg (by omega), s1, s2, hE]
theorem hullS_len2 (l : List Pn) (h : 2 ≤ l.length) : (hullS l).length ≤ 2 * l.length - 2 := by
  unfold hullS
  split
  · omega
  · have h1 := chain_len l
    have h2 := chain_len l.reverse
    rw [List.length_append, side_len, side_len]
    rw [List.length_reverse] at h2
    omega
theorem hull_small {l : List Pn} (h : l.length ≤ 9) : (hullP l).length ≤ 16 := by
  have h1 := putAll_len l
  unfold hullP
  rcases Nat.lt_or_ge (putAll l).length 2 with h2 | h2
  · have e : hullS (putAll l) = putAll l := if_pos (by omega)
    rw [e]; omega
  · have := hullS_len2 _ h2
    omega
theorem allOk_sub {l m : List Pn} (h : allOk l = true) (hs : ∀ q ∈ m, q ∈ l) : allOk m = true := List.all_eq_true.2 fun p hp => List.all_eq_true.1 h p (hs p hp)
/-- Hulls are pens. -/
theorem pen_hull {l : List Pn} (h0 : 0 < l.length) (ho : allOk (hullP l) = true) (hl : (hullP l).length ≤ 16) : penB (hullP l) = true := by
  have h1 := hull_pos h0
  simp only [penB, Bool.and_eq_true, decide_eq_true_eq]
  exact ⟨⟨⟨by omega, hl⟩, ho⟩, hull_idem l⟩
/-! ### The same points, the same hull -/
theorem hull_same {l m : List Pn} (h : ∀ q, q ∈ l ↔ q ∈ m) : hullP l = hullP m := by
  have : putAll l = putAll m := asc_ext (putAll_asc l) (putAll_asc m) fun q => by rw [putAll_mem, putAll_mem, h]
  rw [hullP, hullP, this]
theorem sms_comm {a b : List Pn} (q : Pn) : q ∈ smsP a b ↔ q ∈ smsP b a := by
  have key : ∀ {a b : List Pn}, q ∈ smsP a b → q ∈ smsP b a := by
    intro a b h
    obtain ⟨p, hp, h⟩ := List.mem_flatMap.1 h
    obtain ⟨r, hr, rfl⟩ := List.mem_map.1 h
    refine List.mem_flatMap.2 ⟨r, hr, List.mem_map.2 ⟨p, hp, ?_⟩⟩
    exact Prod.ext (Int.add_comm _ _) (Int.add_comm _ _)
  exact ⟨key, key⟩
theorem mk_comm (a b : List Pn) : mkC a b = mkC b a ∧ mkR a b = mkR b a := by
  have e : hullP (smsP a b) = hullP (smsP b a) := hull_same sms_comm
  have : mkC a b = mkC b a := by rw [mkC, mkC, e, Bool.and_comm]
  exact ⟨this, by rw [mkR, mkR, this, e]⟩
end Go.Proofs.Ytcplmmoeglembaa
