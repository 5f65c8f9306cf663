/- Chains of hulls: they are convex, all points lie on their left, and no other chain is so. -/
import Derived.Test.YtcplmmoeglembaaSums
namespace Go.Proofs.Ytcplmmoeglembaa
open Go Go.RowKit
set_option linter.unusedVariables false
set_option linter.unusedSimpArgs false

/-! ### Vectors that point upwards -/
def cr (u v : Pn) : Int := u.1 * v.2 - u.2 * v.1
def up (u : Pn) : Prop := 0 < u.2 ∨ (u.2 = 0 ∧ 0 < u.1)
def vec (a b : Pn) : Pn := (b.1 - a.1, b.2 - a.2)
theorem up_vec {a b : Pn} : up (vec a b) ↔ ltY a b := by unfold up vec ltY; simp only; omega
theorem tn_cr (a b c : Pn) : tn a b c = cr (vec a b) (vec b c) := by simp only [tn, trn, cr, vec]; grind
theorem tn_swap (a b c : Pn) : tn a c b = -tn a b c := by simp only [tn, trn]; grind
theorem ilt (a b : Int) : a < b ∨ b ≤ a := by omega
theorem mul_nn {a b : Int} (ha : 0 ≤ a) (hb : 0 ≤ b) : 0 ≤ a * b := Int.mul_nonneg ha hb
theorem mul_pp {a b : Int} (ha : 0 < a) (hb : 0 < b) : 0 < a * b := Int.mul_pos ha hb
/-- Directions upwards are ordered. -/
theorem cr_trans {u v w : Pn} (hu : up u) (hv : up v) (hw : up w) (h1 : 0 ≤ cr u v) (h2 : 0 ≤ cr v w) : 0 ≤ cr u w ∧ (0 < cr u v ∨ 0 < cr v w → 0 < cr u w) := by
  obtain ⟨u1, u2⟩ := u
  obtain ⟨v1, v2⟩ := v
  obtain ⟨w1, w2⟩ := w
  simp only [up, cr] at *
  have id : v2 * (u1 * w2 - u2 * w1) = u2 * (v1 * w2 - v2 * w1) + w2 * (u1 * v2 - u2 * v1) := by grind
  rcases hv with hv | ⟨hv, hv'⟩
  · have hu2 : 0 ≤ u2 := by omega
    have hw2 : 0 ≤ w2 := by omega
    have a1 := mul_nn hu2 h2
    have a2 := mul_nn hw2 h1
    constructor
    · rcases ilt (u1 * w2 - u2 * w1) 0 with hn | hn
      · have := mul_pp hv (show 0 < -(u1 * w2 - u2 * w1) by omega)
        rw [Int.mul_neg] at this
        omega
      · exact hn
    · intro hs
      rcases ilt 0 (u1 * w2 - u2 * w1) with hn | hn
      · exact hn
      · exfalso
        have := mul_nn (Int.le_of_lt hv) (show 0 ≤ -(u1 * w2 - u2 * w1) by omega)
        rw [Int.mul_neg] at this
        rcases hs with hs | hs
        · rcases hw with hw | ⟨hw, hw'⟩
          · have := mul_pp hw hs; omega
          · subst hw
            have := mul_pp hv hw'
            rcases hu with hu | ⟨hu, _⟩
            · have := mul_pp hv hw'
              have h3 : 0 ≤ -(v2 * w1) := by simpa using h2
              omega
            · have h3 : 0 ≤ -(v2 * w1) := by simpa using h2
              omega
        · rcases hu with hu | ⟨hu, hu'⟩
          · have := mul_pp hu hs; omega
          · subst hu
            rcases hw with hw | ⟨hw, hw'⟩
            · have h4 : 0 < u1 * v2 := mul_pp hu' hv
              have h5 : 0 < u1 * v2 - 0 * v1 := by omega
              have := mul_pp hw h5
              omega
            · subst hw
              have := mul_pp hv hw'
              have h3 : 0 ≤ -(v2 * w1) := by simpa using h2
              omega
  · subst hv
    have e1 : 0 ≤ -(u2 * v1) := by simpa using h1
    have e2 : 0 ≤ v1 * w2 := by simpa using h2
    have hu0 : u2 = 0 := by
      rcases hu with hu | hu
      · have := mul_pp hu hv'; omega
      · exact hu.1
    subst hu0
    have hu1 : 0 < u1 := by omega
    have g1 : (u1 * w2 - 0 * w1) = u1 * w2 := by omega
    rw [g1]
    have hw2 : 0 ≤ w2 := by omega
    refine ⟨mul_nn (Int.le_of_lt hu1) hw2, fun hs => ?_⟩
    rcases hs with hs | hs
    · simp at hs
    · have hs' : 0 < v1 * w2 := by simpa using hs
      have : 0 < w2 := by
        rcases ilt 0 w2 with h | h
        · exact h
        · have : w2 = 0 := by omega
          subst this
          simp at hs'
      exact mul_pp hu1 this
theorem cr_neg (u v : Pn) : cr v u = -cr u v := by unfold cr; grind
def add2 (u v : Pn) : Pn := (u.1 + v.1, u.2 + v.2)
theorem vec_add (a b c : Pn) : vec a c = add2 (vec a b) (vec b c) := by simp only [vec, add2]; refine Prod.ext ?_ ?_ <;> simp only <;> omega
theorem cr_addR (u v w : Pn) : cr u (add2 v w) = cr u v + cr u w := by simp only [cr, add2]; grind
theorem cr_addL (u v w : Pn) : cr (add2 u v) w = cr u w + cr v w := by simp only [cr, add2]; grind
theorem cr_self (u : Pn) : cr u u = 0 := by unfold cr; grind
theorem tA {a b c q : Pn} (hab : ltY a b) (hbc : ltY b c) (hcq : ltY c q) (h1 : 0 < tn a b c) (h2 : 0 < tn b c q) : 0 < tn a b q := by
  rw [tn_cr] at *
  have := (cr_trans (up_vec.2 hab) (up_vec.2 hbc) (up_vec.2 hcq) (by omega) (by omega)).2 (.inl h1)
  rw [vec_add b c q, cr_addR]
  omega
theorem tD {a b c q : Pn} (hab : ltY a b) (hbq : ltY b q) (hqc : ltY q c) (h1 : 0 < tn a b c) (h2 : 0 ≤ tn b c q) : 0 < tn a b q := by
  rw [tn_swap, tn_cr] at h2
  rw [tn_cr] at h1 ⊢
  rw [vec_add b q c, cr_addR] at h1
  have h3 : 0 ≤ cr (vec q c) (vec b q) := by rw [cr_neg]; exact h2
  rcases ilt (cr (vec a b) (vec q c)) 0 with h | h
  · omega
  · have := cr_trans (up_vec.2 hab) (up_vec.2 hqc) (up_vec.2 hbq) h h3
    rcases ilt 0 (cr (vec a b) (vec q c)) with h4 | h4
    · exact this.2 (.inl h4)
    · omega
theorem tB {a b p q : Pn} (haq : ltY a q) (hqb : ltY q b) (hbp : ltY b p) (h1 : 0 ≤ tn a b q) (h2 : tn a b p ≤ 0) : 0 ≤ tn a p q := by
  rw [tn_swap, tn_cr] at h1
  rw [tn_cr, vec_add a q b, cr_addL] at h2
  rw [tn_swap, tn_cr, vec_add q b p, cr_addR]
  have e1 := cr_neg (vec a q) (vec q b)
  have e2 := cr_neg (vec b p) (vec a q)
  have e3 := cr_neg (vec b p) (vec q b)
  rcases ilt (cr (vec b p) (vec q b)) 0 with h | h
  · omega
  · have := (cr_trans (up_vec.2 hbp) (up_vec.2 hqb) (up_vec.2 haq) h (by omega)).1
    omega
theorem tC {a b p q : Pn} (hab : ltY a b) (hbq : ltY b q) (hqp : ltY q p) (h1 : 0 ≤ tn b p q) (h2 : tn a b p ≤ 0) : 0 ≤ tn a p q := by
  rw [tn_swap, tn_cr] at h1
  rw [tn_cr, vec_add b q p, cr_addR] at h2
  rw [tn_swap, tn_cr, vec_add a b q, cr_addL]
  have e1 := cr_neg (vec b q) (vec q p)
  have e2 := cr_neg (vec a b) (vec b q)
  have e3 := cr_neg (vec a b) (vec q p)
  rcases ilt (cr (vec b q) (vec a b)) 0 with h | h
  · omega
  · have := (cr_trans (up_vec.2 hqp) (up_vec.2 hbq) (up_vec.2 hab) (by omega) h).1
    omega

/-! ### Chains -/
/-- Neighbours ascend, and turn left. -/
def Cvx (xs : List Pn) : Prop := (∀ i, i + 1 < xs.length → ltY (pt xs i) (pt xs (i + 1))) ∧ ∀ i, i + 2 < xs.length → 0 < tn (pt xs i) (pt xs (i + 1)) (pt xs (i + 2))
/-- The points L between neighbours lie on their left. -/
def Lft (L : Pn → Prop) (xs : List Pn) : Prop := ∀ i, i + 1 < xs.length → ∀ q, L q → ltY (pt xs i) q → ltY q (pt xs (i + 1)) → 0 ≤ tn (pt xs i) (pt xs (i + 1)) q
theorem Cvx.lt {xs : List Pn} (h : Cvx xs) {i : Nat} : ∀ j, i < j → j < xs.length → ltY (pt xs i) (pt xs j)
  | 0, hij, _ => absurd hij (by omega)
  | j + 1, hij, hj => by
    by_cases e : i = j
    · subst e; exact h.1 i hj
    · exact ltY_trans (h.lt j (by omega) (by omega)) (h.1 j hj)
theorem pt_app1 {xs ys : List Pn} {i : Nat} (h : i < xs.length) : pt (xs ++ ys) i = pt xs i := by
  rw [← pt_at (by rw [List.length_append]; omega), ← pt_at h, List.getElem_append_left h]
theorem pt_app2 {xs ys : List Pn} {i : Nat} (h : i < ys.length) : pt (xs ++ ys) (xs.length + i) = pt ys i := by
  rw [← pt_at (by rw [List.length_append]; omega), ← pt_at h, List.getElem_append_right (by omega)]
  congr 1
  omega
/-- What holds of the last edge while points go. -/
theorem keep_last {xs : List Pn} {p : Pn} {L : Pn → Prop} (hc : Cvx xs) (hL : Lft L xs) (hp : ∀ i, i < xs.length → ltY (pt xs i) p) : ∀ k, 1 ≤ k → k ≤ xs.length →
    (∀ q, L q → ltY (pt xs (k - 1)) q → ltY q p → 0 ≤ tn (pt xs (k - 1)) p q) →
    (∀ q, L q → ltY (pt xs (keepN xs p k - 1)) q → ltY q p → 0 ≤ tn (pt xs (keepN xs p k - 1)) p q) ∧ (2 ≤ keepN xs p k → 0 < tn (pt xs (keepN xs p k - 2)) (pt xs (keepN xs p k - 1)) p)
  | 0, h, _, _ => absurd h (by omega)
  | 1, _, _, h => ⟨h, fun h => absurd h (by simp [keepN])⟩
  | k + 2, _, hk, h => by
    rw [keepN.eq_3]
    split
    · rename_i ht
      refine keep_last hc hL hp (k + 1) (by omega) (by omega) fun q hq h1 h2 => ?_
      have h1 : ltY (pt xs k) q := h1
      have e1 := hc.1 k (by omega)
      have e2 := hp (k + 1) (by omega)
      show 0 ≤ tn (pt xs k) p q
      rcases ltY_tri q (pt xs (k + 1)) with h3 | h3 | h3
      · exact tB h1 h3 e2 (hL k (by omega) q hq h1 h3) ht
      · rw [h3, tn_swap]; omega
      · exact tC e1 h3 h2 (h q hq h3 h2) ht
    · rename_i ht
      exact ⟨h, fun _ => by show 0 < tn (pt xs k) (pt xs (k + 1)) p; omega⟩
/-- A chain with a further point. -/
theorem push_cvx {xs : List Pn} {p : Pn} {L : Pn → Prop} (hc : Cvx xs) (hL : Lft L xs) (h0 : 0 < xs.length) (hp : ∀ i, i < xs.length → ltY (pt xs i) p) (hlast : ∀ q, L q → ¬ ltY (pt xs (xs.length - 1)) q) :
    Cvx (pushP xs p) ∧ Lft (fun q => L q ∨ q = p) (pushP xs p) := by
  obtain ⟨h1, h2⟩ := keep_last hc hL hp xs.length (by omega) (Nat.le_refl _) (fun q hq h => absurd h (hlast q hq))
  have hk := keepN_le xs p xs.length
  have hk0 := keepN_pos xs p xs.length h0
  have hLp : ∀ q, L q → ltY q p := fun q hq => by
    have := hp (xs.length - 1) (by omega)
    rcases ltY_tri q (pt xs (xs.length - 1)) with h | h | h
    · exact ltY_trans h this
    · rw [h]; exact this
    · exact absurd h (hlast q hq)
  unfold pushP
  generalize keepN xs p xs.length = m at *
  have hlen : (xs.take m ++ [p]).length = m + 1 := by rw [List.length_append, List.length_take, List.length_singleton]; omega
  have hA : ∀ i, i < m → pt (xs.take m ++ [p]) i = pt xs i := fun i hi => by rw [pt_app1 (by rw [List.length_take]; omega), pt_take hi]
  have hB : pt (xs.take m ++ [p]) m = p := by
    have := pt_app2 (xs := xs.take m) (ys := [p]) (i := 0) (by simp)
    rw [List.length_take, Nat.min_eq_left hk] at this
    exact this
  refine ⟨⟨fun i hi => ?_, fun i hi => ?_⟩, fun i hi q hq hq1 hq2 => ?_⟩
  · rw [hlen] at hi
    by_cases e : i + 1 = m
    · rw [e, hA i (by omega), hB]; exact hp i (by omega)
    · rw [hA i (by omega), hA (i + 1) (by omega)]; exact hc.1 i (by omega)
  · rw [hlen] at hi
    by_cases e : i + 2 = m
    · rw [e, hB, hA i (by omega), hA (i + 1) (by omega)]
      have := h2 (by omega)
      rw [show m - 2 = i by omega, show m - 1 = i + 1 by omega] at this
      exact this
    · rw [hA i (by omega), hA (i + 1) (by omega), hA (i + 2) (by omega)]; exact hc.2 i (by omega)
  · rw [hlen] at hi
    by_cases e : i + 1 = m
    · rw [e, hB] at hq2 ⊢
      rw [hA i (by omega)] at hq1 ⊢
      rcases hq with hq | hq
      · rw [show i = m - 1 by omega] at hq1 ⊢
        exact h1 q hq hq1 hq2
      · rw [hq] at hq2; exact absurd hq2 (ltY_irrefl p)
    · rw [hA i (by omega)] at hq1 ⊢
      rw [hA (i + 1) (by omega)] at hq2 ⊢
      rcases hq with hq | hq
      · exact hL i (by omega) q hq hq1 hq2
      · rw [hq] at hq2
        exact absurd (ltY_trans hq2 (hp (i + 1) (by omega))) (ltY_irrefl p)
/-- The chain of ascending points. -/
theorem chain_cvx {xs : List Pn} (h : Asc xs) : ∀ k, 1 ≤ k → k ≤ xs.length → Cvx (chainP (xs.take k)) ∧ Lft (· ∈ xs.take k) (chainP (xs.take k))
  | 0, h1, _ => absurd h1 (by omega)
  | 1, _, hk => by
    have e : chainP (xs.take 1) = [pt xs 0] := by
      rw [chn_step (k := 0) (by omega)]
      rfl
    rw [e]
    exact ⟨⟨fun i hi => absurd hi (by simp), fun i hi => absurd hi (by simp)⟩, fun i hi => absurd hi (by simp)⟩
  | k + 2, _, hk => by
    obtain ⟨h1, h2⟩ := chain_cvx h (k + 1) (by omega) (by omega)
    have hasc : ∀ q ∈ xs.take (k + 1), ltY q (pt xs (k + 1)) := fun q hq => by
      obtain ⟨j, hj, rfl⟩ := List.getElem_of_mem hq
      rw [List.length_take] at hj
      rw [List.getElem_take, ← pt_at (show k + 1 < xs.length by omega)]
      exact List.pairwise_iff_getElem.1 h j (k + 1) (by omega) (by omega) (by omega)
    have hpos := chain_take_pos (xs := xs) (k := k + 1) (by omega) (by omega)
    have hl := chain_last (l := xs.take (k + 1)) (by rw [List.length_take]; omega)
    have hlst : pt (chainP (xs.take (k + 1))) ((chainP (xs.take (k + 1))).length - 1) = pt xs k := by
      rw [List.length_take, Nat.min_eq_left (by omega), List.getElem?_eq_getElem (by omega), List.getElem?_take, if_pos (by omega), List.getElem?_eq_getElem (by omega)] at hl
      injection hl with hl
      rw [← pt_at (by omega), hl, ← pt_at (by omega)]
      rfl
    have hle : ∀ q ∈ xs.take (k + 1), ¬ ltY (pt xs k) q := fun q hq => by
      obtain ⟨j, hj, rfl⟩ := List.getElem_of_mem hq
      rw [List.length_take] at hj
      rw [List.getElem_take]
      by_cases e : j = k
      · subst e
        rw [pt_at (by omega)]
        exact ltY_irrefl _
      · have := List.pairwise_iff_getElem.1 h j k (by omega) (by omega) (by omega)
        rw [← pt_at (show k < xs.length by omega)]
        exact fun h' => ltY_irrefl _ (ltY_trans this h')
    have hp := push_cvx (p := pt xs (k + 1)) h1 h2 hpos (fun i hi => hasc _ (chain_mem (pt_mem hi))) (fun q hq => by rw [hlst]; exact hle q hq)
    rw [← chn_step (by omega)] at hp
    refine ⟨hp.1, fun i hi q hq => hp.2 i hi q ?_⟩
    rw [List.take_succ_eq_append_getElem (show k + 1 < xs.length by omega), List.mem_append, List.mem_singleton, pt_at (by omega)] at hq
    exact hq
/-- All points behind an edge lie on its left. -/
theorem left_all {xs : List Pn} {L : Pn → Prop} (hc : Cvx xs) (hL : Lft L xs) (hlast : ∀ q, L q → ¬ ltY (pt xs (xs.length - 1)) q) : ∀ d i, xs.length - 1 - i = d → i + 1 < xs.length → ∀ q, L q → ltY (pt xs (i + 1)) q → 0 < tn (pt xs i) (pt xs (i + 1)) q
  | 0, i, hd, hi, q, hq, h => by omega
  | d + 1, i, hd, hi, q, hq, h => by
    by_cases e : i + 2 = xs.length
    · have := hlast q hq
      rw [show xs.length - 1 = i + 1 by omega] at this
      exact absurd h this
    · have t1 := hc.2 i (by omega)
      have o1 := hc.1 i (by omega)
      have o2 := hc.1 (i + 1) (by omega)
      rcases ltY_tri q (pt xs (i + 2)) with h3 | h3 | h3
      · exact tD o1 h h3 t1 (hL (i + 1) (by omega) q hq h h3)
      · rw [h3]; exact t1
      · exact tA o1 o2 h3 t1 (left_all hc hL hlast d (i + 1) (by omega) (by omega) q hq h3)
/-- There is one such chain. -/
theorem cvx_unique {xs ys : List Pn} {L : Pn → Prop} (hx : Cvx xs) (hy : Cvx ys) (lx : Lft L xs) (ly : Lft L ys) (x0 : 0 < xs.length) (y0 : 0 < ys.length) (mx : ∀ i, i < xs.length → L (pt xs i)) (my : ∀ i, i < ys.length → L (pt ys i))
    (e0 : pt xs 0 = pt ys 0) (e1 : pt xs (xs.length - 1) = pt ys (ys.length - 1)) (hlast : ∀ q, L q → ¬ ltY (pt xs (xs.length - 1)) q) : xs = ys := by
  have key : ∀ i, (i < xs.length ↔ i < ys.length) ∧ (i < xs.length → pt xs i = pt ys i) := by
    intro i
    induction i with
    | zero => exact ⟨⟨fun _ => y0, fun _ => x0⟩, fun _ => e0⟩
    | succ i ih =>
      have hiff : i + 1 < xs.length ↔ i + 1 < ys.length := by
        constructor
        · intro h
          have h1 := ih.1.1 (by omega)
          have h2 := ih.2 (by omega)
          rcases Nat.lt_or_ge (i + 1) ys.length with h3 | h3
          · exact h3
          · have := hx.lt (xs.length - 1) (i := i) (by omega) (by omega)
            rw [h2, e1, show ys.length - 1 = i by omega] at this
            exact absurd this (ltY_irrefl _)
        · intro h
          have h1 := ih.1.2 (by omega)
          have h2 := ih.2 h1
          rcases Nat.lt_or_ge (i + 1) xs.length with h3 | h3
          · exact h3
          · have := hy.lt (ys.length - 1) (i := i) (by omega) (by omega)
            rw [← h2, ← e1, show xs.length - 1 = i by omega] at this
            exact absurd this (ltY_irrefl _)
      refine ⟨hiff, fun h => ?_⟩
      have h' := hiff.1 h
      have h2 := ih.2 (by omega)
      rcases ltY_tri (pt xs (i + 1)) (pt ys (i + 1)) with h3 | h3 | h3
      · exfalso
        have g1 := left_all hx lx hlast _ i rfl h (pt ys (i + 1)) (my _ h') h3
        have g2 := ly i h' (pt xs (i + 1)) (mx _ h) (by rw [← h2]; exact hx.1 i h) h3
        rw [← h2, tn_swap] at g2
        omega
      · exact h3
      · exfalso
        have g1 := left_all hy ly (by rw [← e1]; exact hlast) _ i rfl h' (pt xs (i + 1)) (mx _ h) h3
        have g2 := lx i h (pt ys (i + 1)) (my _ h') (by rw [h2]; exact hy.1 i h') h3
        rw [h2, tn_swap] at g2
        omega
  have hl : xs.length = ys.length := by
    have h1 := (key xs.length).1
    have h2 := (key ys.length).1
    omega
  apply List.ext_getElem hl
  intro i h1 h2
  rw [pt_at h1, pt_at h2]
  exact (key i).2 h1
end Go.Proofs.Ytcplmmoeglembaa
