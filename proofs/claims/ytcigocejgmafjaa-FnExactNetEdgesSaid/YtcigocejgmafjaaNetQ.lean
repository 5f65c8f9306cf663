/- Net edges of a snapped region: what the program and the reference compute is the same. -/
import Derived.Test.YtcigocejgmafjaaNetP
namespace Go.Proofs.Ytcigocejgmafjaa
open Go Go.RowKit
set_option linter.unusedVariables false
set_option linter.unusedSimpArgs false

theorem apartM_swap (a b c d : Pn) : apartM c d a b = apartM a b c d := by
 rw [Bool.eq_iff_iff]
 simp only [apartM, Bool.or_eq_true, decide_eq_true_eq]
 omega
theorem pairS_swap (a b c d : Pn) : pairS c d a b = pairS a b c d := by
 unfold pairS
 rw [apartM_swap, kind_pair]
 have e3 : ((c = a ∧ d = b) ∨ (c = b ∧ d = a)) ↔ ((a = c ∧ b = d) ∨ (a = d ∧ b = c)) := by
  constructor <;> rintro (⟨h1, h2⟩ | ⟨h1, h2⟩)
  ·exact .inl ⟨h1.symm, h2.symm⟩
  ·exact .inr ⟨h2.symm, h1.symm⟩
  ·exact .inl ⟨h1.symm, h2.symm⟩
  ·exact .inr ⟨h2.symm, h1.symm⟩
 simp only [e3]
 congr 2
 congr 1
 rw [Bool.eq_iff_iff]
 simp only [Bool.not_eq_true', Bool.and_eq_false_iff, decide_eq_false_iff_not, ne_eq, Decidable.not_not]
 constructor
 ·rintro (((h | h) | h) | h)
  ·exact .inl (.inl (.inl h.symm))
  ·exact .inl (.inr h.symm)
  ·exact .inl (.inl (.inr h.symm))
  ·exact .inr h.symm
 ·rintro (((h | h) | h) | h)
  ·exact .inl (.inl (.inl h.symm))
  ·exact .inl (.inr h.symm)
  ·exact .inl (.inl (.inr h.symm))
  ·exact .inr h.symm
theorem meetS_some {a b c d q : Pn} (h : q ∈ endsM a b c d) : meetS a b c d = 1 ∨ meetS a b c d = 3 := by
 unfold meetS
 have : (endsM a b c d).length ≠ 0 := fun e => by
  have := List.eq_nil_of_length_eq_zero e
  rw [this] at h
  cases h
 rw [if_neg this]
 split <;> simp
theorem meetS_two {a b c d q r : Pn} (h : q ∈ endsM a b c d) (h' : r ∈ endsM a b c d) (hne : q ≠ r) : meetS a b c d = 3 := by
 unfold meetS
 match hl : endsM a b c d, h, h' with
 | [x], h, h' => exact absurd ((List.mem_singleton.1 h).trans (List.mem_singleton.1 h').symm) hne
 | x :: y :: l, _, _ => simp
/-- A segment that no other one crosses: its middle, where it is level, lies on no other. -/
theorem mid_off {a b c d : Pn} (hl : a.2 = b.2) (hab : a.1 ≠ b.1) (hcd : c ≠ d) (hn : ¬ ((a = c ∧ b = d) ∨ (a = d ∧ b = c))) (h : pairS a b c d = true) :
  ¬ (trn (2 * c.1) (2 * c.2) (2 * d.1) (2 * d.2) (a.1 + b.1) (a.2 + b.2) = 0 ∧ (min (2 * c.1) (2 * d.1) ≤ a.1 + b.1 ∧ a.1 + b.1 ≤ max (2 * c.1) (2 * d.1)) ∧ min (2 * c.2) (2 * d.2) ≤ a.2 + b.2 ∧ a.2 + b.2 ≤ max (2 * c.2) (2 * d.2)) := by
 rintro ⟨ht, hx, hy⟩
 have hap : apartM a b c d = false := by
  rw [apartM]
  simp only [Bool.or_eq_false_iff, decide_eq_false_iff_not]
  omega
 have k3 : meetS a b c d ≠ 3 := fun k => by
  unfold pairS at h
  rw [hap, k] at h
  simp [hn] at h
 have k2 : meetS a b c d ≠ 2 := fun k => by
  unfold pairS at h
  rw [hap, k] at h
  simp at h
 have k1 : meetS a b c d = 1 → a = c ∨ a = d ∨ b = c ∨ b = d := fun k => by
  unfold pairS at h
  rw [hap, k] at h
  simp only [Bool.false_eq_true, if_false, if_neg (show ¬ ((1 : Int) = 2) by omega), if_true, Bool.not_eq_true', Bool.and_eq_false_iff, decide_eq_false_iff_not, ne_eq, Decidable.not_not] at h
  rcases h with ((h | h) | h) | h
  ·exact .inl h
  ·exact .inr (.inl h)
  ·exact .inr (.inr (.inl h))
  ·exact .inr (.inr (.inr h))
 obtain ⟨a1, a2⟩ := a
 obtain ⟨b1, b2⟩ := b
 obtain ⟨c1, c2⟩ := c
 obtain ⟨d1, d2⟩ := d
 simp only [Prod.mk.injEq, ne_eq, not_and] at *
 subst hl
 by_cases hlev : c2 = d2
 · -- two level ones
  subst hlev
  have hyy : c2 = a2 := by omega
  subst hyy
  have hcd' : c1 ≠ d1 := fun e => hcd e rfl
  have on1 : ∀ x : Int, (min a1 b1 ≤ x ∧ x ≤ max a1 b1) → (min c1 d1 ≤ x ∧ x ≤ max c1 d1) → bothM (a1, c2) (b1, c2) (c1, c2) (d1, c2) (x, c2) = true := fun x h1 h2 => by
   rw [bothM, Bool.and_eq_true, on2_iff, on2_iff]
   simp only [tn, trn]
   refine ⟨⟨by simp, h1, by omega⟩, by simp, h2, by omega⟩
  have mem1 : ∀ x : Int, (x = a1 ∨ x = b1 ∨ x = c1 ∨ x = d1) → (min a1 b1 ≤ x ∧ x ≤ max a1 b1) → (min c1 d1 ≤ x ∧ x ≤ max c1 d1) → (x, c2) ∈ endsM (a1, c2) (b1, c2) (c1, c2) (d1, c2) := fun x h0 h1 h2 =>
   endsM_mem.2 ⟨by rcases h0 with rfl | rfl | rfl | rfl <;> simp, on1 x h1 h2⟩
  refine k3 (meetS_two (q := (max (min a1 b1) (min c1 d1), c2)) (r := (min (max a1 b1) (max c1 d1), c2)) (mem1 _ (by omega) (by omega) (by omega)) (mem1 _ (by omega) (by omega) (by omega)) fun e => ?_)
  simp only [Prod.mk.injEq] at e
  omega
 ·by_cases hc : c2 = a2
  · -- the first end lies in the middle
   have e1 : trn (2 * c1) (2 * c2) (2 * d1) (2 * d2) (a1 + b1) (a2 + a2) = -2 * ((d2 - c2) * (a1 + b1 - 2 * c1)) := by subst hc; simp only [trn]; grind
   have e2 : (d2 - c2) * (a1 + b1 - 2 * c1) = 0 := by omega
   have e3 : a1 + b1 = 2 * c1 := by rcases mul0 e2 with k | k <;> omega
   subst hc
   have m : (c1, c2) ∈ endsM (a1, c2) (b1, c2) (c1, c2) (d1, d2) := endsM_mem.2 ⟨by simp, by
    rw [bothM, Bool.and_eq_true, on2_iff, on2_iff]
    simp only [tn, trn]
    refine ⟨⟨by simp, by omega, by omega⟩, by simp, by omega, by omega⟩⟩
   rcases meetS_some m with k | k
   ·exact absurd (k1 k) (by omega)
   ·exact k3 k
  ·by_cases hd : d2 = a2
   ·have e1 : trn (2 * c1) (2 * c2) (2 * d1) (2 * d2) (a1 + b1) (a2 + a2) = 2 * ((d2 - c2) * (2 * d1 - (a1 + b1))) := by subst hd; simp only [trn]; grind
    have e2 : (d2 - c2) * (2 * d1 - (a1 + b1)) = 0 := by omega
    have e3 : a1 + b1 = 2 * d1 := by rcases mul0 e2 with k | k <;> omega
    subst hd
    have m : (d1, d2) ∈ endsM (a1, d2) (b1, d2) (c1, c2) (d1, d2) := endsM_mem.2 ⟨by simp, by
     rw [bothM, Bool.and_eq_true, on2_iff, on2_iff]
     simp only [tn, trn]
     refine ⟨⟨by simp, by omega, by omega⟩, by grind, by omega, by omega⟩⟩
    rcases meetS_some m with k | k
    ·exact absurd (k1 k) (by omega)
    ·exact k3 k
   · -- it goes through
    by_cases he : (endsM (a1, a2) (b1, a2) (c1, c2) (d1, d2)).length = 0
    ·have hs : strictM (a1, a2) (b1, a2) (c1, c2) (d1, d2) = true := by
      rw [strict_iff]
      have s1 := sgn_mul (a := b1 - a1) (b := c2 - a2) (p := tn (a1, a2) (b1, a2) (c1, c2)) (by simp only [tn, trn]; grind)
      have s2 := sgn_mul (a := b1 - a1) (b := d2 - a2) (p := tn (a1, a2) (b1, a2) (d1, d2)) (by simp only [tn, trn]; grind)
      have s3 := sgn_mul (a := d2 - c2) (b := b1 - a1) (p := tn (c1, c2) (d1, d2) (a1, a2) - tn (c1, c2) (d1, d2) (b1, a2)) (by simp only [tn, trn]; grind)
      have s4 : 2 * (tn (c1, c2) (d1, d2) (a1, a2) + tn (c1, c2) (d1, d2) (b1, a2)) = 0 := by rw [← ht]; simp only [tn, trn]; grind
      clear k1 k2 k3 h hap ht he hn hcd
      generalize tn (a1, a2) (b1, a2) (c1, c2) = T1 at *
      generalize tn (a1, a2) (b1, a2) (d1, d2) = T2 at *
      generalize tn (c1, c2) (d1, d2) (a1, a2) = T3 at *
      generalize tn (c1, c2) (d1, d2) (b1, a2) = T4 at *
      rcases Int.lt_or_gt_of_ne hab with g | g <;> rcases (show c2 < a2 ∧ a2 < d2 ∨ d2 < a2 ∧ a2 < c2 by omega) with g' | g'
      ·have t1 : T1 < 0 := by omega
       have t2 : 0 < T2 := by omega
       exact ⟨.inl ⟨t1, t2⟩, by omega⟩
      ·have t1 : 0 < T1 := by omega
       have t2 : T2 < 0 := by omega
       exact ⟨.inr ⟨t1, t2⟩, by omega⟩
      ·have t1 : 0 < T1 := by omega
       have t2 : T2 < 0 := by omega
       exact ⟨.inr ⟨t1, t2⟩, by omega⟩
      ·have t1 : T1 < 0 := by omega
       have t2 : 0 < T2 := by omega
       exact ⟨.inl ⟨t1, t2⟩, by omega⟩
     refine k2 ?_
     unfold meetS
     rw [if_pos he, if_pos hs]
    ·have : ∃ q, q ∈ endsM (a1, a2) (b1, a2) (c1, c2) (d1, d2) := by
      cases hh : endsM (a1, a2) (b1, a2) (c1, c2) (d1, d2) with
      | nil => rw [hh] at he; exact absurd rfl he
      | cons x l => exact ⟨x, by simp⟩
     obtain ⟨q, hq⟩ := this
     rcases meetS_some hq with k | k
     ·exact absurd (k1 k) (by omega)
     ·exact k3 k

/-! ### Rings close -/
theorem phi_edges (f : Int → Int → Int) {xs : List (Int × Int)} : ∀ k, k ≤ xs.length → sm (fun e : Leg => f e.ax e.ay - f e.bx e.b_y) (edgesTo xs k) = f (px xs 0) (py xs 0) - f (px xs (k % xs.length)) (py xs (k % xs.length))
 | 0, _ => by simp [edgesTo, sm]
 | k + 1, h => by
  have ih := phi_edges f (xs := xs) k (by omega)
  rw [Nat.mod_eq_of_lt (show k < xs.length by omega)] at ih
  rw [edgesTo_succ]
  split
  ·rename_i he
   rw [ih]
   unfold nx at he
   rw [he.1, he.2]
  ·rw [sm_append, ih]
   simp only [sm, nx]
   omega
theorem phi_ring (f : Int → Int → Int) (xs : List (Int × Int)) : sm (fun e : Leg => f e.ax e.ay - f e.bx e.b_y) (edgesR xs) = 0 := by
 rw [edgesR, phi_edges f _ (Nat.le_refl _), Nat.mod_self]
 omega
theorem phi_all (f : Int → Int → Int) (rs : List Ring_) : ∀ k, sm (fun e : Leg => f e.ax e.ay - f e.bx e.b_y) (allTo rs k) = 0
 | 0 => rfl
 | k + 1 => by
  rw [allTo, sm_append, phi_all f rs k, phi_ring]
  rfl

/-! ### The same on both sides -/
/-- Edges that close, lie in the grid and meet at ends only. -/
structure Fine (es : List Leg) : Prop where
 ok : ∀ e ∈ es, legOk e
 ne : ∀ e ∈ es, lA e ≠ lB e
 close : ∀ f : Int → Int → Int, sm (fun e : Leg => f e.ax e.ay - f e.bx e.b_y) es = 0
/-- The middle of a level edge lies on no other. -/
def Clear (es : List Leg) (p : Leg) : Prop := p.ay = p.b_y → ∀ e ∈ es, nrm e ≠ p → ¬ (trn (2 * e.ax) (2 * e.ay) (2 * e.bx) (2 * e.b_y) (midX p) (midY p) = 0 ∧ (min (2 * e.ax) (2 * e.bx) ≤ midX p ∧ midX p ≤ max (2 * e.ax) (2 * e.bx)) ∧ min (2 * e.ay) (2 * e.b_y) ≤ midY p ∧ midY p ≤ max (2 * e.ay) (2 * e.b_y))
def refP (es : List Leg) (p : Leg) : Int := sm (fun e => sg e * (if nrm e = p then 0 else besG p (nrm e))) es
theorem ref_same {es : List Leg} {p : Leg} (hf : Fine es) (hc : Clear es p) (hp : ¬ ltY (lB p) (lA p)) (hne : lA p ≠ lB p) :
  neP es p = ⟨p, netP es p, refP es p + netP es p, refP es p⟩ := by
 have d0 : refP es p = sm (fun e => if nrm e = p then 0 else (if p.ay = p.b_y then wStep (rotL (dblL true e)) (-(midY p)) (midX p) else wStep (dblL true e) (midX p) (midY p))) es := by
  refine sm_congr fun e _ => ?_
  split
  ·simp
  ·unfold besG
   split
   ·exact rot_nrm _ _ _
   ·exact dbl_nrm _ _ _
 unfold neP
 by_cases hl : p.ay = p.b_y
 ·rw [if_pos hl]
  simp only [if_pos hl] at d0
  have hlt : p.ax < p.bx := by
   unfold ltY lA lB at hp
   unfold lA lB at hne
   simp only [ne_eq, Prod.mk.injEq, not_and] at hp hne
   omega
  have key : outP es p - refP es p = netP es p := by
   rw [d0]
   unfold outP
   rw [← sm_sub]
   have e1 : sm (fun e : Leg => (if nrm e = p then 0 else wStep (dblL true e) (midX p) (midY p)) - (if nrm e = p then 0 else wStep (rotL (dblL true e)) (-(midY p)) (midX p))) es
     = sm (fun e : Leg => (qu (2 * e.ax) (2 * e.ay) (midX p) (midY p) - qu (2 * e.bx) (2 * e.b_y) (midX p) (midY p)) + (if nrm e = p then sg e else 0)) es := by
    refine sm_congr fun e he => ?_
    split
    ·rename_i hn
     have hq1 : qu (2 * p.ax) (2 * p.ay) (midX p) (midY p) = 0 := by unfold qu midX; rw [if_neg (by omega)]
     have hq2 : qu (2 * p.bx) (2 * p.b_y) (midX p) (midY p) = 1 := by unfold qu midX midY; rw [if_pos (by omega)]
     rcases (nrm_iff hp hne).1 hn with rfl | rfl
     ·rw [sg_self hp, hq1, hq2]; rfl
     ·rw [sg_rev hp hne]
      simp only [revL]
      rw [hq1, hq2]; rfl
    ·rename_i hn
     have := step_rot (e := dblL true e) (hc hl e he hn)
     simp only [dblL, if_true] at this ⊢
     rw [this]
     omega
   rw [e1, sm_add, hf.close fun x y => qu (2 * x) (2 * y) (midX p) (midY p)]
   unfold netP
   omega
  rw [show outP es p = refP es p + netP es p by omega, show refP es p + netP es p - netP es p = refP es p by omega]
 ·rw [if_neg hl]
  simp only [if_neg hl] at d0
  have : refP es p = outP es p := d0
  rw [this]

theorem nrm_rev {e : Leg} (hne : lA e ≠ lB e) : nrm (revL e) = nrm e := by
 unfold nrm
 rcases ltY_tri (lA e) (lB e) with h | h | h
 ·rw [if_pos (show ltY (lB (revL e)) (lA (revL e)) from h), if_neg fun k => ltY_irrefl _ (ltY_trans h k)]
  rfl
 ·exact absurd h hne
 ·rw [if_pos h, if_neg (show ¬ ltY (lB (revL e)) (lA (revL e)) from fun k => ltY_irrefl _ (ltY_trans (show ltY (lA e) (lB e) from k) h))]
theorem mid_nrm (e : Leg) : midX (nrm e) = e.ax + e.bx ∧ midY (nrm e) = e.ay + e.b_y ∧ ((nrm e).ay = (nrm e).b_y ↔ e.ay = e.b_y) := by
 unfold nrm midX midY
 split
 ·simp only [revL]; omega
 ·exact ⟨rfl, rfl, Iff.rfl⟩
theorem nrm_ne {e : Leg} (hne : lA e ≠ lB e) : lA (nrm e) ≠ lB (nrm e) := by
 unfold nrm
 split
 ·exact fun h => hne h.symm
 ·exact hne
theorem lg_of_mem {es : List Leg} {e : Leg} (h : e ∈ es) : ∃ i, i < es.length ∧ lg es i = e := by
 obtain ⟨i, hi, rfl⟩ := List.getElem_of_mem h
 exact ⟨i, hi, (at_l hi).symm⟩
theorem snapAll_at {es : List Leg} (h : snapAll es = true) {i k : Nat} (hi : i < es.length) (hk : k < i) : pairL (lg es i) (lg es k) = true := by
 rw [snapAll, List.all_eq_true] at h
 have := h i (List.mem_range.2 hi)
 rw [List.all_eq_true] at this
 exact this k (List.mem_range.2 hk)
theorem clear_snap {es : List Leg} (hf : Fine es) (hs : snapAll es = true) {e0 : Leg} (he0 : e0 ∈ es) : Clear es (nrm e0) := by
 intro hl e he hn
 have hne := hf.ne e he
 have hne0 := hf.ne e0 he0
 obtain ⟨m1, m2, m3⟩ := mid_nrm e0
 have hn' : ¬ ((lA e0 = lA e ∧ lB e0 = lB e) ∨ (lA e0 = lB e ∧ lB e0 = lA e)) := by
  rintro (⟨h1, h2⟩ | ⟨h1, h2⟩)
  ·exact hn (by rw [leg_ext h1 h2])
  ·have : e = revL e0 := leg_ext (by rw [← h2]; rfl) (by rw [← h1]; rfl)
   exact hn (by rw [this, nrm_rev hne0])
 have hp : pairS (lA e0) (lB e0) (lA e) (lB e) = true := by
  obtain ⟨i, hi, e1⟩ := lg_of_mem he0
  obtain ⟨j, hj, e2⟩ := lg_of_mem he
  rcases Nat.lt_trichotomy i j with c | c | c
  ·have := snapAll_at hs hj c
   rw [e1, e2, ← psL_pairL (hf.ok _ he) (hf.ok _ he0) hne hne0, psL, pairS_swap] at this
   exact this
  ·subst c
   exact absurd (by rw [← e2, e1]) hn
  ·have := snapAll_at hs hi c
   rw [e1, e2, ← psL_pairL (hf.ok _ he0) (hf.ok _ he) hne0 hne, psL] at this
   exact this
 have hl0 : e0.ay = e0.b_y := m3.1 hl
 have := mid_off (a := lA e0) (b := lB e0) (c := lA e) (d := lB e) hl0 (fun h => hne0 (Prod.ext h hl0)) hne hn' hp
 rw [m1, m2]
 exact this
/-- The reference's list, entry by entry. -/
theorem net_entry {es : List Leg} (hf : Fine es) {l : List Nt} (hl : l = addAll false es []) {k : Nat} (hk : k < l.length) (hc : Clear es (nt l k).e) :
  neP es (nt l k).e = ⟨(nt l k).e, (nt l k).one, besTo false l k l.length + (nt l k).one, besTo false l k l.length + (nt l k).one - (nt l k).one⟩ := by
 have ha : AscN l := by rw [hl]; exact addAll_asc List.Pairwise.nil
 have hex : ∀ x ∈ l, ∃ e ∈ es, x.e = nrm e := by
  rw [hl]
  intro x hx
  rcases addAll_mem.1 ⟨x, hx, rfl⟩ with ⟨y, hy, _⟩ | h
  ·cases hy
  ·exact h
 have := hex _ (nt_mem hk)
 obtain ⟨e0, he0, hp⟩ := this
 have hord : ¬ ltY (lB (nt l k).e) (lA (nt l k).e) := by rw [hp]; exact nrm_ord e0
 have hne : lA (nt l k).e ≠ lB (nt l k).e := by rw [hp]; exact nrm_ne (hf.ne e0 he0)
 have h1 : (nt l k).one = netP es (nt l k).e := by
  have := wS_at (s := false) ha (nt_mem hk)
  rw [show cntN false (nt l k) = (nt l k).one from rfl] at this
  rw [← this]
  generalize (nt l k).e = p
  rw [hl, addAll_w]
  simp only [wS, sm, if_true]
  rw [Int.zero_add]
  exact sm_congr fun e _ => by split <;> simp
 have h2 : besTo false l k l.length = refP es (nt l k).e := by
  rw [besTo_all ha hk]
  generalize (nt l k).e = p
  rw [hl, addAll_w]
  simp only [wS, sm, if_true]
  rw [Int.zero_add]
  rfl
 rw [ref_same hf hc hord hne, h1, h2]
 congr 1
 omega
theorem net_keys {es m : List Leg} {l : List Nt} (hl : l = addAll false es []) (hr : RisG m) (hm : ∀ q, q ∈ m ↔ ∃ e ∈ es, q = nrm e) : l.map (·.e) = compG m := by
 have ha : AscN l := by rw [hl]; exact addAll_asc List.Pairwise.nil
 refine ascG_ext (List.pairwise_map.2 ha) (compG_asc hr) fun q => ?_
 rw [compG_mem, hm, List.mem_map, hl]
 rw [show (∃ a ∈ addAll false es [], a.e = q) ↔ _ from addAll_mem]
 simp
end Go.Proofs.Ytcigocejgmafjaa
