/- Hot points of edges: plain law, crossings, the reference's walk. -/
import Derived.Test.YtakdjgldcpompaaGreatSnapped
import Derived.Test.YtakdjgldcpompaaGreatSimp
namespace Go.Proofs.YtakdjgldcpompaaGreat
open Go Go.RowKit
set_option linter.unusedVariables false
set_option linter.unusedSimpArgs false
set_option maxRecDepth 100000
set_option maxHeartbeats 4000000
set_option linter.unusedVariables false
set_option linter.unusedSimpArgs false

/-! ### Ascending lists -/
/-- By Y, then X. -/
def ltY (p q : Pn) : Prop := p.2 < q.2 ∨ (p.2 = q.2 ∧ p.1 < q.1)
instance (p q : Pn) : Decidable (ltY p q) := by unfold ltY; exact inferInstance
theorem ltY_trans {p q r : Pn} (h : ltY p q) (h' : ltY q r) : ltY p r := by unfold ltY at *; omega
theorem ltY_irrefl (p : Pn) : ¬ ltY p p := by unfold ltY; omega
theorem ltY_tri (p q : Pn) : ltY p q ∨ p = q ∨ ltY q p := by
 rcases p with ⟨x, y⟩
 rcases q with ⟨x', y'⟩
 simp only [ltY, Prod.mk.injEq]
 omega
def Asc (l : List Pn) : Prop := l.Pairwise ltY
theorem Asc.head {p : Pn} {l : List Pn} (h : Asc (p :: l)) : ∀ q ∈ l, ltY p q := (List.pairwise_cons.1 h).1
theorem Asc.tail {p : Pn} {l : List Pn} (h : Asc (p :: l)) : Asc l := (List.pairwise_cons.1 h).2
/-- Ascending lists with the same points are the same. -/
theorem asc_ext : ∀ {l m : List Pn}, Asc l → Asc m → (∀ p, p ∈ l ↔ p ∈ m) → l = m
 | [], [], _, _, _ => rfl
 | [], q :: m, _, _, h => absurd ((h q).2 (by simp)) (by simp)
 | p :: l, [], _, _, h => absurd ((h p).1 (by simp)) (by simp)
 | p :: l, q :: m, hl, hm, h => by
  have e : p = q := by
   rcases List.mem_cons.1 ((h p).1 (by simp)) with e | h1
   ·exact e
   ·rcases List.mem_cons.1 ((h q).2 (by simp)) with e | h2
    ·exact e.symm
    ·exact absurd (ltY_trans (hl.head q h2) (hm.head p h1)) (ltY_irrefl p)
  subst e
  congr 1
  refine asc_ext hl.tail hm.tail fun r => ?_
  constructor
  ·intro hr
   rcases List.mem_cons.1 ((h r).1 (List.mem_cons_of_mem _ hr)) with e | h1
   ·exact absurd (e ▸ hl.head r hr) (ltY_irrefl _)
   ·exact h1
  ·intro hr
   rcases List.mem_cons.1 ((h r).2 (List.mem_cons_of_mem _ hr)) with e | h1
   ·exact absurd (e ▸ hm.head r hr) (ltY_irrefl _)
   ·exact h1
/-- Where a point goes, among the first k. -/
def posP (xs : List Pn) (p : Pn) : Nat → Nat
 | 0 => 0
 | k + 1 => if ltY p (pt xs k) then posP xs p k else k + 1
theorem posP_le (xs : List Pn) (p : Pn) : ∀ k, posP xs p k ≤ k
 | 0 => Nat.le_refl _
 | k + 1 => by
  unfold posP
  split
  ·have := posP_le xs p k; omega
  ·exact Nat.le_refl _
theorem posP_up (xs : List Pn) (p : Pn) : ∀ k j, posP xs p k ≤ j → j < k → ltY p (pt xs j)
 | 0, j, _, h => absurd h (by omega)
 | k + 1, j, h, h' => by
  unfold posP at h
  split at h
  ·rename_i hp
   by_cases e : j = k
   ·rw [e]; exact hp
   ·exact posP_up xs p k j h (by omega)
  ·omega
theorem posP_dn (xs : List Pn) (p : Pn) : ∀ k, 0 < posP xs p k → ¬ ltY p (pt xs (posP xs p k - 1))
 | 0, h => absurd h (by simp [posP])
 | k + 1, h => by
  unfold posP at h ⊢
  split at h
  ·rename_i hp
   rw [if_pos hp]
   exact posP_dn xs p k h
  ·rename_i hp
   rw [if_neg hp]
   exact hp
/-- A point put into an ascending list. -/
def putP (xs : List Pn) (p : Pn) : List Pn := if 0 < posP xs p xs.length ∧ pt xs (posP xs p xs.length - 1) = p then xs else xs.take (posP xs p xs.length) ++ p :: xs.drop (posP xs p xs.length)
theorem pt_at {xs : List Pn} {k : Nat} (h : k < xs.length) : xs[k] = pt xs k := at_p h
theorem putP_mem {xs : List Pn} {p q : Pn} : q ∈ putP xs p ↔ q ∈ xs ∨ q = p := by
 unfold putP
 split
 ·rename_i h
  have hle := posP_le xs p xs.length
  constructor
  ·exact .inl
  ·rintro (h1 | rfl)
   ·exact h1
   ·rw [← h.2, ← pt_at (by omega)]
    exact List.getElem_mem _
 ·have := List.take_append_drop (posP xs p xs.length) xs
  constructor
  ·intro h1
   rcases List.mem_append.1 h1 with h1 | h1
   ·exact .inl (List.mem_of_mem_take h1)
   ·rcases List.mem_cons.1 h1 with h1 | h1
    ·exact .inr h1
    ·exact .inl (List.mem_of_mem_drop h1)
  ·rintro (h1 | h1)
   ·rw [← this] at h1
    rcases List.mem_append.1 h1 with h2 | h2
    ·exact List.mem_append.2 (.inl h2)
    ·exact List.mem_append.2 (.inr (List.mem_cons_of_mem _ h2))
   ·rw [h1]; simp
theorem putP_asc {xs : List Pn} {p : Pn} (h : Asc xs) : Asc (putP xs p) := by
 unfold putP
 split
 ·exact h
 ·rename_i hn
  have hle := posP_le xs p xs.length
  have hs := List.pairwise_append.1 ((List.take_append_drop (posP xs p xs.length) xs).symm ▸ h : Asc (xs.take (posP xs p xs.length) ++ xs.drop (posP xs p xs.length)))
  refine List.pairwise_append.2 ⟨hs.1, List.pairwise_cons.2 ⟨fun q hq => ?_, hs.2.1⟩, fun a ha b hb => ?_⟩
  ·obtain ⟨j, hj, rfl⟩ := List.getElem_of_mem hq
   rw [List.length_drop] at hj
   rw [List.getElem_drop, pt_at (by omega)]
   exact posP_up xs p xs.length _ (by omega) (by omega)
  ·rcases List.mem_cons.1 hb with e | hb
   ·subst e
    obtain ⟨j, hj, rfl⟩ := List.getElem_of_mem ha
    rw [List.length_take] at hj
    rw [List.getElem_take, pt_at (by omega)]
    have hd := posP_dn xs b xs.length (by omega)
    have h1 : ltY (pt xs (posP xs b xs.length - 1)) b := by
     rcases ltY_tri (pt xs (posP xs b xs.length - 1)) b with h1 | h1 | h1
     ·exact h1
     ·exact absurd ⟨by omega, h1⟩ hn
     ·exact absurd h1 hd
    by_cases e : j = posP xs b xs.length - 1
    ·rw [e]; exact h1
    ·have := List.pairwise_iff_getElem.1 h j (posP xs b xs.length - 1) (by omega) (by omega) (by omega)
     rw [pt_at (by omega), pt_at (by omega)] at this
     exact ltY_trans this h1
   ·exact hs.2.2 a ha b hb
/-- Points put in one by one. -/
def putAll (l : List Pn) : List Pn := l.foldl putP []
theorem foldl_put (l : List Pn) : ∀ xs, Asc xs → Asc (l.foldl putP xs) ∧ ∀ q, q ∈ l.foldl putP xs ↔ q ∈ xs ∨ q ∈ l := by
 induction l with
 | nil => intro xs h; exact ⟨h, fun q => by simp⟩
 | cons p l ih =>
  intro xs h
  obtain ⟨h1, h2⟩ := ih (putP xs p) (putP_asc h)
  refine ⟨h1, fun q => ?_⟩
  rw [List.foldl_cons, h2 q, putP_mem, List.mem_cons]
  constructor
  ·rintro ((h | h) | h)
   ·exact .inl h
   ·exact .inr (.inl h)
   ·exact .inr (.inr h)
  ·rintro (h | h | h)
   ·exact .inl (.inl h)
   ·exact .inl (.inr h)
   ·exact .inr h
theorem putAll_asc (l : List Pn) : Asc (putAll l) := (foldl_put l [] List.Pairwise.nil).1
theorem putAll_mem (l : List Pn) (q : Pn) : q ∈ putAll l ↔ q ∈ l := by rw [putAll, (foldl_put l [] List.Pairwise.nil).2 q]; simp
/-- The list without neighbours that are the same. -/
def compP : List Pn → List Pn
 | [] => []
 | [p] => [p]
 | p :: q :: l => if p = q then compP (q :: l) else p :: compP (q :: l)
theorem compP_mem : ∀ (l : List Pn) (r : Pn), r ∈ compP l ↔ r ∈ l
 | [], _ => Iff.rfl
 | [_], _ => Iff.rfl
 | p :: q :: l, r => by
  unfold compP
  split
  ·rename_i e
   rw [compP_mem (q :: l) r, e]
   simp
  ·rw [List.mem_cons, compP_mem (q :: l) r]
   simp
/-- A list that does not fall. -/
def Ris (l : List Pn) : Prop := l.Pairwise fun p q => ¬ ltY q p
theorem compP_asc : ∀ {l : List Pn}, Ris l → Asc (compP l)
 | [], _ => List.Pairwise.nil
 | [p], _ => List.pairwise_singleton _ _
 | p :: q :: l, h => by
  have h1 := List.pairwise_cons.1 h
  have ih := compP_asc (l := q :: l) h1.2
  unfold compP
  split
  ·exact ih
  ·rename_i hne
   refine List.pairwise_cons.2 ⟨fun r hr => ?_, ih⟩
   rw [compP_mem] at hr
   have hpq : ltY p q := by
    rcases ltY_tri p q with h2 | h2 | h2
    ·exact h2
    ·exact absurd h2 hne
    ·exact absurd h2 (h1.1 q (by simp))
   rcases List.mem_cons.1 hr with e | hr
   ·rw [e]; exact hpq
   ·have h3 := (List.pairwise_cons.1 h1.2).1 r hr
    unfold ltY at *
    omega
/-- Sorted and without repeats: as put in one by one. -/
theorem comp_put {l m : List Pn} (hs : Ris m) (hp : ∀ q, q ∈ m ↔ q ∈ l) : compP m = putAll l :=
 asc_ext (compP_asc hs) (putAll_asc l) fun q => by rw [compP_mem, hp, putAll_mem]

/-! ### Crossings -/
theorem sq_nonneg' (x : Int) : 0 ≤ x * x := by
 rcases Int.le_total 0 x with h | h
 ·exact Int.mul_nonneg h h
 ·have := Int.mul_nonneg (show 0 ≤ -x by omega) (show 0 ≤ -x by omega)
  grind
def crD (a b c d : Pn) : Int := denOf a.1 a.2 b.1 b.2 c.1 c.2 d.1 d.2
def crN (a c d : Pn) : Int := numOf a.1 a.2 c.1 c.2 d.1 d.2
/-- The crossing of two segments, rounded. -/
def crP (a b c d : Pn) : Pn := (crs a.1 b.1 (crN a c d) (crD a b c d), crs a.2 b.2 (crN a c d) (crD a b c d))
theorem crD_tn (a b c d : Pn) : crD a b c d = tn c d a - tn c d b := by
 unfold crD denOf tn trn
 grind
theorem crN_tn (a c d : Pn) : crN a c d = tn c d a := by
 unfold crN numOf tn trn
 grind
theorem strict_den {a b c d : Pn} (h : strictM a b c d = true) : crD a b c d ≠ 0 := by
 rw [crD_tn]
 simp only [strictM, Bool.and_eq_true, decide_eq_true_eq] at h
 intro e
 have e' : tn c d a = tn c d b := by omega
 rw [e'] at h
 have := sq_nonneg' (sgn (tn c d b))
 omega
theorem meet2 {a b c d : Pn} (h : meetS a b c d = 2) : (endsM a b c d).length = 0 ∧ crD a b c d ≠ 0 := by
 unfold meetS at h
 split at h
 ·rename_i h0
  split at h
  ·rename_i h1; exact ⟨h0, strict_den h1⟩
  ·omega
 ·split at h <;> omega
/-- A point whose coordinates are far from the words' bounds. -/
def bdW (p : Pn) : Prop := (-1152921504606846976 ≤ p.1 ∧ p.1 ≤ 1152921504606846976) ∧ -1152921504606846976 ≤ p.2 ∧ p.2 ≤ 1152921504606846976
theorem bd2.wide {p : Pn} (h : bd2 p) : bdW p := by
 obtain ⟨⟨h1, h2⟩, h3, h4⟩ := h
 exact ⟨⟨by omega, by omega⟩, by omega, by omega⟩
theorem crs_bd {x y n d : Int} (hx : -262144 ≤ x ∧ x ≤ 262144) (hy : -262144 ≤ y ∧ y ≤ 262144) (hn : -549755813888 ≤ n ∧ n ≤ 549755813888) (hd : d ≠ 0) : -1152921504606846976 ≤ crs x y n d ∧ crs x y n d ≤ 1152921504606846976 := by
 rw [crs_eq _ _ _ _ hd]
 split
 ·have h1 := mul_bd (a := y - x) (b := -n) (A := 524288) (B := 549755813888) (by omega) (by omega) (by omega) (by omega)
  have h2 := rnd_bd ((y - x) * -n) (-d) 288230376151711744 (by omega) (by omega) (by omega)
  omega
 ·have h1 := mul_bd (a := y - x) (b := n) (A := 524288) (B := 549755813888) (by omega) (by omega) (by omega) (by omega)
  have h2 := rnd_bd ((y - x) * n) d 288230376151711744 (by omega) (by omega) (by omega)
  omega
theorem tn_bd' {a b c : Pn} (ha : bd2 a) (hb : bd2 b) (hc : bd2 c) : -549755813888 ≤ tn a b c ∧ tn a b c ≤ 549755813888 := by
 obtain ⟨⟨a1, a2⟩, a3, a4⟩ := ha
 obtain ⟨⟨b1, b2⟩, b3, b4⟩ := hb
 obtain ⟨⟨c1, c2⟩, c3, c4⟩ := hc
 exact trn_bd _ _ _ _ _ _ a1 a2 a3 a4 b1 b2 b3 b4 c1 c2 c3 c4
theorem crP_bd {a b c d : Pn} (ha : bd2 a) (hb : bd2 b) (hc : bd2 c) (hd : bd2 d) (h : crD a b c d ≠ 0) : bdW (crP a b c d) := by
 have hn := tn_bd' hc hd ha
 rw [← crN_tn] at hn
 exact ⟨crs_bd ha.1 hb.1 hn h, crs_bd ha.2 hb.2 hn h⟩
theorem bd2_ok {p : Pn} (h : bd2 p) : okB p.1 p.2 = true := by
 obtain ⟨⟨h1, h2⟩, h3, h4⟩ := h
 simp [okB, inB, *]
theorem crossing_p (a b c d : Pn) (w : World) (ha : bd2 a) (hb : bd2 b) (hc : bd2 c) (hd : bd2 d) (h : crD a b c d ≠ 0) : Calls Tryz.prog 41 #[pV a, pV b, pV c, pV d] w fun e w' => e = .returned (pV (crP a b c d)) ∧ Over w w' :=
 crossing_any a.1 a.2 b.1 b.2 c.1 c.2 d.1 d.2 w (bd2_ok ha) (bd2_ok hb) (bd2_ok hc) (bd2_ok hd) h
theorem l03Crossing_p (a b c d : Pn) (w : World) (ha : bd2 a) (hb : bd2 b) (hc : bd2 c) (hd : bd2 d) (h : meetS a b c d = 2) : Calls Tryz.prog 34 #[pV a, pV b, pV c, pV d] w fun e w' => e = .returned (pV (crP a b c d)) ∧ Over w w' := by
 obtain ⟨h0, hD⟩ := meet2 h
 have n1 := tn_bd' hc hd ha
 have n2 := tn_bd' hc hd hb
 have eD := crD_tn a b c d
 have eN := crN_tn a c d
 have e1 := crs_eq a.1 b.1 (crN a c d) (crD a b c d) hD
 have e2 := crs_eq a.2 b.2 (crN a c d) (crD a b c d) hD
 have f1 := ha; have f2 := hb
 obtain ⟨⟨a1, a2⟩, a3, a4⟩ := f1
 obtain ⟨⟨b1, b2⟩, b3, b4⟩ := f2
 have x1 := mul_bd (a := b.1 - a.1) (b := tn c d a) (A := 524288) (B := 549755813888) (by omega) (by omega) (by omega) (by omega)
 have x2 := mul_bd (a := b.2 - a.2) (b := tn c d a) (A := 524288) (B := 549755813888) (by omega) (by omega) (by omega) (by omega)
 have x3 := mul_bd (a := b.1 - a.1) (b := -tn c d a) (A := 524288) (B := 549755813888) (by omega) (by omega) (by omega) (by omega)
 have x4 := mul_bd (a := b.2 - a.2) (b := -tn c d a) (A := 524288) (B := 549755813888) (by omega) (by omega) (by omega) (by omega)
 rw [eD, eN] at e1 e2
 have hD' : tn c d a - tn c d b ≠ 0 := eD ▸ hD
 have eP : crP a b c d = (crs a.1 b.1 (tn c d a) (tn c d a - tn c d b), crs a.2 b.2 (tn c d a) (tn c d a - tn c d b)) := by rw [crP, eD, eN]
 refine walk_from (m := 64) (Tryz.func34) rfl rfl (Nat.le_of_ble_eq_true rfl) ?_
 refine at_seq ?_
 refine at_region ?_
 refine at_op rfl ?_
 refine op_box rfl rfl (rfl) rfl (by decide) (fun b1 => ?_)
 refine at_rsE (by simp only [ya,yb,yc,yd,Value.cells,ye]; rfl) ?_
 refine at_op rfl ?_
 refine op_box rfl rfl (rfl) rfl (by decide) (fun b2 => ?_)
 refine at_rsE (by simp only [ya,yb,yc,yd,Value.cells,ye]; rfl) ?_
 refine at_op rfl ?_
 refine op_box rfl rfl (rfl) rfl (by decide) (fun b3 => ?_)
 refine at_rsE (by simp only [ya,yb,yc,yd,Value.cells,ye]; rfl) ?_
 refine at_op rfl ?_
 refine op_box rfl rfl (rfl) rfl (by decide) (fun b4 => ?_)
 refine at_rsE (by simp only [ya,yb,yc,yd,Value.cells,ye]; rfl) ?_
 refine at_op rfl ?_
 refine op_alloc rfl tyz_impl_Pt rfl (by decide) (fun b5 => ?_)
 refine at_rsE (by simp only [ya,yb,yc,yd,Value.cells,ye]; rfl) ?_
 refine at_end ?_
 refine at_seq ?_
 refine at_region ?_
 refine at_q rfl rfl (by decide) (qt_loadS rfl rfl tys_impl_Pt rfl (rdAll (k := 0) rfl)) ?_
 refine at_q rfl rfl (by decide) (qt_loadS rfl rfl tys_impl_Pt rfl (rdAll (k := 1) rfl)) ?_
 refine at_q rfl rfl (by decide) (qt_loadS rfl rfl tys_impl_Pt rfl (rdAll (k := 2) rfl)) ?_
 refine at_q rfl rfl (by decide) (qt_loadS rfl rfl tys_impl_Pt rfl (rdAll (k := 3) rfl)) ?_
 refine at_op rfl ?_
 refine op_call ok_spec_l03Ends (v := fun x => .slice x.1 _ x.2) (r := fun x => rowR 0 64 2 _ _ x) (H := fun _ => True) rfl rfl rfl (by decide) (fun w1 hs => newRow' (l03Ends_any a b c d w1 ha hb hc hd)) ?_
 rintro ⟨eA, ec⟩ -
 refine at_rsE (by simp only [ya,yb,yc,yd,Value.cells,ye]; rfl) ?_
 refine at_q rfl rfl (by decide) (qt_assign rfl rfl) ?_
 refine at_end ?_
 refine at_seq ?_
 refine at_seq ?_
 refine at_region ?_
 refine at_q rfl rfl (by decide) (qt_move rfl rfl) ?_
 refine at_q rfl rfl (by decide) (qt_len rfl rfl tyl_sl_impl_Pt) ?_
 refine at_q rfl rfl (by decide) (qt_eql rfl rfl rfl) ?_
 refine at_end ?_
 refine at_cond rfl (fun c1 => ?_) (fun c1 => ?_)
 ·try simp only [za,zb,zc,zd,ze,zf,Bool.not_true,Bool.not_false,zg,zh,ne_eq,zi,zj] at c1
  omega
 ·try simp only [za,zb,zc,zd,ze,zf,Bool.not_true,Bool.not_false,zg,zh,ne_eq,zi,zj] at c1
  refine at_skip ?_
  refine norm_then ?_
  refine at_seq ?_
  refine at_region ?_
  refine at_q rfl rfl (by decide) (qt_loadS rfl rfl tys_impl_Pt rfl (rdAll (k := 2) rfl)) ?_
  refine at_q rfl rfl (by decide) (qt_loadS rfl rfl tys_impl_Pt rfl (rdAll (k := 3) rfl)) ?_
  refine at_q rfl rfl (by decide) (qt_loadS rfl rfl tys_impl_Pt rfl (rdAll (k := 0) rfl)) ?_
  refine at_q rfl rfl (by decide) (qt_call ok_spec_l03Turn rfl rfl (fun w h => l03Turn_p _ _ _ w hc hd ha)) ?_
  refine at_q rfl rfl (by decide) (qt_assign rfl rfl) ?_
  refine at_end ?_
  refine at_seq ?_
  refine at_region ?_
  refine at_q rfl rfl (by decide) (qt_move rfl rfl) ?_
  refine at_q rfl rfl (by decide) (qt_loadS rfl rfl tys_impl_Pt rfl (rdAll (k := 2) rfl)) ?_
  refine at_q rfl rfl (by decide) (qt_loadS rfl rfl tys_impl_Pt rfl (rdAll (k := 3) rfl)) ?_
  refine at_q rfl rfl (by decide) (qt_loadS rfl rfl tys_impl_Pt rfl (rdAll (k := 1) rfl)) ?_
  refine at_q rfl rfl (by decide) (qt_call ok_spec_l03Turn rfl rfl (fun w h => l03Turn_p _ _ _ w hc hd hb)) ?_
  refine at_q rfl rfl (by decide) (qt_sub rfl rfl rfl (by omega) (by omega)) ?_
  refine at_q rfl rfl (by decide) (qt_assign rfl rfl) ?_
  refine at_end ?_
  refine at_seq ?_
  refine at_seq ?_
  refine at_region ?_
  refine at_q rfl rfl (by decide) (qt_move rfl rfl) ?_
  refine at_q rfl rfl (by decide) (qt_lss rfl rfl rfl) ?_
  refine at_end ?_
  refine at_cond rfl (fun c2 => ?_) (fun c2 => ?_)
  ·try simp only [za,zb,zc,zd,ze,zf,Bool.not_true,Bool.not_false,zg,zh,ne_eq,zi,zj] at c2
   have r1 := rnd_bd ((b.1 - a.1) * -tn c d a) (-(tn c d a - tn c d b)) 288230376151711744 (by omega) (by omega) (by omega)
   have r2 := rnd_bd ((b.2 - a.2) * -tn c d a) (-(tn c d a - tn c d b)) 288230376151711744 (by omega) (by omega) (by omega)
   rw [if_pos c2] at e1 e2
   refine at_seq ?_
   refine at_region ?_
   refine at_q rfl rfl (by decide) (qt_move rfl rfl) ?_
   refine at_q rfl rfl (by decide) (qt_neg rfl rfl (by omega) (by omega)) ?_
   refine at_q rfl rfl (by decide) (qt_assign rfl rfl) ?_
   refine at_end ?_
   refine at_region ?_
   refine at_q rfl rfl (by decide) (qt_move rfl rfl) ?_
   refine at_q rfl rfl (by decide) (qt_neg rfl rfl (by omega) (by omega)) ?_
   refine at_q rfl rfl (by decide) (qt_assign rfl rfl) ?_
   refine at_end ?_
   refine at_seq ?_
   refine dg_start mixed rfl ?_
   refine dg_phaseW 26 [4] ?_
   refine dg_q (i := 0) rfl (by kernel_rfl) (by kernel_rfl) (by kernel_rfl) [] (by kernel_rfl) (fun _ _ _ h => h) rfl rfl (by decide) (fun _ h => (h.wk [4]).upto ⟨rfl, rfl, rfl, rfl, rfl, rfl, trivial⟩) (qt_fieldAddr rfl rfl tyf_impl_Pt_0) ?_
   refine dg_q (i := 1) rfl (by kernel_rfl) (by kernel_rfl) (by kernel_rfl) [] (by kernel_rfl) (fun _ _ _ h => h) rfl rfl (by decide) (fun _ h => (h.wk [4]).upto ⟨rfl, rfl, rfl, rfl, rfl, rfl, trivial⟩) (qt_load1 rfl rfl ty1_int64 (rd1 (k := 0) rfl rfl)) ?_
   refine dg_q (i := 2) rfl (by kernel_rfl) (by kernel_rfl) (by kernel_rfl) [] (by kernel_rfl) (fun _ _ _ h => h) rfl rfl (by decide) (fun _ h => (h.wk [4]).upto ⟨rfl, rfl, rfl, rfl, rfl, rfl, trivial⟩) (qt_fieldAddr rfl rfl tyf_impl_Pt_0) ?_
   refine dg_q (i := 3) rfl (by kernel_rfl) (by kernel_rfl) (by kernel_rfl) [] (by kernel_rfl) (fun _ _ _ h => h) rfl rfl (by decide) (fun _ h => (h.wk [4]).upto ⟨rfl, rfl, rfl, rfl, rfl, rfl, trivial⟩) (qt_load1 rfl rfl ty1_int64 (rd1 (k := 1) rfl rfl)) ?_
   refine dg_q (i := 4) rfl (by kernel_rfl) (by kernel_rfl) (by kernel_rfl) [] (by kernel_rfl) (fun _ _ _ h => h) rfl rfl (by decide) (fun _ h => (h.wk [4]).upto ⟨rfl, rfl, rfl, rfl, rfl, rfl, trivial⟩) (qt_fieldAddr rfl rfl tyf_impl_Pt_0) ?_
   refine dg_q (i := 5) rfl (by kernel_rfl) (by kernel_rfl) (by kernel_rfl) [] (by kernel_rfl) (fun _ _ _ h => h) rfl rfl (by decide) (fun _ h => (h.wk [4]).upto ⟨rfl, rfl, rfl, rfl, rfl, rfl, trivial⟩) (qt_load1 rfl rfl ty1_int64 (rd1 (k := 0) rfl rfl)) ?_
   refine dg_q (i := 6) rfl (by kernel_rfl) (by kernel_rfl) (by kernel_rfl) [] (by kernel_rfl) (fun _ _ _ h => h) rfl rfl (by decide) (fun _ h => (h.wk [4]).upto ⟨rfl, rfl, rfl, rfl, rfl, rfl, trivial⟩) (qt_sub rfl rfl rfl (by omega) (by omega)) ?_
   refine dg_q (i := 7) rfl (by kernel_rfl) (by kernel_rfl) (by kernel_rfl) [] (by kernel_rfl) (fun _ _ _ h => h) rfl rfl (by decide) (fun _ h => (h.wk [4]).upto ⟨rfl, rfl, rfl, rfl, rfl, rfl, trivial⟩) (qt_move rfl rfl) ?_
   refine dg_q (i := 8) rfl (by kernel_rfl) (by kernel_rfl) (by kernel_rfl) [] (by kernel_rfl) (fun _ _ _ h => h) rfl rfl (by decide) (fun _ h => (h.wk [4]).upto ⟨rfl, rfl, rfl, rfl, rfl, rfl, trivial⟩) (qt_mul rfl rfl rfl (by omega) (by omega)) ?_
   refine dg_q (i := 9) rfl (by kernel_rfl) (by kernel_rfl) (by kernel_rfl) [] (by kernel_rfl) (fun _ _ _ h => h) rfl rfl (by decide) (fun _ h => (h.wk [4]).upto ⟨rfl, rfl, rfl, rfl, rfl, rfl, trivial⟩) (qt_move rfl rfl) ?_
   refine dg_q (i := 10) rfl (by kernel_rfl) (by kernel_rfl) (by kernel_rfl) [] (by kernel_rfl) (fun _ _ _ h => h) rfl rfl (by decide) (fun _ h => (h.wk [4]).upto ⟨rfl, rfl, rfl, rfl, rfl, rfl, trivial⟩) (qt_call ok_spec_l03Round rfl rfl (fun w h => Calls.still (l03Round_any _ _ w (by omega) (by omega) (by omega) (by omega)))) ?_
   refine dg_q (i := 11) rfl (by kernel_rfl) (by kernel_rfl) (by kernel_rfl) [] (by kernel_rfl) (fun _ _ _ h => h) rfl rfl (by decide) (fun _ h => (h.wk [4]).upto ⟨rfl, rfl, rfl, rfl, rfl, rfl, trivial⟩) (qt_add rfl rfl rfl (by omega) (by omega)) ?_
   refine dg_q (i := 12) rfl (by kernel_rfl) (by kernel_rfl) (by kernel_rfl) [] (by kernel_rfl) (fun _ _ _ h => h) rfl rfl (by decide) (fun _ h => (h.wk [4]).upto ⟨rfl, rfl, rfl, rfl, rfl, rfl, trivial⟩) (qt_fieldAddr rfl rfl tyf_impl_Pt_1) ?_
   refine dg_q (i := 13) rfl (by kernel_rfl) (by kernel_rfl) (by kernel_rfl) [] (by kernel_rfl) (fun _ _ _ h => h) rfl rfl (by decide) (fun _ h => (h.wk [4]).upto ⟨rfl, rfl, rfl, rfl, rfl, rfl, trivial⟩) (qt_load1 rfl rfl ty1_int64 (rd1 (k := 0) rfl rfl)) ?_
   refine dg_q (i := 14) rfl (by kernel_rfl) (by kernel_rfl) (by kernel_rfl) [] (by kernel_rfl) (fun _ _ _ h => h) rfl rfl (by decide) (fun _ h => (h.wk [4]).upto ⟨rfl, rfl, rfl, rfl, rfl, rfl, trivial⟩) (qt_fieldAddr rfl rfl tyf_impl_Pt_1) ?_
   refine dg_q (i := 15) rfl (by kernel_rfl) (by kernel_rfl) (by kernel_rfl) [] (by kernel_rfl) (fun _ _ _ h => h) rfl rfl (by decide) (fun _ h => (h.wk [4]).upto ⟨rfl, rfl, rfl, rfl, rfl, rfl, trivial⟩) (qt_load1 rfl rfl ty1_int64 (rd1 (k := 1) rfl rfl)) ?_
   refine dg_q (i := 16) rfl (by kernel_rfl) (by kernel_rfl) (by kernel_rfl) [] (by kernel_rfl) (fun _ _ _ h => h) rfl rfl (by decide) (fun _ h => (h.wk [4]).upto ⟨rfl, rfl, rfl, rfl, rfl, rfl, trivial⟩) (qt_fieldAddr rfl rfl tyf_impl_Pt_1) ?_
   refine dg_q (i := 17) rfl (by kernel_rfl) (by kernel_rfl) (by kernel_rfl) [] (by kernel_rfl) (fun _ _ _ h => h) rfl rfl (by decide) (fun _ h => (h.wk [4]).upto ⟨rfl, rfl, rfl, rfl, rfl, rfl, trivial⟩) (qt_load1 rfl rfl ty1_int64 (rd1 (k := 0) rfl rfl)) ?_
   refine dg_q (i := 18) rfl (by kernel_rfl) (by kernel_rfl) (by kernel_rfl) [] (by kernel_rfl) (fun _ _ _ h => h) rfl rfl (by decide) (fun _ h => (h.wk [4]).upto ⟨rfl, rfl, rfl, rfl, rfl, rfl, trivial⟩) (qt_sub rfl rfl rfl (by omega) (by omega)) ?_
   refine dg_q (i := 19) rfl (by kernel_rfl) (by kernel_rfl) (by kernel_rfl) [] (by kernel_rfl) (fun _ _ _ h => h) rfl rfl (by decide) (fun _ h => (h.wk [4]).upto ⟨rfl, rfl, rfl, rfl, rfl, rfl, trivial⟩) (qt_move rfl rfl) ?_
   refine dg_q (i := 20) rfl (by kernel_rfl) (by kernel_rfl) (by kernel_rfl) [] (by kernel_rfl) (fun _ _ _ h => h) rfl rfl (by decide) (fun _ h => (h.wk [4]).upto ⟨rfl, rfl, rfl, rfl, rfl, rfl, trivial⟩) (qt_mul rfl rfl rfl (by omega) (by omega)) ?_
   refine dg_q (i := 21) rfl (by kernel_rfl) (by kernel_rfl) (by kernel_rfl) [] (by kernel_rfl) (fun _ _ _ h => h) rfl rfl (by decide) (fun _ h => (h.wk [4]).upto ⟨rfl, rfl, rfl, rfl, rfl, rfl, trivial⟩) (qt_move rfl rfl) ?_
   refine dg_q (i := 22) rfl (by kernel_rfl) (by kernel_rfl) (by kernel_rfl) [] (by kernel_rfl) (fun _ _ _ h => h) rfl rfl (by decide) (fun _ h => (h.wk [4]).upto ⟨rfl, rfl, rfl, rfl, rfl, rfl, trivial⟩) (qt_call ok_spec_l03Round rfl rfl (fun w h => Calls.still (l03Round_any _ _ w (by omega) (by omega) (by omega) (by omega)))) ?_
   refine dg_q (i := 23) rfl (by kernel_rfl) (by kernel_rfl) (by kernel_rfl) [] (by kernel_rfl) (fun _ _ _ h => h) rfl rfl (by decide) (fun _ h => (h.wk [4]).upto ⟨rfl, rfl, rfl, rfl, rfl, rfl, trivial⟩) (qt_add rfl rfl rfl (by omega) (by omega)) ?_
   refine dg_q (i := 24) rfl (by kernel_rfl) (by kernel_rfl) (by kernel_rfl) [] (by kernel_rfl) (fun _ _ _ h => h) rfl rfl (by decide) (fun _ h => (h.wk [4]).upto ⟨rfl, rfl, rfl, rfl, rfl, rfl, trivial⟩) (qt_build rfl rfl (bld_impl_Pt_0_1 rfl rfl)) ?_
   refine dg_one (i := 25) rfl (by decide) (by kernel_rfl) rfl ?_
   refine op_storeAll' (k := 4) rfl rfl rfl rfl (rfl) (by rfl) tyz_impl_Pt.szx rfl rfl rfl ?_
   refine at_rsE (by simp only [ya,yb,yc,yd,Value.cells,ye]; rfl) ?_
   refine dr_keep (fun _ h => (h.wk [4]).upto ⟨rfl, rfl, rfl, rfl, rfl, rfl, trivial⟩) ?_
   refine dg_done (by kernel_rfl) ?_
   refine norm_then ?_
   refine at_retc ?_
   refine at_ret1 rfl (rvCelS (k := 4) rfl tys_impl_Pt rfl rfl) ?_
   intro w' hs
   exact ⟨by rw [eP, e1, e2], hs.fin⟩
  ·try simp only [za,zb,zc,zd,ze,zf,Bool.not_true,Bool.not_false,zg,zh,ne_eq,zi,zj] at c2
   have r1 := rnd_bd ((b.1 - a.1) * tn c d a) (tn c d a - tn c d b) 288230376151711744 (by omega) (by omega) (by omega)
   have r2 := rnd_bd ((b.2 - a.2) * tn c d a) (tn c d a - tn c d b) 288230376151711744 (by omega) (by omega) (by omega)
   rw [if_neg (Int.not_lt.2 c2)] at e1 e2
   refine at_skip ?_
   refine norm_then ?_
   refine at_seq ?_
   refine dg_start mixed rfl ?_
   refine dg_phaseW 26 [4] ?_
   refine dg_q (i := 0) rfl (by kernel_rfl) (by kernel_rfl) (by kernel_rfl) [] (by kernel_rfl) (fun _ _ _ h => h) rfl rfl (by decide) (fun _ h => (h.wk [4]).upto ⟨rfl, rfl, rfl, rfl, rfl, rfl, trivial⟩) (qt_fieldAddr rfl rfl tyf_impl_Pt_0) ?_
   refine dg_q (i := 1) rfl (by kernel_rfl) (by kernel_rfl) (by kernel_rfl) [] (by kernel_rfl) (fun _ _ _ h => h) rfl rfl (by decide) (fun _ h => (h.wk [4]).upto ⟨rfl, rfl, rfl, rfl, rfl, rfl, trivial⟩) (qt_load1 rfl rfl ty1_int64 (rd1 (k := 0) rfl rfl)) ?_
   refine dg_q (i := 2) rfl (by kernel_rfl) (by kernel_rfl) (by kernel_rfl) [] (by kernel_rfl) (fun _ _ _ h => h) rfl rfl (by decide) (fun _ h => (h.wk [4]).upto ⟨rfl, rfl, rfl, rfl, rfl, rfl, trivial⟩) (qt_fieldAddr rfl rfl tyf_impl_Pt_0) ?_
   refine dg_q (i := 3) rfl (by kernel_rfl) (by kernel_rfl) (by kernel_rfl) [] (by kernel_rfl) (fun _ _ _ h => h) rfl rfl (by decide) (fun _ h => (h.wk [4]).upto ⟨rfl, rfl, rfl, rfl, rfl, rfl, trivial⟩) (qt_load1 rfl rfl ty1_int64 (rd1 (k := 1) rfl rfl)) ?_
   refine dg_q (i := 4) rfl (by kernel_rfl) (by kernel_rfl) (by kernel_rfl) [] (by kernel_rfl) (fun _ _ _ h => h) rfl rfl (by decide) (fun _ h => (h.wk [4]).upto ⟨rfl, rfl, rfl, rfl, rfl, rfl, trivial⟩) (qt_fieldAddr rfl rfl tyf_impl_Pt_0) ?_
   refine dg_q (i := 5) rfl (by kernel_rfl) (by kernel_rfl) (by kernel_rfl) [] (by kernel_rfl) (fun _ _ _ h => h) rfl rfl (by decide) (fun _ h => (h.wk [4]).upto ⟨rfl, rfl, rfl, rfl, rfl, rfl, trivial⟩) (qt_load1 rfl rfl ty1_int64 (rd1 (k := 0) rfl rfl)) ?_
   refine dg_q (i := 6) rfl (by kernel_rfl) (by kernel_rfl) (by kernel_rfl) [] (by kernel_rfl) (fun _ _ _ h => h) rfl rfl (by decide) (fun _ h => (h.wk [4]).upto ⟨rfl, rfl, rfl, rfl, rfl, rfl, trivial⟩) (qt_sub rfl rfl rfl (by omega) (by omega)) ?_
   refine dg_q (i := 7) rfl (by kernel_rfl) (by kernel_rfl) (by kernel_rfl) [] (by kernel_rfl) (fun _ _ _ h => h) rfl rfl (by decide) (fun _ h => (h.wk [4]).upto ⟨rfl, rfl, rfl, rfl, rfl, rfl, trivial⟩) (qt_move rfl rfl) ?_
   refine dg_q (i := 8) rfl (by kernel_rfl) (by kernel_rfl) (by kernel_rfl) [] (by kernel_rfl) (fun _ _ _ h => h) rfl rfl (by decide) (fun _ h => (h.wk [4]).upto ⟨rfl, rfl, rfl, rfl, rfl, rfl, trivial⟩) (qt_mul rfl rfl rfl (by omega) (by omega)) ?_
   refine dg_q (i := 9) rfl (by kernel_rfl) (by kernel_rfl) (by kernel_rfl) [] (by kernel_rfl) (fun _ _ _ h => h) rfl rfl (by decide) (fun _ h => (h.wk [4]).upto ⟨rfl, rfl, rfl, rfl, rfl, rfl, trivial⟩) (qt_move rfl rfl) ?_
   refine dg_q (i := 10) rfl (by kernel_rfl) (by kernel_rfl) (by kernel_rfl) [] (by kernel_rfl) (fun _ _ _ h => h) rfl rfl (by decide) (fun _ h => (h.wk [4]).upto ⟨rfl, rfl, rfl, rfl, rfl, rfl, trivial⟩) (qt_call ok_spec_l03Round rfl rfl (fun w h => Calls.still (l03Round_any _ _ w (by omega) (by omega) (by omega) (by omega)))) ?_
   refine dg_q (i := 11) rfl (by kernel_rfl) (by kernel_rfl) (by kernel_rfl) [] (by kernel_rfl) (fun _ _ _ h => h) rfl rfl (by decide) (fun _ h => (h.wk [4]).upto ⟨rfl, rfl, rfl, rfl, rfl, rfl, trivial⟩) (qt_add rfl rfl rfl (by omega) (by omega)) ?_
   refine dg_q (i := 12) rfl (by kernel_rfl) (by kernel_rfl) (by kernel_rfl) [] (by kernel_rfl) (fun _ _ _ h => h) rfl rfl (by decide) (fun _ h => (h.wk [4]).upto ⟨rfl, rfl, rfl, rfl, rfl, rfl, trivial⟩) (qt_fieldAddr rfl rfl tyf_impl_Pt_1) ?_
   refine dg_q (i := 13) rfl (by kernel_rfl) (by kernel_rfl) (by kernel_rfl) [] (by kernel_rfl) (fun _ _ _ h => h) rfl rfl (by decide) (fun _ h => (h.wk [4]).upto ⟨rfl, rfl, rfl, rfl, rfl, rfl, trivial⟩) (qt_load1 rfl rfl ty1_int64 (rd1 (k := 0) rfl rfl)) ?_
   refine dg_q (i := 14) rfl (by kernel_rfl) (by kernel_rfl) (by kernel_rfl) [] (by kernel_rfl) (fun _ _ _ h => h) rfl rfl (by decide) (fun _ h => (h.wk [4]).upto ⟨rfl, rfl, rfl, rfl, rfl, rfl, trivial⟩) (qt_fieldAddr rfl rfl tyf_impl_Pt_1) ?_
   refine dg_q (i := 15) rfl (by kernel_rfl) (by kernel_rfl) (by kernel_rfl) [] (by kernel_rfl) (fun _ _ _ h => h) rfl rfl (by decide) (fun _ h => (h.wk [4]).upto ⟨rfl, rfl, rfl, rfl, rfl, rfl, trivial⟩) (qt_load1 rfl rfl ty1_int64 (rd1 (k := 1) rfl rfl)) ?_
   refine dg_q (i := 16) rfl (by kernel_rfl) (by kernel_rfl) (by kernel_rfl) [] (by kernel_rfl) (fun _ _ _ h => h) rfl rfl (by decide) (fun _ h => (h.wk [4]).upto ⟨rfl, rfl, rfl, rfl, rfl, rfl, trivial⟩) (qt_fieldAddr rfl rfl tyf_impl_Pt_1) ?_
   refine dg_q (i := 17) rfl (by kernel_rfl) (by kernel_rfl) (by kernel_rfl) [] (by kernel_rfl) (fun _ _ _ h => h) rfl rfl (by decide) (fun _ h => (h.wk [4]).upto ⟨rfl, rfl, rfl, rfl, rfl, rfl, trivial⟩) (qt_load1 rfl rfl ty1_int64 (rd1 (k := 0) rfl rfl)) ?_
   refine dg_q (i := 18) rfl (by kernel_rfl) (by kernel_rfl) (by kernel_rfl) [] (by kernel_rfl) (fun _ _ _ h => h) rfl rfl (by decide) (fun _ h => (h.wk [4]).upto ⟨rfl, rfl, rfl, rfl, rfl, rfl, trivial⟩) (qt_sub rfl rfl rfl (by omega) (by omega)) ?_
   refine dg_q (i := 19) rfl (by kernel_rfl) (by kernel_rfl) (by kernel_rfl) [] (by kernel_rfl) (fun _ _ _ h => h) rfl rfl (by decide) (fun _ h => (h.wk [4]).upto ⟨rfl, rfl, rfl, rfl, rfl, rfl, trivial⟩) (qt_move rfl rfl) ?_
   refine dg_q (i := 20) rfl (by kernel_rfl) (by kernel_rfl) (by kernel_rfl) [] (by kernel_rfl) (fun _ _ _ h => h) rfl rfl (by decide) (fun _ h => (h.wk [4]).upto ⟨rfl, rfl, rfl, rfl, rfl, rfl, trivial⟩) (qt_mul rfl rfl rfl (by omega) (by omega)) ?_
   refine dg_q (i := 21) rfl (by kernel_rfl) (by kernel_rfl) (by kernel_rfl) [] (by kernel_rfl) (fun _ _ _ h => h) rfl rfl (by decide) (fun _ h => (h.wk [4]).upto ⟨rfl, rfl, rfl, rfl, rfl, rfl, trivial⟩) (qt_move rfl rfl) ?_
   refine dg_q (i := 22) rfl (by kernel_rfl) (by kernel_rfl) (by kernel_rfl) [] (by kernel_rfl) (fun _ _ _ h => h) rfl rfl (by decide) (fun _ h => (h.wk [4]).upto ⟨rfl, rfl, rfl, rfl, rfl, rfl, trivial⟩) (qt_call ok_spec_l03Round rfl rfl (fun w h => Calls.still (l03Round_any _ _ w (by omega) (by omega) (by omega) (by omega)))) ?_
   refine dg_q (i := 23) rfl (by kernel_rfl) (by kernel_rfl) (by kernel_rfl) [] (by kernel_rfl) (fun _ _ _ h => h) rfl rfl (by decide) (fun _ h => (h.wk [4]).upto ⟨rfl, rfl, rfl, rfl, rfl, rfl, trivial⟩) (qt_add rfl rfl rfl (by omega) (by omega)) ?_
   refine dg_q (i := 24) rfl (by kernel_rfl) (by kernel_rfl) (by kernel_rfl) [] (by kernel_rfl) (fun _ _ _ h => h) rfl rfl (by decide) (fun _ h => (h.wk [4]).upto ⟨rfl, rfl, rfl, rfl, rfl, rfl, trivial⟩) (qt_build rfl rfl (bld_impl_Pt_0_1 rfl rfl)) ?_
   refine dg_one (i := 25) rfl (by decide) (by kernel_rfl) rfl ?_
   refine op_storeAll' (k := 4) rfl rfl rfl rfl (rfl) (by rfl) tyz_impl_Pt.szx rfl rfl rfl ?_
   refine at_rsE (by simp only [ya,yb,yc,yd,Value.cells,ye]; rfl) ?_
   refine dr_keep (fun _ h => (h.wk [4]).upto ⟨rfl, rfl, rfl, rfl, rfl, rfl, trivial⟩) ?_
   refine dg_done (by kernel_rfl) ?_
   refine norm_then ?_
   refine at_retc ?_
   refine at_ret1 rfl (rvCelS (k := 4) rfl tys_impl_Pt rfl rfl) ?_
   intro w' hs
   exact ⟨by rw [eP, e1, e2], hs.fin⟩
section
variable {P : Program} {n : Nat} {env : List (Nat × Value)} {w0 : Bs} {Rs : List Res} {ops : Array Oper} {Q : Exit → Act → World → Prop} {K : Act → World → Prop} {o : Oper}
/-- A call that turns a piece into what comes back. -/
theorem op_callP {f k d : Nat} (hfn : FnOk P f) {xs : List Operand} {vs : List Value} {ts : Array TypeId} {X : Type} {v : X → Value} {r : Res} {r' : X → Res} (ho : o.op = .call { callee := .value (.func f), args := xs.toArray, argTypes := ts }) (hx : evs env xs = some vs) (hd : o.dst = some d) (hn : d < n)
  (hk : Rs[k]? = some r) (hc : ∀ w, St w0 Rs w → Calls P f vs.toArray w fun e w' => ∃ x, e = .returned (v x) ∧ Wrs r.F w w' ∧ (r' x).P w' ∧ (∀ b, (r' x).F b → r.F b ∨ w.heap.size ≤ b) ∧ (r' x).B = 0)
  (h : ∀ x, At n ((d, v x) :: env) w0 (Rs.set k (r' x)) K) : At n env w0 Rs (fun a w => o.wp P a w K Q) := fun a w hF' hs => by
 show o.upon P a K Q ((execOp a.eval o).run P w)
 rw [run_call hfn ho hx hF']
 refine Calls.mono (hc w hs) ?_
 rintro e w' ⟨x, rfl, hw, hp, hF, hB⟩
 have hlow := (hs.all k _ hk).2.1
 show K (a.put o.dst (v x)) w'
 rw [hd]
 refine h x _ _ (hF'.put hn _) (hs.upd hk ⟨hw.os.trans hs.over.os, hw.tape.trans hs.over.tape, hw.output.trans hs.over.output, Nat.le_trans hs.over.size hw.size, fun c hc' hx' => ?_⟩ hw.size (fun c hc' hne => hw.block c hc' hne) hp (fun c hc' => hF c hc') hB)
 rw [hw.block c (Nat.lt_of_lt_of_le hc' hs.over.size) (fun e => (hlow c e).elim (fun h1 => by omega) (fun h1 => hx' h1))]
 exact hs.over.block c hc' hx'
/-- A row, wherever it begins. -/
theorem at_rowB0 (k : Nat) {B T s m : Nat} {v : Value} {xs : List Value} (hk : Rs[k]? = some (.row B T s v m xs)) (h : At n env w0 (Rs.set k (.row 0 T s v m xs)) K) : At n env w0 Rs K := fun a w hf hs =>
 h a w hf (hs.chg hk (fun hP => row_low hP (Nat.zero_le _)) (fun c hc => hc) rfl)
end
theorem at_rebase {n : Nat} {env : List (Nat × Value)} {w0 : Bs} {Rs : List Res} {K : Act → World → Prop} (h : ∀ w1, St w0 Rs w1 → At n env ⟨w1, []⟩ [] K) : At n env w0 Rs K := fun a w hf hs => h w hs a w hf (St.start w)
abbrev hotR (xs : List Pn) (x : Nat × Nat) : Res := rowR 0 64 2 xs.length (xs.flatMap ptCells) (some ⟨x.1, 0, none⟩, x.2)
theorem l13Before_p (p q : Pn) (w : World) : Calls Tryz.prog 53 #[pV p, pV q] w fun e w' => e = .returned (.bool (decide (ltY p q))) ∧ Over w w' := by
 refine walk_from (m := 24) (Tryz.func53) rfl rfl (Nat.le_of_ble_eq_true rfl) ?_
 refine at_seq ?_
 refine at_region ?_
 refine at_op rfl ?_
 refine op_box rfl rfl (rfl) rfl (by decide) (fun b1 => ?_)
 refine at_rsE (by simp only [ya,yb,yc,yd,Value.cells,ye]; rfl) ?_
 refine at_op rfl ?_
 refine op_box rfl rfl (rfl) rfl (by decide) (fun b2 => ?_)
 refine at_rsE (by simp only [ya,yb,yc,yd,Value.cells,ye]; rfl) ?_
 refine at_q rfl rfl (by decide) (qt_assign rfl rfl) ?_
 refine at_end ?_
 refine at_seq ?_
 refine at_region ?_
 refine at_q rfl rfl (by decide) (qt_fieldAddr rfl rfl tyf_impl_Pt_1) ?_
 refine at_q rfl rfl (by decide) (qt_load1 rfl rfl ty1_int64 (rd1 (k := 0) rfl rfl)) ?_
 refine at_q rfl rfl (by decide) (qt_fieldAddr rfl rfl tyf_impl_Pt_1) ?_
 refine at_q rfl rfl (by decide) (qt_load1 rfl rfl ty1_int64 (rd1 (k := 1) rfl rfl)) ?_
 refine at_q rfl rfl (by decide) (qt_lss rfl rfl rfl) ?_
 refine at_q rfl rfl (by decide) (qt_move rfl rfl) ?_
 refine at_bsplit 10 rfl (fun g1 => ?_) (fun g1 => ?_)
 ·try simp only [za,zb,zc,zd,ze,zf,Bool.not_true,Bool.not_false,zg,zh,ne_eq,zi,zj] at g1
  refine at_off rfl rfl rfl rfl (by decide) rfl (by decide) ?_
  refine at_off rfl rfl rfl rfl (by decide) rfl (by decide) ?_
  refine at_off rfl rfl rfl rfl (by decide) rfl (by decide) ?_
  refine at_off rfl rfl rfl rfl (by decide) rfl (by decide) ?_
  refine at_off rfl rfl rfl rfl (by decide) rfl (by decide) ?_
  refine at_off rfl rfl rfl rfl (by decide) rfl (by decide) ?_
  refine at_offu rfl rfl rfl rfl rfl (by decide) ?_
  refine at_offu rfl rfl rfl rfl rfl (by decide) ?_
  refine at_offu rfl rfl rfl rfl rfl (by decide) ?_
  refine at_offu rfl rfl rfl rfl rfl (by decide) ?_
  refine at_offu rfl rfl rfl rfl rfl (by decide) ?_
  refine at_off rfl rfl rfl rfl (by decide) rfl (by decide) ?_
  refine at_q rfl rfl (by decide) (qt_pickT rfl rfl rfl) ?_
  refine at_q rfl rfl (by decide) (qt_assign rfl rfl) ?_
  refine at_end ?_
  refine at_retc ?_
  refine at_ret1 rfl (.tmp rfl) ?_
  intro w' hs
  exact ⟨congrArg Ending.returned (congrArg Value.bool (Bool.eq_iff_iff.2 (Iff.trans (b := ltY p q) (by simp [ltY]; omega) decide_eq_true_iff.symm))), hs.fin⟩
 ·try simp only [za,zb,zc,zd,ze,zf,Bool.not_true,Bool.not_false,zg,zh,ne_eq,zi,zj] at g1
  refine at_on rfl rfl rfl rfl ?_
  refine op_q rfl (by decide) (qt_fieldAddr rfl rfl tyf_impl_Pt_1) ?_
  refine at_on rfl rfl rfl rfl ?_
  refine op_q rfl (by decide) (qt_load1 rfl rfl ty1_int64 (rd1 (k := 0) rfl rfl)) ?_
  refine at_on rfl rfl rfl rfl ?_
  refine op_q rfl (by decide) (qt_fieldAddr rfl rfl tyf_impl_Pt_1) ?_
  refine at_on rfl rfl rfl rfl ?_
  refine op_q rfl (by decide) (qt_load1 rfl rfl ty1_int64 (rd1 (k := 1) rfl rfl)) ?_
  refine at_on rfl rfl rfl rfl ?_
  refine op_q rfl (by decide) (qt_eql rfl rfl rfl) ?_
  refine at_on rfl rfl rfl rfl ?_
  refine op_q rfl (by decide) (qt_move rfl rfl) ?_
  refine at_bsplit 16 rfl (fun g2 => ?_) (fun g2 => ?_)
  ·try simp only [za,zb,zc,zd,ze,zf,Bool.not_true,Bool.not_false,zg,zh,ne_eq,zi,zj] at g2
   refine at_on rfl rfl rfl rfl ?_
   refine op_q rfl (by decide) (qt_fieldAddr rfl rfl tyf_impl_Pt_0) ?_
   refine at_on rfl rfl rfl rfl ?_
   refine op_q rfl (by decide) (qt_load1 rfl rfl ty1_int64 (rd1 (k := 0) rfl rfl)) ?_
   refine at_on rfl rfl rfl rfl ?_
   refine op_q rfl (by decide) (qt_fieldAddr rfl rfl tyf_impl_Pt_0) ?_
   refine at_on rfl rfl rfl rfl ?_
   refine op_q rfl (by decide) (qt_load1 rfl rfl ty1_int64 (rd1 (k := 1) rfl rfl)) ?_
   refine at_on rfl rfl rfl rfl ?_
   refine op_q rfl (by decide) (qt_lss rfl rfl rfl) ?_
   refine at_on rfl rfl rfl rfl ?_
   refine op_q rfl (by decide) (qt_pickT rfl rfl rfl) ?_
   refine at_q rfl rfl (by decide) (qt_pickF rfl rfl rfl) ?_
   refine at_q rfl rfl (by decide) (qt_assign rfl rfl) ?_
   refine at_end ?_
   refine at_retc ?_
   refine at_ret1 rfl (.tmp rfl) ?_
   intro w' hs
   exact ⟨congrArg Ending.returned (congrArg Value.bool (Bool.eq_iff_iff.2 (Iff.trans (b := ltY p q) (by simp [ltY]; omega) decide_eq_true_iff.symm))), hs.fin⟩
  ·try simp only [za,zb,zc,zd,ze,zf,Bool.not_true,Bool.not_false,zg,zh,ne_eq,zi,zj] at g2
   refine at_off rfl rfl rfl rfl (by decide) rfl (by decide) ?_
   refine at_off rfl rfl rfl rfl (by decide) rfl (by decide) ?_
   refine at_off rfl rfl rfl rfl (by decide) rfl (by decide) ?_
   refine at_off rfl rfl rfl rfl (by decide) rfl (by decide) ?_
   refine at_off rfl rfl rfl rfl (by decide) rfl (by decide) ?_
   refine at_on rfl rfl rfl rfl ?_
   refine op_q rfl (by decide) (qt_pickF rfl rfl rfl) ?_
   refine at_q rfl rfl (by decide) (qt_pickF rfl rfl rfl) ?_
   refine at_q rfl rfl (by decide) (qt_assign rfl rfl) ?_
   refine at_end ?_
   refine at_retc ?_
   refine at_ret1 rfl (.tmp rfl) ?_
   intro w' hs
   exact ⟨congrArg Ending.returned (congrArg Value.bool (Bool.eq_iff_iff.2 (Iff.trans (b := ltY p q) (by simp [ltY]; omega) decide_eq_true_iff.symm))), hs.fin⟩
theorem posP_stop {xs : List Pn} {p : Pn} {k : Nat} (h : ¬ (0 < k ∧ ltY p (pt xs (k - 1)))) : posP xs p k = k := by
 cases k with
 | zero => rfl
 | succ k =>
  rw [posP, if_neg]
  intro h1
  exact h ⟨by omega, h1⟩
theorem posP_more {xs : List Pn} {p : Pn} {k : Nat} (h : 0 < k ∧ ltY p (pt xs (k - 1))) : posP xs p (k - 1) = posP xs p k := by
 cases k with
 | zero => rfl
 | succ k =>
  show posP xs p k = posP xs p (k + 1)
  rw [posP, if_pos (show ltY p (pt xs k) from h.2)]
theorem ptEq {xs : List Pn} {j : Nat} {p : Pn} : ((px xs j == p.1) && (py xs j == p.2)) = decide (pt xs j = p) := by
 rw [Bool.eq_iff_iff]
 simp [pt, Prod.ext_iff]
theorem putP_old {xs : List Pn} {p : Pn} {k : Nat} (h : k = posP xs p xs.length) (hk : 0 < k ∧ pt xs (k - 1) = p) : putP xs p = xs := by
 subst h
 rw [putP, if_pos hk]
theorem putP_new {xs : List Pn} {p : Pn} {k : Nat} (h : k = posP xs p xs.length) (hk : ¬ (0 < k ∧ pt xs (k - 1) = p)) : putP xs p = xs.take k ++ p :: xs.drop k := by
 subst h
 rw [putP, if_neg hk]
theorem l13Put_any (g c n : Nat) (xs : List Pn) (p : Pn) (w : World) (h : Pts w (some ⟨g, 0, none⟩) n xs) (hc : n ≤ c) (hn : n ≤ 1048576) :
  Calls Tryz.prog 31 #[.slice (some ⟨g, 0, none⟩) n c, pV p] w fun e w' => (e = .returned (.slice (some ⟨g, 0, none⟩) n c) ∧ putP xs p = xs ∧ Over w w') ∨ ∃ v, e = .returned v ∧ w'.ownsRow w.heap.size 64 2 v (putP xs p).length ((putP xs p).flatMap ptCells) ∧ Over w w' := by
 have hl := h.1
 refine walk_from (m := 48) (Tryz.func31) rfl rfl (Nat.le_of_ble_eq_true rfl) ?_
 refine at_seq ?_
 refine at_region ?_
 refine at_op rfl ?_
 refine op_box rfl rfl (rfl) rfl (by decide) (fun b1 => ?_)
 refine at_rsE (by simp only [ya,yb,yc,yd,Value.cells,ye]; rfl) ?_
 refine at_q rfl rfl (by decide) (qt_assign rfl rfl) ?_
 refine at_end ?_
 refine at_seq ?_
 refine at_region ?_
 refine at_q rfl rfl (by decide) (qt_move rfl rfl) ?_
 refine at_q rfl rfl (by decide) (qt_len rfl rfl tyl_sl_impl_Pt) ?_
 refine at_q rfl rfl (by decide) (qt_assign rfl rfl) ?_
 refine at_end ?_
 refine at_seq ?_
 refine at_block ?_
 refine at_loopk (X := Nat) (fun k => k ≤ n ∧ posP xs p k = posP xs p n) (fun k => k) (fun k => [(5, .int .i64 (k : Int))]) (C := [(0, _), (3, _), (4, _)]) ⟨rfl, rfl, rfl, trivial⟩ n (⟨Nat.le_refl _, rfl⟩) ⟨rfl, rfl, rfl, rfl, trivial⟩ ?_
 intro k hk L hL1
 refine at_envE (by simp only [ya,yb]; rfl) ?_
 refine at_seq ?_
 refine at_cutE [(19, .bool (decide (0 < k ∧ ltY p (pt xs (k - 1)))))] (C := [(0, _), (3, _), (4, _), (5, _)])  ⟨rfl, rfl, rfl, rfl, trivial⟩ (fun L hC_cut_2 => ?_) ?_
 ·refine dg_start mixed rfl ?_
  refine dg_phase 11 ?_
  refine dg_q (i := 0) rfl (by kernel_rfl) (by kernel_rfl) (by kernel_rfl) [] (by kernel_rfl) (fun _ _ _ h => h) rfl rfl (by decide) (fun _ h => h.upto ⟨rfl, trivial⟩) (qt_move rfl rfl) ?_
  refine dg_q (i := 1) rfl (by kernel_rfl) (by kernel_rfl) (by kernel_rfl) [] (by kernel_rfl) (fun _ _ _ h => h) rfl rfl (by decide) (fun _ h => h.upto ⟨rfl, trivial⟩) (qt_gtr rfl rfl rfl) ?_
  refine dg_q (i := 2) rfl (by kernel_rfl) (by kernel_rfl) (by kernel_rfl) [] (by kernel_rfl) (fun _ _ _ h => h) rfl rfl (by decide) (fun _ h => h.upto ⟨rfl, trivial⟩) (qt_move rfl rfl) ?_
  refine at_bsplit 11 rfl (fun g1 => ?_) (fun g1 => ?_)
  ·try simp only [za,zb,zc,zd,ze,zf,Bool.not_true,Bool.not_false,zg,zh,ne_eq,zi,zj] at g1
   refine dg_qg (i := 3) rfl (by kernel_rfl) (by kernel_rfl) (by kernel_rfl) [] (by kernel_rfl) (fun _ _ _ h => h) rfl rfl rfl rfl rfl (by decide) (fun _ h => h.upto ⟨rfl, trivial⟩) (qt_loadS rfl rfl tys_impl_Pt rfl (rdAll (k := 0) rfl)) ?_
   refine dg_qg (i := 4) rfl (by kernel_rfl) (by kernel_rfl) (by kernel_rfl) [] (by kernel_rfl) (fun _ _ _ h => h) rfl rfl rfl rfl rfl (by decide) (fun _ h => h.upto ⟨rfl, trivial⟩) (qt_move rfl rfl) ?_
   refine dg_qg (i := 5) rfl (by kernel_rfl) (by kernel_rfl) (by kernel_rfl) [] (by kernel_rfl) (fun _ _ _ h => h) rfl rfl rfl rfl rfl (by decide) (fun _ h => h.upto ⟨rfl, trivial⟩) (qt_move rfl rfl) ?_
   refine dg_qg (i := 6) rfl (by kernel_rfl) (by kernel_rfl) (by kernel_rfl) [] (by kernel_rfl) (fun _ _ _ h => h) rfl rfl rfl rfl rfl (by decide) (fun _ h => h.upto ⟨rfl, trivial⟩) ((qt_sub rfl rfl rfl (by omega) (by omega)).as (congrArg _ (show ((k : Int) - 1) = ((k - 1 : Nat) : Int) by omega))) ?_
   refine dg_qg (i := 7) rfl (by kernel_rfl) (by kernel_rfl) (by kernel_rfl) [] (by kernel_rfl) (fun _ _ _ h => h) rfl rfl rfl rfl rfl (by decide) (fun _ h => h.upto ⟨rfl, trivial⟩) (qt_index rfl rfl rfl tyl_sl_impl_Pt (by omega)) ?_
   refine dg_qg (i := 8) rfl (by kernel_rfl) (by kernel_rfl) (by kernel_rfl) [] (by kernel_rfl) (fun _ _ _ h => h) rfl rfl rfl rfl rfl (by decide) (fun _ h => h.upto ⟨rfl, trivial⟩) (qt_loadS rfl rfl tys_impl_Pt rfl (rdPts h (by omega))) ?_
   refine dg_qg (i := 9) rfl (by kernel_rfl) (by kernel_rfl) (by kernel_rfl) [] (by kernel_rfl) (fun _ _ _ h => h) rfl rfl rfl rfl rfl (by decide) (fun _ h => h.upto ⟨rfl, trivial⟩) (qt_call ok_spec_l13Before rfl rfl (fun w _ => l13Before_p p (pt xs (k - 1)) w)) ?_
   refine dg_q (i := 10) rfl (by kernel_rfl) (by kernel_rfl) (by kernel_rfl) [] (by kernel_rfl) (fun _ _ _ h => h) rfl rfl (by decide) (fun _ h => h.upto ⟨rfl, trivial⟩) (qt_pickT rfl rfl rfl) ?_
   refine dg_done (by kernel_rfl) ?_
   refine norm_then ?_
   exact at_meet hC_cut_2 ⟨vb (by simp; omega), rfl, rfl, rfl, rfl, trivial⟩ (fun _ h => h.upto ⟨rfl, trivial⟩)
  ·try simp only [za,zb,zc,zd,ze,zf,Bool.not_true,Bool.not_false,zg,zh,ne_eq,zi,zj] at g1
   refine dg_off (i := 3) rfl (by kernel_rfl) (by kernel_rfl) (by kernel_rfl) [] (by kernel_rfl) (fun _ _ _ h => h) rfl rfl rfl rfl (by decide) rfl (by decide) (fun _ h => h.upto ⟨rfl, trivial⟩) ?_
   refine dg_off (i := 4) rfl (by kernel_rfl) (by kernel_rfl) (by kernel_rfl) [] (by kernel_rfl) (fun _ _ _ h => h) rfl rfl rfl rfl (by decide) rfl (by decide) (fun _ h => h.upto ⟨rfl, trivial⟩) ?_
   refine dg_off (i := 5) rfl (by kernel_rfl) (by kernel_rfl) (by kernel_rfl) [] (by kernel_rfl) (fun _ _ _ h => h) rfl rfl rfl rfl (by decide) rfl (by decide) (fun _ h => h.upto ⟨rfl, trivial⟩) ?_
   refine dg_off (i := 6) rfl (by kernel_rfl) (by kernel_rfl) (by kernel_rfl) [] (by kernel_rfl) (fun _ _ _ h => h) rfl rfl rfl rfl (by decide) rfl (by decide) (fun _ h => h.upto ⟨rfl, trivial⟩) ?_
   refine dg_off (i := 7) rfl (by kernel_rfl) (by kernel_rfl) (by kernel_rfl) [] (by kernel_rfl) (fun _ _ _ h => h) rfl rfl rfl rfl (by decide) rfl (by decide) (fun _ h => h.upto ⟨rfl, trivial⟩) ?_
   refine dg_off (i := 8) rfl (by kernel_rfl) (by kernel_rfl) (by kernel_rfl) [] (by kernel_rfl) (fun _ _ _ h => h) rfl rfl rfl rfl (by decide) rfl (by decide) (fun _ h => h.upto ⟨rfl, trivial⟩) ?_
   refine dg_off (i := 9) rfl (by kernel_rfl) (by kernel_rfl) (by kernel_rfl) [] (by kernel_rfl) (fun _ _ _ h => h) rfl rfl rfl rfl (by decide) rfl (by decide) (fun _ h => h.upto ⟨rfl, trivial⟩) ?_
   refine dg_q (i := 10) rfl (by kernel_rfl) (by kernel_rfl) (by kernel_rfl) [] (by kernel_rfl) (fun _ _ _ h => h) rfl rfl (by decide) (fun _ h => h.upto ⟨rfl, trivial⟩) (qt_pickF rfl rfl rfl) ?_
   refine dg_done (by kernel_rfl) ?_
   refine norm_then ?_
   exact at_meet hC_cut_2 ⟨vb (by simp; omega), rfl, rfl, rfl, rfl, trivial⟩ (fun _ h => h.upto ⟨rfl, trivial⟩)
 ·refine at_envE (by simp only [ya,yb]; rfl) ?_
  refine at_cond rfl (fun c1 => ?_) (fun c1 => ?_)
  ·try simp only [za,zb,zc,zd,ze,zf,Bool.not_true,Bool.not_false,zg,zh,ne_eq,zi,zj] at c1
   refine at_skip ?_
   refine norm_then ?_
   refine at_block ?_
   refine at_region ?_
   refine at_q rfl rfl (by decide) (qt_move rfl rfl) ?_
   refine at_q rfl rfl (by decide) (qt_sub rfl rfl rfl (by omega) (by omega)) ?_
   refine at_q rfl rfl (by decide) (qt_assign rfl rfl) ?_
   refine at_nil ?_
   refine norm_block ?_
   refine norm_then ?_
   exact at_againk hL1 (k - 1) (⟨by omega, (posP_more c1).trans hk.2⟩) (by omega) ⟨vi (by omega), rfl, rfl, rfl, trivial⟩ (fun _ h => h.upto ⟨rfl, trivial⟩)
  ·try simp only [za,zb,zc,zd,ze,zf,Bool.not_true,Bool.not_false,zg,zh,ne_eq,zi,zj] at c1
   have hpos : k = posP xs p xs.length := by rw [hl, ← hk.2, posP_stop c1]
   refine at_exit ?_
   refine pass_then (fun h => by cases h) ?_
   refine pass_then (fun h => by cases h) ?_
   refine pass_hit ?_
   refine norm_then ?_
   refine at_seq ?_
   refine at_cutE [(32, .bool (decide (0 < k ∧ pt xs (k - 1) = p)))] (C := [(0, _), (3, _), (4, _), (5, _)])  ⟨rfl, rfl, rfl, rfl, trivial⟩ (fun L hC_cut_4 => ?_) ?_
   ·refine dg_start mixed rfl ?_
    refine dg_phase 11 ?_
    refine dg_q (i := 0) rfl (by kernel_rfl) (by kernel_rfl) (by kernel_rfl) [] (by kernel_rfl) (fun _ _ _ h => h) rfl rfl (by decide) (fun _ h => h.upto ⟨rfl, trivial⟩) (qt_move rfl rfl) ?_
    refine dg_q (i := 1) rfl (by kernel_rfl) (by kernel_rfl) (by kernel_rfl) [] (by kernel_rfl) (fun _ _ _ h => h) rfl rfl (by decide) (fun _ h => h.upto ⟨rfl, trivial⟩) (qt_gtr rfl rfl rfl) ?_
    refine dg_q (i := 2) rfl (by kernel_rfl) (by kernel_rfl) (by kernel_rfl) [] (by kernel_rfl) (fun _ _ _ h => h) rfl rfl (by decide) (fun _ h => h.upto ⟨rfl, trivial⟩) (qt_move rfl rfl) ?_
    refine at_bsplit 24 rfl (fun g2 => ?_) (fun g2 => ?_)
    ·try simp only [za,zb,zc,zd,ze,zf,Bool.not_true,Bool.not_false,zg,zh,ne_eq,zi,zj] at g2
     refine dg_qg (i := 3) rfl (by kernel_rfl) (by kernel_rfl) (by kernel_rfl) [] (by kernel_rfl) (fun _ _ _ h => h) rfl rfl rfl rfl rfl (by decide) (fun _ h => h.upto ⟨rfl, trivial⟩) (qt_move rfl rfl) ?_
     refine dg_qg (i := 4) rfl (by kernel_rfl) (by kernel_rfl) (by kernel_rfl) [] (by kernel_rfl) (fun _ _ _ h => h) rfl rfl rfl rfl rfl (by decide) (fun _ h => h.upto ⟨rfl, trivial⟩) (qt_move rfl rfl) ?_
     refine dg_qg (i := 5) rfl (by kernel_rfl) (by kernel_rfl) (by kernel_rfl) [] (by kernel_rfl) (fun _ _ _ h => h) rfl rfl rfl rfl rfl (by decide) (fun _ h => h.upto ⟨rfl, trivial⟩) ((qt_sub rfl rfl rfl (by omega) (by omega)).as (congrArg _ (show ((k : Int) - 1) = ((k - 1 : Nat) : Int) by omega))) ?_
     refine dg_qg (i := 6) rfl (by kernel_rfl) (by kernel_rfl) (by kernel_rfl) [] (by kernel_rfl) (fun _ _ _ h => h) rfl rfl rfl rfl rfl (by decide) (fun _ h => h.upto ⟨rfl, trivial⟩) (qt_index rfl rfl rfl tyl_sl_impl_Pt (by omega)) ?_
     refine dg_qg (i := 7) rfl (by kernel_rfl) (by kernel_rfl) (by kernel_rfl) [] (by kernel_rfl) (fun _ _ _ h => h) rfl rfl rfl rfl rfl (by decide) (fun _ h => h.upto ⟨rfl, trivial⟩) (qt_loadS rfl rfl tys_impl_Pt rfl (rdPts h (by omega))) ?_
     refine dg_qg (i := 8) rfl (by kernel_rfl) (by kernel_rfl) (by kernel_rfl) [] (by kernel_rfl) (fun _ _ _ h => h) rfl rfl rfl rfl rfl (by decide) (fun _ h => h.upto ⟨rfl, trivial⟩) (qt_loadS rfl rfl tys_impl_Pt rfl (rdAll (k := 0) rfl)) ?_
     refine dg_qg (i := 9) rfl (by kernel_rfl) (by kernel_rfl) (by kernel_rfl) [] (by kernel_rfl) (fun _ _ _ h => h) rfl rfl rfl rfl rfl (by decide) (fun _ h => h.upto ⟨rfl, trivial⟩) (qt_eqlS_impl_Pt rfl rfl rfl) ?_
     refine dg_q (i := 10) rfl (by kernel_rfl) (by kernel_rfl) (by kernel_rfl) [] (by kernel_rfl) (fun _ _ _ h => h) rfl rfl (by decide) (fun _ h => h.upto ⟨rfl, trivial⟩) (qt_pickT rfl rfl rfl) ?_
     refine dg_done (by kernel_rfl) ?_
     refine norm_then ?_
     exact at_meet hC_cut_4 ⟨vb (by rw [ptEq]; simp; omega), rfl, rfl, rfl, rfl, trivial⟩ (fun _ h => h.upto ⟨rfl, trivial⟩)
    ·try simp only [za,zb,zc,zd,ze,zf,Bool.not_true,Bool.not_false,zg,zh,ne_eq,zi,zj] at g2
     refine dg_off (i := 3) rfl (by kernel_rfl) (by kernel_rfl) (by kernel_rfl) [] (by kernel_rfl) (fun _ _ _ h => h) rfl rfl rfl rfl (by decide) rfl (by decide) (fun _ h => h.upto ⟨rfl, trivial⟩) ?_
     refine dg_off (i := 4) rfl (by kernel_rfl) (by kernel_rfl) (by kernel_rfl) [] (by kernel_rfl) (fun _ _ _ h => h) rfl rfl rfl rfl (by decide) rfl (by decide) (fun _ h => h.upto ⟨rfl, trivial⟩) ?_
     refine dg_off (i := 5) rfl (by kernel_rfl) (by kernel_rfl) (by kernel_rfl) [] (by kernel_rfl) (fun _ _ _ h => h) rfl rfl rfl rfl (by decide) rfl (by decide) (fun _ h => h.upto ⟨rfl, trivial⟩) ?_
     refine dg_off (i := 6) rfl (by kernel_rfl) (by kernel_rfl) (by kernel_rfl) [] (by kernel_rfl) (fun _ _ _ h => h) rfl rfl rfl rfl (by decide) rfl (by decide) (fun _ h => h.upto ⟨rfl, trivial⟩) ?_
     refine dg_off (i := 7) rfl (by kernel_rfl) (by kernel_rfl) (by kernel_rfl) [] (by kernel_rfl) (fun _ _ _ h => h) rfl rfl rfl rfl (by decide) rfl (by decide) (fun _ h => h.upto ⟨rfl, trivial⟩) ?_
     refine dg_off (i := 8) rfl (by kernel_rfl) (by kernel_rfl) (by kernel_rfl) [] (by kernel_rfl) (fun _ _ _ h => h) rfl rfl rfl rfl (by decide) rfl (by decide) (fun _ h => h.upto ⟨rfl, trivial⟩) ?_
     refine dg_off (i := 9) rfl (by kernel_rfl) (by kernel_rfl) (by kernel_rfl) [] (by kernel_rfl) (fun _ _ _ h => h) rfl rfl rfl rfl (by decide) rfl (by decide) (fun _ h => h.upto ⟨rfl, trivial⟩) ?_
     refine dg_q (i := 10) rfl (by kernel_rfl) (by kernel_rfl) (by kernel_rfl) [] (by kernel_rfl) (fun _ _ _ h => h) rfl rfl (by decide) (fun _ h => h.upto ⟨rfl, trivial⟩) (qt_pickF rfl rfl rfl) ?_
     refine dg_done (by kernel_rfl) ?_
     refine norm_then ?_
     exact at_meet hC_cut_4 ⟨vb (by rw [decide_eq_false (fun h => absurd h.1 (by omega))]), rfl, rfl, rfl, rfl, trivial⟩ (fun _ h => h.upto ⟨rfl, trivial⟩)
   ·refine at_envE (by simp only [ya,yb]; rfl) ?_
    refine at_cond rfl (fun c2 => ?_) (fun c2 => ?_)
    ·try simp only [za,zb,zc,zd,ze,zf,Bool.not_true,Bool.not_false,zg,zh,ne_eq,zi,zj] at c2
     refine at_seq ?_
     refine at_region ?_
     refine at_q rfl rfl (by decide) (qt_move rfl rfl) ?_
     refine at_q rfl rfl (by decide) (qt_assign rfl rfl) ?_
     refine at_end ?_
     refine at_retc ?_
     refine then_ret ?_
     refine at_ret1 rfl (.tmp rfl) ?_
     intro w' hs
     exact .inl ⟨rfl, putP_old hpos c2, hs.fin⟩
    ·try simp only [za,zb,zc,zd,ze,zf,Bool.not_true,Bool.not_false,zg,zh,ne_eq,zi,zj] at c2
     have hput := putP_new hpos c2
     have hpl : (putP xs p).length = 0 + k + 1 + (n - k) := by rw [hput, List.length_append, List.length_cons, List.length_take, List.length_drop]; omega
     refine at_skip ?_
     refine norm_then ?_
     refine at_seq ?_
     refine at_region ?_
     refine at_op rfl ?_
     refine op_buildSlice rfl rfl (bsl_sl_impl_Pt_0) rfl (by decide) (fun b2 => ?_)
     refine at_rowN 1 2 rfl rfl ?_
     refine at_rsE (by simp only [ya,yb,yc,yd,Value.cells,ye]; rfl) ?_
     refine at_q rfl rfl (by decide) (qt_move rfl rfl) ?_
     refine at_q rfl rfl (by decide) (qt_move rfl rfl) ?_
     refine at_q rfl rfl (by decide) ((qt_sliceH rfl rfl rfl tyl_sl_impl_Pt (by omega)).as (slicedH _ _ _ _ _)) ?_
     refine at_op rfl ?_
     refine op_appendR (k := 1) rfl tyl_sl_impl_Pt tyz_impl_Pt (by decide) rfl (by decide) rfl rfl rfl (fun w' hs => srcTake (h.over hs.fin) (by omega)) (ptCells_one _) (by unfold maxLen; omega) (by omega) (Nat.le_refl _) (fun r1 => ?_)
     refine at_rsE (by simp only [ya,yb,yc,yd,Value.cells,ye]; rfl) ?_
     refine at_q rfl rfl (by decide) (qt_assign rfl rfl) ?_
     refine at_end ?_
     refine at_seq ?_
     refine at_region ?_
     refine at_q rfl rfl (by decide) (qt_move rfl rfl) ?_
     refine at_q rfl rfl (by decide) (qt_loadS rfl rfl tys_impl_Pt rfl (rdAll (k := 0) rfl)) ?_
     refine at_op rfl ?_
     refine op_buildSlice rfl rfl (bsl_sl_impl_Pt_1_0 rfl) rfl (by decide) (fun b3 => ?_)
     refine at_rsE (by simp only [ya,yb,yc,yd,Value.cells,ye]; rfl) ?_
     refine at_op rfl ?_
     refine op_appendR (k := 1) rfl tyl_sl_impl_Pt tyz_impl_Pt (by decide) rfl (by decide) rfl rfl rfl (fun w' hs => src_cel hs (k := 2) rfl rfl) (by simp [Value.oneCell']) (by unfold maxLen; omega) (by omega) (Nat.le_refl _) (fun r2 => ?_)
     refine at_rsE (by simp only [ya,yb,yc,yd,Value.cells,ye]; rfl) ?_
     refine at_q rfl rfl (by decide) (qt_assign rfl rfl) ?_
     refine at_end ?_
     refine at_seq ?_
     refine at_region ?_
     refine at_q rfl rfl (by decide) (qt_move rfl rfl) ?_
     refine at_q rfl rfl (by decide) (qt_move rfl rfl) ?_
     refine at_q rfl rfl (by decide) (qt_move rfl rfl) ?_
     refine at_q rfl rfl (by decide) ((qt_sliceL rfl rfl rfl tyl_sl_impl_Pt (by omega)).as (slicedL (b := g) (o := 0) (l := k) (h := n) (m := c) (s := 2) hc (by omega))) ?_
     refine at_op rfl ?_
     refine op_appendR (k := 1) rfl tyl_sl_impl_Pt tyz_impl_Pt (by decide) rfl (by decide) rfl rfl rfl (fun w' hs => srcDrop (h.over hs.fin) (by omega) hc) (ptCells_one _) (by unfold maxLen; omega) (by omega) (Nat.le_refl _) (fun r3 => ?_)
     refine at_rsE (by simp only [ya,yb,yc,yd,Value.cells,ye]; rfl) ?_
     refine at_q rfl rfl (by decide) (qt_assign rfl rfl) ?_
     refine at_end ?_
     refine at_retc ?_
     refine at_ret1 rfl (.tmp rfl) ?_
     intro w' hs
     have hr := (hs.all 1 _ rfl).1
     exact .inr ⟨_, rfl, by rw [hpl, hput, List.flatMap_append, List.flatMap_cons, ← List.append_assoc]; exact hr, hs.fin⟩
/-- A point put into a row, as what the row has become. -/
theorem put_row {g c : Nat} {xs : List Pn} {p : Pn} {w : World} (h : (hotR xs (g, c)).P w) (hn : xs.length ≤ 1048576) :
  Calls Tryz.prog 31 #[.slice (some ⟨g, 0, none⟩) xs.length c, pV p] w fun e w' => ∃ x : Nat × Nat, e = .returned (.slice (some ⟨x.1, 0, none⟩) (putP xs p).length x.2) ∧ Wrs (hotR xs (g, c)).F w w' ∧ (hotR (putP xs p) x).P w' ∧ (∀ b, (hotR (putP xs p) x).F b → (hotR xs (g, c)).F b ∨ w.heap.size ≤ b) ∧ (hotR (putP xs p) x).B = 0 := by
 refine (l13Put_any g c xs.length xs p w (ptsRow h rfl) (rowCap h) hn).mono ?_
 rintro e w' (⟨rfl, hp, hO⟩ | ⟨v, rfl, hr, hO⟩)
 ·refine ⟨(g, c), by rw [hp], Wrs.of hO, ?_, fun b hb => .inl (by rw [hp] at hb; exact hb), rfl⟩
  rw [hp]
  exact (hotR xs (g, c)).dep w w' h hO.size fun b hb _ => hO.out.block b hb
 ·obtain ⟨x, rfl⟩ := row_slice hr
  have h0 : 0 < (putP xs p).length := List.length_pos_of_mem (putP_mem.2 (.inr rfl))
  have hs : ∃ g2, x.1 = some ⟨g2, 0, none⟩ := by
   rcases hr.2 with ⟨_, e⟩ | ⟨g2, cap, cur, e, _⟩
   ·omega
   ·injection e with e1
    exact ⟨g2, e1⟩
  obtain ⟨g2, hg2⟩ := hs
  obtain ⟨xA, xc⟩ := x
  simp only at hg2
  subst hg2
  exact ⟨(g2, xc), rfl, Wrs.of hO, row_low hr (Nat.zero_le _), fun b hb => .inr (hr.lt b hb).1, rfl⟩
/-- A row that may be the one at g of the world w1, or a new one. -/
def hotD (w1 : World) (g : Nat) (xs : List Pn) (x : Nat × Nat) : Res := if x.1 < w1.heap.size then { F := fun _ => False, P := fun _ => x.1 = g ∧ (hotR xs x).P w1, low := fun _ _ _ h => h.elim, B := 0, dep := fun _ _ h _ _ => h } else hotR xs x
theorem hotD_B (w1 : World) (g : Nat) (xs : List Pn) (x : Nat × Nat) : (hotD w1 g xs x).B = 0 := by unfold hotD; split <;> rfl
theorem hotD_P {w1 w' : World} {g : Nat} {xs : List Pn} {x : Nat × Nat} (h : (hotD w1 g xs x).P w') (hO : Over w1 w') : (hotR xs x).P w' ∧ (x.1 = g ∨ w1.heap.size ≤ x.1) := by
 unfold hotD at h
 split at h
 ·exact ⟨(hotR xs x).dep w1 w' h.2 hO.size fun b hb _ => hO.out.block b hb, .inl h.1⟩
 ·rename_i hn
  exact ⟨h, .inr (by omega)⟩
theorem hotF {xs : List Pn} {x : Nat × Nat} {b : Nat} (h : (hotR xs x).F b) : b = x.1 := by
 have h : some x.1 = some b := h
 injection h with h
 exact h.symm
theorem hotD_new {w1 w' : World} {g : Nat} {xs : List Pn} {x : Nat × Nat} (h : (hotR xs x).P w') (hx : w1.heap.size ≤ x.1) : (hotD w1 g xs x).P w' := by
 unfold hotD
 rw [if_neg (by omega)]
 exact h
/-- What has been put into the row of the world, then; and once more. -/
theorem put_new {w1 w' : World} {g c : Nat} {xs : List Pn} {p : Pn} (h : (hotR xs (g, c)).P w1) (hO : Over w1 w') (hn : xs.length ≤ 1048576) :
  Calls Tryz.prog 31 #[.slice (some ⟨g, 0, none⟩) xs.length c, pV p] w' fun e w'' => ∃ x : Nat × Nat, e = .returned (.slice (some ⟨x.1, 0, none⟩) (putP xs p).length x.2) ∧ Over w' w'' ∧ (hotD w1 g (putP xs p) x).P w'' ∧ (∀ b, (hotD w1 g (putP xs p) x).F b → w'.heap.size ≤ b) ∧ (hotD w1 g (putP xs p) x).B = 0 ∧ True := by
 have hg : g < w1.heap.size := (hotR xs (g, c)).low w1 h g rfl
 have h' := (hotR xs (g, c)).dep w1 w' h hO.size fun b hb _ => hO.out.block b hb
 refine (l13Put_any g c xs.length xs p w' (ptsRow h' rfl) (rowCap h') hn).mono ?_
 rintro e w'' (⟨rfl, hp, hO'⟩ | ⟨v, rfl, hr, hO'⟩)
 ·refine ⟨(g, c), by rw [hp], hO', ?_, fun b hb => ?_, hotD_B _ _ _ _, trivial⟩
  ·rw [hp]
   unfold hotD
   rw [if_pos hg]
   exact ⟨rfl, h⟩
  ·unfold hotD at hb
   rw [if_pos hg] at hb
   exact hb.elim
 ·obtain ⟨x, rfl⟩ := row_slice hr
  have h0 : 0 < (putP xs p).length := List.length_pos_of_mem (putP_mem.2 (.inr rfl))
  obtain ⟨g2, hg2⟩ : ∃ g2, x.1 = some ⟨g2, 0, none⟩ := by
   rcases hr.2 with ⟨_, e⟩ | ⟨g2, cap, cur, e, _⟩
   ·omega
   ·injection e with e1
    exact ⟨g2, e1⟩
  obtain ⟨xA, xc⟩ := x
  simp only at hg2
  subst hg2
  have hlt := hr.lt g2 rfl
  refine ⟨(g2, xc), rfl, hO', hotD_new (row_low hr (Nat.zero_le _)) (Nat.le_trans hO.size hlt.1), fun b hb => ?_, hotD_B _ _ _ _, trivial⟩
  unfold hotD at hb
  split at hb
  ·exact hb.elim
  ·rw [hotF hb]; exact hlt.1
theorem put_again {w1 w' : World} {g g1 c : Nat} {xs : List Pn} {p : Pn} (h : (hotD w1 g xs (g1, c)).P w') (hO : Over w1 w') (hn : xs.length ≤ 1048576) :
  Calls Tryz.prog 31 #[.slice (some ⟨g1, 0, none⟩) xs.length c, pV p] w' fun e w'' => ∃ x : Nat × Nat, e = .returned (.slice (some ⟨x.1, 0, none⟩) (putP xs p).length x.2) ∧ Wrs (hotD w1 g xs (g1, c)).F w' w'' ∧ (hotD w1 g (putP xs p) x).P w'' ∧ (∀ b, (hotD w1 g (putP xs p) x).F b → (hotD w1 g xs (g1, c)).F b ∨ w'.heap.size ≤ b) ∧ (hotD w1 g (putP xs p) x).B = 0 := by
 have h' := (hotD_P h hO).1
 refine (l13Put_any g1 c xs.length xs p w' (ptsRow h' rfl) (rowCap h') hn).mono ?_
 rintro e w'' (⟨rfl, hp, hO'⟩ | ⟨v, rfl, hr, hO'⟩)
 ·refine ⟨(g1, c), by rw [hp], Wrs.of hO', ?_, fun b hb => .inl (by rw [hp] at hb; exact hb), hotD_B _ _ _ _⟩
  rw [hp]
  exact (hotD w1 g xs (g1, c)).dep w' w'' h hO'.size fun b hb _ => hO'.out.block b hb
 ·obtain ⟨x, rfl⟩ := row_slice hr
  have h0 : 0 < (putP xs p).length := List.length_pos_of_mem (putP_mem.2 (.inr rfl))
  obtain ⟨g2, hg2⟩ : ∃ g2, x.1 = some ⟨g2, 0, none⟩ := by
   rcases hr.2 with ⟨_, e⟩ | ⟨g2, cap, cur, e, _⟩
   ·omega
   ·injection e with e1
    exact ⟨g2, e1⟩
  obtain ⟨xA, xc⟩ := x
  simp only at hg2
  subst hg2
  have hlt := hr.lt g2 rfl
  refine ⟨(g2, xc), rfl, Wrs.of hO', hotD_new (row_low hr (Nat.zero_le _)) (Nat.le_trans hO.size hlt.1), fun b hb => .inr ?_, hotD_B _ _ _ _⟩
  unfold hotD at hb
  split at hb
  ·exact hb.elim
  ·rw [hotF hb]; exact hlt.1
/-- Back: the row is what the old one has become. -/
theorem at_back {n : Nat} {env : List (Nat × Value)} {w0 : Bs} {Rs Rs2 : List Res} {K : Act → World → Prop} {w1 : World} (hs1 : St w0 Rs w1) (k j : Nat) {g c : Nat} {xs xs2 : List Pn} {x2 : Nat × Nat} (hk : Rs[k]? = some (hotR xs (g, c))) (hj : Rs2[j]? = some (hotD w1 g xs2 x2)) (h : At n env w0 (Rs.set k (hotR xs2 x2)) K) : At n env ⟨w1, []⟩ Rs2 K := fun a w' hf hs => by
 have hO : Over w1 w' := hs.fin
 obtain ⟨hP, hx⟩ := hotD_P (hs.all j _ hj).1 hO
 refine h a w' hf (hs1.upd hk ⟨hO.out.os.trans hs1.over.os, hO.out.tape.trans hs1.over.tape, hO.out.output.trans hs1.over.output, Nat.le_trans hs1.over.size hO.size, fun c hc' hx' => ?_⟩ hO.size (fun b hb _ => hO.out.block b hb) hP (fun b hb => ?_) rfl)
 ·exact (hO.out.block c (Nat.lt_of_lt_of_le hc' hs1.over.size)).trans (hs1.over.block c hc' hx')
 ·have e := hotF hb
  rcases hx with h1 | h1
  ·left; show some g = some b; rw [e, h1]
  ·right; omega
/-! ### The points of edges, in the order in which they are found -/
def cz (ls : List Leg) (i : Nat) : Nat → List Pn
 | 0 => []
 | k + 1 => cz ls i k ++ (if meetS (lA (lg ls i)) (lB (lg ls i)) (lA (lg ls k)) (lB (lg ls k)) = 2 then [crP (lA (lg ls i)) (lB (lg ls i)) (lA (lg ls k)) (lB (lg ls k))] else [])
def hpI (ls : List Leg) : Nat → List Pn
 | 0 => []
 | i + 1 => hpI ls i ++ [lA (lg ls i), lB (lg ls i)] ++ cz ls i i
theorem cz_len (ls : List Leg) (i : Nat) : ∀ k, (cz ls i k).length ≤ k
 | 0 => Nat.le_refl _
 | k + 1 => by
  have := cz_len ls i k
  unfold cz
  rw [List.length_append]
  split <;> simp <;> omega
theorem hpI_len (ls : List Leg) : ∀ i, (hpI ls i).length ≤ i * (i + 2)
 | 0 => Nat.le_refl _
 | i + 1 => by
  have h1 := hpI_len ls i
  have h2 := cz_len ls i i
  unfold hpI
  rw [List.length_append, List.length_append]
  simp only [List.length_cons, List.length_nil]
  have e : (i + 1) * (i + 1 + 2) = i * (i + 2) + 2 * i + 3 := by simp only [Nat.add_mul, Nat.mul_add]; omega
  omega
def preL (ls : List Leg) (i k : Nat) : List Pn := hpI ls i ++ [lA (lg ls i), lB (lg ls i)] ++ cz ls i k
theorem pre_len {ls : List Leg} {i k : Nat} (hi : i < 400) (hk : k ≤ i) : (preL ls i k).length ≤ 170000 := by
 have h1 := hpI_len ls i
 have h2 := cz_len ls i k
 have h3 : i * (i + 2) ≤ 400 * 402 := Nat.mul_le_mul (by omega) (by omega)
 unfold preL
 rw [List.length_append, List.length_append]
 simp only [List.length_cons, List.length_nil]
 omega
theorem putP_len (xs : List Pn) (p : Pn) : (putP xs p).length ≤ xs.length + 1 := by
 have := posP_le xs p xs.length
 unfold putP
 split
 ·omega
 ·rw [List.length_append, List.length_cons, List.length_take, List.length_drop]; omega
theorem foldl_len (l : List Pn) : ∀ xs, (l.foldl putP xs).length ≤ xs.length + l.length := by
 induction l with
 | nil => intro xs; exact Nat.le_refl _
 | cons p l ih =>
  intro xs
  have h1 := ih (putP xs p)
  have h2 := putP_len xs p
  rw [List.foldl_cons, List.length_cons]
  omega
theorem putAll_len (l : List Pn) : (putAll l).length ≤ l.length := by have := foldl_len l []; simpa [putAll] using this
theorem putAll_app (l : List Pn) (p : Pn) : putAll (l ++ [p]) = putP (putAll l) p := by simp [putAll, List.foldl_append]
theorem putAll_pre0 (ls : List Leg) (i : Nat) : putAll (preL ls i 0) = putP (putP (putAll (hpI ls i)) (lA (lg ls i))) (lB (lg ls i)) := by
 simp [preL, cz, putAll, List.foldl_append]
theorem putAll_yes {ls : List Leg} {i k : Nat} (h : meetS (lA (lg ls i)) (lB (lg ls i)) (lA (lg ls k)) (lB (lg ls k)) = 2) : putAll (preL ls i (k + 1)) = putP (putAll (preL ls i k)) (crP (lA (lg ls i)) (lB (lg ls i)) (lA (lg ls k)) (lB (lg ls k))) := by
 rw [← putAll_app, preL, cz, if_pos h, ← List.append_assoc]
 rfl
theorem putAll_no {ls : List Leg} {i k : Nat} (h : ¬ meetS (lA (lg ls i)) (lB (lg ls i)) (lA (lg ls k)) (lB (lg ls k)) = 2) : putAll (preL ls i (k + 1)) = putAll (preL ls i k) := by
 rw [preL, cz, if_neg h, List.append_nil]
 rfl
theorem legLt {w : World} {b o n : Nat} {ls : List Leg} (h : Legs w (some ⟨b, o, none⟩) n ls) (hn : 0 < n) : b < w.heap.size := by
 obtain ⟨b', o', e, hb, _⟩ := h.2 hn
 injection e with e
 injection e with e1 e2
 subst e1
 exact hb
theorem row_from {w : World} {B N T s n : Nat} {v : Value} {xs : List Value} (h : w.ownsRow B T s v n xs) (hN : ∀ b, v.ownBlock = some b → N ≤ b) : w.ownsRow N T s v n xs := by
 refine ⟨h.1, ?_⟩
 rcases h.2 with e | ⟨g, cap, cur, rfl, hb, rest⟩
 ·exact .inl e
 ·exact .inr ⟨g, cap, cur, rfl, hN g rfl, rest⟩
theorem l13Hot_any (A : Option Addr) (n c : Nat) (ls : List Leg) (w : World) (h : Legs w A n ls) (hok : ∀ l ∈ ls, legOk l) (hn : n ≤ 400) :
  Calls Tryz.prog 15 #[.slice A n c] w fun e w' => ∃ v, e = .returned v ∧ w'.ownsRow w.heap.size 64 2 v (putAll (hpI ls n)).length ((putAll (hpI ls n)).flatMap ptCells) ∧ Over w w' := by
 have hl := h.1
 refine walk_from (m := 81) (Tryz.func15) rfl rfl (Nat.le_of_ble_eq_true rfl) ?_
 refine at_seq ?_
 refine at_region ?_
 refine at_q rfl rfl (by decide) (qt_assign rfl rfl) ?_
 refine at_end ?_
 refine at_seq ?_
 refine at_region ?_
 refine at_op rfl ?_
 refine op_buildSlice rfl rfl (bsl_sl_impl_Pt_0) rfl (by decide) (fun b1 => ?_)
 refine at_rowN 0 2 rfl rfl ?_
 refine at_rsE (by simp only [ya,yb,yc,yd,Value.cells,ye]; rfl) ?_
 refine at_q rfl rfl (by decide) (qt_assign rfl rfl) ?_
 refine at_end ?_
 refine at_rowB0 0 rfl ?_
 refine at_rsE (by simp only [List.nil_append, List.cons_append, List.set_cons_zero, List.set_cons_succ, List.eraseIdx_cons_zero, List.eraseIdx_cons_succ, Value.cells, List.toList_toArray]; rfl) ?_
 refine at_seq ?_
 refine at_seq ?_
 refine at_region ?_
 refine at_q rfl rfl (by decide) (qt_assign rfl rfl) ?_
 refine at_end ?_
 refine at_block ?_
 refine at_loopc (X := Nat × Nat × Nat) (fun x => x.1 ≤ n) (fun x => n - x.1) (fun x => [(3, .slice (some ⟨x.2.1, 0, none⟩) (putAll (hpI ls x.1)).length x.2.2), (4, .int .i64 (x.1 : Int))]) (C := [(0, _), (2, _)]) ⟨rfl, rfl, trivial⟩ (fun x => [hotR (putAll (hpI ls x.1)) x.2]) (0, b1, 0) (Nat.zero_le _) ⟨rfl, rfl, rfl, rfl, trivial⟩ (fun _ h => h) ?_
 intro ⟨i, g, gc⟩ hi L hL1
 refine at_envE (by simp only [ya,yb]; rfl) ?_
 refine at_rsE (by first | (dsimp only; done) | (dsimp only; rfl) | rfl) ?_
 have hi : i ≤ n := hi
 refine at_seq ?_
 refine at_seq ?_
 refine at_region ?_
 refine at_q rfl rfl (by decide) (qt_move rfl rfl) ?_
 refine at_q rfl rfl (by decide) (qt_move rfl rfl) ?_
 refine at_q rfl rfl (by decide) (qt_len rfl rfl tyl_sl_spec_l13Edge) ?_
 refine at_q rfl rfl (by decide) (qt_lss rfl rfl rfl) ?_
 refine at_end ?_
 refine at_cond rfl (fun c1 => ?_) (fun c1 => ?_)
 ·try simp only [za,zb,zc,zd,ze,zf,Bool.not_true,Bool.not_false,zg,zh,ne_eq,zi,zj] at c1
  have hlt : i < n := (by omega)
  obtain ⟨eb, eo, rfl, _⟩ := h.2 (by omega)
  have hhl := hpI_len ls i
  have hh2 : i * (i + 2) ≤ 400 * 402 := Nat.mul_le_mul (by omega) (by omega)
  have hpa := putAll_len (hpI ls i)
  have hpb := putP_len (putAll (hpI ls i)) (lA (lg ls i))
  refine at_skip ?_
  refine norm_then ?_
  refine at_seq ?_
  refine at_block ?_
  refine at_seq ?_
  refine at_region ?_
  refine at_q rfl rfl (by decide) (qt_move rfl rfl) ?_
  refine at_q rfl rfl (by decide) (qt_move rfl rfl) ?_
  refine at_q rfl rfl (by decide) (qt_index rfl rfl rfl tyl_sl_spec_l13Edge (by omega)) ?_
  refine at_q rfl rfl (by decide) (qt_assign rfl rfl) ?_
  refine at_end ?_
  refine at_seq ?_
  refine at_rebase fun w1 hs1 => ?_
  have h1 := h.over hs1.fin
  have hp1 := (hs1.all 0 _ rfl).1
  refine dg_start mixed rfl ?_
  refine dg_phase 10 ?_
  refine dg_q (i := 0) rfl (by kernel_rfl) (by kernel_rfl) (by kernel_rfl) [5] (by kernel_rfl) (fun _ _ _ h => h) rfl rfl (by decide) (fun _ h => h.upto trivial) (qt_move rfl rfl) ?_
  refine dg_q (i := 1) rfl (by kernel_rfl) (by kernel_rfl) (by kernel_rfl) [2, 3, 4, 5] (by kernel_rfl) (fun _ _ _ h => h) rfl rfl (by decide) (fun _ h => h.upto trivial) (qt_move rfl rfl) ?_
  refine dg_q (i := 2) rfl (by kernel_rfl) (by kernel_rfl) (by kernel_rfl) [3, 4, 5] (by kernel_rfl) (fun _ _ _ h => h) rfl rfl (by decide) (fun _ h => h.upto trivial) (qt_nilCheck rfl rfl) ?_
  refine dg_q (i := 3) rfl (by kernel_rfl) (by kernel_rfl) (by kernel_rfl) [4, 5] (by kernel_rfl) (fun _ _ _ h => h) rfl rfl (by decide) (fun _ h => h.upto trivial) (qt_fieldAddr rfl rfl tyf_spec_l13Edge_0) ?_
  refine dg_q (i := 4) rfl (by kernel_rfl) (by kernel_rfl) (by kernel_rfl) [5] (by kernel_rfl) (fun _ _ _ h => h) rfl rfl (by decide) (fun _ h => h.upto trivial) (qt_loadS rfl rfl tys_impl_Pt rfl (by first | exact rdLegA (b := eb) (o := eo) (j := i) (fun w' hs => h.over hs.fin) hlt | exact rdLegB (b := eb) (o := eo) (j := i) (fun w' hs => h.over hs.fin) hlt | exact rdLegA (b := eb) (o := eo) (j := k) (fun w' hs => h.over hs.fin) hkl | exact rdLegB (b := eb) (o := eo) (j := k) (fun w' hs => h.over hs.fin) hkl | exact rdLegA (b := eb) (o := eo) (j := i) (fun w' hs => h1.over hs.fin) hlt | exact rdLegB (b := eb) (o := eo) (j := i) (fun w' hs => h1.over hs.fin) hlt)) ?_
  refine dg_q (i := 6) rfl (by kernel_rfl) (by kernel_rfl) (by kernel_rfl) [7, 8, 9] (by kernel_rfl) (fun _ _ _ h => h) rfl rfl (by decide) (fun _ h => h.upto trivial) (qt_move rfl rfl) ?_
  refine dg_q (i := 7) rfl (by kernel_rfl) (by kernel_rfl) (by kernel_rfl) [8, 9] (by kernel_rfl) (fun _ _ _ h => h) rfl rfl (by decide) (fun _ h => h.upto trivial) (qt_nilCheck rfl rfl) ?_
  refine dg_q (i := 8) rfl (by kernel_rfl) (by kernel_rfl) (by kernel_rfl) [9] (by kernel_rfl) (fun _ _ _ h => h) rfl rfl (by decide) (fun _ h => h.upto trivial) (qt_fieldAddr rfl rfl tyf_spec_l13Edge_1) ?_
  refine dg_q (i := 9) rfl (by kernel_rfl) (by kernel_rfl) (by kernel_rfl) [] (by kernel_rfl) (fun _ _ _ h => h) rfl rfl (by decide) (fun _ h => h.upto trivial) (qt_loadS rfl rfl tys_impl_Pt rfl (by first | exact rdLegA (b := eb) (o := eo) (j := i) (fun w' hs => h.over hs.fin) hlt | exact rdLegB (b := eb) (o := eo) (j := i) (fun w' hs => h.over hs.fin) hlt | exact rdLegA (b := eb) (o := eo) (j := k) (fun w' hs => h.over hs.fin) hkl | exact rdLegB (b := eb) (o := eo) (j := k) (fun w' hs => h.over hs.fin) hkl | exact rdLegA (b := eb) (o := eo) (j := i) (fun w' hs => h1.over hs.fin) hlt | exact rdLegB (b := eb) (o := eo) (j := i) (fun w' hs => h1.over hs.fin) hlt)) ?_
  refine dg_one (i := 5) rfl (by decide) (by kernel_rfl) rfl ?_
  refine op_call ok_spec_l13Put (v := fun x : Nat × Nat => .slice (some ⟨x.1, 0, none⟩) _ x.2) (r := fun x => hotD w1 _ _ x) (H := fun _ => True) rfl rfl rfl (by decide) (fun w2 hs => put_new (p := lA (lg ls i)) hp1 hs.fin (by omega)) ?_
  rintro ⟨g1, gc1⟩ -
  refine at_rsE (by simp only [ya,yb,yc,yd,Value.cells,ye]; rfl) ?_
  refine dr_more (fun _ h => h.upto trivial) ?_
  refine dg_bar rfl (by kernel_rfl) rfl ?_
  refine op_callP (k := 0) (v := fun x : Nat × Nat => .slice (some ⟨x.1, 0, none⟩) _ x.2) (r' := fun x => hotD w1 _ _ x) ok_spec_l13Put rfl rfl rfl (by decide) rfl (fun w2 hs => put_again (p := lB (lg ls i)) (hs.all 0 _ rfl).1 hs.fin (by omega)) ?_
  rintro ⟨g2, gc2⟩
  refine at_rsE (by simp only [ya,yb,yc,yd,Value.cells,ye]; rfl) ?_
  refine dg_phase 12 ?_
  refine dg_q (i := 11) rfl (by kernel_rfl) (by kernel_rfl) (by kernel_rfl) [] (by kernel_rfl) (fun _ _ _ h => h) rfl rfl (by decide) (fun _ h => h.upto ⟨rfl, trivial⟩) (qt_assign rfl rfl) ?_
  refine dg_done (by kernel_rfl) ?_
  refine at_back hs1 0 0 rfl rfl ?_
  refine at_rsE (by simp only [List.nil_append, List.cons_append, List.set_cons_zero, List.set_cons_succ, List.eraseIdx_cons_zero, List.eraseIdx_cons_succ, Value.cells, List.toList_toArray]; rfl) ?_
  rw [← putAll_pre0]
  refine norm_then ?_
  refine at_seq ?_
  refine at_region ?_
  refine at_q rfl rfl (by decide) (qt_assign rfl rfl) ?_
  refine at_end ?_
  refine at_block ?_
  refine at_loopc (X := Nat × Nat × Nat) (fun x => x.1 ≤ i) (fun x => i - x.1) (fun x => [(3, .slice (some ⟨x.2.1, 0, none⟩) (putAll (preL ls i x.1)).length x.2.2), (6, .int .i64 (x.1 : Int))]) (C := [(0, _), (2, _), (4, _), (9, _), (10, _), (11, _), (12, _), (15, _), (16, _), (17, _), (5, _), (18, _), (19, _), (20, _), (21, _), (22, _), (24, _), (25, _), (26, _), (27, _), (23, _), (28, _)]) ⟨rfl, rfl, rfl, rfl, rfl, rfl, rfl, rfl, rfl, rfl, rfl, rfl, rfl, rfl, rfl, rfl, rfl, rfl, rfl, rfl, rfl, rfl, trivial⟩ (fun x => [hotR (putAll (preL ls i x.1)) x.2]) (0, g2, gc2) (Nat.zero_le _) ⟨rfl, rfl, rfl, rfl, rfl, rfl, rfl, rfl, rfl, rfl, rfl, rfl, rfl, rfl, rfl, rfl, rfl, rfl, rfl, rfl, rfl, rfl, rfl, rfl, trivial⟩ (fun _ h => h) ?_
  intro ⟨k, g, gc⟩ hk L hL2
  refine at_envE (by simp only [ya,yb]; rfl) ?_
  refine at_rsE (by first | (dsimp only; done) | (dsimp only; rfl) | rfl) ?_
  have hk : k ≤ i := hk
  refine at_seq ?_
  refine at_seq ?_
  refine at_region ?_
  refine at_q rfl rfl (by decide) (qt_move rfl rfl) ?_
  refine at_q rfl rfl (by decide) (qt_move rfl rfl) ?_
  refine at_q rfl rfl (by decide) (qt_lss rfl rfl rfl) ?_
  refine at_end ?_
  refine at_cond rfl (fun c2 => ?_) (fun c2 => ?_)
  ·try simp only [za,zb,zc,zd,ze,zf,Bool.not_true,Bool.not_false,zg,zh,ne_eq,zi,zj] at c2
   have hkt : k < i := (by omega)
   have hkl : k < n := (by omega)
   have hpl := pre_len (ls := ls) (k := k) (show i < 400 by omega) hk
   have hpa := putAll_len (preL ls i k)
   refine at_skip ?_
   refine norm_then ?_
   refine at_seq ?_
   refine at_block ?_
   refine at_seq ?_
   refine at_region ?_
   refine at_q rfl rfl (by decide) (qt_move rfl rfl) ?_
   refine at_q rfl rfl (by decide) (qt_move rfl rfl) ?_
   refine at_q rfl rfl (by decide) (qt_index rfl rfl rfl tyl_sl_spec_l13Edge (by omega)) ?_
   refine at_q rfl rfl (by decide) (qt_assign rfl rfl) ?_
   refine at_end ?_
   refine at_cutE [(60, .bool (decide (meetS (lA (lg ls i)) (lB (lg ls i)) (lA (lg ls k)) (lB (lg ls k)) = 2)))] (C := [(0, _), (2, _), (4, _), (9, _), (10, _), (11, _), (12, _), (15, _), (16, _), (17, _), (5, _), (18, _), (19, _), (20, _), (21, _), (22, _), (24, _), (25, _), (26, _), (27, _), (23, _), (28, _), (3, _), (6, _), (29, _), (30, _), (31, _), (34, _), (35, _), (36, _), (7, _)])  ⟨rfl, rfl, rfl, rfl, rfl, rfl, rfl, rfl, rfl, rfl, rfl, rfl, rfl, rfl, rfl, rfl, rfl, rfl, rfl, rfl, rfl, rfl, rfl, rfl, rfl, rfl, rfl, rfl, rfl, rfl, rfl, trivial⟩ (fun L hC_cut_11 => ?_) ?_
   ·refine dg_start mixed rfl ?_
    refine dg_phase 24 ?_
    refine dg_q (i := 0) rfl (by kernel_rfl) (by kernel_rfl) (by kernel_rfl) [] (by kernel_rfl) (fun _ _ _ h => h) rfl rfl (by decide) (fun _ h => h.upto ⟨rfl, trivial⟩) (qt_move rfl rfl) ?_
    refine dg_q (i := 1) rfl (by kernel_rfl) (by kernel_rfl) (by kernel_rfl) [] (by kernel_rfl) (fun _ _ _ h => h) rfl rfl (by decide) (fun _ h => h.upto ⟨rfl, trivial⟩) (qt_move rfl rfl) ?_
    refine dg_q (i := 2) rfl (by kernel_rfl) (by kernel_rfl) (by kernel_rfl) [] (by kernel_rfl) (fun _ _ _ h => h) rfl rfl (by decide) (fun _ h => h.upto ⟨rfl, trivial⟩) (qt_call ok_spec_l13Apart rfl rfl (fun w1 hs => l13Apart_any eb _ eb _ (lg ls i) (lg ls k) w1 (rdLeg (fun w' hs => h.over hs.fin) hlt w1 hs) (rdLeg (fun w' hs => h.over hs.fin) hkl w1 hs) (legLt (h.over hs.fin) (by omega)) (legLt (h.over hs.fin) (by omega)))) ?_
    refine dg_q (i := 3) rfl (by kernel_rfl) (by kernel_rfl) (by kernel_rfl) [] (by kernel_rfl) (fun _ _ _ h => h) rfl rfl (by decide) (fun _ h => h.upto ⟨rfl, trivial⟩) (qt_not rfl rfl) ?_
    refine dg_q (i := 4) rfl (by kernel_rfl) (by kernel_rfl) (by kernel_rfl) [] (by kernel_rfl) (fun _ _ _ h => h) rfl rfl (by decide) (fun _ h => h.upto ⟨rfl, trivial⟩) (qt_move rfl rfl) ?_
    refine at_bsplit 41 rfl (fun g1 => ?_) (fun g1 => ?_)
    ·try simp only [za,zb,zc,zd,ze,zf,Bool.not_true,Bool.not_false,zg,zh,ne_eq,zi,zj] at g1
     refine dg_qg (i := 5) rfl (by kernel_rfl) (by kernel_rfl) (by kernel_rfl) [] (by kernel_rfl) (fun _ _ _ h => h) rfl rfl rfl rfl rfl (by decide) (fun _ h => h.upto ⟨rfl, trivial⟩) (qt_move rfl rfl) ?_
     refine dg_qg (i := 6) rfl (by kernel_rfl) (by kernel_rfl) (by kernel_rfl) [] (by kernel_rfl) (fun _ _ _ h => h) rfl rfl rfl rfl rfl (by decide) (fun _ h => h.upto ⟨rfl, trivial⟩) (qt_nilCheck rfl rfl) ?_
     refine dg_qg (i := 7) rfl (by kernel_rfl) (by kernel_rfl) (by kernel_rfl) [] (by kernel_rfl) (fun _ _ _ h => h) rfl rfl rfl rfl rfl (by decide) (fun _ h => h.upto ⟨rfl, trivial⟩) (qt_fieldAddr rfl rfl tyf_spec_l13Edge_0) ?_
     refine dg_qg (i := 8) rfl (by kernel_rfl) (by kernel_rfl) (by kernel_rfl) [] (by kernel_rfl) (fun _ _ _ h => h) rfl rfl rfl rfl rfl (by decide) (fun _ h => h.upto ⟨rfl, trivial⟩) (qt_loadS rfl rfl tys_impl_Pt rfl (by first | exact rdLegA (b := eb) (o := eo) (j := i) (fun w' hs => h.over hs.fin) hlt | exact rdLegB (b := eb) (o := eo) (j := i) (fun w' hs => h.over hs.fin) hlt | exact rdLegA (b := eb) (o := eo) (j := k) (fun w' hs => h.over hs.fin) hkl | exact rdLegB (b := eb) (o := eo) (j := k) (fun w' hs => h.over hs.fin) hkl | exact rdLegA (b := eb) (o := eo) (j := i) (fun w' hs => h1.over hs.fin) hlt | exact rdLegB (b := eb) (o := eo) (j := i) (fun w' hs => h1.over hs.fin) hlt)) ?_
     refine dg_qg (i := 9) rfl (by kernel_rfl) (by kernel_rfl) (by kernel_rfl) [] (by kernel_rfl) (fun _ _ _ h => h) rfl rfl rfl rfl rfl (by decide) (fun _ h => h.upto ⟨rfl, trivial⟩) (qt_move rfl rfl) ?_
     refine dg_qg (i := 10) rfl (by kernel_rfl) (by kernel_rfl) (by kernel_rfl) [] (by kernel_rfl) (fun _ _ _ h => h) rfl rfl rfl rfl rfl (by decide) (fun _ h => h.upto ⟨rfl, trivial⟩) (qt_nilCheck rfl rfl) ?_
     refine dg_qg (i := 11) rfl (by kernel_rfl) (by kernel_rfl) (by kernel_rfl) [] (by kernel_rfl) (fun _ _ _ h => h) rfl rfl rfl rfl rfl (by decide) (fun _ h => h.upto ⟨rfl, trivial⟩) (qt_fieldAddr rfl rfl tyf_spec_l13Edge_1) ?_
     refine dg_qg (i := 12) rfl (by kernel_rfl) (by kernel_rfl) (by kernel_rfl) [] (by kernel_rfl) (fun _ _ _ h => h) rfl rfl rfl rfl rfl (by decide) (fun _ h => h.upto ⟨rfl, trivial⟩) (qt_loadS rfl rfl tys_impl_Pt rfl (by first | exact rdLegA (b := eb) (o := eo) (j := i) (fun w' hs => h.over hs.fin) hlt | exact rdLegB (b := eb) (o := eo) (j := i) (fun w' hs => h.over hs.fin) hlt | exact rdLegA (b := eb) (o := eo) (j := k) (fun w' hs => h.over hs.fin) hkl | exact rdLegB (b := eb) (o := eo) (j := k) (fun w' hs => h.over hs.fin) hkl | exact rdLegA (b := eb) (o := eo) (j := i) (fun w' hs => h1.over hs.fin) hlt | exact rdLegB (b := eb) (o := eo) (j := i) (fun w' hs => h1.over hs.fin) hlt)) ?_
     refine dg_qg (i := 13) rfl (by kernel_rfl) (by kernel_rfl) (by kernel_rfl) [] (by kernel_rfl) (fun _ _ _ h => h) rfl rfl rfl rfl rfl (by decide) (fun _ h => h.upto ⟨rfl, trivial⟩) (qt_move rfl rfl) ?_
     refine dg_qg (i := 14) rfl (by kernel_rfl) (by kernel_rfl) (by kernel_rfl) [] (by kernel_rfl) (fun _ _ _ h => h) rfl rfl rfl rfl rfl (by decide) (fun _ h => h.upto ⟨rfl, trivial⟩) (qt_nilCheck rfl rfl) ?_
     refine dg_qg (i := 15) rfl (by kernel_rfl) (by kernel_rfl) (by kernel_rfl) [] (by kernel_rfl) (fun _ _ _ h => h) rfl rfl rfl rfl rfl (by decide) (fun _ h => h.upto ⟨rfl, trivial⟩) (qt_fieldAddr rfl rfl tyf_spec_l13Edge_0) ?_
     refine dg_qg (i := 16) rfl (by kernel_rfl) (by kernel_rfl) (by kernel_rfl) [] (by kernel_rfl) (fun _ _ _ h => h) rfl rfl rfl rfl rfl (by decide) (fun _ h => h.upto ⟨rfl, trivial⟩) (qt_loadS rfl rfl tys_impl_Pt rfl (by first | exact rdLegA (b := eb) (o := eo) (j := i) (fun w' hs => h.over hs.fin) hlt | exact rdLegB (b := eb) (o := eo) (j := i) (fun w' hs => h.over hs.fin) hlt | exact rdLegA (b := eb) (o := eo) (j := k) (fun w' hs => h.over hs.fin) hkl | exact rdLegB (b := eb) (o := eo) (j := k) (fun w' hs => h.over hs.fin) hkl | exact rdLegA (b := eb) (o := eo) (j := i) (fun w' hs => h1.over hs.fin) hlt | exact rdLegB (b := eb) (o := eo) (j := i) (fun w' hs => h1.over hs.fin) hlt)) ?_
     refine dg_qg (i := 17) rfl (by kernel_rfl) (by kernel_rfl) (by kernel_rfl) [] (by kernel_rfl) (fun _ _ _ h => h) rfl rfl rfl rfl rfl (by decide) (fun _ h => h.upto ⟨rfl, trivial⟩) (qt_move rfl rfl) ?_
     refine dg_qg (i := 18) rfl (by kernel_rfl) (by kernel_rfl) (by kernel_rfl) [] (by kernel_rfl) (fun _ _ _ h => h) rfl rfl rfl rfl rfl (by decide) (fun _ h => h.upto ⟨rfl, trivial⟩) (qt_nilCheck rfl rfl) ?_
     refine dg_qg (i := 19) rfl (by kernel_rfl) (by kernel_rfl) (by kernel_rfl) [] (by kernel_rfl) (fun _ _ _ h => h) rfl rfl rfl rfl rfl (by decide) (fun _ h => h.upto ⟨rfl, trivial⟩) (qt_fieldAddr rfl rfl tyf_spec_l13Edge_1) ?_
     refine dg_qg (i := 20) rfl (by kernel_rfl) (by kernel_rfl) (by kernel_rfl) [] (by kernel_rfl) (fun _ _ _ h => h) rfl rfl rfl rfl rfl (by decide) (fun _ h => h.upto ⟨rfl, trivial⟩) (qt_loadS rfl rfl tys_impl_Pt rfl (by first | exact rdLegA (b := eb) (o := eo) (j := i) (fun w' hs => h.over hs.fin) hlt | exact rdLegB (b := eb) (o := eo) (j := i) (fun w' hs => h.over hs.fin) hlt | exact rdLegA (b := eb) (o := eo) (j := k) (fun w' hs => h.over hs.fin) hkl | exact rdLegB (b := eb) (o := eo) (j := k) (fun w' hs => h.over hs.fin) hkl | exact rdLegA (b := eb) (o := eo) (j := i) (fun w' hs => h1.over hs.fin) hlt | exact rdLegB (b := eb) (o := eo) (j := i) (fun w' hs => h1.over hs.fin) hlt)) ?_
     refine dg_qg (i := 21) rfl (by kernel_rfl) (by kernel_rfl) (by kernel_rfl) [] (by kernel_rfl) (fun _ _ _ h => h) rfl rfl rfl rfl rfl (by decide) (fun _ h => h.upto ⟨rfl, trivial⟩) (qt_call ok_spec_l03Meeting rfl rfl (fun w1 hs => l03Meeting_any (lA (lg ls i)) (lB (lg ls i)) (lA (lg ls k)) (lB (lg ls k)) w1 (lA_ok (lg_ok hok (by omega))) (lB_ok (lg_ok hok (by omega))) (lA_ok (lg_ok hok (by omega))) (lB_ok (lg_ok hok (by omega))))) ?_
     refine dg_qg (i := 22) rfl (by kernel_rfl) (by kernel_rfl) (by kernel_rfl) [] (by kernel_rfl) (fun _ _ _ h => h) rfl rfl rfl rfl rfl (by decide) (fun _ h => h.upto ⟨rfl, trivial⟩) (qt_eql rfl rfl rfl) ?_
     refine dg_q (i := 23) rfl (by kernel_rfl) (by kernel_rfl) (by kernel_rfl) [] (by kernel_rfl) (fun _ _ _ h => h) rfl rfl (by decide) (fun _ h => h.upto ⟨rfl, trivial⟩) (qt_pickT rfl rfl rfl) ?_
     refine dg_done (by kernel_rfl) ?_
     refine norm_then ?_
     exact at_meet hC_cut_11 ⟨vb (by rw [Bool.eq_iff_iff]; simp), rfl, rfl, rfl, rfl, rfl, rfl, rfl, rfl, rfl, rfl, rfl, rfl, rfl, rfl, rfl, rfl, rfl, rfl, rfl, rfl, rfl, rfl, rfl, rfl, rfl, rfl, rfl, rfl, rfl, rfl, rfl, trivial⟩ (fun _ h => h.upto ⟨rfl, trivial⟩)
    ·try simp only [za,zb,zc,zd,ze,zf,Bool.not_true,Bool.not_false,zg,zh,ne_eq,zi,zj] at g1
     refine dg_off (i := 5) rfl (by kernel_rfl) (by kernel_rfl) (by kernel_rfl) [] (by kernel_rfl) (fun _ _ _ h => h) rfl rfl rfl rfl (by decide) rfl (by decide) (fun _ h => h.upto ⟨rfl, trivial⟩) ?_
     refine dg_off (i := 6) rfl (by kernel_rfl) (by kernel_rfl) (by kernel_rfl) [] (by kernel_rfl) (fun _ _ _ h => h) rfl rfl rfl rfl (by decide) rfl (by decide) (fun _ h => h.upto ⟨rfl, trivial⟩) ?_
     refine dg_off (i := 7) rfl (by kernel_rfl) (by kernel_rfl) (by kernel_rfl) [] (by kernel_rfl) (fun _ _ _ h => h) rfl rfl rfl rfl (by decide) rfl (by decide) (fun _ h => h.upto ⟨rfl, trivial⟩) ?_
     refine dg_off (i := 8) rfl (by kernel_rfl) (by kernel_rfl) (by kernel_rfl) [] (by kernel_rfl) (fun _ _ _ h => h) rfl rfl rfl rfl (by decide) rfl (by decide) (fun _ h => h.upto ⟨rfl, trivial⟩) ?_
     refine dg_off (i := 9) rfl (by kernel_rfl) (by kernel_rfl) (by kernel_rfl) [] (by kernel_rfl) (fun _ _ _ h => h) rfl rfl rfl rfl (by decide) rfl (by decide) (fun _ h => h.upto ⟨rfl, trivial⟩) ?_
     refine dg_off (i := 10) rfl (by kernel_rfl) (by kernel_rfl) (by kernel_rfl) [] (by kernel_rfl) (fun _ _ _ h => h) rfl rfl rfl rfl (by decide) rfl (by decide) (fun _ h => h.upto ⟨rfl, trivial⟩) ?_
     refine dg_off (i := 11) rfl (by kernel_rfl) (by kernel_rfl) (by kernel_rfl) [] (by kernel_rfl) (fun _ _ _ h => h) rfl rfl rfl rfl (by decide) rfl (by decide) (fun _ h => h.upto ⟨rfl, trivial⟩) ?_
     refine dg_off (i := 12) rfl (by kernel_rfl) (by kernel_rfl) (by kernel_rfl) [] (by kernel_rfl) (fun _ _ _ h => h) rfl rfl rfl rfl (by decide) rfl (by decide) (fun _ h => h.upto ⟨rfl, trivial⟩) ?_
     refine dg_off (i := 13) rfl (by kernel_rfl) (by kernel_rfl) (by kernel_rfl) [] (by kernel_rfl) (fun _ _ _ h => h) rfl rfl rfl rfl (by decide) rfl (by decide) (fun _ h => h.upto ⟨rfl, trivial⟩) ?_
     refine dg_off (i := 14) rfl (by kernel_rfl) (by kernel_rfl) (by kernel_rfl) [] (by kernel_rfl) (fun _ _ _ h => h) rfl rfl rfl rfl (by decide) rfl (by decide) (fun _ h => h.upto ⟨rfl, trivial⟩) ?_
     refine dg_off (i := 15) rfl (by kernel_rfl) (by kernel_rfl) (by kernel_rfl) [] (by kernel_rfl) (fun _ _ _ h => h) rfl rfl rfl rfl (by decide) rfl (by decide) (fun _ h => h.upto ⟨rfl, trivial⟩) ?_
     refine dg_off (i := 16) rfl (by kernel_rfl) (by kernel_rfl) (by kernel_rfl) [] (by kernel_rfl) (fun _ _ _ h => h) rfl rfl rfl rfl (by decide) rfl (by decide) (fun _ h => h.upto ⟨rfl, trivial⟩) ?_
     refine dg_off (i := 17) rfl (by kernel_rfl) (by kernel_rfl) (by kernel_rfl) [] (by kernel_rfl) (fun _ _ _ h => h) rfl rfl rfl rfl (by decide) rfl (by decide) (fun _ h => h.upto ⟨rfl, trivial⟩) ?_
     refine dg_off (i := 18) rfl (by kernel_rfl) (by kernel_rfl) (by kernel_rfl) [] (by kernel_rfl) (fun _ _ _ h => h) rfl rfl rfl rfl (by decide) rfl (by decide) (fun _ h => h.upto ⟨rfl, trivial⟩) ?_
     refine dg_off (i := 19) rfl (by kernel_rfl) (by kernel_rfl) (by kernel_rfl) [] (by kernel_rfl) (fun _ _ _ h => h) rfl rfl rfl rfl (by decide) rfl (by decide) (fun _ h => h.upto ⟨rfl, trivial⟩) ?_
     refine dg_off (i := 20) rfl (by kernel_rfl) (by kernel_rfl) (by kernel_rfl) [] (by kernel_rfl) (fun _ _ _ h => h) rfl rfl rfl rfl (by decide) rfl (by decide) (fun _ h => h.upto ⟨rfl, trivial⟩) ?_
     refine dg_off (i := 21) rfl (by kernel_rfl) (by kernel_rfl) (by kernel_rfl) [] (by kernel_rfl) (fun _ _ _ h => h) rfl rfl rfl rfl (by decide) rfl (by decide) (fun _ h => h.upto ⟨rfl, trivial⟩) ?_
     refine dg_off (i := 22) rfl (by kernel_rfl) (by kernel_rfl) (by kernel_rfl) [] (by kernel_rfl) (fun _ _ _ h => h) rfl rfl rfl rfl (by decide) rfl (by decide) (fun _ h => h.upto ⟨rfl, trivial⟩) ?_
     refine dg_q (i := 23) rfl (by kernel_rfl) (by kernel_rfl) (by kernel_rfl) [] (by kernel_rfl) (fun _ _ _ h => h) rfl rfl (by decide) (fun _ h => h.upto ⟨rfl, trivial⟩) (qt_pickF rfl rfl rfl) ?_
     refine dg_done (by kernel_rfl) ?_
     refine norm_then ?_
     exact at_meet hC_cut_11 ⟨vb (by rw [apart_none g1]; rfl), rfl, rfl, rfl, rfl, rfl, rfl, rfl, rfl, rfl, rfl, rfl, rfl, rfl, rfl, rfl, rfl, rfl, rfl, rfl, rfl, rfl, rfl, rfl, rfl, rfl, rfl, rfl, rfl, rfl, rfl, rfl, trivial⟩ (fun _ h => h.upto ⟨rfl, trivial⟩)
   ·refine at_envE (by simp only [ya,yb]; rfl) ?_
    refine at_cond rfl (fun c3 => ?_) (fun c3 => ?_)
    ·try simp only [za,zb,zc,zd,ze,zf,Bool.not_true,Bool.not_false,zg,zh,ne_eq,zi,zj] at c3
     refine dg_start mixed rfl ?_
     refine dg_phase 18 ?_
     refine dg_q (i := 0) rfl (by kernel_rfl) (by kernel_rfl) (by kernel_rfl) [] (by kernel_rfl) (fun _ _ _ h => h) rfl rfl (by decide) (fun _ h => h.upto ⟨rfl, trivial⟩) (qt_move rfl rfl) ?_
     refine dg_q (i := 1) rfl (by kernel_rfl) (by kernel_rfl) (by kernel_rfl) [2, 3, 4, 17] (by kernel_rfl) (fun _ _ _ h => h) rfl rfl (by decide) (fun _ h => h.upto ⟨rfl, trivial⟩) (qt_move rfl rfl) ?_
     refine dg_q (i := 2) rfl (by kernel_rfl) (by kernel_rfl) (by kernel_rfl) [3, 4, 17] (by kernel_rfl) (fun _ _ _ h => h) rfl rfl (by decide) (fun _ h => h.upto ⟨rfl, trivial⟩) (qt_nilCheck rfl rfl) ?_
     refine dg_q (i := 3) rfl (by kernel_rfl) (by kernel_rfl) (by kernel_rfl) [4, 17] (by kernel_rfl) (fun _ _ _ h => h) rfl rfl (by decide) (fun _ h => h.upto ⟨rfl, trivial⟩) (qt_fieldAddr rfl rfl tyf_spec_l13Edge_0) ?_
     refine dg_q (i := 4) rfl (by kernel_rfl) (by kernel_rfl) (by kernel_rfl) [17] (by kernel_rfl) (fun _ _ _ h => h) rfl rfl (by decide) (fun _ h => h.upto ⟨rfl, trivial⟩) (qt_loadS rfl rfl tys_impl_Pt rfl (by first | exact rdLegA (b := eb) (o := eo) (j := i) (fun w' hs => h.over hs.fin) hlt | exact rdLegB (b := eb) (o := eo) (j := i) (fun w' hs => h.over hs.fin) hlt | exact rdLegA (b := eb) (o := eo) (j := k) (fun w' hs => h.over hs.fin) hkl | exact rdLegB (b := eb) (o := eo) (j := k) (fun w' hs => h.over hs.fin) hkl | exact rdLegA (b := eb) (o := eo) (j := i) (fun w' hs => h1.over hs.fin) hlt | exact rdLegB (b := eb) (o := eo) (j := i) (fun w' hs => h1.over hs.fin) hlt)) ?_
     refine dg_q (i := 5) rfl (by kernel_rfl) (by kernel_rfl) (by kernel_rfl) [6, 7, 8, 17] (by kernel_rfl) (fun _ _ _ h => h) rfl rfl (by decide) (fun _ h => h.upto ⟨rfl, trivial⟩) (qt_move rfl rfl) ?_
     refine dg_q (i := 6) rfl (by kernel_rfl) (by kernel_rfl) (by kernel_rfl) [7, 8, 17] (by kernel_rfl) (fun _ _ _ h => h) rfl rfl (by decide) (fun _ h => h.upto ⟨rfl, trivial⟩) (qt_nilCheck rfl rfl) ?_
     refine dg_q (i := 7) rfl (by kernel_rfl) (by kernel_rfl) (by kernel_rfl) [8, 17] (by kernel_rfl) (fun _ _ _ h => h) rfl rfl (by decide) (fun _ h => h.upto ⟨rfl, trivial⟩) (qt_fieldAddr rfl rfl tyf_spec_l13Edge_1) ?_
     refine dg_q (i := 8) rfl (by kernel_rfl) (by kernel_rfl) (by kernel_rfl) [17] (by kernel_rfl) (fun _ _ _ h => h) rfl rfl (by decide) (fun _ h => h.upto ⟨rfl, trivial⟩) (qt_loadS rfl rfl tys_impl_Pt rfl (by first | exact rdLegA (b := eb) (o := eo) (j := i) (fun w' hs => h.over hs.fin) hlt | exact rdLegB (b := eb) (o := eo) (j := i) (fun w' hs => h.over hs.fin) hlt | exact rdLegA (b := eb) (o := eo) (j := k) (fun w' hs => h.over hs.fin) hkl | exact rdLegB (b := eb) (o := eo) (j := k) (fun w' hs => h.over hs.fin) hkl | exact rdLegA (b := eb) (o := eo) (j := i) (fun w' hs => h1.over hs.fin) hlt | exact rdLegB (b := eb) (o := eo) (j := i) (fun w' hs => h1.over hs.fin) hlt)) ?_
     refine dg_q (i := 9) rfl (by kernel_rfl) (by kernel_rfl) (by kernel_rfl) [10, 11, 12, 17] (by kernel_rfl) (fun _ _ _ h => h) rfl rfl (by decide) (fun _ h => h.upto ⟨rfl, trivial⟩) (qt_move rfl rfl) ?_
     refine dg_q (i := 10) rfl (by kernel_rfl) (by kernel_rfl) (by kernel_rfl) [11, 12, 17] (by kernel_rfl) (fun _ _ _ h => h) rfl rfl (by decide) (fun _ h => h.upto ⟨rfl, trivial⟩) (qt_nilCheck rfl rfl) ?_
     refine dg_q (i := 11) rfl (by kernel_rfl) (by kernel_rfl) (by kernel_rfl) [12, 17] (by kernel_rfl) (fun _ _ _ h => h) rfl rfl (by decide) (fun _ h => h.upto ⟨rfl, trivial⟩) (qt_fieldAddr rfl rfl tyf_spec_l13Edge_0) ?_
     refine dg_q (i := 12) rfl (by kernel_rfl) (by kernel_rfl) (by kernel_rfl) [17] (by kernel_rfl) (fun _ _ _ h => h) rfl rfl (by decide) (fun _ h => h.upto ⟨rfl, trivial⟩) (qt_loadS rfl rfl tys_impl_Pt rfl (by first | exact rdLegA (b := eb) (o := eo) (j := i) (fun w' hs => h.over hs.fin) hlt | exact rdLegB (b := eb) (o := eo) (j := i) (fun w' hs => h.over hs.fin) hlt | exact rdLegA (b := eb) (o := eo) (j := k) (fun w' hs => h.over hs.fin) hkl | exact rdLegB (b := eb) (o := eo) (j := k) (fun w' hs => h.over hs.fin) hkl | exact rdLegA (b := eb) (o := eo) (j := i) (fun w' hs => h1.over hs.fin) hlt | exact rdLegB (b := eb) (o := eo) (j := i) (fun w' hs => h1.over hs.fin) hlt)) ?_
     refine dg_q (i := 13) rfl (by kernel_rfl) (by kernel_rfl) (by kernel_rfl) [14, 15, 16, 17] (by kernel_rfl) (fun _ _ _ h => h) rfl rfl (by decide) (fun _ h => h.upto ⟨rfl, trivial⟩) (qt_move rfl rfl) ?_
     refine dg_q (i := 14) rfl (by kernel_rfl) (by kernel_rfl) (by kernel_rfl) [15, 16, 17] (by kernel_rfl) (fun _ _ _ h => h) rfl rfl (by decide) (fun _ h => h.upto ⟨rfl, trivial⟩) (qt_nilCheck rfl rfl) ?_
     refine dg_q (i := 15) rfl (by kernel_rfl) (by kernel_rfl) (by kernel_rfl) [16, 17] (by kernel_rfl) (fun _ _ _ h => h) rfl rfl (by decide) (fun _ h => h.upto ⟨rfl, trivial⟩) (qt_fieldAddr rfl rfl tyf_spec_l13Edge_1) ?_
     refine dg_q (i := 16) rfl (by kernel_rfl) (by kernel_rfl) (by kernel_rfl) [17] (by kernel_rfl) (fun _ _ _ h => h) rfl rfl (by decide) (fun _ h => h.upto ⟨rfl, trivial⟩) (qt_loadS rfl rfl tys_impl_Pt rfl (by first | exact rdLegA (b := eb) (o := eo) (j := i) (fun w' hs => h.over hs.fin) hlt | exact rdLegB (b := eb) (o := eo) (j := i) (fun w' hs => h.over hs.fin) hlt | exact rdLegA (b := eb) (o := eo) (j := k) (fun w' hs => h.over hs.fin) hkl | exact rdLegB (b := eb) (o := eo) (j := k) (fun w' hs => h.over hs.fin) hkl | exact rdLegA (b := eb) (o := eo) (j := i) (fun w' hs => h1.over hs.fin) hlt | exact rdLegB (b := eb) (o := eo) (j := i) (fun w' hs => h1.over hs.fin) hlt)) ?_
     refine dg_q (i := 17) rfl (by kernel_rfl) (by kernel_rfl) (by kernel_rfl) [] (by kernel_rfl) (fun _ _ _ h => h) rfl rfl (by decide) (fun _ h => h.upto ⟨rfl, trivial⟩) (qt_call ok_spec_l03Crossing rfl rfl (fun w1 hs => l03Crossing_p (lA (lg ls i)) (lB (lg ls i)) (lA (lg ls k)) (lB (lg ls k)) w1 (lA_ok (lg_ok hok (by omega))) (lB_ok (lg_ok hok (by omega))) (lA_ok (lg_ok hok (by omega))) (lB_ok (lg_ok hok (by omega))) c3)) ?_
     refine dg_bar rfl (by kernel_rfl) rfl ?_
     refine op_callP (k := 0) (v := fun x : Nat × Nat => .slice (some ⟨x.1, 0, none⟩) _ x.2) (r' := fun x => hotR _ x) ok_spec_l13Put rfl rfl rfl (by decide) rfl (fun w1 hs => put_row (p := crP (lA (lg ls i)) (lB (lg ls i)) (lA (lg ls k)) (lB (lg ls k))) (hs.all 0 _ rfl).1 (by omega)) ?_
     rintro ⟨g3, gc3⟩
     refine at_rsE (by simp only [ya,yb,yc,yd,Value.cells,ye]; rfl) ?_
     refine dg_phase 20 ?_
     refine dg_q (i := 19) rfl (by kernel_rfl) (by kernel_rfl) (by kernel_rfl) [] (by kernel_rfl) (fun _ _ _ h => h) rfl rfl (by decide) (fun _ h => h.upto ⟨rfl, trivial⟩) (qt_assign rfl rfl) ?_
     refine dg_done (by kernel_rfl) ?_
     refine norm_block ?_
     refine norm_then ?_
     refine at_region ?_
     refine at_q rfl rfl (by decide) (qt_move rfl rfl) ?_
     refine at_q rfl rfl (by decide) (qt_add rfl rfl rfl (by omega) (by omega)) ?_
     refine at_q rfl rfl (by decide) (qt_assign rfl rfl) ?_
     refine at_end ?_
     exact at_againc hL2 ((k + 1, g3, gc3)) ((show k + 1 ≤ i by omega)) (by simp only; omega) ⟨(by rw [putAll_yes c3]; rfl), vi (by omega), rfl, rfl, rfl, rfl, rfl, rfl, rfl, rfl, rfl, rfl, rfl, rfl, rfl, rfl, rfl, rfl, rfl, rfl, rfl, rfl, rfl, rfl, trivial⟩ (fun _ h => h.upto ⟨by rw [putAll_yes c3], trivial⟩)
    ·try simp only [za,zb,zc,zd,ze,zf,Bool.not_true,Bool.not_false,zg,zh,ne_eq,zi,zj] at c3
     refine at_skip ?_
     refine norm_block ?_
     refine norm_then ?_
     refine at_region ?_
     refine at_q rfl rfl (by decide) (qt_move rfl rfl) ?_
     refine at_q rfl rfl (by decide) (qt_add rfl rfl rfl (by omega) (by omega)) ?_
     refine at_q rfl rfl (by decide) (qt_assign rfl rfl) ?_
     refine at_end ?_
     exact at_againc hL2 ((k + 1, g, gc)) ((show k + 1 ≤ i by omega)) (by simp only; omega) ⟨(by rw [putAll_no c3]; rfl), vi (by omega), rfl, rfl, rfl, rfl, rfl, rfl, rfl, rfl, rfl, rfl, rfl, rfl, rfl, rfl, rfl, rfl, rfl, rfl, rfl, rfl, rfl, rfl, trivial⟩ (fun _ h => h.upto ⟨by rw [putAll_no c3], trivial⟩)
  ·try simp only [za,zb,zc,zd,ze,zf,Bool.not_true,Bool.not_false,zg,zh,ne_eq,zi,zj] at c2
   refine at_exit ?_
   refine pass_then (fun h => by cases h) ?_
   refine pass_then (fun h => by cases h) ?_
   refine pass_hit ?_
   refine norm_block ?_
   refine norm_then ?_
   refine at_region ?_
   refine at_q rfl rfl (by decide) (qt_move rfl rfl) ?_
   refine at_q rfl rfl (by decide) (qt_add rfl rfl rfl (by omega) (by omega)) ?_
   refine at_q rfl rfl (by decide) (qt_assign rfl rfl) ?_
   refine at_end ?_
   exact at_againc hL1 ((i + 1, g, gc)) ((show i + 1 ≤ n by omega)) (by simp only; omega) ⟨(by rw [show k = i by omega]; rfl), vi (by omega), rfl, rfl, trivial⟩ (fun _ h => h.upto ⟨by rw [show k = i by omega]; rfl, trivial⟩)
 ·try simp only [za,zb,zc,zd,ze,zf,Bool.not_true,Bool.not_false,zg,zh,ne_eq,zi,zj] at c1
  refine at_exit ?_
  refine pass_then (fun h => by cases h) ?_
  refine pass_then (fun h => by cases h) ?_
  refine pass_hit ?_
  refine norm_then ?_
  refine at_seq ?_
  refine at_region ?_
  refine at_q rfl rfl (by decide) (qt_move rfl rfl) ?_
  refine at_q rfl rfl (by decide) (qt_assign rfl rfl) ?_
  refine at_end ?_
  refine at_retc ?_
  refine at_ret1 rfl (.tmp rfl) ?_
  intro w' hs
  have hr := hs.all 0 _ rfl
  have hin : i = n := by omega
  exact ⟨_, rfl, by rw [← hin]; exact row_from hr.1 (fun b hb => (hr.2.1 b hb).elim id (fun h => by cases h)), hs.fin⟩
end Go.Proofs.YtakdjgldcpompaaGreat
