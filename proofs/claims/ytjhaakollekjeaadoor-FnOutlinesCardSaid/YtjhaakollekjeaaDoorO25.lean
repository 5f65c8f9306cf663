import Derived.Test.YtjhaakollekjeaaDoorO24
namespace Go.Proofs.YtjhaakollekjeaaDoor
open Go Go.RowKit
set_option linter.unusedVariables false
set_option linter.unusedSimpArgs false
/-- A loop the other way around, with the same first knot. -/
def revK : List Kn → List Kn
 | [] => []
 | a :: r => a :: r.reverse
def revO (ls : List (List Kn)) : List (List Kn) := ls.map revK
theorem revK_len (l : List Kn) : (revK l).length = l.length := by cases l <;> simp [revK]
theorem revK_revK (l : List Kn) : revK (revK l) = l := by cases l <;> simp [revK]
theorem revO_revO (ls : List (List Kn)) : revO (revO ls) = ls := by
 unfold revO
 rw [List.map_map]
 conv => rhs; rw [← List.map_id ls]
 exact List.map_congr_left fun l _ => revK_revK l
theorem revK_zero (l : List Kn) : kn (revK l) 0 = kn l 0 := by cases l <;> simp [revK, kn]
theorem loopB_rev (l : List Kn) : loopB (revK l) = loopB l := by
 have h : (revK l).all knB = l.all knB := by cases l <;> simp [revK]
 unfold loopB
 rw [revK_len, revK_zero, h]
theorem outB_rev (ls : List (List Kn)) : outB (revO ls) = outB ls := by
 unfold outB revO
 rw [List.length_map, List.all_map]
 congr 1
 exact congrArg (fun f => ls.all f) (funext loopB_rev)

/-! ### Middles -/
theorem mdP_comm (a b : Pn) : mdP a b = mdP b a := by unfold mdP; rw [Int.add_comm a.1, Int.add_comm a.2]
def mdL (a b : Kn) : List Kn := if a.2 = false ∧ b.2 = false then [(mdP a.1 b.1, true)] else []
theorem mdL_comm (a b : Kn) : mdL b a = (mdL a b).reverse := by
 unfold mdL
 rw [mdP_comm]
 by_cases h : a.2 = false ∧ b.2 = false
 ·rw [if_pos h, if_pos ⟨h.2, h.1⟩]; rfl
 ·rw [if_neg h, if_neg fun k => h ⟨k.2, k.1⟩]; rfl
def insM : List Kn → List Kn
 | [] => []
 | [a] => [a]
 | a :: b :: r => a :: mdL a b ++ insM (b :: r)
theorem insM_app : ∀ (l : List Kn) (b a : Kn), insM (l ++ [b, a]) = insM (l ++ [b]) ++ mdL b a ++ [a]
 | [], b, a => by simp [insM]
 | [x], b, a => by simp [insM]
 | x :: y :: l, b, a => by
  have ih := insM_app (y :: l) b a
  show insM (x :: y :: (l ++ [b, a])) = insM (x :: y :: (l ++ [b])) ++ mdL b a ++ [a]
  rw [insM, insM]
  have e1 : y :: (l ++ [b, a]) = (y :: l) ++ [b, a] := rfl
  have e2 : y :: (l ++ [b]) = (y :: l) ++ [b] := rfl
  rw [e1, e2, ih]
  simp only [List.append_assoc, List.cons_append]
theorem insM_rev : ∀ l : List Kn, insM l.reverse = (insM l).reverse
 | [] => rfl
 | [a] => rfl
 | a :: b :: r => by
  have ih := insM_rev (b :: r)
  rw [List.reverse_cons] at ih
  rw [List.reverse_cons, List.reverse_cons, List.append_assoc]
  show insM (r.reverse ++ [b, a]) = _
  rw [insM_app, ih, insM, mdL_comm]
  simp only [List.reverse_append, List.reverse_cons, List.cons_append, List.append_assoc]
theorem clo_get {l : List Kn} {k : Nat} (hk : k < l.length) : (l ++ [kn l 0])[k]? = some (kn l k) ∧ (l ++ [kn l 0])[k + 1]? = some (kn l ((k + 1) % l.length)) := by
 refine ⟨by rw [List.getElem?_append_left hk, kn_get hk], ?_⟩
 rcases Nat.lt_or_ge (k + 1) l.length with h | h
 ·rw [List.getElem?_append_left h, Nat.mod_eq_of_lt h, kn_get h]
 ·rw [List.getElem?_append_right h, show k + 1 = l.length by omega, Nat.sub_self, Nat.mod_self]
  rfl
theorem fuK_step {l : List Kn} : ∀ {k}, k ≤ l.length → fuTo l k ++ insM ((l ++ [kn l 0]).drop k) = insM (l ++ [kn l 0])
 | 0, _ => by simp [fuTo]
 | k + 1, hk => by
  have ih := fuK_step (l := l) (k := k) (by omega)
  obtain ⟨h1, h2⟩ := clo_get (l := l) (k := k) (by omega)
  obtain ⟨g1, e1⟩ := List.getElem?_eq_some_iff.1 h1
  obtain ⟨g2, e2⟩ := List.getElem?_eq_some_iff.1 h2
  rw [← ih, fuTo, List.append_assoc]
  congr 1
  have e3 : (l ++ [kn l 0]).drop k = kn l k :: kn l ((k + 1) % l.length) :: (l ++ [kn l 0]).drop (k + 2) := by
   rw [List.drop_eq_getElem_cons g1, List.drop_eq_getElem_cons g2, e1, e2]
  have e4 : (l ++ [kn l 0]).drop (k + 1) = kn l ((k + 1) % l.length) :: (l ++ [kn l 0]).drop (k + 2) := by
   rw [List.drop_eq_getElem_cons g2, e2]
  rw [e3, e4, insM]
  rfl
theorem fuK_ins (l : List Kn) : fuK l = insM (l ++ [kn l 0]) := by
 rw [← fuK_step (Nat.le_refl _), List.drop_left' rfl]
 rfl
theorem fuK_rev (l : List Kn) (h : 1 ≤ l.length) : fuK (revK l) = (fuK l).reverse := by
 rw [fuK_ins, fuK_ins, ← insM_rev, revK_zero]
 cases l with
 | nil => simp at h
 | cons a r =>
  congr 1
  simp [revK, kn]

/-! ### Segments -/
def gdL : List Kn → Bool
 | [] => false
 | [a] => a.2
 | a :: b :: r => (a.2 || b.2) && gdL (b :: r)
theorem gd_ins : ∀ (l : List Kn) (z : Kn), z.2 = true → gdL (insM (l ++ [z])) = true
 | [], z, h => h
 | [a], z, h => by simp [insM, mdL, h, gdL]
 | a :: b :: l, z, h => by
  have ih := gd_ins (b :: l) z h
  have e1 : insM (a :: b :: l ++ [z]) = a :: mdL a b ++ insM (b :: l ++ [z]) := by
   show insM (a :: b :: (l ++ [z])) = _
   rw [insM]
   rfl
  have e2 : ∃ q, insM (b :: l ++ [z]) = b :: q := by
   cases l with
   | nil => exact ⟨_, rfl⟩
   | cons c l => exact ⟨_, rfl⟩
  obtain ⟨q, e2⟩ := e2
  rw [e2] at ih
  rw [e1, e2]
  unfold mdL
  by_cases hm : a.2 = false ∧ b.2 = false
  ·rw [if_pos hm]
   simp only [List.cons_append, List.nil_append, gdL, Bool.or_true, Bool.true_or, Bool.true_and]
   exact ih
  ·rw [if_neg hm]
   simp only [List.cons_append, List.nil_append, gdL, ih, Bool.and_true]
   cases ha : a.2 <;> cases hb : b.2 <;> simp_all
theorem sg_app : ∀ (n : Nat) (X : List Kn), X.length ≤ n → ∀ (o : Kn) (Y : List Kn), o.2 = true → sgL (X ++ o :: Y) = sgL (X ++ [o]) ++ sgL (o :: Y)
 | _, [], _, o, Y, _ => by simp [sgL]
 | _, [x], _, o, Y, h => by
  show sgL (x :: o :: Y) = sgL (x :: o :: []) ++ sgL (o :: Y)
  rw [sgL_on h, sgL_on h]
  simp [sgL]
 | 0, x :: y :: X, hn, _, _, _ => by simp at hn
 | n + 1, x :: y :: X, hn, o, Y, h => by
  simp only [List.length_cons] at hn
  show sgL (x :: y :: (X ++ o :: Y)) = sgL (x :: y :: (X ++ [o])) ++ sgL (o :: Y)
  by_cases hy : y.2 = true
  ·rw [sgL_on hy, sgL_on hy]
   have := sg_app n (y :: X) (by simp; omega) o Y h
   simp only [List.cons_append] at this
   rw [this]
   rfl
  ·cases X with
   | nil =>
    show sgL (x :: y :: o :: Y) = sgL (x :: y :: o :: []) ++ sgL (o :: Y)
    rw [sgL_off (by simpa using hy), sgL_off (by simpa using hy)]
    simp [sgL]
   | cons c X =>
    have this : sgL (c :: (X ++ o :: Y)) = sgL (c :: (X ++ [o])) ++ sgL (o :: Y) := sg_app n (c :: X) (by simp at hn ⊢; omega) o Y h
    show sgL (x :: y :: c :: (X ++ o :: Y)) = sgL (x :: y :: c :: (X ++ [o])) ++ sgL (o :: Y)
    rw [sgL_off (by simpa using hy), sgL_off (by simpa using hy), this]
    rfl
def swp (s : Sg) : Sg := ⟨s.c, s.b, s.a, s.st⟩
theorem sg_rev : ∀ (n : Nat) (l : List Kn), l.length ≤ n → gdL l = true → (∀ a r, l = a :: r → a.2 = true) → sgL l.reverse = (sgL l).reverse.map swp
 | _, [], _, _, _ => rfl
 | _, [a], _, _, _ => rfl
 | 0, a :: b :: r, hn, _, _ => by simp at hn
 | n + 1, a :: b :: r, hn, hg, ha => by
  have ha := ha a _ rfl
  simp only [List.length_cons] at hn
  simp only [gdL, Bool.and_eq_true] at hg
  rw [List.reverse_cons, List.reverse_cons, List.append_assoc]
  show sgL (r.reverse ++ [b, a]) = _
  by_cases hb : b.2 = true
  ·have ih := sg_rev n (b :: r) (by simp; omega) hg.2 (fun x q e => by injection e with e; rw [← e]; exact hb)
   rw [List.reverse_cons] at ih
   rw [sg_app _ _ (Nat.le_refl _) b [a] hb, ih, sgL_on hb]
   rw [List.reverse_cons, List.map_append]
   congr 1
   rw [sgL_on ha]
   simp [sgL, swp, mdP_comm]
  ·cases r with
   | nil => exact absurd hg.2 hb
   | cons c r =>
    have hg2 := hg.2
    simp only [gdL, Bool.and_eq_true, Bool.or_eq_true] at hg2
    have hc : c.2 = true := hg2.1.elim (fun k => absurd k hb) id
    have ih := sg_rev n (c :: r) (by simp at hn ⊢; omega) hg2.2 (fun x q e => by injection e with e; rw [← e]; exact hc)
    rw [List.reverse_cons] at ih
    rw [List.reverse_cons, List.append_assoc]
    show sgL (r.reverse ++ c :: [b, a]) = _
    have hb' : b.2 = false := by simpa using hb
    rw [sg_app _ _ (Nat.le_refl _) c [b, a] hc, ih, sgL_off (a := c) hb', sgL_off (a := a) hb']
    rw [List.reverse_cons, List.map_append]
    congr 1
/-- Segments follow one another, from a to z. -/
def chn (a : Pn) : List Sg → Pn → Prop
 | [], z => a = z
 | s :: S, z => s.a = a ∧ chn s.c S z
theorem sg_chn : ∀ (n : Nat) (l : List Kn) (a z : Kn), l.length ≤ n → gdL (a :: l) = true → (a :: l).getLast? = some z → chn a.1 (sgL (a :: l)) z.1
 | _, [], a, z, _, _, h => by
  simp at h
  rw [h]
  rfl
 | 0, b :: r, a, z, hn, _, _ => by simp at hn
 | n + 1, b :: r, a, z, hn, hg, h => by
  simp only [List.length_cons] at hn
  simp only [gdL, Bool.and_eq_true] at hg
  rw [List.getLast?_cons_cons] at h
  by_cases hb : b.2 = true
  ·rw [sgL_on hb]
   exact ⟨rfl, sg_chn n r b z (by omega) hg.2 h⟩
  ·cases r with
   | nil => exact absurd hg.2 hb
   | cons c r =>
    have hg2 := hg.2
    simp only [gdL, Bool.and_eq_true] at hg2
    rw [List.getLast?_cons_cons] at h
    rw [sgL_off (by simpa using hb)]
    exact ⟨rfl, sg_chn n r c z (by simp at hn; omega) hg2.2 h⟩

/-! ### Flattened -/
theorem secP_comm (a b c : Pn) : secP c b a = secP a b c := by
 unfold secP
 exact Prod.ext (by simp only; omega) (by simp only; omega)
theorem qdN_comm (a b c : Pn) (t : Int) : qdN c b a t = qdN a b c t := by unfold qdN qdV; rw [secP_comm]
theorem qdC_comm (a b c : Pn) (t : Int) : qdC c b a t = qdC a b c t := by unfold qdC; rw [secP_comm]
theorem mxQ_comm (a b c k n : Int) : mxQ c b a k n = mxQ a b c (n - k) n := by
 unfold mxQ
 congr 1
 grind
theorem rnd_self {n x : Int} (h : 0 < n) : rnd (n * x) n = x := by
 unfold rnd
 rw [Int.mul_emod_right, if_neg (by omega), Int.mul_ediv_cancel_left _ (by omega)]
theorem mxQ_end (a b c : Int) {n : Int} (h : 0 < n) : mxQ a b c n n = c := by
 unfold mxQ
 have : (n - n) * (n - n) * a + 2 * (n - n) * n * b + n * n * c = n * n * c := by rw [Int.sub_self]; simp
 rw [this]
 exact rnd_self (Int.mul_pos h h)
theorem qd_comm (a b c : Pn) (k n : Int) : qdQ c b a k n = qdQ a b c (n - k) n := by
 exact Prod.ext (mxQ_comm _ _ _ _ _) (mxQ_comm _ _ _ _ _)
theorem qd_end (a b c : Pn) {n : Int} (h : 0 < n) : qdQ a b c n n = c := by
 unfold qdQ
 rw [mxQ_end _ _ _ h, mxQ_end _ _ _ h]
theorem qdTo_rev (a b c : Pn) (m : Nat) : qdTo c b a m (m + 1) = (qdTo a b c m (m + 1)).reverse := by
 refine List.ext_getElem (by simp [qdTo]) fun j h1 h2 => ?_
 rw [List.getElem_reverse]
 simp only [qdTo, List.getElem_map, List.getElem_range, List.length_map, List.length_range] at h1 ⊢
 rw [qd_comm]
 congr 1
 omega
theorem qdN_pos (a b c : Pn) (t : Int) : 0 < qdN a b c t := Nat.pow_pos (by decide)
theorem sg_path (t : Int) (s : Sg) : sgP t (swp s) ++ [s.a] = (sgP t s ++ [s.c]).reverse := by
 unfold sgP
 cases hs : s.st with
 | true => simp [swp, hs]
 | false =>
  have hp := qdN_pos s.a s.b s.c t
  have e1 : qdTo s.a s.b s.c (qdN s.a s.b s.c t) (qdN s.a s.b s.c t) ++ [s.c] = qdTo s.a s.b s.c (qdN s.a s.b s.c t) (qdN s.a s.b s.c t + 1) := by
   rw [qdTo_step, qd_end _ _ _ (by omega)]
  have e2 : qdTo s.c s.b s.a (qdN s.a s.b s.c t) (qdN s.a s.b s.c t) ++ [s.a] = qdTo s.c s.b s.a (qdN s.a s.b s.c t) (qdN s.a s.b s.c t + 1) := by
   rw [qdTo_step, qd_end _ _ _ (by omega)]
  simp only [swp, hs, Bool.false_eq_true, if_false]
  rw [qdN_comm, e1, e2, qdTo_rev]
theorem path_swp (t : Int) : ∀ (S : List Sg) (a z : Pn), chn a S z → (S.reverse.map swp).flatMap (sgP t) ++ [a] = (S.flatMap (sgP t) ++ [z]).reverse
 | [], a, z, h => by
  have h : a = z := h
  rw [h]
  rfl
 | s :: S, a, z, h => by
  obtain ⟨rfl, h⟩ := h
  have ih := path_swp t S s.c z h
  have hp := sg_path t s
  rw [List.reverse_append] at hp
  rw [List.reverse_cons, List.map_append, List.flatMap_append, List.append_assoc]
  have e : ([s].map swp).flatMap (sgP t) ++ [s.a] = [s.c] ++ (sgP t s).reverse := by
   show (sgP t (swp s) ++ []) ++ [s.a] = _
   rw [List.append_nil, hp]
   rfl
  rw [e, ← List.append_assoc, ih, List.flatMap_cons]
  simp only [List.reverse_append, List.append_assoc]
/-- A loop, flattened both ways. -/
theorem fu_good {l : List Kn} (h : LoopOk l) : ∃ r, fuK l = kn l 0 :: r ∧ gdL (kn l 0 :: r) = true ∧ (kn l 0 :: r).getLast? = some (kn l 0) := by
 have hp := h.pos
 have e := fuK_ins l
 have hg := gd_ins l (kn l 0) h.on
 rw [← e] at hg
 have hh : ∃ r, fuK l = kn l 0 :: r := by
  rw [e]
  match l, hp with
  | [a], _ => exact ⟨_, rfl⟩
  | a :: b :: l, _ => exact ⟨_, rfl⟩
 obtain ⟨r, hr⟩ := hh
 refine ⟨r, hr, hr ▸ hg, ?_⟩
 rw [← hr]
 unfold fuK
 simp
theorem rg_chn {l : List Kn} (h : LoopOk l) : chn (kn l 0).1 (sgL (fuK l)) (kn l 0).1 := by
 obtain ⟨r, h1, h2, h3⟩ := fu_good h
 rw [h1]
 exact sg_chn _ r _ _ (Nat.le_refl _) h2 h3
theorem sgs_rev {l : List Kn} (h : LoopOk l) : sgL (fuK (revK l)) = (sgL (fuK l)).reverse.map swp := by
 obtain ⟨r, h1, h2, h3⟩ := fu_good h
 rw [fuK_rev l h.pos]
 refine sg_rev _ _ (Nat.le_refl _) (by rw [h1]; exact h2) fun a q e => ?_
 rw [h1] at e
 injection e with e
 rw [← e]
 exact h.on
theorem rgOk_rev {l : List Kn} (h : LoopOk l) (t : Int) : rgOk t (revK l) = rgOk t l := by
 unfold rgOk
 rw [sgs_rev h, List.all_map, List.all_reverse]
 refine congrArg (fun f => (sgL (fuK l)).all f) (funext fun s => ?_)
 show sgOk t (swp s) = sgOk t s
 unfold sgOk swp
 rw [qdC_comm]
theorem rgPt_rev {l : List Kn} (h : LoopOk l) (t : Int) : rgPt t (revK l) ++ [(kn l 0).1] = (rgPt t l ++ [(kn l 0).1]).reverse := by
 unfold rgPt
 rw [sgs_rev h]
 exact path_swp t _ _ _ (rg_chn h)
/-- A ring, and the ring around which one goes the other way. -/
def revQ : Ring_ → Ring_
 | [] => []
 | a :: r => a :: r.reverse
theorem rev_of {A B : List Pn} {z : Pn} (h : B ++ [z] = (A ++ [z]).reverse) : B = revQ A := by
 rw [List.reverse_append] at h
 cases A with
 | nil =>
  have := congrArg List.length h
  simp at this
  rw [this]
  rfl
 | cons a r =>
  have h2 := congrArg List.reverse h
  rw [List.reverse_append, List.reverse_append, List.reverse_reverse] at h2
  have ha : a = z := by
   have := congrArg List.head? h2
   simpa using this.symm
  subst ha
  rw [List.reverse_cons] at h
  have h' : B ++ [a] = (a :: r.reverse) ++ [a] := by rw [h]; simp
  exact List.append_cancel_right h'
theorem rg_revQ {l : List Kn} (h : LoopOk l) (t : Int) : rgPt t (revK l) = revQ (rgPt t l) := rev_of (rgPt_rev h t)
theorem revQ_len (xs : Ring_) : (revQ xs).length = xs.length := by cases xs <;> simp [revQ]
theorem revQ_all (xs : Ring_) : allOk (revQ xs) = allOk xs := by cases xs <;> simp [revQ, allOk]
/-! ### Edges and areas -/
def legP (p q : Pn) : List Leg := if p = q then [] else [⟨p.1, p.2, q.1, q.2⟩]
def legC : List Pn → List Leg
 | a :: b :: r => legP a b ++ legC (b :: r)
 | _ => []
theorem legC_app : ∀ (l : List Pn) (b a : Pn), legC (l ++ [b, a]) = legC (l ++ [b]) ++ legP b a
 | [], b, a => by simp [legC]
 | [x], b, a => by simp [legC]
 | x :: y :: l, b, a => by
  have ih := legC_app (y :: l) b a
  show legC (x :: y :: (l ++ [b, a])) = legC (x :: y :: (l ++ [b])) ++ legP b a
  rw [legC, legC, List.append_assoc]
  congr 1
theorem legP_len (a b : Pn) : (legP b a).length = (legP a b).length := by
 unfold legP
 by_cases h : a = b
 ·subst h; rfl
 ·rw [if_neg h, if_neg (Ne.symm h)]; rfl
theorem legP_sum (a b : Pn) : legSum (legP b a) = -legSum (legP a b) := by
 unfold legP
 by_cases h : a = b
 ·subst h; rw [if_pos rfl]; rfl
 ·rw [if_neg h, if_neg (Ne.symm h)]
  simp only [legSum, legCross]
  grind
theorem legC_rev : ∀ l : List Pn, (legC l.reverse).length = (legC l).length ∧ legSum (legC l.reverse) = -legSum (legC l)
 | [] => ⟨rfl, rfl⟩
 | [a] => ⟨rfl, rfl⟩
 | a :: b :: r => by
  obtain ⟨h1, h2⟩ := legC_rev (b :: r)
  have e : legC (a :: b :: r).reverse = legC (b :: r).reverse ++ legP b a := by
   rw [List.reverse_cons, List.reverse_cons, List.append_assoc]
   exact legC_app r.reverse b a
  have e2 : legC (a :: b :: r) = legP a b ++ legC (b :: r) := by rw [legC]
  rw [e, e2, List.length_append, List.length_append, legSum_append, legSum_append, h1, h2, legP_len, legP_sum]
  omega
theorem edge_step {a : Pn} {r : List Pn} : ∀ {k}, k ≤ (a :: r).length → edgesTo (a :: r) k ++ legC ((a :: r ++ [a]).drop k) = legC (a :: r ++ [a])
 | 0, _ => by simp [edgesTo]
 | k + 1, hk => by
  have ih := edge_step (a := a) (r := r) (k := k) (by omega)
  have hk' : k < (a :: r).length := by omega
  have h1 : (a :: r ++ [a])[k]? = some (px (a :: r) k, py (a :: r) k) := by
   rw [List.getElem?_append_left hk', List.getElem?_eq_getElem hk', at_p hk']
  have h2 : (a :: r ++ [a])[k + 1]? = some (px (a :: r) (nx (a :: r) k), py (a :: r) (nx (a :: r) k)) := by
   unfold nx
   rcases Nat.lt_or_ge (k + 1) (a :: r).length with h | h
   ·rw [List.getElem?_append_left h, Nat.mod_eq_of_lt h, List.getElem?_eq_getElem h, at_p h]
   ·have e0 : (k + 1) % (a :: r).length = 0 := by rw [show k + 1 = (a :: r).length by omega, Nat.mod_self]
    rw [List.getElem?_append_right h, e0, show k + 1 - (a :: r).length = 0 by omega]
    rfl
  obtain ⟨g1, e1⟩ := List.getElem?_eq_some_iff.1 h1
  obtain ⟨g2, e2⟩ := List.getElem?_eq_some_iff.1 h2
  rw [List.drop_eq_getElem_cons g1, List.drop_eq_getElem_cons g2, e1, e2, legC] at ih
  rw [List.drop_eq_getElem_cons g2, e2, ← ih, edgesTo_succ, ← List.append_assoc]
  congr 1
  unfold legP
  by_cases h : px (a :: r) k = px (a :: r) (nx (a :: r) k) ∧ py (a :: r) k = py (a :: r) (nx (a :: r) k)
  ·have he : ((px (a :: r) k, py (a :: r) k) : Pn) = (px (a :: r) (nx (a :: r) k), py (a :: r) (nx (a :: r) k)) := by rw [h.1, h.2]
   rw [if_pos h, if_pos he, List.append_nil]
  ·have he : ¬ ((px (a :: r) k, py (a :: r) k) : Pn) = (px (a :: r) (nx (a :: r) k), py (a :: r) (nx (a :: r) k)) := fun e => h ⟨congrArg Prod.fst e, congrArg Prod.snd e⟩
   rw [if_neg h, if_neg he]
theorem edge_clo (a : Pn) (r : List Pn) : edgesR (a :: r) = legC (a :: r ++ [a]) := by
 have := edge_step (a := a) (r := r) (k := (a :: r).length) (Nat.le_refl _)
 rw [List.drop_left' rfl] at this
 rw [← this]
 show edgesR (a :: r) = edgesTo (a :: r) (a :: r).length ++ []
 rw [List.append_nil]
 rfl
theorem edge_rev (xs : Ring_) : (edgesR (revQ xs)).length = (edgesR xs).length ∧ legSum (edgesR (revQ xs)) = -legSum (edgesR xs) := by
 cases xs with
 | nil => exact ⟨rfl, rfl⟩
 | cons a r =>
  have e : a :: r.reverse ++ [a] = (a :: r ++ [a]).reverse := by simp
  rw [revQ, edge_clo, edge_clo, e]
  exact legC_rev _
theorem ringB_revQ (xs : Ring_) : ringB (revQ xs) = ringB xs := by
 unfold ringB
 rw [revQ_len, revQ_all]
theorem all_revQ (rs : List Ring_) : ∀ k, k ≤ rs.length → (allTo (rs.map revQ) k).length = (allTo rs k).length ∧ legSum (allTo (rs.map revQ) k) = -legSum (allTo rs k)
 | 0, _ => ⟨rfl, rfl⟩
 | k + 1, hk => by
  obtain ⟨h1, h2⟩ := all_revQ rs k (by omega)
  have e : rg (rs.map revQ) k = revQ (rg rs k) := by simp [rg, List.getD, List.getElem?_eq_getElem (show k < rs.length by omega)]
  obtain ⟨h3, h4⟩ := edge_rev (rg rs k)
  rw [allTo, allTo, e, List.length_append, List.length_append, legSum_append, legSum_append, h1, h2, h3, h4]
  omega
theorem area_revQ (rs : List Ring_) : legSum (edgesAll (rs.map revQ)) = -legSum (edgesAll rs) := by
 unfold edgesAll
 rw [List.length_map]
 exact (all_revQ rs _ (Nat.le_refl _)).2
theorem regionB_revQ (rs : List Ring_) : regionB (rs.map revQ) = regionB rs := by
 have e1 : (rs.map revQ).all ringB = rs.all ringB := by
  rw [List.all_map]
  exact congrArg (fun f => rs.all f) (funext ringB_revQ)
 have e2 : (edgesAll (rs.map revQ)).length = (edgesAll rs).length := by
  unfold edgesAll
  rw [List.length_map]
  exact (all_revQ rs _ (Nat.le_refl _)).1
 unfold regionB
 rw [List.length_map, e1, e2]
theorem foRs_rev {ls : List (List Kn)} (h : outB ls = true) (t : Int) : foRs t (revO ls) = (foRs t ls).map revQ := by
 unfold foRs revO
 rw [List.map_map, List.map_map]
 refine List.map_congr_left fun l hl => ?_
 obtain ⟨k, hk, rfl⟩ := List.getElem_of_mem hl
 rw [lp_at hk]
 exact rg_revQ (loop_ok (out_at h hk)) t
theorem foOk_rev {ls : List (List Kn)} (h : outB ls = true) (t : Int) : foOk t (revO ls) = foOk t ls := by
 unfold foOk revO
 rw [List.all_map]
 rw [Bool.eq_iff_iff, List.all_eq_true, List.all_eq_true]
 refine forall_congr' fun l => forall_congr' fun hl => ?_
 obtain ⟨k, hk, rfl⟩ := List.getElem_of_mem hl
 show rgOk t (revK _) = true ↔ _
 rw [lp_at hk, rgOk_rev (loop_ok (out_at h hk))]
theorem foC_rev (ls : List (List Kn)) (t : Int) : foC (revO ls) t = foC ls t := by
 unfold foC
 rw [outB_rev]
 cases h : outB ls with
 | false => rfl
 | true => rw [foOk_rev h, foRs_rev h, regionB_revQ]
/-- What FnOutlines asks of both regions. -/
theorem fo_area {ls : List (List Kn)} {t : Int} (h : foC ls t = 0) : regionB (foR ls t) = true ∧ regionB (foR (revO ls) t) = true ∧ legSum (edgesAll (foR ls t)) = -legSum (edgesAll (foR (revO ls) t)) := by
 have h2 : foC (revO ls) t = 0 := by rw [foC_rev]; exact h
 have hb : outB ls = true ∧ regionB (foRs t ls) = true := by
  unfold foC at h
  split at h
  ·rename_i h1
   refine ⟨h1, ?_⟩
   split at h
   ·split at h
    ·rename_i h3
     simp only [Bool.and_eq_true] at h3
     exact h3.2
    ·omega
   ·omega
  ·omega
 rw [foR, foR, if_pos h, if_pos h2, foRs_rev hb.1, regionB_revQ, area_revQ]
 exact ⟨hb.2, hb.2, by omega⟩
/-- What FnOutlines asks of the segments of a loop. -/
theorem chn_mem : ∀ {S : List Sg} {a z : Pn}, chn a S z → ∀ {k} (h : k + 1 < S.length), (S[k]).c = (S[k + 1]).a
 | [], _, _, _, _, h => by simp at h
 | [s], _, _, _, _, h => by simp at h
 | s :: q :: S, a, z, h, 0, _ => h.2.1.symm
 | s :: q :: S, a, z, h, k + 1, hk => chn_mem (S := q :: S) h.2 (k := k) (by simpa using hk)
theorem chn_end : ∀ {S : List Sg} {a z : Pn}, chn a S z → ∀ {k} (h : k < S.length), k + 1 = S.length → (S[k]).c = z
 | [], _, _, _, _, h, _ => by simp at h
 | [s], a, z, h, 0, _, _ => h.2
 | [s], a, z, h, k + 1, hk, _ => by simp at hk
 | s :: q :: S, a, z, h, 0, _, e => by simp at e
 | s :: q :: S, a, z, h, k + 1, hk, e => chn_end (S := q :: S) h.2 (k := k) (by simpa using hk) (by simpa using e)
theorem sg_pos {l : List Kn} (h : LoopOk l) : 0 < (sgL (fuK l)).length := by
 have h2 := (fuK_len h).1
 match hf : fuK l, h2 with
 | a :: b :: r, _ =>
  by_cases hb : b.2 = true
  ·rw [sgL_on hb]; simp
  ·cases r with
   | nil =>
    have := fuK_last h (i := 1) (by rw [hf]; rfl)
    rw [hf] at this
    exact absurd this hb
   | cons c r => rw [sgL_off (by simpa using hb)]; simp
end Go.Proofs.YtjhaakollekjeaaDoor
