/- Net edges: plain law. -/
import Derived.Test.YtcigocejgmafjaaCross
import Derived.Test.YtcigocejgmafjaaWind
namespace Go.Proofs.Ytcigocejgmafjaa
open Go Go.RowKit
set_option linter.unusedVariables false
set_option linter.unusedSimpArgs false

/-! ### The order of edges -/
/-- By the first end, then the second. -/
def ltG (e f : Leg) : Prop := ltY (lA e) (lA f) ∨ (lA e = lA f ∧ ltY (lB e) (lB f))
instance (e f : Leg) : Decidable (ltG e f) := by unfold ltG; exact inferInstance
theorem leg_ext {e f : Leg} (h1 : lA e = lA f) (h2 : lB e = lB f) : e = f := by
 rcases e with ⟨a1, a2, a3, a4⟩
 rcases f with ⟨b1, b2, b3, b4⟩
 simp only [lA, lB, Prod.mk.injEq] at h1 h2
 rw [h1.1, h1.2, h2.1, h2.2]
theorem ltG_trans {e f g : Leg} (h : ltG e f) (h' : ltG f g) : ltG e g := by
 rcases h with h | ⟨h1, h2⟩
 ·rcases h' with h' | ⟨h3, _⟩
  ·exact .inl (ltY_trans h h')
  ·exact .inl (h3 ▸ h)
 ·rcases h' with h' | ⟨h3, h4⟩
  ·exact .inl (h1 ▸ h')
  ·exact .inr ⟨h1.trans h3, ltY_trans h2 h4⟩
theorem ltG_irrefl (e : Leg) : ¬ ltG e e := by
 rintro (h | ⟨_, h⟩) <;> exact ltY_irrefl _ h
theorem ltG_tri (e f : Leg) : ltG e f ∨ e = f ∨ ltG f e := by
 rcases ltY_tri (lA e) (lA f) with h | h | h
 ·exact .inl (.inl h)
 ·rcases ltY_tri (lB e) (lB f) with h' | h' | h'
  ·exact .inl (.inr ⟨h, h'⟩)
  ·exact .inr (.inl (leg_ext h h'))
  ·exact .inr (.inr (.inr ⟨h.symm, h'⟩))
 ·exact .inr (.inr (.inl h))
theorem ltG_ntrans {e f g : Leg} (h : ¬ ltG e f) (h' : ¬ ltG f g) : ¬ ltG e g := fun k => by
 rcases ltG_tri f g with c | c | c
 ·exact h' c
 ·exact h (c ▸ k)
 ·exact h (ltG_trans k c)
def AscG (l : List Leg) : Prop := l.Pairwise ltG
theorem ascG_ext : ∀ {l m : List Leg}, AscG l → AscG m → (∀ p, p ∈ l ↔ p ∈ m) → l = m
 | [], [], _, _, _ => rfl
 | [], q :: m, _, _, h => absurd ((h q).2 (by simp)) (by simp)
 | p :: l, [], _, _, h => absurd ((h p).1 (by simp)) (by simp)
 | p :: l, q :: m, hl, hm, h => by
  have kl := List.pairwise_cons.1 hl
  have km := List.pairwise_cons.1 hm
  have e : p = q := by
   rcases List.mem_cons.1 ((h p).1 (by simp)) with e | h1
   ·exact e
   ·rcases List.mem_cons.1 ((h q).2 (by simp)) with e | h2
    ·exact e.symm
    ·exact absurd (ltG_trans (kl.1 q h2) (km.1 p h1)) (ltG_irrefl p)
  subst e
  congr 1
  refine ascG_ext kl.2 km.2 fun r => ?_
  constructor
  ·intro hr
   rcases List.mem_cons.1 ((h r).1 (List.mem_cons_of_mem _ hr)) with e | h1
   ·exact absurd (e ▸ kl.1 r hr) (ltG_irrefl _)
   ·exact h1
  ·intro hr
   rcases List.mem_cons.1 ((h r).2 (List.mem_cons_of_mem _ hr)) with e | h1
   ·exact absurd (e ▸ km.1 r hr) (ltG_irrefl _)
   ·exact h1
def compG : List Leg → List Leg
 | [] => []
 | [p] => [p]
 | p :: q :: l => if p = q then compG (q :: l) else p :: compG (q :: l)
theorem compG_mem : ∀ (l : List Leg) (r : Leg), r ∈ compG l ↔ r ∈ l
 | [], _ => Iff.rfl
 | [_], _ => Iff.rfl
 | p :: q :: l, r => by
  unfold compG
  split
  ·rename_i e
   rw [compG_mem (q :: l) r, e]
   simp
  ·rw [List.mem_cons, compG_mem (q :: l) r]
   simp
def RisG (l : List Leg) : Prop := l.Pairwise fun p q => ¬ ltG q p
theorem compG_asc : ∀ {l : List Leg}, RisG l → AscG (compG l)
 | [], _ => List.Pairwise.nil
 | [p], _ => List.pairwise_singleton _ _
 | p :: q :: l, h => by
  have h1 := List.pairwise_cons.1 h
  have ih := compG_asc (l := q :: l) h1.2
  unfold compG
  split
  ·exact ih
  ·rename_i hne
   refine List.pairwise_cons.2 ⟨fun r hr => ?_, ih⟩
   rw [compG_mem] at hr
   have hpq : ltG p q := by
    rcases ltG_tri p q with h2 | h2 | h2
    ·exact h2
    ·exact absurd h2 hne
    ·exact absurd h2 (h1.1 q (by simp))
   rcases List.mem_cons.1 hr with e | hr
   ·rw [e]; exact hpq
   ·have h3 := (List.pairwise_cons.1 h1.2).1 r hr
    rcases ltG_tri q r with c | c | c
    ·exact ltG_trans hpq c
    ·exact c ▸ hpq
    ·exact absurd c h3

/-! ### Edges from the lesser point -/
def revL (e : Leg) : Leg := ⟨e.bx, e.b_y, e.ax, e.ay⟩
def nrm (e : Leg) : Leg := if ltY (lB e) (lA e) then revL e else e
def sg (e : Leg) : Int := if ltY (lB e) (lA e) then -1 else 1
theorem revL_revL (e : Leg) : revL (revL e) = e := rfl
theorem nrm_ok {e : Leg} (h : legOk e) : legOk (nrm e) := by
 unfold nrm
 split
 ·exact ⟨h.2.2.1, h.2.2.2, h.1, h.2.1⟩
 ·exact h
theorem nrm_ord (e : Leg) : ¬ ltY (lB (nrm e)) (lA (nrm e)) := by
 unfold nrm
 split
 ·rename_i h
  intro k
  exact ltY_irrefl _ (ltY_trans h k)
 ·assumption
theorem nrm_iff {p e : Leg} (hp : ¬ ltY (lB p) (lA p)) (hne : lA p ≠ lB p) : nrm e = p ↔ e = p ∨ e = revL p := by
 unfold nrm
 constructor
 ·split
  ·intro h
   exact .inr (by rw [← h]; rfl)
  ·exact .inl
 ·rintro (rfl | rfl)
  ·rw [if_neg hp]
  ·have : ltY (lB (revL p)) (lA (revL p)) := by
    rcases ltY_tri (lA p) (lB p) with h | h | h
    ·exact h
    ·exact absurd h hne
    ·exact absurd h hp
   rw [if_pos this, revL_revL]
theorem sg_self {p : Leg} (hp : ¬ ltY (lB p) (lA p)) : sg p = 1 := if_neg hp
theorem sg_rev {p : Leg} (hp : ¬ ltY (lB p) (lA p)) (hne : lA p ≠ lB p) : sg (revL p) = -1 := by
 have : ltY (lB (revL p)) (lA (revL p)) := by
  rcases ltY_tri (lA p) (lB p) with h | h | h
  ·exact h
  ·exact absurd h hne
  ·exact absurd h hp
 exact if_pos this

/-! ### Sums -/
def sm {α : Type} (f : α → Int) : List α → Int
 | [] => 0
 | x :: l => f x + sm f l
theorem sm_append {α : Type} (f : α → Int) : ∀ a b : List α, sm f (a ++ b) = sm f a + sm f b
 | [], b => by simp [sm]
 | x :: a, b => by simp only [List.cons_append, sm, sm_append f a b]; omega
theorem sm_congr {α : Type} {f g : α → Int} : ∀ {l : List α}, (∀ x ∈ l, f x = g x) → sm f l = sm g l
 | [], _ => rfl
 | x :: l, h => by simp only [sm]; rw [h x (by simp), sm_congr fun y hy => h y (List.mem_cons_of_mem _ hy)]
theorem sm_add {α : Type} (f g : α → Int) : ∀ l : List α, sm (fun x => f x + g x) l = sm f l + sm g l
 | [] => rfl
 | x :: l => by simp only [sm, sm_add f g l]; omega
theorem sm_sub {α : Type} (f g : α → Int) : ∀ l : List α, sm (fun x => f x - g x) l = sm f l - sm g l
 | [] => rfl
 | x :: l => by simp only [sm, sm_sub f g l]; omega
theorem sm_bd {α : Type} {f : α → Int} : ∀ {l : List α}, (∀ x ∈ l, -1 ≤ f x ∧ f x ≤ 1) → -(l.length : Int) ≤ sm f l ∧ sm f l ≤ l.length
 | [], _ => by simp [sm]
 | x :: l, h => by
  have h1 := h x (by simp)
  have h2 := sm_bd (l := l) fun y hy => h y (List.mem_cons_of_mem _ hy)
  simp only [sm, List.length_cons]
  omega

/-! ### The reference's list -/
structure Nt where
 e : Leg
 one : Int
 two : Int
 l1 : Int
 l2 : Int
def ntCells (x : Nt) : List Value := legCells x.e ++ [.int .i64 x.one, .int .i64 x.two, .int .i64 x.l1, .int .i64 x.l2]
def ntNew (e : Leg) : Nt := ⟨e, 0, 0, 0, 0⟩
def nt (l : List Nt) (k : Nat) : Nt := l.getD k (ntNew ⟨0, 0, 0, 0⟩)
theorem at_nt {l : List Nt} {k : Nat} (h : k < l.length) : l[k] = nt l k := by simp [nt, List.getD, List.getElem?_eq_getElem h]
def bumpN (s : Bool) (n : Int) (x : Nt) : Nt := if s = true then { x with two := x.two + n } else { x with one := x.one + n }
theorem bumpN_e (s : Bool) (n : Int) (x : Nt) : (bumpN s n x).e = x.e := by unfold bumpN; split <;> rfl
def addN (s : Bool) (e : Leg) : List Nt → List Nt
 | [] => [bumpN s (sg e) (ntNew (nrm e))]
 | x :: l => if ltG x.e (nrm e) then x :: addN s e l else if x.e = nrm e then bumpN s (sg e) x :: l else bumpN s (sg e) (ntNew (nrm e)) :: x :: l
/-- As the reference does it. -/
def insN (l : List Nt) (k : Nat) (e : Leg) : List Nt := l.take k ++ ntNew e :: l.drop k
theorem addN_new {s : Bool} {e : Leg} : ∀ {l : List Nt} {k : Nat}, k ≤ l.length → (∀ j, j < k → ltG (nt l j).e (nrm e)) → (k < l.length → ¬ ltG (nt l k).e (nrm e) ∧ (nt l k).e ≠ nrm e) →
  addN s e l = (insN l k (nrm e)).set k (bumpN s (sg e) (nt (insN l k (nrm e)) k))
 | [], k, hk, _, _ => by
  have : k = 0 := by simpa using hk
  subst this
  rfl
 | x :: l, 0, _, _, h => by
  have : ¬ ltG x.e (nrm e) ∧ x.e ≠ nrm e := h (by simp)
  rw [addN, if_neg this.1, if_neg this.2]
  rfl
 | x :: l, k + 1, hk, h1, h2 => by
  have h0 : ltG x.e (nrm e) := h1 0 (by omega)
  rw [addN, if_pos h0, addN_new (l := l) (k := k) (by simpa using hk) (fun j hj => h1 (j + 1) (by omega)) (fun hk' => h2 (by simpa using hk'))]
  rfl
theorem addN_old {s : Bool} {e : Leg} : ∀ {l : List Nt} {k : Nat}, k < l.length → (∀ j, j < k → ltG (nt l j).e (nrm e)) → (nt l k).e = nrm e →
  addN s e l = l.set k (bumpN s (sg e) (nt l k))
 | [], k, hk, _, _ => absurd hk (by simp)
 | x :: l, 0, _, _, h => by
  have h' : x.e = nrm e := h
  rw [addN, if_neg (by rw [h']; exact ltG_irrefl _), if_pos h']
  rfl
 | x :: l, k + 1, hk, h1, h2 => by
  have h0 : ltG x.e (nrm e) := h1 0 (by omega)
  rw [addN, if_pos h0, addN_old (l := l) (k := k) (by simpa using hk) (fun j hj => h1 (j + 1) (by omega)) h2]
  rfl
theorem addN_mem {s : Bool} {e q : Leg} : ∀ {l : List Nt}, (∃ x ∈ addN s e l, x.e = q) ↔ (∃ x ∈ l, x.e = q) ∨ q = nrm e
 | [] => by simp [addN, bumpN_e, ntNew, eq_comm]
 | x :: l => by
  have ih := addN_mem (s := s) (e := e) (q := q) (l := l)
  unfold addN
  split
  ·simp only [List.mem_cons, exists_eq_or_imp, ih, or_assoc]
  ·split
   ·rename_i h
    simp only [List.mem_cons, exists_eq_or_imp, bumpN_e]
    constructor
    ·exact .inl
    ·rintro (h1 | h1)
     ·exact h1
     ·exact .inl (h1 ▸ h)
   ·simp only [List.mem_cons, exists_eq_or_imp, bumpN_e]
    constructor
    ·rintro (h1 | h1)
     ·exact .inr h1.symm
     ·exact .inl h1
    ·rintro (h1 | h1)
     ·exact .inr h1
     ·exact .inl h1.symm
def AscN (l : List Nt) : Prop := l.Pairwise fun x y => ltG x.e y.e
theorem addN_asc {s : Bool} {e : Leg} : ∀ {l : List Nt}, AscN l → AscN (addN s e l)
 | [], _ => List.pairwise_singleton _ _
 | x :: l, h => by
  have h1 := List.pairwise_cons.1 h
  unfold addN
  split
  ·rename_i hx
   refine List.pairwise_cons.2 ⟨fun y hy => ?_, addN_asc h1.2⟩
   rcases (addN_mem (q := y.e)).1 ⟨y, hy, rfl⟩ with ⟨z, hz, e1⟩ | e1
   ·rw [← e1]; exact h1.1 z hz
   ·rw [e1]; exact hx
  ·rename_i hx
   split
   ·refine List.pairwise_cons.2 ⟨fun y hy => ?_, h1.2⟩
    rw [bumpN_e]; exact h1.1 y hy
   ·rename_i hne
    have hlt : ltG (nrm e) x.e := by
     rcases ltG_tri (nrm e) x.e with c | c | c
     ·exact c
     ·exact absurd c.symm hne
     ·exact absurd c hx
    refine List.pairwise_cons.2 ⟨fun y hy => ?_, h⟩
    rw [bumpN_e]
    rcases List.mem_cons.1 hy with c | hy
    ·rw [c]; exact hlt
    ·exact ltG_trans hlt (h1.1 y hy)
def cntN (s : Bool) (x : Nt) : Int := if s = true then x.two else x.one
def wS (s : Bool) (F : Leg → Int) (l : List Nt) : Int := sm (fun x => cntN s x * F x.e) l
theorem addN_w {s t : Bool} {e : Leg} (F : Leg → Int) : ∀ (l : List Nt), wS t F (addN s e l) = wS t F l + (if s = t then sg e * F (nrm e) else 0)
 | [] => by
  cases s <;> cases t <;> simp [wS, addN, sm, cntN, bumpN, ntNew]
 | x :: l => by
  have ih := addN_w (s := s) (t := t) (e := e) F l
  unfold wS at ih ⊢
  unfold addN
  split
  ·simp only [sm, ih]; omega
  ·split
   ·rename_i h
    cases s <;> cases t <;> simp [sm, cntN, bumpN, h] <;> grind
   ·cases s <;> cases t <;> simp [sm, cntN, bumpN, ntNew] <;> grind
def addAll (s : Bool) (es : List Leg) (l : List Nt) : List Nt := es.foldl (fun l e => addN s e l) l
theorem addAll_asc {s : Bool} : ∀ {es : List Leg} {l : List Nt}, AscN l → AscN (addAll s es l)
 | [], _, h => h
 | e :: es, l, h => addAll_asc (es := es) (addN_asc (e := e) h)
theorem addAll_mem {s : Bool} {q : Leg} : ∀ {es : List Leg} {l : List Nt}, (∃ x ∈ addAll s es l, x.e = q) ↔ (∃ x ∈ l, x.e = q) ∨ ∃ e ∈ es, q = nrm e
 | [], l => by simp [addAll]
 | e :: es, l => by
  have := addAll_mem (s := s) (q := q) (es := es) (l := addN s e l)
  unfold addAll at this ⊢
  rw [List.foldl_cons, this, addN_mem]
  simp only [List.mem_cons, exists_eq_or_imp, or_assoc]
theorem addAll_w {s t : Bool} (F : Leg → Int) : ∀ (es : List Leg) (l : List Nt), wS t F (addAll s es l) = wS t F l + (if s = t then sm (fun e => sg e * F (nrm e)) es else 0)
 | [], l => by simp [addAll, sm]
 | e :: es, l => by
  have := addAll_w (s := s) (t := t) F es (addN s e l)
  unfold addAll at this ⊢
  rw [List.foldl_cons, this, addN_w]
  split <;> (try simp only [sm]) <;> omega
theorem addN_len {s : Bool} {e : Leg} : ∀ (l : List Nt), (addN s e l).length ≤ l.length + 1
 | [] => by simp [addN]
 | x :: l => by
  have := addN_len (s := s) (e := e) l
  unfold addN
  split
  ·simp only [List.length_cons]; omega
  ·split <;> simp only [List.length_cons] <;> omega
def iabs (x : Int) : Int := if x < 0 then -x else x
theorem iabs_nn (x : Int) : 0 ≤ iabs x := by unfold iabs; split <;> omega
theorem iabs_bd (x : Int) : -iabs x ≤ x ∧ x ≤ iabs x := by unfold iabs; split <;> omega
/-- How often edges were counted at most. -/
def aS (s : Bool) (l : List Nt) : Int := sm (fun x => iabs (cntN s x)) l
theorem sg_bd (e : Leg) : sg e = 1 ∨ sg e = -1 := by unfold sg; split <;> simp
theorem addN_a {s t : Bool} {e : Leg} : ∀ (l : List Nt), aS t (addN s e l) ≤ aS t l + (if s = t then 1 else 0)
 | [] => by
  have := sg_bd e
  cases s <;> cases t <;> simp [aS, addN, sm, cntN, bumpN, ntNew, iabs] <;> omega
 | x :: l => by
  have ih := addN_a (s := s) (t := t) (e := e) l
  have := sg_bd e
  unfold aS at ih ⊢
  unfold addN
  split
  ·simp only [sm]; omega
  ·split
   ·cases s <;> cases t <;> simp [sm, cntN, bumpN, iabs] <;> (repeat' split) <;> omega
   ·cases s <;> cases t <;> simp [sm, cntN, bumpN, ntNew, iabs] <;> (repeat' split) <;> omega
theorem addAll_a {s t : Bool} : ∀ (es : List Leg) (l : List Nt), aS t (addAll s es l) ≤ aS t l + (if s = t then (es.length : Int) else 0)
 | [], l => by simp [addAll]
 | e :: es, l => by
  have h1 := addAll_a (s := s) (t := t) es (addN s e l)
  have h2 := addN_a (s := s) (t := t) (e := e) l
  unfold addAll at h1 ⊢
  rw [List.foldl_cons]
  split at h1 <;> split at h2 <;> simp only [List.length_cons] <;> (try split) <;> simp_all <;> omega

/-! ### What the two sides compute -/
structure Ne where
 e : Leg
 net : Int
 left : Int
 right : Int
def neCells (x : Ne) : List Value := legCells x.e ++ [.int .i64 x.net, .int .i64 x.left, .int .i64 x.right]
def midX (p : Leg) : Int := p.ax + p.bx
def midY (p : Leg) : Int := p.ay + p.b_y
def netP (es : List Leg) (p : Leg) : Int := sm (fun e => if nrm e = p then sg e else 0) es
def outP (es : List Leg) (p : Leg) : Int := sm (fun e => if nrm e = p then 0 else wStep (dblL true e) (midX p) (midY p)) es
def neP (es : List Leg) (p : Leg) : Ne := if p.ay = p.b_y then ⟨p, netP es p, outP es p, outP es p - netP es p⟩ else ⟨p, netP es p, outP es p + netP es p, outP es p⟩
def rotL (e : Leg) : Leg := ⟨-e.ay, e.ax, -e.b_y, e.bx⟩
def besG (p q : Leg) : Int := if p.ay = p.b_y then wStep (rotL (dblL true q)) (-(midY p)) (midX p) else wStep (dblL true q) (midX p) (midY p)
def besTo (s : Bool) (l : List Nt) (k : Nat) : Nat → Int
 | 0 => 0
 | i + 1 => besTo s l k i + (if i = k then 0 else cntN s (nt l i) * besG (nt l k).e (nt l i).e)
theorem wStep_bd (l : Leg) (x y : Int) : -1 ≤ wStep l x y ∧ wStep l x y ≤ 1 := by unfold wStep; split <;> (try split) <;> omega
theorem besG_bd (p q : Leg) : -1 ≤ besG p q ∧ besG p q ≤ 1 := by unfold besG; split <;> exact wStep_bd _ _ _
theorem mul_iabs {c g : Int} (h : -1 ≤ g ∧ g ≤ 1) : -iabs c ≤ c * g ∧ c * g ≤ iabs c := by
 have h1 := iabs_bd c
 have : g = -1 ∨ g = 0 ∨ g = 1 := by omega
 rcases this with rfl | rfl | rfl <;> simp <;> omega
theorem sm_take {α : Type} (f : α → Int) {l : List α} {k : Nat} (h : k < l.length) : sm f (l.take (k + 1)) = sm f (l.take k) + f l[k] := by
 rw [List.take_succ_eq_append_getElem h, sm_append]
 simp [sm]
theorem sm_nn {α : Type} {f : α → Int} (h : ∀ x, 0 ≤ f x) : ∀ l : List α, 0 ≤ sm f l
 | [] => Int.le_refl _
 | x :: l => by
  have := h x
  have := sm_nn h l
  simp only [sm]
  omega
theorem sm_take_le {α : Type} {f : α → Int} (h : ∀ x, 0 ≤ f x) (l : List α) (k : Nat) : sm f (l.take k) ≤ sm f l := by
 have e : sm f l = sm f (l.take k) + sm f (l.drop k) := by rw [← sm_append, List.take_append_drop]
 have := sm_nn h (l.drop k)
 omega
theorem besTo_bd0 {s : Bool} {l : List Nt} {k : Nat} : ∀ i, i ≤ l.length → -sm (fun x => iabs (cntN s x)) (l.take i) ≤ besTo s l k i ∧ besTo s l k i ≤ sm (fun x => iabs (cntN s x)) (l.take i)
 | 0, _ => by simp [besTo, sm]
 | i + 1, h => by
  have h1 := besTo_bd0 (s := s) (l := l) (k := k) i (by omega)
  have h2 := mul_iabs (c := cntN s (nt l i)) (besG_bd (nt l k).e (nt l i).e)
  have h3 := iabs_nn (cntN s (nt l i))
  rw [sm_take _ (by omega), at_nt (by omega), besTo]
  split <;> omega
theorem besTo_bd {s : Bool} {l : List Nt} {k i : Nat} (h : i ≤ l.length) : -aS s l ≤ besTo s l k i ∧ besTo s l k i ≤ aS s l := by
 have h1 := besTo_bd0 (s := s) (l := l) (k := k) i h
 have h2 := sm_take_le (f := fun x => iabs (cntN s x)) (fun x => iabs_nn _) l i
 unfold aS
 omega
theorem nt_mem {l : List Nt} {k : Nat} (h : k < l.length) : nt l k ∈ l := by rw [← at_nt h]; exact List.getElem_mem h
theorem ascN_inj {l : List Nt} (h : AscN l) {i k : Nat} (hi : i < l.length) (hk : k < l.length) (he : (nt l i).e = (nt l k).e) : i = k := by
 rcases Nat.lt_trichotomy i k with c | c | c
 ·have := List.pairwise_iff_getElem.1 h i k hi hk c
  rw [at_nt hi, at_nt hk, he] at this
  exact absurd this (ltG_irrefl _)
 ·exact c
 ·have := List.pairwise_iff_getElem.1 h k i hk hi c
  rw [at_nt hi, at_nt hk, he] at this
  exact absurd this (ltG_irrefl _)
theorem besTo_sm {s : Bool} {l : List Nt} {k : Nat} (ha : AscN l) (hk : k < l.length) : ∀ i, i ≤ l.length → besTo s l k i = sm (fun x => cntN s x * (if x.e = (nt l k).e then 0 else besG (nt l k).e x.e)) (l.take i)
 | 0, _ => rfl
 | i + 1, h => by
  rw [sm_take _ (by omega), at_nt (by omega), besTo, besTo_sm ha hk i (by omega)]
  congr 1
  by_cases e : i = k
  ·subst e
   simp
  ·rw [if_neg e, if_neg fun he => e (ascN_inj ha (by omega) hk he)]
theorem besTo_all {s : Bool} {l : List Nt} {k : Nat} (ha : AscN l) (hk : k < l.length) : besTo s l k l.length = wS s (fun q => if q = (nt l k).e then 0 else besG (nt l k).e q) l := by
 rw [besTo_sm ha hk _ (Nat.le_refl _), List.take_length]
 rfl
theorem wS_none {s : Bool} {p : Leg} : ∀ {l : List Nt}, (∀ x ∈ l, x.e ≠ p) → wS s (fun q => if q = p then 1 else 0) l = 0
 | [], _ => rfl
 | x :: l, h => by
  have := wS_none (s := s) (l := l) fun y hy => h y (List.mem_cons_of_mem _ hy)
  unfold wS at *
  simp only [sm, this]
  rw [if_neg (h x (by simp))]
  simp
theorem wS_at {s : Bool} : ∀ {l : List Nt} {x : Nt}, AscN l → x ∈ l → wS s (fun q => if q = x.e then 1 else 0) l = cntN s x
 | y :: l, x, h, hx => by
  have h1 := List.pairwise_cons.1 h
  rcases List.mem_cons.1 hx with e | hx
  ·subst e
   have := wS_none (s := s) (p := x.e) (l := l) fun z hz e => ltG_irrefl _ (e ▸ h1.1 z hz)
   unfold wS at *
   simp only [sm, this, if_true]
   omega
  ·have := wS_at (s := s) h1.2 hx
   have hne : y.e ≠ x.e := fun e => ltG_irrefl _ (e ▸ h1.1 x hx)
   unfold wS at *
   simp only [sm, this, if_neg hne]
   omega
theorem wStep_if (l : Leg) (x y : Int) : wStep l x y = if (l.ay ≤ y ∧ y < l.b_y) ∧ 0 < trn l.ax l.ay l.bx l.b_y x y then 1 else if (l.b_y ≤ y ∧ y < l.ay) ∧ trn l.ax l.ay l.bx l.b_y x y < 0 then -1 else 0 := by
 unfold wStep wUp wDown
 simp only [Bool.and_eq_true, decide_eq_true_eq]
theorem wStep_rev (e : Leg) (x y : Int) : wStep (revL e) x y = -wStep e x y := by
 have ht : trn (revL e).ax (revL e).ay (revL e).bx (revL e).b_y x y = -trn e.ax e.ay e.bx e.b_y x y := by simp only [revL, trn]; grind
 rw [wStep_if, wStep_if, ht]
 generalize trn e.ax e.ay e.bx e.b_y x y = t
 simp only [revL]
 repeat' split
 all_goals omega
theorem dbl_nrm (e : Leg) (x y : Int) : sg e * wStep (dblL true (nrm e)) x y = wStep (dblL true e) x y := by
 unfold nrm sg
 split
 ·rw [show dblL true (revL e) = revL (dblL true e) from rfl, wStep_rev]; omega
 ·omega
theorem rot_nrm (e : Leg) (x y : Int) : sg e * wStep (rotL (dblL true (nrm e))) x y = wStep (rotL (dblL true e)) x y := by
 unfold nrm sg
 split
 ·rw [show rotL (dblL true (revL e)) = revL (rotL (dblL true e)) from rfl, wStep_rev]; omega
 ·omega

/-! ### Level edges -/
/-- The quarter between the two rays. -/
def qu (x y mx my : Int) : Int := if mx < x ∧ y ≤ my then 1 else 0
theorem sgn_mul {a b p : Int} (h : p = a * b) : (0 < a ∧ 0 < b ∧ 0 < p) ∨ (0 < a ∧ b < 0 ∧ p < 0) ∨ (a < 0 ∧ 0 < b ∧ p < 0) ∨ (a < 0 ∧ b < 0 ∧ 0 < p) ∨ (a = 0 ∧ p = 0) ∨ (b = 0 ∧ p = 0) := by
 subst h
 rcases Int.lt_trichotomy a 0 with ha | ha | ha
 ·rcases Int.lt_trichotomy b 0 with hb | hb | hb
  ·exact .inr (.inr (.inr (.inl ⟨ha, hb, Int.mul_pos_of_neg_of_neg ha hb⟩)))
  ·subst hb; simp
  ·exact .inr (.inr (.inl ⟨ha, hb, Int.mul_neg_of_neg_of_pos ha hb⟩))
 ·subst ha; simp
 ·rcases Int.lt_trichotomy b 0 with hb | hb | hb
  ·exact .inr (.inl ⟨ha, hb, Int.mul_neg_of_pos_of_neg ha hb⟩)
  ·subst hb; simp
  ·exact .inl ⟨ha, hb, Int.mul_pos ha hb⟩
theorem step_qu {a1 a2 b1 b2 t : Int} (ht : t = a1 * b2 - a2 * b1) (hno : ¬ (t = 0 ∧ (min a1 b1 ≤ 0 ∧ 0 ≤ max a1 b1) ∧ min a2 b2 ≤ 0 ∧ 0 ≤ max a2 b2)) :
  (if (a2 ≤ 0 ∧ 0 < b2) ∧ 0 < t then (1 : Int) else if (b2 ≤ 0 ∧ 0 < a2) ∧ t < 0 then -1 else 0) - (if (a1 ≤ 0 ∧ 0 < b1) ∧ 0 < t then (1 : Int) else if (b1 ≤ 0 ∧ 0 < a1) ∧ t < 0 then -1 else 0)
   = (if 0 < a1 ∧ a2 ≤ 0 then 1 else 0) - (if 0 < b1 ∧ b2 ≤ 0 then 1 else 0) := by
 have h1 := sgn_mul (a := a1) (b := b2) rfl
 have h2 := sgn_mul (a := a2) (b := b1) rfl
 generalize a1 * b2 = p at *
 generalize a2 * b1 = q at *
 subst ht
 rcases h1 with h1 | h1 | h1 | h1 | h1 | h1 <;> rcases h2 with h2 | h2 | h2 | h2 | h2 | h2 <;> (repeat' split) <;> omega
theorem step_rot {e : Leg} {mx my : Int} (hno : ¬ (trn e.ax e.ay e.bx e.b_y mx my = 0 ∧ (min e.ax e.bx ≤ mx ∧ mx ≤ max e.ax e.bx) ∧ min e.ay e.b_y ≤ my ∧ my ≤ max e.ay e.b_y)) :
  wStep e mx my - wStep (rotL e) (-my) mx = qu e.ax e.ay mx my - qu e.bx e.b_y mx my := by
 have hr : trn (rotL e).ax (rotL e).ay (rotL e).bx (rotL e).b_y (-my) mx = trn e.ax e.ay e.bx e.b_y mx my := by simp only [rotL, trn]; grind
 have ht : trn e.ax e.ay e.bx e.b_y mx my = (e.ax - mx) * (e.b_y - my) - (e.ay - my) * (e.bx - mx) := by simp only [trn]; grind
 have h := step_qu ht (fun k => hno ⟨k.1, by omega, by omega⟩)
 rw [wStep_if, wStep_if, hr]
 unfold qu
 generalize trn e.ax e.ay e.bx e.b_y mx my = t at *
 simp only [rotL]
 have e1 : (e.ay ≤ my ∧ my < e.b_y) ∧ 0 < t ↔ (e.ay - my ≤ 0 ∧ 0 < e.b_y - my) ∧ 0 < t := by omega
 have e2 : (e.b_y ≤ my ∧ my < e.ay) ∧ t < 0 ↔ (e.b_y - my ≤ 0 ∧ 0 < e.ay - my) ∧ t < 0 := by omega
 have e3 : (e.ax ≤ mx ∧ mx < e.bx) ∧ 0 < t ↔ (e.ax - mx ≤ 0 ∧ 0 < e.bx - mx) ∧ 0 < t := by omega
 have e4 : (e.bx ≤ mx ∧ mx < e.ax) ∧ t < 0 ↔ (e.bx - mx ≤ 0 ∧ 0 < e.ax - mx) ∧ t < 0 := by omega
 have e5 : mx < e.ax ∧ e.ay ≤ my ↔ 0 < e.ax - mx ∧ e.ay - my ≤ 0 := by omega
 have e6 : mx < e.bx ∧ e.b_y ≤ my ↔ 0 < e.bx - mx ∧ e.b_y - my ≤ 0 := by omega
 simp only [e1, e2, e3, e4, e5, e6]
 exact h
end Go.Proofs.Ytcigocejgmafjaa
