import Derived.Test.YtkagkgjjfdkoaaaGreatMNetT
import Derived.Test.YtkagkgjjfdkoaaaGreatMEnds
set_option linter.unusedVariables false
set_option linter.unusedSimpArgs false
namespace Go.Proofs.YtkagkgjjfdkoaaaGreat
open Go Go.RowKit
def QH (s x:Sp) :Prop:=x.hn*s.ld<s.ln*x.hd∨(x.hn*s.ld=s.ln*x.hd∧(s.lc=false∨x.hc=false))
theorem jbQ {s:Sp} (h:va s=false) :QH s s:=by
 simp only [va,Bool.or_eq_false_iff,jgj,decide_eq_false_iff_not] at h
 unfold QH
 by_cases e:s.ln*s.hd- s.hn*s.ld=0
 ·refine .inr ⟨by omega,?_⟩
  rcases h.2 with(h2 | h2) | h2
  ·exact absurd e h2
  ·exact .inl h2
  ·exact .inr h2
 ·exact .inl (by omega)
theorem jbG (s x:Sp) : ((JT s x).ln=s.ln∧(JT s x).ld=s.ld∧(JT s x).lc=s.lc)∨((JT s x).ln=x.ln∧(JT s x).ld=x.ld∧(JT s x).lc=x.lc) :=by
 unfold JT QS qE
 repeat' split
 all_goals simp
theorem C7 (s x:Sp) : ((JT s x).hn=s.hn∧(JT s x).hd=s.hd∧(JT s x).hc=s.hc)∨((JT s x).hn=x.hn∧(JT s x).hd=x.hd∧(JT s x).hc=x.hc) :=by
 unfold JT QS qE
 repeat' split
 all_goals simp
theorem TI {s x y:Sp} (h:QH (JT s x) y) :QH s y∨QH x y:=by
 unfold QH at*
 rcases jbG s x with⟨e1,e2,e3⟩ |⟨e1,e2,e3⟩ <;>rw [e1,e2,e3] at h
 ·exact .inl h
 ·exact .inr h
theorem xy {s x y:Sp} (h:QH y (JT s x)) :QH y s∨QH y x:=by
 unfold QH at*
 rcases C7 s x with⟨e1,e2,e3⟩ |⟨e1,e2,e3⟩ <;>rw [e1,e2,e3] at h
 ·exact .inl h
 ·exact .inr h
def MD (u u' V:Int) :Sp:=⟨u,V,true,u',V,true⟩
theorem jen {f d lo V u u':Int} (hV:0<V) (h1:u≤u') (hd:d≠0) (h:QH (MD u u' V) (QE f d lo)∨QH (QE f d lo) (MD u u' V)) :
  (∀t,t=u∨t=u'→2*V≤f*V+t*d- lo*V)∨(∀t,t=u∨t=u'→f*V+t*d- lo*V<0) :=by
 have e1: (lo+2- f) *V=lo*V+2*V- f*V:=by grind
 have e2: (lo- f) *V=lo*V- f*V:=by grind
 have e3: (f- lo) *V=f*V- lo*V:=by grind
 have e4: (f- lo- 2) *V=f*V- lo*V- 2*V:=by grind
 rcases Int.lt_or_gt_of_ne hd with hn | hp
 ·have m:u'*d≤u*d:=jfZ h1 (by omega)
  have e5:u* -d= -(u*d) :=Int.mul_neg ..
  have e6:u'* -d= -(u'*d) :=Int.mul_neg ..
  unfold QH QE MD at h
  rw [if_neg (by omega),if_pos hn] at h
  simp only [jf2,or_false,or_self,and_false,or_true,and_true] at h
  rw [e3,e4,e5,e6] at h
  rcases h with h | h
  ·refine .inr fun t ht=> ?_
   rcases ht with rfl | rfl<;>omega
  ·refine .inl fun t ht=> ?_
   rcases ht with rfl | rfl<;>omega
 ·have m:u*d≤u'*d:=jeH h1 (by omega)
  unfold QH QE MD at h
  rw [if_pos hp] at h
  simp only [jf2,or_false,false_or,or_self,and_false,or_true,and_true] at h
  rw [e1,e2] at h
  rcases h with h | h
  ·refine .inl fun t ht=> ?_
   rcases ht with rfl | rfl<;>omega
  ·refine .inr fun t ht=> ?_
   rcases ht with rfl | rfl<;>omega
theorem DS {f d lo:Int} (h:0<d) :QE f d lo=⟨lo- f,d,true,lo+2- f,d,false⟩ :=if_pos h
theorem DR {f d lo:Int} (h:d<0) :QE f d lo=⟨f- lo- 2,-d,false,f- lo,-d,true⟩ :=by unfold QE;rw [if_neg (by omega),if_pos h]
theorem jd3 {f d lo f' d' lo' V:Int} (hV:0<V) (hd:d≠0) (hd':d'≠0) (h:QH (QE f d lo) (QE f' d' lo')) :
  ∃α β:Int,∀t b1 b2,0≤b1→b1<2*V→0≤b2→b2<2*V→0<α* (f*V+t*d- lo*V- b1) +β* (f'*V+t*d'- lo'*V- b2) :=by
 have i1:∀t b1 b2:Int,-d'* (f*V+t*d- lo*V- b1) +d* (f'*V+t*d'- lo'*V- b2) =V* (d* (f'- lo') - d'* (f- lo)) +d'*b1- d*b2:=fun t b1 b2=>by grind
 have i2:∀t b1 b2:Int,d'* (f*V+t*d- lo*V- b1) + -d* (f'*V+t*d'- lo'*V- b2) =V* -(d* (f'- lo') - d'* (f- lo)) - d'*b1+d*b2:=fun t b1 b2=>by grind
 have e1: (lo'+2- f') *d=2*d- d* (f'- lo') :=by grind
 have e2: (lo- f) *d'= -(d'* (f- lo)) :=by grind
 have e3: (f'- lo') *d=d* (f'- lo') :=by grind
 have e4: (lo- f) * -d'=d'* (f- lo) :=by grind
 have e5: (lo'+2- f') * -d=d* (f'- lo') - 2*d:=by grind
 have e6: (f- lo- 2) *d'=d'* (f- lo) - 2*d':=by grind
 have e7: (f'- lo') * -d= -(d* (f'- lo')) :=by grind
 have e8: (f- lo- 2) * -d'=2*d'- d'* (f- lo) :=by grind
 rcases Int.lt_or_gt_of_ne hd with hn | hp<;>rcases Int.lt_or_gt_of_ne hd' with hn' | hp'
 ·refine⟨-d',d,fun t b1 b2 g1 g2 g3 g4=> ?_⟩
  rw [i1]
  rw [DR hn,DR hn',QH] at h
  simp only [true_or,and_true] at h
  rw [e7,e8] at h
  have m:=jfg (show-(2*d')≤d* (f'- lo') - d'* (f- lo) by omega) (show 0≤V by omega)
  have m1:=jfw (show 0< -d' by omega) (show 0<2*V- b1 by omega)
  have m2:=jfl (show 0≤-d by omega) g3
  have k1:V* -(2*d') = -d'* (2*V- b1) + -(d'*b1) :=by grind
  have k2: -d*b2= -(d*b2) :=Int.neg_mul ..
  omega
 ·refine⟨d',-d,fun t b1 b2 g1 g2 g3 g4=> ?_⟩
  rw [i2]
  rw [DR hn,DS hp',QH] at h
  simp only [true_or,and_true] at h
  rw [e5,e6] at h
  have m:=jfg (show 2*d'- 2*d≤-(d* (f'- lo') - d'* (f- lo)) by omega) (show 0≤V by omega)
  have m1:=jfw hp' (show 0<2*V- b1 by omega)
  have m2:=jfw (show 0< -d by omega) (show 0<2*V- b2 by omega)
  have k1:V* (2*d'- 2*d) =d'* (2*V- b1) + -d* (2*V- b2) +d'*b1- d*b2:=by grind
  omega
 ·refine⟨d',-d,fun t b1 b2 g1 g2 g3 g4=> ?_⟩
  rw [i2]
  rw [DS hp,DR hn',QH] at h
  simp only [jf2,or_self,and_false,or_false] at h
  rw [e3,e4] at h
  have m:=jfw hV (show 0< -(d* (f'- lo') - d'* (f- lo)) by omega)
  have m1:=jfl (show 0≤-d' by omega) g1
  have m2:=jfl (show 0≤d by omega) g3
  have k2: -d'*b1= -(d'*b1) :=Int.neg_mul ..
  omega
 ·refine⟨-d',d,fun t b1 b2 g1 g2 g3 g4=> ?_⟩
  rw [i1]
  rw [DS hp,DS hp',QH] at h
  simp only [jf2,false_or,and_true] at h
  rw [e1,e2] at h
  have m:=jfg (show 2*d≤d* (f'- lo') - d'* (f- lo) by omega) (show 0≤V by omega)
  have m1:=jfw hp (show 0<2*V- b2 by omega)
  have m2:=jfl (show 0≤d' by omega) g1
  have k1:V* (2*d) =d* (2*V- b2) +d*b2:=by grind
  omega
def sc (a b:Pn) (u v:Int) :Pn:= (2*a.1*v+u* (2* (b.1- a.1)),2*a.2*v+u* (2* (b.2- a.2)))
def XP (V:Int) (g Y:Pn) :Prop:= ((2*g.1- 1) *V≤Y.1∧Y.1< (2*g.1- 1+2) *V)∧(2*g.2- 1) *V≤Y.2∧Y.2< (2*g.2- 1+2) *V
theorem vu {a b p:Pn} {u v:Int} :wO a b p u v↔XP v p (sc a b u v) :=Iff.rfl
def Lf (a b g:Pn) (V u u':Int) :Prop:=∀t v,0<v→u*v≤t*V→t*V≤u'*v→¬wO a b g t v
def Ce (V:Int) (g X X':Pn) :Prop:=∃α β:Int,∀Z:Pn,Z=X∨Z=X'→∀b1 b2,0≤b1→b1<2*V→0≤b2→b2<2*V→0<α* (Z.1- (2*g.1- 1) *V- b1) +β* (Z.2- (2*g.2- 1) *V- b2)
theorem Nl {x:Sp} {u u' V:Int} (hx:0<x.hd) (hV:0<V) (h0:0≤u) (h:QH Wq x) :QH (MD u u' V) x:=by
 unfold QH Wq at h
 unfold QH MD
 simp only [jf9,jfO,jf2,false_or] at h⊢
 have m:=jfl h0 (show 0≤x.hd by omega)
 rcases h with h |⟨h,hc⟩
 ·have:=jfS h hV
  exact .inl (by omega)
 ·rw [h,jfO]
  by_cases k:u*x.hd=0
  ·exact .inr ⟨k.symm,hc⟩
  ·exact .inl (by omega)
theorem Rm {x:Sp} {u u' V:Int} (hx:0<x.ld) (hV:0<V) (h1:u'≤V) (h:QH x Wq) :QH x (MD u u' V) :=by
 unfold QH Wq at h
 unfold QH MD
 simp only [jf9,Int.one_mul,jf2,or_false] at h⊢
 have m:=jeH h1 (show 0≤x.ld by omega)
 rcases h with h |⟨h,hc⟩
 ·have:=jfh h hV
  rw [jfn x.ld V] at this
  exact .inl (by omega)
 ·rw [←h]
  rw [jfn V x.ld] at m
  by_cases k:u'*x.ld=x.ld*V
  ·exact .inr ⟨k,hc⟩
  ·exact .inl (by omega)
theorem Bu {f d lo:Int} :¬QH (QE f d lo) (QE f d lo) :=by
 rcases jfA d 0 with h | h | h
 ·unfold QE QH
  rw [if_neg (by omega),if_pos h]
  simp only [true_or,and_true]
  have e: (f- lo- 2) * -d= (f- lo) * -d- 2* -d:=by grind
  omega
 ·subst h
  rw [VE]
  unfold QH Wq
  simp
 ·unfold QE QH
  rw [if_pos h]
  simp only [jf2,or_true,and_true]
  have e: (lo+2- f) *d= (lo- f) *d+2*d:=by grind
  omega
theorem Nb {f d lo V u u':Int} (hV:0<V) (h0:0≤u) (h1:u≤u') (h2:u'≤V) (h:Kj f d lo=false∨QH (MD u u' V) (QE f d lo)∨QH (QE f d lo) (MD u u' V)) :
  (∀t,t=u∨t=u'→2*V≤f*V+t*d- lo*V)∨(∀t,t=u∨t=u'→f*V+t*d- lo*V<0) :=by
 by_cases hd:d=0
 ·subst hd
  rw [VE] at h
  have hk:Kj f 0 lo=false:=by
   rcases h with h | h | h
   ·exact h
   ·unfold QH MD Wq at h;simp at h;omega
   ·unfold QH MD Wq at h;simp at h;omega
  unfold Kj at hk
  simp only [decide_true,Bool.not_true,Bool.false_or,jgj,decide_eq_false_iff_not] at hk
  rcases hk with hk | hk
  ·refine .inr fun t _=> ?_
   have:=jfh (show f<lo by omega) hV
   omega
  ·refine .inl fun t _=> ?_
   have:=jeH (show lo+2≤f by omega) (show 0≤V by omega)
   have e: (lo+2) *V=lo*V+2*V:=by grind
   omega
 ·rcases h with h | h
  ·unfold Kj at h
   rw [decide_eq_false hd] at h
   cases h
  ·exact jen hV h1 hd h
theorem jeo {a b g:Pn} {V u u':Int} (h: (∀t,t=u∨t=u'→2*V≤2*a.1*V+t* (2* (b.1- a.1)) - (2*g.1- 1) *V)∨(∀t,t=u∨t=u'→2*a.1*V+t* (2* (b.1- a.1)) - (2*g.1- 1) *V<0)) :Ce V g (sc a b u V) (sc a b u' V) :=by
 rcases h with h | h
 ·refine⟨1,0,fun Z hZ b1 b2 g1 g2 g3 g4=> ?_⟩
  rw [Int.one_mul,jfO]
  rcases hZ with rfl | rfl
  ·have:=h u (.inl rfl);simp only [sc];omega
  ·have:=h u' (.inr rfl);simp only [sc];omega
 ·refine⟨-1,0,fun Z hZ b1 b2 g1 g2 g3 g4=> ?_⟩
  rw [jfO]
  rcases hZ with rfl | rfl
  ·have:=h u (.inl rfl);simp only [sc];omega
  ·have:=h u' (.inr rfl);simp only [sc];omega
theorem jep {a b g:Pn} {V u u':Int} (h: (∀t,t=u∨t=u'→2*V≤2*a.2*V+t* (2* (b.2- a.2)) - (2*g.2- 1) *V)∨(∀t,t=u∨t=u'→2*a.2*V+t* (2* (b.2- a.2)) - (2*g.2- 1) *V<0)) :Ce V g (sc a b u V) (sc a b u' V) :=by
 rcases h with h | h
 ·refine⟨0,1,fun Z hZ b1 b2 g1 g2 g3 g4=> ?_⟩
  rw [Int.one_mul,jfO]
  rcases hZ with rfl | rfl
  ·have:=h u (.inl rfl);simp only [sc];omega
  ·have:=h u' (.inr rfl);simp only [sc];omega
 ·refine⟨0,-1,fun Z hZ b1 b2 g1 g2 g3 g4=> ?_⟩
  rw [jfO]
  rcases hZ with rfl | rfl
  ·have:=h u (.inl rfl);simp only [sc];omega
  ·have:=h u' (.inr rfl);simp only [sc];omega
theorem xB {a b g:Pn} {V u u':Int} (hV:0<V) (h0:0≤u) (h1:u≤u') (h2:u'≤V) (h:Lf a b g V u u') :Ce V g (sc a b u V) (sc a b u' V) :=by
 generalize ef:2*a.1=f
 generalize ed:2* (b.1- a.1) =d
 generalize el:2*g.1- 1=lo
 generalize ef':2*a.2=f'
 generalize ed':2* (b.2- a.2) =d'
 generalize el':2*g.2- 1=lo'
 have hX: (Kj f d lo=false∨QH (MD u u' V) (QE f d lo)∨QH (QE f d lo) (MD u u' V))→Ce V g (sc a b u V) (sc a b u' V) :=fun h=>jeo (by rw [ef,ed,el];exact Nb hV h0 h1 h2 h)
 have hY: (Kj f' d' lo'=false∨QH (MD u u' V) (QE f' d' lo')∨QH (QE f' d' lo') (MD u u' V))→Ce V g (sc a b u V) (sc a b u' V) :=fun h=>jep (by rw [ef',ed',el'];exact Nb hV h0 h1 h2 h)
 by_cases k1:Kj f d lo=false
 ·exact hX (.inl k1)
 by_cases k2:Kj f' d' lo'=false
 ·exact hY (.inl k2)
 simp only [Bool.not_eq_false] at k1 k2
 have pK:0< (MD u u' V).ld∧0< (MD u u' V).hd:=⟨hV,hV⟩
 have pX:=kG f d lo
 have pY:=kG f' d' lo'
 have hno:va (JT (JT (MD u u' V) (QE f d lo)) (QE f' d' lo')) =false:=by
  rcases Bool.eq_false_or_eq_true (va (JT (JT (MD u u' V) (QE f d lo)) (QE f' d' lo'))) with e | e
  ·exfalso
   obtain ⟨t,v,hv,hm⟩ :=HU (Kw (Kw pK pX) pY) e
   rw [UN (Kw pK pX) pY hv,UN pK pX hv] at hm
   have g1:u*v≤t*V:=hm.1.1.1.le
   have g2:t*V≤u'*v:=hm.1.1.2.le
   have t0:0≤t:=by
    refine jfx.1 fun k=> ?_
    have:=jfS k hV
    have:=jfl h0 (show 0≤v by omega)
    omega
   have t1:t≤v:=by
    have k1:=jeH h2 (show 0≤v by omega)
    have k2:t*V≤v*V:=by rw [jfn v V];omega
    exact jfk k2 hV
   refine h t v hv g1 g2 ?_
   unfold wO
   rw [ef,ed,el,ef',ed',el']
   exact⟨(Uh hv t0 t1).1 ⟨k1,hm.1.2⟩,(Uh hv t0 t1).1 ⟨k2,hm.2⟩⟩
  ·exact e
 have hKK:¬QH (MD u u' V) (MD u u' V) :=by
  unfold QH MD
  simp only [jf2,or_self,and_false,or_false]
  have:=jeH h1 (show 0≤V by omega)
  omega
 have hXY:QH (QE f d lo) (QE f' d' lo')→Ce V g (sc a b u V) (sc a b u' V) :=fun k=>by
  by_cases z:d=0
  ·subst z
   rw [VE] at k
   exact hY (.inr (.inl (Nl pY.2 hV h0 k)))
  ·by_cases z':d'=0
   ·subst z'
    rw [VE] at k
    exact hX (.inr (.inr (Rm pX.1 hV h2 k)))
   ·obtain ⟨α,β,q⟩ :=jd3 hV z z' k
    refine⟨α,β,fun Z hZ b1 b2 g1 g2 g3 g4=> ?_⟩
    rw [el,el']
    rcases hZ with rfl | rfl
    ·have:=q u b1 b2 g1 g2 g3 g4;simp only [sc];rw [ef,ed,ef',ed'];exact this
    ·have:=q u' b1 b2 g1 g2 g3 g4;simp only [sc];rw [ef,ed,ef',ed'];exact this
 have hYX:QH (QE f' d' lo') (QE f d lo)→Ce V g (sc a b u V) (sc a b u' V) :=fun k=>by
  by_cases z:d=0
  ·subst z
   rw [VE] at k
   exact hY (.inr (.inr (Rm pY.1 hV h2 k)))
  ·by_cases z':d'=0
   ·subst z'
    rw [VE] at k
    exact hX (.inr (.inl (Nl pX.2 hV h0 k)))
   ·obtain ⟨α,β,q⟩ :=jd3 hV z' z k
    refine⟨β,α,fun Z hZ b1 b2 g1 g2 g3 g4=> ?_⟩
    rw [el,el']
    rcases hZ with rfl | rfl
    ·have:=q u b2 b1 g3 g4 g1 g2;simp only [sc];rw [ef,ed,ef',ed'];omega
    ·have:=q u' b2 b1 g3 g4 g1 g2;simp only [sc];rw [ef,ed,ef',ed'];omega
 rcases TI (jbQ hno) with k | k
 ·rcases TI k with k | k<;>rcases xy k with k | k
  ·rcases xy k with k | k
   ·exact absurd k hKK
   ·exact hX (.inr (.inl k))
  ·exact hY (.inr (.inl k))
  ·rcases xy k with k | k
   ·exact hX (.inr (.inr k))
   ·exact absurd k Bu
  ·exact hXY k
 ·rcases xy k with k | k
  ·rcases xy k with k | k
   ·exact hY (.inr (.inr k))
   ·exact hYX k
  ·exact absurd k Bu
theorem Xe {V:Int} {g h h' X X' Y:Pn} (hV:0<V) (hs:Ce V g X X') (hy:XP V g Y) (hx:XP V h X) (hx':XP V h' X') :
  ∃α β:Int,Hf α β (sb X Y)∧Hf α β (sb X' Y)∧Hf α β (sb h g)∧Hf α β (sb h' g) :=by
 obtain ⟨α,β,q⟩ :=hs
 have box:∀ {p Z:Pn},XP V p Z→(0≤Z.1- (2*p.1- 1) *V∧Z.1- (2*p.1- 1) *V<2*V)∧0≤Z.2- (2*p.2- 1) *V∧Z.2- (2*p.2- 1) *V<2*V:=fun {p Z} h=>by
  have e1: (2*p.1- 1+2) *V= (2*p.1- 1) *V+2*V:=by grind
  have e2: (2*p.2- 1+2) *V= (2*p.2- 1) *V+2*V:=by grind
  obtain ⟨⟨h1,h2⟩,h3,h4⟩ :=h
  rw [e1] at h2
  rw [e2] at h4
  omega
 have by_:=box hy
 have bx:=box hx
 have bx':=box hx'
 have hc:∀p:Pn,0<α* ((2*p.1- 1) *V- (2*g.1- 1) *V) +β* ((2*p.2- 1) *V- (2*g.2- 1) *V)→Hf α β (sb p g) :=fun p k=>by
  have e:α* ((2*p.1- 1) *V- (2*g.1- 1) *V) +β* ((2*p.2- 1) *V- (2*g.2- 1) *V) = (2*V) * (α* (p.1- g.1) +β* (p.2- g.2)) :=by grind
  rw [e] at k
  have s:=kB (a:=2*V) (b:=α* (p.1- g.1) +β* (p.2- g.2)) rfl
  show 0<α* (p.1- g.1) +β* (p.2- g.2)
  omega
 refine⟨α,β,?_,?_,hc h ?_,hc h' ?_⟩
 ·have:=q X (.inl rfl) _ _ by_.1.1 by_.1.2 by_.2.1 by_.2.2
  simp only [Int.sub_sub_self,Hf,sb] at this⊢
  rw [show X.1- (2*g.1- 1) *V- (Y.1- (2*g.1- 1) *V) =X.1- Y.1 by omega,show X.2- (2*g.2- 1) *V- (Y.2- (2*g.2- 1) *V) =X.2- Y.2 by omega] at this
  exact this
 ·have:=q X' (.inr rfl) _ _ by_.1.1 by_.1.2 by_.2.1 by_.2.2
  simp only [Hf,sb] at this⊢
  rw [show X'.1- (2*g.1- 1) *V- (Y.1- (2*g.1- 1) *V) =X'.1- Y.1 by omega,show X'.2- (2*g.2- 1) *V- (Y.2- (2*g.2- 1) *V) =X'.2- Y.2 by omega] at this
  exact this
 ·have:=q X (.inl rfl) _ _ bx.1.1 bx.1.2 bx.2.1 bx.2.2
  rw [show X.1- (2*g.1- 1) *V- (X.1- (2*h.1- 1) *V) = (2*h.1- 1) *V- (2*g.1- 1) *V by omega,show X.2- (2*g.2- 1) *V- (X.2- (2*h.2- 1) *V) = (2*h.2- 1) *V- (2*g.2- 1) *V by omega] at this
  exact this
 ·have:=q X' (.inr rfl) _ _ bx'.1.1 bx'.1.2 bx'.2.1 bx'.2.2
  rw [show X'.1- (2*g.1- 1) *V- (X'.1- (2*h'.1- 1) *V) = (2*h'.1- 1) *V- (2*g.1- 1) *V by omega,show X'.2- (2*g.2- 1) *V- (X'.2- (2*h'.2- 1) *V) = (2*h'.2- 1) *V- (2*g.2- 1) *V by omega] at this
  exact this
theorem YE {α β:Int} {P Q:Pn} (h:Hf α β (sb P Q)) :Hf (-α) (-β) (sb Q P) :=by
 unfold Hf sb at*
 have e: -α* (Q.1- P.1) + -β* (Q.2- P.2) =α* (P.1- Q.1) +β* (P.2- Q.2) :=by grind
 simp only
 rw [e]
 exact h
theorem Sn {V:Int} {h h' g g' X X' Y Y':Pn} (hV:0<V) (hx:XP V h X) (hx':XP V h' X') (hy:XP V g Y) (hy':XP V g' Y')
  (s1:Ce V g X X') (s2:Ce V g' X X') (s3:Ce V h Y Y') (s4:Ce V h' Y Y') :zX X X' Y Y'=zX h h' g g':=by
 obtain ⟨α1,β1,a1,a2,a3,a4⟩ :=Xe hV s1 hy hx hx'
 obtain ⟨α2,β2,b1,b2,b3,b4⟩ :=Xe hV s4 hx' hy hy'
 obtain ⟨α3,β3,c1,c2,c3,c4⟩ :=Xe hV s2 hy' hx hx'
 obtain ⟨α4,β4,d1,d2,d3,d4⟩ :=Xe hV s3 hx hy hy'
 have q1:=Le a1 a2 a3 a4
 have q2:=Le (YE b1) (YE b2) (YE b3) (YE b4)
 have q3:=Le c2 c1 c4 c3
 have q4:=Le (YE d2) (YE d1) (YE d4) (YE d3)
 unfold zX
 omega
theorem O3 {V:Int} {p q Z:Pn} (hV:0<V) (h:XP V p Z) (h':XP V q Z) :p=q:=by
 have key:∀ {m n z:Int},(2*n- 1) *V≤z→z< (2*m- 1+2) *V→¬m<n:=by
  intro m n z g1 g2 hmn
  have:=jeH (show 2*m- 1+2≤2*n- 1 by omega) (show 0≤V by omega)
  omega
 have x1:=key h.1.1 h'.1.2
 have x2:=key h'.1.1 h.1.2
 have y1:=key h.2.1 h'.2.2
 have y2:=key h'.2.1 h.2.2
 exact Prod.ext (by omega) (by omega)
theorem jdv {X X' Y:Pn} (hne:X≠X') (h:uX X X' Y=true) :∃k j:Int,0<k∧0≤j∧j≤k∧k* (Y.1- X.1) =j* (X'.1- X.1)∧k* (Y.2- X.2) =j* (X'.2- X.2) :=by
 obtain ⟨ht,hx,hy⟩ :=Kf.1 h
 have ht': (X'.1- X.1) * (Y.2- X.2) = (X'.2- X.2) * (Y.1- X.1) :=by simp only [tn,Kd] at ht;omega
 rcases jfA X.1 X'.1 with c | c | c
 ·exact⟨X'.1- X.1,Y.1- X.1,by omega,by omega,by omega,by grind,by grind⟩
 ·rcases jfA X.2 X'.2 with e | e | e
  ·exact⟨X'.2- X.2,Y.2- X.2,by omega,by omega,by omega,by grind,by grind⟩
  ·exact absurd (Prod.ext c e) hne
  ·exact⟨X.2- X'.2,X.2- Y.2,by omega,by omega,by omega,by grind,by grind⟩
 ·exact⟨X.1- X'.1,X.1- Y.1,by omega,by omega,by omega,by grind,by grind⟩
theorem HY {a b g Y:Pn} {V u u':Int} (hV:0<V) (h1:u≤u') (hne:sc a b u V≠sc a b u' V) (hm:Lf a b g V u u') (hy:XP V g Y) :uX (sc a b u V) (sc a b u' V) Y≠true:=fun ho=>by
 obtain ⟨k,j,hk,h0,hj,e1,e2⟩ :=jdv hne ho
 have m1:=jfl h0 (show 0≤u'- u by omega)
 have m2:=jeH hj (show 0≤u'- u by omega)
 refine hm (u*k+j* (u'- u)) (V*k) (jfw hV hk) ?_ ?_ ?_
 ·have e: (u*k+j* (u'- u)) *V=u* (V*k) +j* (u'- u) *V:=by grind
  have:=jfl m1 (show 0≤V by omega)
  omega
 ·have e: (u*k+j* (u'- u)) *V=u* (V*k) +j* (u'- u) *V:=by grind
  have e':u'* (V*k) =u* (V*k) +k* (u'- u) *V:=by grind
  have:=jeH m2 (show 0≤V by omega)
  omega
 ·rw [vu]
  have f1: (sc a b (u*k+j* (u'- u)) (V*k)).1=k*Y.1:=by
   have:k*Y.1=k* (sc a b u V).1+j* ((sc a b u' V).1- (sc a b u V).1) :=by grind
   rw [this]
   simp only [sc]
   grind
  have f2: (sc a b (u*k+j* (u'- u)) (V*k)).2=k*Y.2:=by
   have:k*Y.2=k* (sc a b u V).2+j* ((sc a b u' V).2- (sc a b u V).2) :=by grind
   rw [this]
   simp only [sc]
   grind
  unfold XP
  rw [f1,f2]
  obtain ⟨⟨g1,g2⟩,g3,g4⟩ :=hy
  have r:∀x:Int,x* (V*k) =k* (x*V) :=fun x=>by grind
  rw [r,r,r,r]
  exact⟨⟨jfg g1 (by omega),jgk g2 hk⟩,jfg g3 (by omega),jgk g4 hk⟩
theorem EP {a b c d h h' g g':Pn} {V u u' w w':Int} (hV:0<V) (hu:0≤u∧u≤u'∧u'≤V) (hw:0≤w∧w≤w'∧w'≤V)
  (ih:wO a b h u V) (ih':wO a b h' u' V) (ig:wO c d g w V) (ig':wO c d g' w' V) (hne:h≠h') (hne':g≠g')
  (m1:Lf a b g V u u') (m2:Lf a b g' V u u') (m3:Lf c d h V w w') (m4:Lf c d h' V w w')
  (hs:qM (sc a b u V) (sc a b u' V) (sc c d w V) (sc c d w' V)≠true) :qM h h' g g'≠true:=fun hc=>by
 have nx:sc a b u V≠sc a b u' V:=fun e=>hne (O3 hV (vu.1 ih) (by rw [e];exact vu.1 ih'))
 have ny:sc c d w V≠sc c d w' V:=fun e=>hne' (O3 hV (vu.1 ig) (by rw [e];exact vu.1 ig'))
 refine IK hc ?_
 rw [←Sn hV (vu.1 ih) (vu.1 ih') (vu.1 ig) (vu.1 ig') (xB hV hu.1 hu.2.1 hu.2.2 m1) (xB hV hu.1 hu.2.1 hu.2.2 m2) (xB hV hw.1 hw.2.1 hw.2.2 m3) (xB hV hw.1 hw.2.1 hw.2.2 m4)]
 exact Pi ⟨nx,ny,HY hV hu.2.1 nx m1 (vu.1 ig),HY hV hu.2.1 nx m2 (vu.1 ig'),HY hV hw.2.1 ny m3 (vu.1 ih),HY hV hw.2.1 ny m4 (vu.1 ih')⟩ hs
end Go.Proofs.YtkagkgjjfdkoaaaGreat
