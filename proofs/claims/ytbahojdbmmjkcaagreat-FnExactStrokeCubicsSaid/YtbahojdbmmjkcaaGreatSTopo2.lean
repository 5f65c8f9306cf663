import Derived.Test.YtbahojdbmmjkcaaGreatSNetT
import Derived.Test.YtbahojdbmmjkcaaGreatSEnds
set_option linter.unusedVariables false
set_option linter.unusedSimpArgs false
namespace Go.Proofs.YtbahojdbmmjkcaaGreat
open Go Go.RowKit
variable {V d f lo u u':Int} {a b g:Pn} {s x:Sp}
def Q2 (s x:Sp) :Prop:=x.hn*s.ld<s.ln*x.hd∨(x.hn*s.ld=s.ln*x.hd∧(s.lc=false∨x.hc=false))
theorem jeV (h:vp s=false) :Q2 s s:=by
 simp only [vp,Bool.or_eq_false_iff,jjS,decide_eq_false_iff_not] at h
 unfold Q2
 by_cases e:s.ln*s.hd- s.hn*s.ld=0
 ·refine .inr ⟨by omega,?_⟩
  rcases h.2 with(h2 | h2) | h2
  ·exact absurd e h2
  ·exact .inl h2
  ·exact .inr h2
 ·exact .inl Om
theorem jeI (s x:Sp) : ((J5 s x).ln=s.ln∧(J5 s x).ld=s.ld∧(J5 s x).lc=s.lc)∨((J5 s x).ln=x.ln∧(J5 s x).ld=x.ld∧(J5 s x).lc=x.lc) :=by
 unfold J5 ko qT
 repeat' split
 all_goals simp
theorem jb4 (s x:Sp) : ((J5 s x).hn=s.hn∧(J5 s x).hd=s.hd∧(J5 s x).hc=s.hc)∨((J5 s x).hn=x.hn∧(J5 s x).hd=x.hd∧(J5 s x).hc=x.hc) :=by
 unfold J5 ko qT
 repeat' split
 all_goals simp
theorem CB {y:Sp} (h:Q2 (J5 s x) y) :Q2 s y∨Q2 x y:=by
 unfold Q2 at*
 rcases jeI s x with⟨e1,e2,e3⟩ |⟨e1,e2,e3⟩ <;>rw [e1,e2,e3] at h
 ·exact .inl h
 ·exact .inr h
theorem Xl {y:Sp} (h:Q2 y (J5 s x)) :Q2 y s∨Q2 y x:=by
 unfold Q2 at*
 rcases jb4 s x with⟨e1,e2,e3⟩ |⟨e1,e2,e3⟩ <;>rw [e1,e2,e3] at h
 ·exact .inl h
 ·exact .inr h
def Bf (u u' V:Int) :Sp:=⟨u,V,true,u',V,true⟩
theorem jh4 (hV:0<V) (h1:u≤u') (hd:d≠0) (h:Q2 (Bf u u' V) (QZ f d lo)∨Q2 (QZ f d lo) (Bf u u' V)) :
  (∀t,t=u∨t=u'→2*V≤f*V+t*d- lo*V)∨(∀t,t=u∨t=u'→f*V+t*d- lo*V<0) :=by
 have e1: (lo+2- f) *V=lo*V+2*V- f*V:=by grind
 have e2: (lo- f) *V=lo*V- f*V:=by grind
 have e3: (f- lo) *V=f*V- lo*V:=by grind
 have e4: (f- lo- 2) *V=f*V- lo*V- 2*V:=by grind
 rcases Int.lt_or_gt_of_ne hd with hn | hp
 ·have m:u'*d≤u*d:=jjw h1 Om
  have e5:u* -d= -(u*d) :=Int.mul_neg ..
  have e6:u'* -d= -(u'*d) :=Int.mul_neg ..
  unfold Q2 QZ Bf at h
  rw [if_neg Om,if_pos hn] at h
  simp only [jjz,or_false,or_self,and_false,or_true,and_true] at h
  rw [e3,e4,e5,e6] at h
  rcases h with h | h
  ·refine .inr fun t ht=> ?_
   rcases ht with rfl | rfl<;>omega
  ·refine .inl fun t ht=> ?_
   rcases ht with rfl | rfl<;>omega
 ·have m:u*d≤u'*d:=jih h1 Om
  unfold Q2 QZ Bf at h
  rw [if_pos hp] at h
  simp only [jjz,or_false,false_or,or_self,and_false,or_true,and_true] at h
  rw [e1,e2] at h
  rcases h with h | h
  ·refine .inl fun t ht=> ?_
   rcases ht with rfl | rfl<;>omega
  ·refine .inr fun t ht=> ?_
   rcases ht with rfl | rfl<;>omega
theorem IS (h:0<d) :QZ f d lo=⟨lo- f,d,true,lo+2- f,d,false⟩ :=if_pos h
theorem IR (h:d<0) :QZ f d lo=⟨f- lo- 2,-d,false,f- lo,-d,true⟩ :=by unfold QZ;rw [if_neg Om,if_pos h]
theorem jhJ {f' d' lo':Int} (hV:0<V) (hd:d≠0) (hd':d'≠0) (h:Q2 (QZ f d lo) (QZ f' d' lo')) :
  ∃α β:Int,∀t b1 b2,0≤b1→b1<2*V→0≤b2→b2<2*V→0<α* (f*V+t*d- lo*V- b1) +β* (f'*V+t*d'- lo'*V- b2) :=by
 have i1:∀t b1 b2:Int,-d'* (f*V+t*d- lo*V- b1) +d* (f'*V+t*d'- lo'*V- b2) =V* (d* (f'- lo') - d'* (f- lo)) +d'*b1- d*b2:=fun t b1 b2=>by grind
 have i2:∀t b1 b2:Int,d'* (f*V+t*d- lo*V- b1) + -d* (f'*V+t*d'- lo'*V- b2) =V* -(d* (f'- lo') - d'* (f- lo)) - d'*b1+d*b2:=fun t b1 b2=>by grind
 have e1: (lo'+2- f') *d=2*d- d* (f'- lo') :=by grind
 have e2: (lo- f) *d'= -(d'* (f- lo)) :=by grind
 have e3: (f'- lo') *d=d* (f'- lo') :=by grind
 have e4: (lo- f) * -d'=d'* (f- lo) :=by grind
 have e5: (lo'+2- f') * -d=d* (f'- lo') - 2*d:=by grind
 have e6: (f- lo- 2) *d'=d'* (f- lo) - 2*d':=by grind
 have e7: (f'- lo') * -d= -(d* (f'- lo')) :=by grind
 have e8: (f- lo- 2) * -d'=2*d'- d'* (f- lo) :=by grind
 rcases Int.lt_or_gt_of_ne hd with hn | hp<;>rcases Int.lt_or_gt_of_ne hd' with hn' | hp'
 ·refine⟨-d',d,fun t b1 b2 g1 g2 g3 g4=> ?_⟩
  rw [i1]
  rw [IR hn,IR hn',Q2] at h
  simp only [true_or,and_true] at h
  rw [e7,e8] at h
  have m:=jiO (show-(2*d')≤d* (f'- lo') - d'* (f- lo) by omega) (show 0≤V by omega)
  have m1:=ji5 (show 0< -d' by omega) (show 0<2*V- b1 by omega)
  have m2:=jiP (show 0≤-d by omega) g3
  have k1:V* -(2*d') = -d'* (2*V- b1) + -(d'*b1) :=by grind
  have k2: -d*b2= -(d*b2) :=Int.neg_mul ..
  omega
 ·refine⟨d',-d,fun t b1 b2 g1 g2 g3 g4=> ?_⟩
  rw [i2]
  rw [IR hn,IS hp',Q2] at h
  simp only [true_or,and_true] at h
  rw [e5,e6] at h
  have m:=jiO (show 2*d'- 2*d≤-(d* (f'- lo') - d'* (f- lo)) by omega) (show 0≤V by omega)
  have m1:=ji5 hp' (show 0<2*V- b1 by omega)
  have m2:=ji5 (show 0< -d by omega) (show 0<2*V- b2 by omega)
  have k1:V* (2*d'- 2*d) =d'* (2*V- b1) + -d* (2*V- b2) +d'*b1- d*b2:=by grind
  omega
 ·refine⟨d',-d,fun t b1 b2 g1 g2 g3 g4=> ?_⟩
  rw [i2]
  rw [IS hp,IR hn',Q2] at h
  simp only [jjz,or_self,and_false,or_false] at h
  rw [e3,e4] at h
  have m:=ji5 hV (show 0< -(d* (f'- lo') - d'* (f- lo)) by omega)
  have m1:=jiP (show 0≤-d' by omega) g1
  have m2:=jiP (show 0≤d by omega) g3
  have k2: -d'*b1= -(d'*b1) :=Int.neg_mul ..
  omega
 ·refine⟨-d',d,fun t b1 b2 g1 g2 g3 g4=> ?_⟩
  rw [i1]
  rw [IS hp,IS hp',Q2] at h
  simp only [jjz,false_or,and_true] at h
  rw [e1,e2] at h
  have m:=jiO (show 2*d≤d* (f'- lo') - d'* (f- lo) by omega) (show 0≤V by omega)
  have m1:=ji5 hp (show 0<2*V- b2 by omega)
  have m2:=jiP (show 0≤d' by omega) g1
  have k1:V* (2*d) =d* (2*V- b2) +d*b2:=by grind
  omega
def sc (a b:Pn) (u v:Int) :Pn:= (2*a.1*v+u* (2* (b.1- a.1)),2*a.2*v+u* (2* (b.2- a.2)))
def Gt (V:Int) (g Y:Pn) :Prop:= ((2*g.1- 1) *V≤Y.1∧Y.1< (2*g.1- 1+2) *V)∧(2*g.2- 1) *V≤Y.2∧Y.2< (2*g.2- 1+2) *V
theorem vG {p:Pn} {v:Int} :wV a b p u v↔Gt v p (sc a b u v) :=Iff.rfl
def Mi (a b g:Pn) (V u u':Int) :Prop:=∀t v,0<v→u*v≤t*V→t*V≤u'*v→¬wV a b g t v
def Sep (V:Int) (g X X':Pn) :Prop:=∃α β:Int,∀Z:Pn,Z=X∨Z=X'→∀b1 b2,0≤b1→b1<2*V→0≤b2→b2<2*V→0<α* (Z.1- (2*g.1- 1) *V- b1) +β* (Z.2- (2*g.2- 1) *V- b2)
theorem Em (hx:0<x.hd) (hV:0<V) (h0:0≤u) (h:Q2 WG x) :Q2 (Bf u u' V) x:=by
 unfold Q2 WG at h
 unfold Q2 Bf
 simp only [jjG,jjl,jjz,false_or] at h⊢
 have m:=jiP h0 (show 0≤x.hd by omega)
 rcases h with h |⟨h,hc⟩
 ·have:=jjq h hV
  exact .inl Om
 ·rw [h,jjl]
  by_cases k:u*x.hd=0
  ·exact .inr ⟨k.symm,hc⟩
  ·exact .inl Om
theorem TU (hx:0<x.ld) (hV:0<V) (h1:u'≤V) (h:Q2 x WG) :Q2 x (Bf u u' V) :=by
 unfold Q2 WG at h
 unfold Q2 Bf
 simp only [jjG,Int.one_mul,jjz,or_false] at h⊢
 have m:=jih h1 (show 0≤x.ld by omega)
 rcases h with h |⟨h,hc⟩
 ·have:=jiQ h hV
  rw [jiW x.ld V] at this
  exact .inl Om
 ·rw [←h]
  rw [jiW V x.ld] at m
  by_cases k:u'*x.ld=x.ld*V
  ·exact .inr ⟨k,hc⟩
  ·exact .inl Om
theorem Fm :¬Q2 (QZ f d lo) (QZ f d lo) :=by
 rcases ji6 d 0 with h | h | h
 ·unfold QZ Q2
  rw [if_neg Om,if_pos h]
  simp only [true_or,and_true]
  have e: (f- lo- 2) * -d= (f- lo) * -d- 2* -d:=by grind
  omega
 ·subst h
  rw [VJ]
  unfold Q2 WG
  simp
 ·unfold QZ Q2
  rw [if_pos h]
  simp only [jjz,or_true,and_true]
  have e: (lo+2- f) *d= (lo- f) *d+2*d:=by grind
  omega
theorem Ed (hV:0<V) (h0:0≤u) (h1:u≤u') (h2:u'≤V) (h:KC f d lo=false∨Q2 (Bf u u' V) (QZ f d lo)∨Q2 (QZ f d lo) (Bf u u' V)) :
  (∀t,t=u∨t=u'→2*V≤f*V+t*d- lo*V)∨(∀t,t=u∨t=u'→f*V+t*d- lo*V<0) :=by
 by_cases hd:d=0
 ·subst hd
  rw [VJ] at h
  have hk:KC f 0 lo=false:=by
   rcases h with h | h | h
   ·exact h
   ·unfold Q2 Bf WG at h;simp at h;omega
   ·unfold Q2 Bf WG at h;simp at h;omega
  unfold KC at hk
  simp only [decide_true,Bool.not_true,Bool.false_or,jjS,decide_eq_false_iff_not] at hk
  rcases hk with hk | hk
  ·refine .inr fun t _=> ?_
   have:=jiQ (show f<lo by omega) hV
   omega
  ·refine .inl fun t _=> ?_
   have:=jih (show lo+2≤f by omega) (show 0≤V by omega)
   have e: (lo+2) *V=lo*V+2*V:=by grind
   omega
 ·rcases h with h | h
  ·unfold KC at h
   rw [decide_eq_false hd] at h
   cases h
  ·exact jh4 hV h1 hd h
theorem jh5 (h: (∀t,t=u∨t=u'→2*V≤2*a.1*V+t* (2* (b.1- a.1)) - (2*g.1- 1) *V)∨(∀t,t=u∨t=u'→2*a.1*V+t* (2* (b.1- a.1)) - (2*g.1- 1) *V<0)) :Sep V g (sc a b u V) (sc a b u' V) :=by
 rcases h with h | h
 ·refine⟨1,0,fun Z hZ b1 b2 g1 g2 g3 g4=> ?_⟩
  rw [Int.one_mul,jjl]
  rcases hZ with rfl | rfl
  ·have:=h u (.inl rfl);simp only [sc];omega
  ·have:=h u' (.inr rfl);simp only [sc];omega
 ·refine⟨-1,0,fun Z hZ b1 b2 g1 g2 g3 g4=> ?_⟩
  rw [jjl]
  rcases hZ with rfl | rfl
  ·have:=h u (.inl rfl);simp only [sc];omega
  ·have:=h u' (.inr rfl);simp only [sc];omega
theorem jh6 (h: (∀t,t=u∨t=u'→2*V≤2*a.2*V+t* (2* (b.2- a.2)) - (2*g.2- 1) *V)∨(∀t,t=u∨t=u'→2*a.2*V+t* (2* (b.2- a.2)) - (2*g.2- 1) *V<0)) :Sep V g (sc a b u V) (sc a b u' V) :=by
 rcases h with h | h
 ·refine⟨0,1,fun Z hZ b1 b2 g1 g2 g3 g4=> ?_⟩
  rw [Int.one_mul,jjl]
  rcases hZ with rfl | rfl
  ·have:=h u (.inl rfl);simp only [sc];omega
  ·have:=h u' (.inr rfl);simp only [sc];omega
 ·refine⟨0,-1,fun Z hZ b1 b2 g1 g2 g3 g4=> ?_⟩
  rw [jjl]
  rcases hZ with rfl | rfl
  ·have:=h u (.inl rfl);simp only [sc];omega
  ·have:=h u' (.inr rfl);simp only [sc];omega
theorem Xo (hV:0<V) (h0:0≤u) (h1:u≤u') (h2:u'≤V) (h:Mi a b g V u u') :Sep V g (sc a b u V) (sc a b u' V) :=by
 generalize ef:2*a.1=f
 generalize ed:2* (b.1- a.1) =d
 generalize el:2*g.1- 1=lo
 generalize ef':2*a.2=f'
 generalize ed':2* (b.2- a.2) =d'
 generalize el':2*g.2- 1=lo'
 have hX: (KC f d lo=false∨Q2 (Bf u u' V) (QZ f d lo)∨Q2 (QZ f d lo) (Bf u u' V))→Sep V g (sc a b u V) (sc a b u' V) :=fun h=>jh5 (by rw [ef,ed,el];exact Ed hV h0 h1 h2 h)
 have hY: (KC f' d' lo'=false∨Q2 (Bf u u' V) (QZ f' d' lo')∨Q2 (QZ f' d' lo') (Bf u u' V))→Sep V g (sc a b u V) (sc a b u' V) :=fun h=>jh6 (by rw [ef',ed',el'];exact Ed hV h0 h1 h2 h)
 by_cases k1:KC f d lo=false
 ·exact hX (.inl k1)
 by_cases k2:KC f' d' lo'=false
 ·exact hY (.inl k2)
 simp only [Bool.not_eq_false] at k1 k2
 have pK:0< (Bf u u' V).ld∧0< (Bf u u' V).hd:=⟨hV,hV⟩
 have pX:=Ke f d lo
 have pY:=Ke f' d' lo'
 have hno:vp (J5 (J5 (Bf u u' V) (QZ f d lo)) (QZ f' d' lo')) =false:=by
  rcases Bool.eq_false_or_eq_true (vp (J5 (J5 (Bf u u' V) (QZ f d lo)) (QZ f' d' lo'))) with e | e
  ·exfalso
   obtain ⟨t,v,hv,hm⟩ :=LY (KM (KM pK pX) pY) e
   rw [ym (KM pK pX) pY hv,ym pK pX hv] at hm
   have g1:u*v≤t*V:=hm.1.1.1.le
   have g2:t*V≤u'*v:=hm.1.1.2.le
   have t0:0≤t:=by
    refine jjn.1 fun k=> ?_
    have:=jjq k hV
    have:=jiP h0 (show 0≤v by omega)
    omega
   have t1:t≤v:=by
    have k1:=jih h2 (show 0≤v by omega)
    have k2:t*V≤v*V:=by rw [jiW v V];omega
    exact jiT k2 hV
   refine h t v hv g1 g2 ?_
   unfold wV
   rw [ef,ed,el,ef',ed',el']
   exact⟨(UK hv t0 t1).1 ⟨k1,hm.1.2⟩,(UK hv t0 t1).1 ⟨k2,hm.2⟩⟩
  ·exact e
 have hKK:¬Q2 (Bf u u' V) (Bf u u' V) :=by
  unfold Q2 Bf
  simp only [jjz,or_self,and_false,or_false]
  have:=jih h1 (show 0≤V by omega)
  omega
 have hXY:Q2 (QZ f d lo) (QZ f' d' lo')→Sep V g (sc a b u V) (sc a b u' V) :=fun k=>by
  by_cases z:d=0
  ·subst z
   rw [VJ] at k
   exact hY (.inr (.inl (Em pY.2 hV h0 k)))
  ·by_cases z':d'=0
   ·subst z'
    rw [VJ] at k
    exact hX (.inr (.inr (TU pX.1 hV h2 k)))
   ·obtain ⟨α,β,q⟩ :=jhJ hV z z' k
    refine⟨α,β,fun Z hZ b1 b2 g1 g2 g3 g4=> ?_⟩
    rw [el,el']
    rcases hZ with rfl | rfl
    ·have:=q u b1 b2 g1 g2 g3 g4;simp only [sc];rw [ef,ed,ef',ed'];exact this
    ·have:=q u' b1 b2 g1 g2 g3 g4;simp only [sc];rw [ef,ed,ef',ed'];exact this
 have hYX:Q2 (QZ f' d' lo') (QZ f d lo)→Sep V g (sc a b u V) (sc a b u' V) :=fun k=>by
  by_cases z:d=0
  ·subst z
   rw [VJ] at k
   exact hY (.inr (.inr (TU pY.1 hV h2 k)))
  ·by_cases z':d'=0
   ·subst z'
    rw [VJ] at k
    exact hX (.inr (.inl (Em pX.2 hV h0 k)))
   ·obtain ⟨α,β,q⟩ :=jhJ hV z' z k
    refine⟨β,α,fun Z hZ b1 b2 g1 g2 g3 g4=> ?_⟩
    rw [el,el']
    rcases hZ with rfl | rfl
    ·have:=q u b2 b1 g3 g4 g1 g2;simp only [sc];rw [ef,ed,ef',ed'];omega
    ·have:=q u' b2 b1 g3 g4 g1 g2;simp only [sc];rw [ef,ed,ef',ed'];omega
 rcases CB (jeV hno) with k | k
 ·rcases CB k with k | k<;>rcases Xl k with k | k
  ·rcases Xl k with k | k
   ·exact absurd k hKK
   ·exact hX (.inr (.inl k))
  ·exact hY (.inr (.inl k))
  ·rcases Xl k with k | k
   ·exact hX (.inr (.inr k))
   ·exact absurd k Fm
  ·exact hXY k
 ·rcases Xl k with k | k
  ·rcases Xl k with k | k
   ·exact hY (.inr (.inr k))
   ·exact hYX k
  ·exact absurd k Fm
theorem XS {h h' X X' Y:Pn} (hV:0<V) (hs:Sep V g X X') (hy:Gt V g Y) (hx:Gt V h X) (hx':Gt V h' X') :
  ∃α β:Int,Hf α β (sb X Y)∧Hf α β (sb X' Y)∧Hf α β (sb h g)∧Hf α β (sb h' g) :=by
 obtain ⟨α,β,q⟩ :=hs
 have box:∀ {p Z:Pn},Gt V p Z→(0≤Z.1- (2*p.1- 1) *V∧Z.1- (2*p.1- 1) *V<2*V)∧0≤Z.2- (2*p.2- 1) *V∧Z.2- (2*p.2- 1) *V<2*V:=fun {p Z} h=>by
  have e1: (2*p.1- 1+2) *V= (2*p.1- 1) *V+2*V:=by grind
  have e2: (2*p.2- 1+2) *V= (2*p.2- 1) *V+2*V:=by grind
  obtain ⟨⟨h1,h2⟩,h3,h4⟩ :=h
  rw [e1] at h2
  rw [e2] at h4
  omega
 have by_:=box hy
 have bx:=box hx
 have bx':=box hx'
 have hc:∀p:Pn,0<α* ((2*p.1- 1) *V- (2*g.1- 1) *V) +β* ((2*p.2- 1) *V- (2*g.2- 1) *V)→Hf α β (sb p g) :=fun p k=>by
  have e:α* ((2*p.1- 1) *V- (2*g.1- 1) *V) +β* ((2*p.2- 1) *V- (2*g.2- 1) *V) = (2*V) * (α* (p.1- g.1) +β* (p.2- g.2)) :=by grind
  rw [e] at k
  have s:=kY (a:=2*V) (b:=α* (p.1- g.1) +β* (p.2- g.2)) rfl
  show 0<α* (p.1- g.1) +β* (p.2- g.2)
  omega
 refine⟨α,β,?_,?_,hc h ?_,hc h' ?_⟩
 ·have:=q X (.inl rfl) _ _ by_.1.1 by_.1.2 by_.2.1 by_.2.2
  simp only [Int.sub_sub_self,Hf,sb] at this⊢
  rw [show X.1- (2*g.1- 1) *V- (Y.1- (2*g.1- 1) *V) =X.1- Y.1 by omega,show X.2- (2*g.2- 1) *V- (Y.2- (2*g.2- 1) *V) =X.2- Y.2 by omega] at this
  exact this
 ·have:=q X' (.inr rfl) _ _ by_.1.1 by_.1.2 by_.2.1 by_.2.2
  simp only [Hf,sb] at this⊢
  rw [show X'.1- (2*g.1- 1) *V- (Y.1- (2*g.1- 1) *V) =X'.1- Y.1 by omega,show X'.2- (2*g.2- 1) *V- (Y.2- (2*g.2- 1) *V) =X'.2- Y.2 by omega] at this
  exact this
 ·have:=q X (.inl rfl) _ _ bx.1.1 bx.1.2 bx.2.1 bx.2.2
  rw [show X.1- (2*g.1- 1) *V- (X.1- (2*h.1- 1) *V) = (2*h.1- 1) *V- (2*g.1- 1) *V by omega,show X.2- (2*g.2- 1) *V- (X.2- (2*h.2- 1) *V) = (2*h.2- 1) *V- (2*g.2- 1) *V by omega] at this
  exact this
 ·have:=q X' (.inr rfl) _ _ bx'.1.1 bx'.1.2 bx'.2.1 bx'.2.2
  rw [show X'.1- (2*g.1- 1) *V- (X'.1- (2*h'.1- 1) *V) = (2*h'.1- 1) *V- (2*g.1- 1) *V by omega,show X'.2- (2*g.2- 1) *V- (X'.2- (2*h'.2- 1) *V) = (2*h'.2- 1) *V- (2*g.2- 1) *V by omega] at this
  exact this
theorem zo {α β:Int} {P Q:Pn} (h:Hf α β (sb P Q)) :Hf (-α) (-β) (sb Q P) :=by
 unfold Hf sb at*
 have e: -α* (Q.1- P.1) + -β* (Q.2- P.2) =α* (P.1- Q.1) +β* (P.2- Q.2) :=by grind
 simp only
 rw [e]
 exact h
theorem Pe {h h' g' X X' Y Y':Pn} (hV:0<V) (hx:Gt V h X) (hx':Gt V h' X') (hy:Gt V g Y) (hy':Gt V g' Y') (s1:Sep V g X X') (s2:Sep V g' X X') (s3:Sep V h Y Y') (s4:Sep V h' Y Y') :ZS X X' Y Y'=ZS h h' g g':=by
 obtain ⟨α1,β1,a1,a2,a3,a4⟩ :=XS hV s1 hy hx hx'
 obtain ⟨α2,β2,b1,b2,b3,b4⟩ :=XS hV s4 hx' hy hy'
 obtain ⟨α3,β3,c1,c2,c3,c4⟩ :=XS hV s2 hy' hx hx'
 obtain ⟨α4,β4,d1,d2,d3,d4⟩ :=XS hV s3 hx hy hy'
 have q1:=Mg a1 a2 a3 a4
 have q2:=Mg (zo b1) (zo b2) (zo b3) (zo b4)
 have q3:=Mg c2 c1 c4 c3
 have q4:=Mg (zo d2) (zo d1) (zo d4) (zo d3)
 unfold ZS
 omega
theorem DU {p q Z:Pn} (hV:0<V) (h:Gt V p Z) (h':Gt V q Z) :p=q:=by
 have key:∀ {m n z:Int},(2*n- 1) *V≤z→z< (2*m- 1+2) *V→¬m<n:=by
  intro m n z g1 g2 hmn
  have:=jih (show 2*m- 1+2≤2*n- 1 by omega) (show 0≤V by omega)
  omega
 have x1:=key h.1.1 h'.1.2
 have x2:=key h'.1.1 h.1.2
 have y1:=key h.2.1 h'.2.2
 have y2:=key h'.2.1 h.2.2
 exact Prod.ext Om Om
theorem jgL {X X' Y:Pn} (hne:X≠X') (h:UZ X X' Y=true) :∃k j:Int,0<k∧0≤j∧j≤k∧k* (Y.1- X.1) =j* (X'.1- X.1)∧k* (Y.2- X.2) =j* (X'.2- X.2) :=by
 obtain ⟨ht,hx,hy⟩ :=Ky.1 h
 have ht': (X'.1- X.1) * (Y.2- X.2) = (X'.2- X.2) * (Y.1- X.1) :=by simp only [tn,Kw] at ht;omega
 rcases ji6 X.1 X'.1 with c | c | c
 ·exact⟨X'.1- X.1,Y.1- X.1,by omega,by omega,by omega,by grind,by grind⟩
 ·rcases ji6 X.2 X'.2 with e | e | e
  ·exact⟨X'.2- X.2,Y.2- X.2,by omega,by omega,by omega,by grind,by grind⟩
  ·exact absurd (Prod.ext c e) hne
  ·exact⟨X.2- X'.2,X.2- Y.2,by omega,by omega,by omega,by grind,by grind⟩
 ·exact⟨X.1- X'.1,X.1- Y.1,by omega,by omega,by omega,by grind,by grind⟩
theorem L4 {Y:Pn} (hV:0<V) (h1:u≤u') (hne:sc a b u V≠sc a b u' V) (hm:Mi a b g V u u') (hy:Gt V g Y) :UZ (sc a b u V) (sc a b u' V) Y≠true:=fun ho=>by
 obtain ⟨k,j,hk,h0,hj,e1,e2⟩ :=jgL hne ho
 have m1:=jiP h0 (show 0≤u'- u by omega)
 have m2:=jih hj (show 0≤u'- u by omega)
 refine hm (u*k+j* (u'- u)) (V*k) (ji5 hV hk) ?_ ?_ ?_
 ·have e: (u*k+j* (u'- u)) *V=u* (V*k) +j* (u'- u) *V:=by grind
  have:=jiP m1 (show 0≤V by omega)
  omega
 ·have e: (u*k+j* (u'- u)) *V=u* (V*k) +j* (u'- u) *V:=by grind
  have e':u'* (V*k) =u* (V*k) +k* (u'- u) *V:=by grind
  have:=jih m2 (show 0≤V by omega)
  omega
 ·rw [vG]
  have f1: (sc a b (u*k+j* (u'- u)) (V*k)).1=k*Y.1:=by
   have:k*Y.1=k* (sc a b u V).1+j* ((sc a b u' V).1- (sc a b u V).1) :=by grind
   rw [this]
   simp only [sc]
   grind
  have f2: (sc a b (u*k+j* (u'- u)) (V*k)).2=k*Y.2:=by
   have:k*Y.2=k* (sc a b u V).2+j* ((sc a b u' V).2- (sc a b u V).2) :=by grind
   rw [this]
   simp only [sc]
   grind
  unfold Gt
  rw [f1,f2]
  obtain ⟨⟨g1,g2⟩,g3,g4⟩ :=hy
  have r:∀x:Int,x* (V*k) =k* (x*V) :=fun x=>by grind
  rw [r,r,r,r]
  exact⟨⟨jiO g1 Om,jjV g2 hk⟩,jiO g3 Om,jjV g4 hk⟩
theorem jcM {c d h h' g':Pn} {w w':Int} (hV:0<V) (hu:0≤u∧u≤u'∧u'≤V) (hw:0≤w∧w≤w'∧w'≤V) (ih:wV a b h u V) (ih':wV a b h' u' V) (ig:wV c d g w V) (ig':wV c d g' w' V) (hne:h≠h') (hne':g≠g') (m1:Mi a b g V u u') (m2:Mi a b g' V u u') (m3:Mi c d h V w w') (m4:Mi c d h' V w w') (hs:Qc (sc a b u V) (sc a b u' V) (sc c d w V) (sc c d w' V)≠true) :Qc h h' g g'≠true:=fun hc=>by
 have nx:sc a b u V≠sc a b u' V:=fun e=>hne (DU hV (vG.1 ih) (by rw [e];exact vG.1 ih'))
 have ny:sc c d w V≠sc c d w' V:=fun e=>hne' (DU hV (vG.1 ig) (by rw [e];exact vG.1 ig'))
 refine Tb hc ?_
 rw [←Pe hV (vG.1 ih) (vG.1 ih') (vG.1 ig) (vG.1 ig') (Xo hV hu.1 hu.2.1 hu.2.2 m1) (Xo hV hu.1 hu.2.1 hu.2.2 m2) (Xo hV hw.1 hw.2.1 hw.2.2 m3) (Xo hV hw.1 hw.2.1 hw.2.2 m4)]
 exact jal ⟨nx,ny,L4 hV hu.2.1 nx m1 (vG.1 ig),L4 hV hu.2.1 nx m2 (vG.1 ig'),L4 hV hw.2.1 ny m3 (vG.1 ih),L4 hV hw.2.1 ny m4 (vG.1 ih')⟩ hs
end Go.Proofs.YtbahojdbmmjkcaaGreat
