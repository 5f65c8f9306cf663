import Derived.Test.YtpncbbcmoiiipaaGreatKNetT
import Derived.Test.YtpncbbcmoiiipaaGreatKEnds
import Derived.Test.YtpncbbcmoiiipaaGreatKNetS
import Derived.Test.YtpncbbcmoiiipaaGreatKSv
import Derived.Test.YtpncbbcmoiiipaaGreatKSnapB
set_option linter.unusedVariables false
set_option linter.unusedSimpArgs false
namespace Go.Proofs.YtpncbbcmoiiipaaGreat
open Go Go.RowKit
def Q4 (s x:Sp) :Prop:=x.hn*s.ld<s.ln*x.hd∨(x.hn*s.ld=s.ln*x.hd∧(s.lc=false∨x.hc=false))
theorem jeW {s:Sp} (h:vP s=false) :Q4 s s:=by
 simp only [vP,Bool.or_eq_false_iff,jjG,decide_eq_false_iff_not] at h
 unfold Q4
 by_cases e:s.ln*s.hd- s.hn*s.ld=0
 ·refine .inr ⟨by omega,?_⟩
  rcases h.2 with(h2 | h2) | h2
  ·exact absurd e h2
  ·exact .inl h2
  ·exact .inr h2
 ·exact .inl Om
theorem jeL (s x:Sp) : ((J7 s x).ln=s.ln∧(J7 s x).ld=s.ld∧(J7 s x).lc=s.lc)∨((J7 s x).ln=x.ln∧(J7 s x).ld=x.ld∧(J7 s x).lc=x.lc) :=by
 unfold J7 ko qY
 repeat' split
 all_goals simp
theorem jbQ (s x:Sp) : ((J7 s x).hn=s.hn∧(J7 s x).hd=s.hd∧(J7 s x).hc=s.hc)∨((J7 s x).hn=x.hn∧(J7 s x).hd=x.hd∧(J7 s x).hc=x.hc) :=by
 unfold J7 ko qY
 repeat' split
 all_goals simp
theorem P6 {s x y:Sp} (h:Q4 (J7 s x) y) :Q4 s y∨Q4 x y:=by
 unfold Q4 at*
 rcases jeL s x with⟨e1,e2,e3⟩ |⟨e1,e2,e3⟩ <;>rw [e1,e2,e3] at h
 ·exact .inl h
 ·exact .inr h
theorem XB {s x y:Sp} (h:Q4 y (J7 s x)) :Q4 y s∨Q4 y x:=by
 unfold Q4 at*
 rcases jbQ s x with⟨e1,e2,e3⟩ |⟨e1,e2,e3⟩ <;>rw [e1,e2,e3] at h
 ·exact .inl h
 ·exact .inr h
def O5 (u u' V:Int) :Sp:=⟨u,V,true,u',V,true⟩
theorem jh6 {f d lo V u u':Int} (hV:0<V) (h1:u≤u') (hd:d≠0) (h:Q4 (O5 u u' V) (QW f d lo)∨Q4 (QW f d lo) (O5 u u' V)) :
  (∀t,t=u∨t=u'→2*V≤f*V+t*d- lo*V)∨(∀t,t=u∨t=u'→f*V+t*d- lo*V<0) :=by
 have e1: (lo+2- f) *V=lo*V+2*V- f*V:=by grind
 have e2: (lo- f) *V=lo*V- f*V:=by grind
 have e3: (f- lo) *V=f*V- lo*V:=by grind
 have e4: (f- lo- 2) *V=f*V- lo*V- 2*V:=by grind
 rcases Int.lt_or_gt_of_ne hd with hn | hp
 ·have m:u'*d≤u*d:=jjE h1 Om
  have e5:u* -d= -(u*d) :=Int.mul_neg ..
  have e6:u'* -d= -(u'*d) :=Int.mul_neg ..
  unfold Q4 QW O5 at h
  rw [if_neg Om,if_pos hn] at h
  simp only [jjK,or_false,or_self,and_false,or_true,and_true] at h
  rw [e3,e4,e5,e6] at h
  rcases h with h | h
  ·refine .inr fun t ht=> ?_
   rcases ht with rfl | rfl<;>omega
  ·refine .inl fun t ht=> ?_
   rcases ht with rfl | rfl<;>omega
 ·have m:u*d≤u'*d:=jij h1 Om
  unfold Q4 QW O5 at h
  rw [if_pos hp] at h
  simp only [jjK,or_false,false_or,or_self,and_false,or_true,and_true] at h
  rw [e1,e2] at h
  rcases h with h | h
  ·refine .inl fun t ht=> ?_
   rcases ht with rfl | rfl<;>omega
  ·refine .inr fun t ht=> ?_
   rcases ht with rfl | rfl<;>omega
theorem Io {f d lo:Int} (h:0<d) :QW f d lo=⟨lo- f,d,true,lo+2- f,d,false⟩ :=if_pos h
theorem Im {f d lo:Int} (h:d<0) :QW f d lo=⟨f- lo- 2,-d,false,f- lo,-d,true⟩ :=by unfold QW;rw [if_neg Om,if_pos h]
theorem jhL {f d lo f' d' lo' V:Int} (hV:0<V) (hd:d≠0) (hd':d'≠0) (h:Q4 (QW f d lo) (QW f' d' lo')) :
  ∃α β:Int,∀t b1 b2,0≤b1→b1<2*V→0≤b2→b2<2*V→0<α* (f*V+t*d- lo*V- b1) +β* (f'*V+t*d'- lo'*V- b2) :=by
 have i1:∀t b1 b2:Int,-d'* (f*V+t*d- lo*V- b1) +d* (f'*V+t*d'- lo'*V- b2) =V* (d* (f'- lo') - d'* (f- lo)) +d'*b1- d*b2:=fun t b1 b2=>by grind
 have i2:∀t b1 b2:Int,d'* (f*V+t*d- lo*V- b1) + -d* (f'*V+t*d'- lo'*V- b2) =V* -(d* (f'- lo') - d'* (f- lo)) - d'*b1+d*b2:=fun t b1 b2=>by grind
 have e1: (lo'+2- f') *d=2*d- d* (f'- lo') :=by grind
 have e2: (lo- f) *d'= -(d'* (f- lo)) :=by grind
 have e3: (f'- lo') *d=d* (f'- lo') :=by grind
 have e4: (lo- f) * -d'=d'* (f- lo) :=by grind
 have e5: (lo'+2- f') * -d=d* (f'- lo') - 2*d:=by grind
 have e6: (f- lo- 2) *d'=d'* (f- lo) - 2*d':=by grind
 have e7: (f'- lo') * -d= -(d* (f'- lo')) :=by grind
 have e8: (f- lo- 2) * -d'=2*d'- d'* (f- lo) :=by grind
 rcases Int.lt_or_gt_of_ne hd with hn | hp<;>rcases Int.lt_or_gt_of_ne hd' with hn' | hp'
 ·refine⟨-d',d,fun t b1 b2 g1 g2 g3 g4=> ?_⟩
  rw [i1]
  rw [Im hn,Im hn',Q4] at h
  simp only [true_or,and_true] at h
  rw [e7,e8] at h
  have m:=jiT (show-(2*d')≤d* (f'- lo') - d'* (f- lo) by omega) (show 0≤V by omega)
  have m1:=jiU (show 0< -d' by omega) (show 0<2*V- b1 by omega)
  have m2:=jiF (show 0≤-d by omega) g3
  have k1:V* -(2*d') = -d'* (2*V- b1) + -(d'*b1) :=by grind
  have k2: -d*b2= -(d*b2) :=Int.neg_mul ..
  omega
 ·refine⟨d',-d,fun t b1 b2 g1 g2 g3 g4=> ?_⟩
  rw [i2]
  rw [Im hn,Io hp',Q4] at h
  simp only [true_or,and_true] at h
  rw [e5,e6] at h
  have m:=jiT (show 2*d'- 2*d≤-(d* (f'- lo') - d'* (f- lo)) by omega) (show 0≤V by omega)
  have m1:=jiU hp' (show 0<2*V- b1 by omega)
  have m2:=jiU (show 0< -d by omega) (show 0<2*V- b2 by omega)
  have k1:V* (2*d'- 2*d) =d'* (2*V- b1) + -d* (2*V- b2) +d'*b1- d*b2:=by grind
  omega
 ·refine⟨d',-d,fun t b1 b2 g1 g2 g3 g4=> ?_⟩
  rw [i2]
  rw [Io hp,Im hn',Q4] at h
  simp only [jjK,or_self,and_false,or_false] at h
  rw [e3,e4] at h
  have m:=jiU hV (show 0< -(d* (f'- lo') - d'* (f- lo)) by omega)
  have m1:=jiF (show 0≤-d' by omega) g1
  have m2:=jiF (show 0≤d by omega) g3
  have k2: -d'*b1= -(d'*b1) :=Int.neg_mul ..
  omega
 ·refine⟨-d',d,fun t b1 b2 g1 g2 g3 g4=> ?_⟩
  rw [i1]
  rw [Io hp,Io hp',Q4] at h
  simp only [jjK,false_or,and_true] at h
  rw [e1,e2] at h
  have m:=jiT (show 2*d≤d* (f'- lo') - d'* (f- lo) by omega) (show 0≤V by omega)
  have m1:=jiU hp (show 0<2*V- b2 by omega)
  have m2:=jiF (show 0≤d' by omega) g1
  have k1:V* (2*d) =d* (2*V- b2) +d*b2:=by grind
  omega
def sc (a b:Pn) (u v:Int) :Pn:= (2*a.1*v+u* (2* (b.1- a.1)),2*a.2*v+u* (2* (b.2- a.2)))
def GP (V:Int) (g Y:Pn) :Prop:= ((2*g.1- 1) *V≤Y.1∧Y.1< (2*g.1- 1+2) *V)∧(2*g.2- 1) *V≤Y.2∧Y.2< (2*g.2- 1+2) *V
theorem Vd {a b p:Pn} {u v:Int} :wu a b p u v↔GP v p (sc a b u v) :=Iff.rfl
def Mz (a b g:Pn) (V u u':Int) :Prop:=∀t v,0<v→u*v≤t*V→t*V≤u'*v→¬wu a b g t v
def Sep (V:Int) (g X X':Pn) :Prop:=∃α β:Int,∀Z:Pn,Z=X∨Z=X'→∀b1 b2,0≤b1→b1<2*V→0≤b2→b2<2*V→0<α* (Z.1- (2*g.1- 1) *V- b1) +β* (Z.2- (2*g.2- 1) *V- b2)
theorem CR {x:Sp} {u u' V:Int} (hx:0<x.hd) (hV:0<V) (h0:0≤u) (h:Q4 W6 x) :Q4 (O5 u u' V) x:=by
 unfold Q4 W6 at h
 unfold Q4 O5
 simp only [jjM,ji7,jjK,false_or] at h⊢
 have m:=jiF h0 (show 0≤x.hd by omega)
 rcases h with h |⟨h,hc⟩
 ·have:=jjh h hV
  exact .inl Om
 ·rw [h,ji7]
  by_cases k:u*x.hd=0
  ·exact .inr ⟨k.symm,hc⟩
  ·exact .inl Om
theorem Tp {x:Sp} {u u' V:Int} (hx:0<x.ld) (hV:0<V) (h1:u'≤V) (h:Q4 x W6) :Q4 x (O5 u u' V) :=by
 unfold Q4 W6 at h
 unfold Q4 O5
 simp only [jjM,Int.one_mul,jjK,or_false] at h⊢
 have m:=jij h1 (show 0≤x.ld by omega)
 rcases h with h |⟨h,hc⟩
 ·have:=jiz h hV
  rw [jiV x.ld V] at this
  exact .inl Om
 ·rw [←h]
  rw [jiV V x.ld] at m
  by_cases k:u'*x.ld=x.ld*V
  ·exact .inr ⟨k,hc⟩
  ·exact .inl Om
theorem D3 {f d lo:Int} :¬Q4 (QW f d lo) (QW f d lo) :=by
 rcases ji1 d 0 with h | h | h
 ·unfold QW Q4
  rw [if_neg Om,if_pos h]
  simp only [true_or,and_true]
  have e: (f- lo- 2) * -d= (f- lo) * -d- 2* -d:=by grind
  omega
 ·subst h
  rw [wi]
  unfold Q4 W6
  simp
 ·unfold QW Q4
  rw [if_pos h]
  simp only [jjK,or_true,and_true]
  have e: (lo+2- f) *d= (lo- f) *d+2*d:=by grind
  omega
theorem CH {f d lo V u u':Int} (hV:0<V) (h0:0≤u) (h1:u≤u') (h2:u'≤V) (h:KM f d lo=false∨Q4 (O5 u u' V) (QW f d lo)∨Q4 (QW f d lo) (O5 u u' V)) :
  (∀t,t=u∨t=u'→2*V≤f*V+t*d- lo*V)∨(∀t,t=u∨t=u'→f*V+t*d- lo*V<0) :=by
 by_cases hd:d=0
 ·subst hd
  rw [wi] at h
  have hk:KM f 0 lo=false:=by
   rcases h with h | h | h
   ·exact h
   ·unfold Q4 O5 W6 at h;simp at h;omega
   ·unfold Q4 O5 W6 at h;simp at h;omega
  unfold KM at hk
  simp only [decide_true,Bool.not_true,Bool.false_or,jjG,decide_eq_false_iff_not] at hk
  rcases hk with hk | hk
  ·refine .inr fun t _=> ?_
   have:=jiz (show f<lo by omega) hV
   omega
  ·refine .inl fun t _=> ?_
   have:=jij (show lo+2≤f by omega) (show 0≤V by omega)
   have e: (lo+2) *V=lo*V+2*V:=by grind
   omega
 ·rcases h with h | h
  ·unfold KM at h
   rw [decide_eq_false hd] at h
   cases h
  ·exact jh6 hV h1 hd h
theorem jh7 {a b g:Pn} {V u u':Int} (h: (∀t,t=u∨t=u'→2*V≤2*a.1*V+t* (2* (b.1- a.1)) - (2*g.1- 1) *V)∨(∀t,t=u∨t=u'→2*a.1*V+t* (2* (b.1- a.1)) - (2*g.1- 1) *V<0)) :Sep V g (sc a b u V) (sc a b u' V) :=by
 rcases h with h | h
 ·refine⟨1,0,fun Z hZ b1 b2 g1 g2 g3 g4=> ?_⟩
  rw [Int.one_mul,ji7]
  rcases hZ with rfl | rfl
  ·have:=h u (.inl rfl);simp only [sc];omega
  ·have:=h u' (.inr rfl);simp only [sc];omega
 ·refine⟨-1,0,fun Z hZ b1 b2 g1 g2 g3 g4=> ?_⟩
  rw [ji7]
  rcases hZ with rfl | rfl
  ·have:=h u (.inl rfl);simp only [sc];omega
  ·have:=h u' (.inr rfl);simp only [sc];omega
theorem jh8 {a b g:Pn} {V u u':Int} (h: (∀t,t=u∨t=u'→2*V≤2*a.2*V+t* (2* (b.2- a.2)) - (2*g.2- 1) *V)∨(∀t,t=u∨t=u'→2*a.2*V+t* (2* (b.2- a.2)) - (2*g.2- 1) *V<0)) :Sep V g (sc a b u V) (sc a b u' V) :=by
 rcases h with h | h
 ·refine⟨0,1,fun Z hZ b1 b2 g1 g2 g3 g4=> ?_⟩
  rw [Int.one_mul,ji7]
  rcases hZ with rfl | rfl
  ·have:=h u (.inl rfl);simp only [sc];omega
  ·have:=h u' (.inr rfl);simp only [sc];omega
 ·refine⟨0,-1,fun Z hZ b1 b2 g1 g2 g3 g4=> ?_⟩
  rw [ji7]
  rcases hZ with rfl | rfl
  ·have:=h u (.inl rfl);simp only [sc];omega
  ·have:=h u' (.inr rfl);simp only [sc];omega
theorem XD {a b g:Pn} {V u u':Int} (hV:0<V) (h0:0≤u) (h1:u≤u') (h2:u'≤V) (h:Mz a b g V u u') :Sep V g (sc a b u V) (sc a b u' V) :=by
 generalize ef:2*a.1=f
 generalize ed:2* (b.1- a.1) =d
 generalize el:2*g.1- 1=lo
 generalize ef':2*a.2=f'
 generalize ed':2* (b.2- a.2) =d'
 generalize el':2*g.2- 1=lo'
 have hX: (KM f d lo=false∨Q4 (O5 u u' V) (QW f d lo)∨Q4 (QW f d lo) (O5 u u' V))→Sep V g (sc a b u V) (sc a b u' V) :=fun h=>jh7 (by rw [ef,ed,el];exact CH hV h0 h1 h2 h)
 have hY: (KM f' d' lo'=false∨Q4 (O5 u u' V) (QW f' d' lo')∨Q4 (QW f' d' lo') (O5 u u' V))→Sep V g (sc a b u V) (sc a b u' V) :=fun h=>jh8 (by rw [ef',ed',el'];exact CH hV h0 h1 h2 h)
 by_cases k1:KM f d lo=false
 ·exact hX (.inl k1)
 by_cases k2:KM f' d' lo'=false
 ·exact hY (.inl k2)
 simp only [Bool.not_eq_false] at k1 k2
 have pK:0< (O5 u u' V).ld∧0< (O5 u u' V).hd:=⟨hV,hV⟩
 have pX:=kZ f d lo
 have pY:=kZ f' d' lo'
 have hno:vP (J7 (J7 (O5 u u' V) (QW f d lo)) (QW f' d' lo')) =false:=by
  rcases Bool.eq_false_or_eq_true (vP (J7 (J7 (O5 u u' V) (QW f d lo)) (QW f' d' lo'))) with e | e
  ·exfalso
   obtain ⟨t,v,hv,hm⟩ :=Mi (K0 (K0 pK pX) pY) e
   rw [yQ (K0 pK pX) pY hv,yQ pK pX hv] at hm
   have g1:u*v≤t*V:=hm.1.1.1.le
   have g2:t*V≤u'*v:=hm.1.1.2.le
   have t0:0≤t:=by
    refine jjr.1 fun k=> ?_
    have:=jjh k hV
    have:=jiF h0 (show 0≤v by omega)
    omega
   have t1:t≤v:=by
    have k1:=jij h2 (show 0≤v by omega)
    have k2:t*V≤v*V:=by rw [jiV v V];omega
    exact jiS k2 hV
   refine h t v hv g1 g2 ?_
   unfold wu
   rw [ef,ed,el,ef',ed',el']
   exact⟨(U9 hv t0 t1).1 ⟨k1,hm.1.2⟩,(U9 hv t0 t1).1 ⟨k2,hm.2⟩⟩
  ·exact e
 have hKK:¬Q4 (O5 u u' V) (O5 u u' V) :=by
  unfold Q4 O5
  simp only [jjK,or_self,and_false,or_false]
  have:=jij h1 (show 0≤V by omega)
  omega
 have hXY:Q4 (QW f d lo) (QW f' d' lo')→Sep V g (sc a b u V) (sc a b u' V) :=fun k=>by
  by_cases z:d=0
  ·subst z
   rw [wi] at k
   exact hY (.inr (.inl (CR pY.2 hV h0 k)))
  ·by_cases z':d'=0
   ·subst z'
    rw [wi] at k
    exact hX (.inr (.inr (Tp pX.1 hV h2 k)))
   ·obtain ⟨α,β,q⟩ :=jhL hV z z' k
    refine⟨α,β,fun Z hZ b1 b2 g1 g2 g3 g4=> ?_⟩
    rw [el,el']
    rcases hZ with rfl | rfl
    ·have:=q u b1 b2 g1 g2 g3 g4;simp only [sc];rw [ef,ed,ef',ed'];exact this
    ·have:=q u' b1 b2 g1 g2 g3 g4;simp only [sc];rw [ef,ed,ef',ed'];exact this
 have hYX:Q4 (QW f' d' lo') (QW f d lo)→Sep V g (sc a b u V) (sc a b u' V) :=fun k=>by
  by_cases z:d=0
  ·subst z
   rw [wi] at k
   exact hY (.inr (.inr (Tp pY.1 hV h2 k)))
  ·by_cases z':d'=0
   ·subst z'
    rw [wi] at k
    exact hX (.inr (.inl (CR pX.2 hV h0 k)))
   ·obtain ⟨α,β,q⟩ :=jhL hV z' z k
    refine⟨β,α,fun Z hZ b1 b2 g1 g2 g3 g4=> ?_⟩
    rw [el,el']
    rcases hZ with rfl | rfl
    ·have:=q u b2 b1 g3 g4 g1 g2;simp only [sc];rw [ef,ed,ef',ed'];omega
    ·have:=q u' b2 b1 g3 g4 g1 g2;simp only [sc];rw [ef,ed,ef',ed'];omega
 rcases P6 (jeW hno) with k | k
 ·rcases P6 k with k | k<;>rcases XB k with k | k
  ·rcases XB k with k | k
   ·exact absurd k hKK
   ·exact hX (.inr (.inl k))
  ·exact hY (.inr (.inl k))
  ·rcases XB k with k | k
   ·exact hX (.inr (.inr k))
   ·exact absurd k D3
  ·exact hXY k
 ·rcases XB k with k | k
  ·rcases XB k with k | k
   ·exact hY (.inr (.inr k))
   ·exact hYX k
  ·exact absurd k D3
theorem X6 {V:Int} {g h h' X X' Y:Pn} (hV:0<V) (hs:Sep V g X X') (hy:GP V g Y) (hx:GP V h X) (hx':GP V h' X') :
  ∃α β:Int,Hf α β (sb X Y)∧Hf α β (sb X' Y)∧Hf α β (sb h g)∧Hf α β (sb h' g) :=by
 obtain ⟨α,β,q⟩ :=hs
 have box:∀ {p Z:Pn},GP V p Z→(0≤Z.1- (2*p.1- 1) *V∧Z.1- (2*p.1- 1) *V<2*V)∧0≤Z.2- (2*p.2- 1) *V∧Z.2- (2*p.2- 1) *V<2*V:=fun {p Z} h=>by
  have e1: (2*p.1- 1+2) *V= (2*p.1- 1) *V+2*V:=by grind
  have e2: (2*p.2- 1+2) *V= (2*p.2- 1) *V+2*V:=by grind
  obtain ⟨⟨h1,h2⟩,h3,h4⟩ :=h
  rw [e1] at h2
  rw [e2] at h4
  omega
 have by_:=box hy
 have bx:=box hx
 have bx':=box hx'
 have hc:∀p:Pn,0<α* ((2*p.1- 1) *V- (2*g.1- 1) *V) +β* ((2*p.2- 1) *V- (2*g.2- 1) *V)→Hf α β (sb p g) :=fun p k=>by
  have e:α* ((2*p.1- 1) *V- (2*g.1- 1) *V) +β* ((2*p.2- 1) *V- (2*g.2- 1) *V) = (2*V) * (α* (p.1- g.1) +β* (p.2- g.2)) :=by grind
  rw [e] at k
  have s:=kV (a:=2*V) (b:=α* (p.1- g.1) +β* (p.2- g.2)) rfl
  show 0<α* (p.1- g.1) +β* (p.2- g.2)
  omega
 refine⟨α,β,?_,?_,hc h ?_,hc h' ?_⟩
 ·have:=q X (.inl rfl) _ _ by_.1.1 by_.1.2 by_.2.1 by_.2.2
  simp only [Int.sub_sub_self,Hf,sb] at this⊢
  rw [show X.1- (2*g.1- 1) *V- (Y.1- (2*g.1- 1) *V) =X.1- Y.1 by omega,show X.2- (2*g.2- 1) *V- (Y.2- (2*g.2- 1) *V) =X.2- Y.2 by omega] at this
  exact this
 ·have:=q X' (.inr rfl) _ _ by_.1.1 by_.1.2 by_.2.1 by_.2.2
  simp only [Hf,sb] at this⊢
  rw [show X'.1- (2*g.1- 1) *V- (Y.1- (2*g.1- 1) *V) =X'.1- Y.1 by omega,show X'.2- (2*g.2- 1) *V- (Y.2- (2*g.2- 1) *V) =X'.2- Y.2 by omega] at this
  exact this
 ·have:=q X (.inl rfl) _ _ bx.1.1 bx.1.2 bx.2.1 bx.2.2
  rw [show X.1- (2*g.1- 1) *V- (X.1- (2*h.1- 1) *V) = (2*h.1- 1) *V- (2*g.1- 1) *V by omega,show X.2- (2*g.2- 1) *V- (X.2- (2*h.2- 1) *V) = (2*h.2- 1) *V- (2*g.2- 1) *V by omega] at this
  exact this
 ·have:=q X' (.inr rfl) _ _ bx'.1.1 bx'.1.2 bx'.2.1 bx'.2.2
  rw [show X'.1- (2*g.1- 1) *V- (X'.1- (2*h'.1- 1) *V) = (2*h'.1- 1) *V- (2*g.1- 1) *V by omega,show X'.2- (2*g.2- 1) *V- (X'.2- (2*h'.2- 1) *V) = (2*h'.2- 1) *V- (2*g.2- 1) *V by omega] at this
  exact this
theorem zQ {α β:Int} {P Q:Pn} (h:Hf α β (sb P Q)) :Hf (-α) (-β) (sb Q P) :=by
 unfold Hf sb at*
 have e: -α* (Q.1- P.1) + -β* (Q.2- P.2) =α* (P.1- Q.1) +β* (P.2- Q.2) :=by grind
 simp only
 rw [e]
 exact h
theorem Nv {V:Int} {h h' g g' X X' Y Y':Pn} (hV:0<V) (hx:GP V h X) (hx':GP V h' X') (hy:GP V g Y) (hy':GP V g' Y')
  (s1:Sep V g X X') (s2:Sep V g' X X') (s3:Sep V h Y Y') (s4:Sep V h' Y Y') :Z3 X X' Y Y'=Z3 h h' g g':=by
 obtain ⟨α1,β1,a1,a2,a3,a4⟩ :=X6 hV s1 hy hx hx'
 obtain ⟨α2,β2,b1,b2,b3,b4⟩ :=X6 hV s4 hx' hy hy'
 obtain ⟨α3,β3,c1,c2,c3,c4⟩ :=X6 hV s2 hy' hx hx'
 obtain ⟨α4,β4,d1,d2,d3,d4⟩ :=X6 hV s3 hx hy hy'
 have q1:=My a1 a2 a3 a4
 have q2:=My (zQ b1) (zQ b2) (zQ b3) (zQ b4)
 have q3:=My c2 c1 c4 c3
 have q4:=My (zQ d2) (zQ d1) (zQ d4) (zQ d3)
 unfold Z3
 omega
theorem DA {V:Int} {p q Z:Pn} (hV:0<V) (h:GP V p Z) (h':GP V q Z) :p=q:=by
 have key:∀ {m n z:Int},(2*n- 1) *V≤z→z< (2*m- 1+2) *V→¬m<n:=by
  intro m n z g1 g2 hmn
  have:=jij (show 2*m- 1+2≤2*n- 1 by omega) (show 0≤V by omega)
  omega
 have x1:=key h.1.1 h'.1.2
 have x2:=key h'.1.1 h.1.2
 have y1:=key h.2.1 h'.2.2
 have y2:=key h'.2.1 h.2.2
 exact Prod.ext Om Om
theorem jgP {X X' Y:Pn} (hne:X≠X') (h:uO X X' Y=true) :∃k j:Int,0<k∧0≤j∧j≤k∧k* (Y.1- X.1) =j* (X'.1- X.1)∧k* (Y.2- X.2) =j* (X'.2- X.2) :=by
 obtain ⟨ht,hx,hy⟩ :=KE.1 h
 have ht': (X'.1- X.1) * (Y.2- X.2) = (X'.2- X.2) * (Y.1- X.1) :=by simp only [tn,Q8] at ht;omega
 rcases ji1 X.1 X'.1 with c | c | c
 ·exact⟨X'.1- X.1,Y.1- X.1,by omega,by omega,by omega,by grind,by grind⟩
 ·rcases ji1 X.2 X'.2 with e | e | e
  ·exact⟨X'.2- X.2,Y.2- X.2,by omega,by omega,by omega,by grind,by grind⟩
  ·exact absurd (Prod.ext c e) hne
  ·exact⟨X.2- X'.2,X.2- Y.2,by omega,by omega,by omega,by grind,by grind⟩
 ·exact⟨X.1- X'.1,X.1- Y.1,by omega,by omega,by omega,by grind,by grind⟩
theorem Ml {a b g Y:Pn} {V u u':Int} (hV:0<V) (h1:u≤u') (hne:sc a b u V≠sc a b u' V) (hm:Mz a b g V u u') (hy:GP V g Y) :uO (sc a b u V) (sc a b u' V) Y≠true:=fun ho=>by
 obtain ⟨k,j,hk,h0,hj,e1,e2⟩ :=jgP hne ho
 have m1:=jiF h0 (show 0≤u'- u by omega)
 have m2:=jij hj (show 0≤u'- u by omega)
 refine hm (u*k+j* (u'- u)) (V*k) (jiU hV hk) ?_ ?_ ?_
 ·have e: (u*k+j* (u'- u)) *V=u* (V*k) +j* (u'- u) *V:=by grind
  have:=jiF m1 (show 0≤V by omega)
  omega
 ·have e: (u*k+j* (u'- u)) *V=u* (V*k) +j* (u'- u) *V:=by grind
  have e':u'* (V*k) =u* (V*k) +k* (u'- u) *V:=by grind
  have:=jij m2 (show 0≤V by omega)
  omega
 ·rw [Vd]
  have f1: (sc a b (u*k+j* (u'- u)) (V*k)).1=k*Y.1:=by
   have:k*Y.1=k* (sc a b u V).1+j* ((sc a b u' V).1- (sc a b u V).1) :=by grind
   rw [this]
   simp only [sc]
   grind
  have f2: (sc a b (u*k+j* (u'- u)) (V*k)).2=k*Y.2:=by
   have:k*Y.2=k* (sc a b u V).2+j* ((sc a b u' V).2- (sc a b u V).2) :=by grind
   rw [this]
   simp only [sc]
   grind
  unfold GP
  rw [f1,f2]
  obtain ⟨⟨g1,g2⟩,g3,g4⟩ :=hy
  have r:∀x:Int,x* (V*k) =k* (x*V) :=fun x=>by grind
  rw [r,r,r,r]
  exact⟨⟨jiT g1 Om,jj5 g2 hk⟩,jiT g3 Om,jj5 g4 hk⟩
theorem jcx {a b c d h h' g g':Pn} {V u u' w w':Int} (hV:0<V) (hu:0≤u∧u≤u'∧u'≤V) (hw:0≤w∧w≤w'∧w'≤V)
  (ih:wu a b h u V) (ih':wu a b h' u' V) (ig:wu c d g w V) (ig':wu c d g' w' V) (hne:h≠h') (hne':g≠g')
  (m1:Mz a b g V u u') (m2:Mz a b g' V u u') (m3:Mz c d h V w w') (m4:Mz c d h' V w w')
  (hs:qf (sc a b u V) (sc a b u' V) (sc c d w V) (sc c d w' V)≠true) :qf h h' g g'≠true:=fun hc=>by
 have nx:sc a b u V≠sc a b u' V:=fun e=>hne (DA hV (Vd.1 ih) (by rw [e];exact Vd.1 ih'))
 have ny:sc c d w V≠sc c d w' V:=fun e=>hne' (DA hV (Vd.1 ig) (by rw [e];exact Vd.1 ig'))
 refine SC hc ?_
 rw [←Nv hV (Vd.1 ih) (Vd.1 ih') (Vd.1 ig) (Vd.1 ig') (XD hV hu.1 hu.2.1 hu.2.2 m1) (XD hV hu.1 hu.2.1 hu.2.2 m2) (XD hV hw.1 hw.2.1 hw.2.2 m3) (XD hV hw.1 hw.2.1 hw.2.2 m4)]
 exact EO ⟨nx,ny,Ml hV hu.2.1 nx m1 (Vd.1 ig),Ml hV hu.2.1 nx m2 (Vd.1 ig'),Ml hV hw.2.1 ny m3 (Vd.1 ih),Ml hV hw.2.1 ny m4 (Vd.1 ih')⟩ hs
end Go.Proofs.YtpncbbcmoiiipaaGreat
namespace Go.Proofs.YtpncbbcmoiiipaaGreat
open Go Go.RowKit
set_option maxRecDepth 100000
set_option maxHeartbeats 4000000
theorem jeJ {xs ys:List Pn} (hl:xs.length=ys.length) (h:∀j,j<xs.length→pt xs j=pt ys j) :xs=ys:=by
 apply jjz hl
 intro i h1 h2
 rw [Kk h1,Kk h2]
 exact h i h1
theorem C9 (A B:Option Addr) (n m c d:Nat) (xs ys:List Pn) (w:World) (h:Pts w A n xs) (h':Pts w B m ys) (hn: (n:Int)≤9223372036854775807) :
  Calls Tryz.prog 154 #[.slice A n c, .slice B m d] w fun e w'=>e= .returned (.bool (decide (xs=ys)))∧Over w w':=by
 have hl:=h.1
 have hl':=h'.1
 refine Jh (m:=26) (Tryz.func154) J J (lb J) ?_;refine S13 ?_;refine cZ (fun c1=> ?_) (fun c1=> ?_)
 ·refine S6 ?_;refine jM J (.tmp J) ?_
  intro w' hs
  exact⟨QH (decide_eq_false (fun e=>by subst e;omega)).symm,hs.fin⟩
 ·have hnm:n=m:=Om
  subst hnm
  refine S10 ?_;refine qz (X:=Nat) (fun k=>k≤n∧∀j,j<k→pt xs j=pt ys j) (fun k=>n- k) (fun k=> [(13, .int .i64 (k:Int))]) (kK [0,1,4,12]) 0 (⟨jii _,fun j hj=>absurd hj Om⟩) ⟨J,sz⟩ ?_
  intro k hk L hL1
  refine v9 ?_
  obtain ⟨hk1,hk2⟩ :=hk
  refine S5 ?_;refine cZ (fun c2=> ?_) (fun c2=> ?_)
  ·have hlt:k<n:=Om
   obtain ⟨eb,eo,rfl,_⟩ :=h.2 Om
   obtain ⟨fb,fo,rfl,_⟩ :=h'.2 Om
   refine S11 ?_;refine JS 9 ?_;refine dK 0 ?_;refine dK 1 ?_;refine dK 2 ?_;refine dZ 3 J (jk J J jj J (wL (b:=eb) (o:=eo) h hlt)) ?_;refine dK 4 ?_;refine dK 5 ?_;refine dK 6 ?_;refine dZ 7 J (jk J J jj J (wL (b:=fb) (o:=fo) h' hlt)) ?_;refine dK 8 ?_;refine JK Kr ?_;refine S1 ?_;refine cZ (fun c3=> ?_) (fun c3=> ?_)
   ·refine S10 ?_;refine jM J (.tmp J) ?_
    intro w' hs
    exact⟨QH (decide_eq_false (fun e=>by subst e;simp at c3)).symm,hs.fin⟩
   ·have he:pt xs k=pt ys k:= (by simp at c3;exact Prod.ext c3.1 c3.2)
    refine S7 ?_
    exact qi hL1 (k+1) (⟨by omega,fun j hj=>by by_cases hjk:j=k;rw [hjk];exact he;exact hk2 j Om⟩) Om ⟨vi Om,sz⟩ (u9 rfl)
  ·refine S10 ?_;refine jM J (.tmp J) ?_
   intro w' hs
   exact⟨QH (decide_eq_true (jeJ Om fun j hj=>hk2 j Om)).symm,hs.fin⟩
theorem Iv (A B:Option Addr) (n m c d:Nat) (xs ys:List Pn) (w:World) (h:Pts w A n xs) (h':Pts w B m ys) (hn: (n:Int)≤9223372036854775807) :
  Calls Tryz.prog 153 #[Tf A n c,Tf B m d] w fun e w'=>e= .returned (.bool (decide (xs=ys)))∧Over w w':=by
 refine Jh (m:=10) (Tryz.func153) J J (lb J) ?_;refine S3 ?_;refine aX (fun b1=> ?_);refine N1 ?_;refine aX (fun b2=> ?_);refine N8 ?_;refine a9 (jT Wg J J (fun w1 hs=>C9 A B n m c d xs ys w1 (h.over hs.fin) (h'.over hs.fin) hn)) ?_;refine S3 ?_;refine jM J (.tmp J) ?_
 intro w' hs
 exact⟨rfl,hs.fin⟩
theorem Bz (A B:Option Addr) (n m c d:Nat) (rs ss:List jV) (w:World) (h:Rings w A n rs) (h':Rings w B m ss) (hn: (n:Int)≤9223372036854775807) :
  Calls Tryz.prog 152 #[.slice A n c, .slice B m d, .func (.func 153) #[] #[]] w fun e w'=>e= .returned (.bool (decide (rs=ss)))∧Over w w':=by
 have hl:=h.1
 have hl':=h'.1
 refine Jh (m:=32) (Tryz.func152) J J (lb J) ?_;refine S13 ?_;refine cZ (fun c1=> ?_) (fun c1=> ?_)
 ·refine S6 ?_;refine jM J (.tmp J) ?_
  intro w' hs
  exact⟨QH (decide_eq_false (fun e=>by subst e;omega)).symm,hs.fin⟩
 ·have hnm:n=m:=Om
  subst hnm
  refine S10 ?_;refine qz (X:=Nat) (fun k=>k≤n∧∀j,j<k→rg rs j=rg ss j) (fun k=>n- k) (fun k=> [(17, .int .i64 (k:Int))]) (kK [1,2,6,15,16]) 0 (⟨jii _,fun j hj=>absurd hj Om⟩) ⟨J,sz⟩ ?_
  intro k hk L hL1
  refine v9 ?_
  obtain ⟨hk1,hk2⟩ :=hk
  refine S5 ?_;refine cZ (fun c2=> ?_) (fun c2=> ?_)
  ·have hlt:k<n:=Om
   obtain ⟨eb,eo,Ak,ck,rfl,hbB,hcell,hpts,hmax⟩ :=h.at_ hlt
   obtain ⟨fb,fo,Bk,dk,rfl,hbB2,hcell2,hpts2,hmax2⟩ :=h'.at_ hlt
   refine S8 ?_;refine a9 (jk J J JM J (OO hcell hbB)) ?_;refine S1 ?_;refine aL (fun b1=> ?_);refine N9 ?_;refine a9 (jk J J JM J (OO hcell2 hbB2)) ?_;refine S1 ?_;refine aL (fun b2=> ?_);refine N8 ?_;refine a9 (Vw zY J J J (fun w1 hs=>Iv Ak Bk _ _ ck dk (rg rs k) (rg ss k) w1 (hpts.over hs.fin) (hpts2.over hs.fin) hmax)) ?_;refine S2 ?_;refine cZ (fun c3=> ?_) (fun c3=> ?_)
   ·refine S10 ?_;refine jM J (.tmp J) ?_
    intro w' hs
    exact⟨QH (decide_eq_false (fun e=>by subst e;simp at c3)).symm,hs.fin⟩
   ·have he:rg rs k=rg ss k:= (by simpa using c3)
    refine S7 ?_
    exact qi hL1 (k+1) (⟨by omega,fun j hj=>by by_cases hjk:j=k;rw [hjk];exact he;exact hk2 j Om⟩) Om ⟨vi Om,sz⟩ (u9 rfl)
  ·refine S10 ?_;refine jM J (.tmp J) ?_
   intro w' hs
   exact⟨QH (decide_eq_true (jg1 Om fun j hj=>hk2 j Om)).symm,hs.fin⟩
theorem zo (A B:Option Addr) (n m c d:Nat) (rs ss:List jV) (w:World) (h:Rings w A n rs) (h':Rings w B m ss) (hn: (n:Int)≤9223372036854775807) :
  Calls Tryz.prog 96 #[qT A n c,qT B m d] w fun e w'=>e= .returned (.bool (decide (rs=ss)))∧Over w w':=by
 refine Jh (m:=10) (Tryz.func96) J J (lb J) ?_;refine S3 ?_;refine aX (fun b1=> ?_);refine N1 ?_;refine aX (fun b2=> ?_);refine N8 ?_;refine a9 (jT kt J J (fun w1 hs=>Bz A B n m c d rs ss w1 (h.over hs.fin) (h'.over hs.fin) hn)) ?_;refine S3 ?_;refine jM J (.tmp J) ?_
 intro w' hs
 exact⟨rfl,hs.fin⟩
theorem Cl {w:World} {l:List Pc} (h: (vE l).P w) {e:Pc} (he:e∈l) :Pts w e.A e.xs.length e.xs:=by
 have h1:= (h.1 e.res (jip.2 ⟨e,he,rfl⟩)).1
 exact(jcU h1).pts
theorem Hw {w:World} {B T n:Nat} {l:List Pc} {x:Option Addr×Nat} (hr: (JY B T 1 n (l.map Pc.val) x).P w) (hP: (vE l).P w) (hl:l.length=n) (hs:∀e∈l,e.xs.length≤1099511627776) :Rings w x.1 n (l.map (·.xs)) :=by
 have hrow:w.ownsRow B T 1 (.slice x.1 n x.2) n (l.map Pc.val) :=hr
 refine⟨by rw [jit,hl],fun h0=> ?_⟩
 rcases hrow.2 with⟨_,e⟩ |⟨g,cap,cur,e,hb,hg,_⟩
 ·omega
 ·injection e with e1 e2 e3
  refine⟨g,0,e1,J3 hg,fun k hk=> ?_⟩
  have hkl:k<l.length:=by omega
  have hm:=jis hkl
  rw [YG hkl]
  refine⟨l[k].A,l[k].c,?_,Cl hP hm,by have:=hs _ hm;omega⟩
  have:=hrow.cells (g:=g) (by show Value.ownBlock (.slice x.1 n x.2) =some g;rw [e1];rfl) k l[k].val (by rw [List.getElem?_map,List.getElem?_eq_getElem hkl];rfl)
  rw [Q1] at this
  exact this
abbrev jaL:=Bool×(Option Addr×Nat)×List Pc
def uV (w:World) (n:Nat) (rs:List jV) (x:jaL) :Res:=
 if x.1=true then {F:=fun _=>False,P:=fun _=>Rings w x.2.1.1 n rs,low:=fun _ _ _ h=>h.elim,B:=0,dep:=fun _ _ h _ _=>h} else JY (Bs.N ⟨w,[]⟩) 77 1 n (x.2.2.map Pc.val) x.2.1
def ym (x:jaL) :Res:=
 if x.1=true then {F:=fun _=>False,P:=fun _=>True,low:=fun _ _ _ h=>h.elim,B:=0,dep:=fun _ _ h _ _=>h} else vE x.2.2
theorem jdW {w:World} {m:Nat} {env:List (Nat×Value)} {Rs:List Res} {K:Act→World→Prop} {A:Option Addr} {n c:Nat} {rs:List jV} (h0:Rings w A n rs) (h:At m env ⟨w,[]⟩ (Rs++ [uV w n rs (true,(A,c),[])] ++ [ym (true,(A,c),[])]) K) :At m env ⟨w,[]⟩ Rs K:=
 fun a w1 hf hs=>h a w1 hf ((hs.add (r:=uV w n rs (true,(A,c),[])) (Over.refl _) (show Rings w A n rs from h0) (fun b hb=> (show False from hb).elim) ⟨jii _,fun _ _=>jii _⟩).add (r:=ym (true,(A,c),[])) (Over.refl _) (show True from trivial) (fun b hb=> (show False from hb).elim) ⟨jii _,fun _ _=>jii _⟩)
theorem Ey {w w':World} {n:Nat} {rs:List jV} {x:jaL} (hr: (uV w n rs x).P w') (hp: (ym x).P w') (hO:Over w w') (hx:x.1=false→x.2.2.map (·.xs) =rs) (hn:rs.length=n) (hsm:∀r∈rs,r.length≤1099511627776) :Rings w' x.2.1.1 n rs:=by
 unfold uV at hr
 unfold ym at hp
 by_cases hf:x.1=true
 ·rw [if_pos hf] at hr
  exact(show Rings w x.2.1.1 n rs from hr).over hO
 ·rw [if_neg hf] at hr hp
  have e:=hx (by simpa using hf)
  have hll:x.2.2.length=n:=by have:=congrArg List.length e;rw [jit] at this;omega
  have:=Hw hr hp hll (fun d hd=>hsm d.xs (e▸jip.2 ⟨d,hd,rfl⟩))
  rwa [e] at this
theorem jgn {w w1:World} {n k:Nat} {rs:List jV} {x:jaL} (hr: (uV w n rs x).P w1) (hp: (ym x).P w1) (hx:x.1=false→x.2.2.map (·.xs) =rs) (hn:rs.length=n) (hk:k<n) :
  ∃bb oo,x.2.1.1=some ⟨bb,oo,none⟩∧∃Ak ck,∀w',(uV w n rs x).P w'→(ym x).P w'→Over w w'→w'.cell? ⟨bb,oo+k,none⟩ =some (.slice Ak (rg rs k).length ck)∧Pts w' Ak (rg rs k).length (rg rs k) :=by
 by_cases hf:x.1=true
 ·have hR:Rings w x.2.1.1 n rs:=by unfold uV at hr;rw [if_pos hf] at hr;exact hr
  obtain ⟨bb,oo,Ak,ck,e,hbB,hcell,hpts,_⟩ :=hR.at_ hk
  exact⟨bb,oo,e,Ak,ck,fun w' _ _ hO=>⟨((Jy hO).1 bb _ hbB).trans hcell,hpts.over hO⟩⟩
 ·have e:=hx (by simpa using hf)
  have hll:x.2.2.length=n:=by have:=congrArg List.length e;rw [jit] at this;omega
  have hkl:k<x.2.2.length:=by omega
  have hrow:w1.ownsRow (Bs.N ⟨w,[]⟩) 77 1 (.slice x.2.1.1 n x.2.1.2) n (x.2.2.map Pc.val) :=by unfold uV at hr;rw [if_neg hf] at hr;exact hr
  rcases hrow.2 with⟨_,e0⟩ |⟨g,cap,cur,e0,hb,hg,_⟩
  ·omega
  ·injection e0 with e1 e2 e3
   have hrg:rg rs k=x.2.2[k].xs:=by rw [←e,YG hkl]
   refine⟨g,0,e1,x.2.2[k].A,x.2.2[k].c,fun w' hr' hp' _=> ?_⟩
   have hrow':w'.ownsRow (Bs.N ⟨w,[]⟩) 77 1 (.slice x.2.1.1 n x.2.1.2) n (x.2.2.map Pc.val) :=by unfold uV at hr';rw [if_neg hf] at hr';exact hr'
   have hP': (vE x.2.2).P w':=by unfold ym at hp';rw [if_neg hf] at hp';exact hp'
   rw [hrg]
   refine⟨?_,Cl hP' (jis hkl)⟩
   have:=hrow'.cells (g:=g) (by show Value.ownBlock (.slice x.2.1.1 n x.2.1.2) =some g;rw [e1];rfl) k x.2.2[k].val (by rw [List.getElem?_map,List.getElem?_eq_getElem hkl];rfl)
   rw [Q1] at this
   exact this
theorem jhK {w0:Bs} {Rs:List Res} {b o k:Nat} {v:Value} (h:∀w',St w0 Rs w'→w'.cell? ⟨b,o+k,none⟩ =some v) :∀w',St w0 Rs w'→∀q u,[v][q]? =some u→w'.cell? ⟨b,o+k*1+q,none⟩ =some u:=fun w' hs q u hq=>by
 match q,hq with
 | 0,hq=>simp at hq;subst hq;rw [jjf,jj2];exact h w' hs
theorem Zj (A:Option Addr) (n c:Nat) (rs:List jV) (B:Option Addr) (m d:Nat) (hot:List Pn) (w:World) (h:Rings w A n rs) (hr:JE rs=true)
  (hh:Pts w B m hot) (hm:m≤1048576) (hmd:m≤d) (hok:∀p∈hot,wR p.1 p.2=true) (hasc:Asc hot) (hnd:hot.Nodup) (hG:bareG hot rs) :
  Calls Tryz.prog 108 #[qT A n c, .slice B m d] w fun e w'=>∃A' c',e= .returned (.tuple #[qT A' (IK hot rs).length c', .int .i64 (CV hot rs), .int .i64 (if L6 hot rs=true then 0 else 5)])∧((A'=A∧c'=c∧IK hot rs=rs)∨OwnG w.heap.size w'.heap.size w' A' (IK hot rs).length (IK hot rs))∧Over w w':=by
 have hl:=h.1
 subst hl
 have hhl:=hh.1
 refine Jh (m:=63) (Tryz.func108) J J (lb J) ?_;refine S3 ?_;refine aX (fun b1=> ?_);refine N1 ?_;refine aL (fun b2=> ?_);refine N7 ?_;refine jdW (c:=c) h ?_;refine t9 ?_;refine S1 ?_;refine JQ (X:=Nat×List jV×jaL) (fun x=>StabI hot rs x.2.1 x.1∧(x.2.2.1=false→x.2.2.2.2.map (·.xs) =x.2.1)∧(x.2.2.1=true→x.2.1=rs∧x.2.2.2.1= (A,c))) (fun x=>401- cnt x.2.1) (fun x=> [(7, .int .i64 (x.1:Int))]) (kK [1,2,4,5,6]) (fun x=> [.cel b1 26 [.slice x.2.2.2.1.1 x.2.1.length x.2.2.2.1.2], .cel b2 26 [.slice none 0 0],uV w x.2.1.length x.2.1 x.2.2,ym x.2.2]) (0,rs,true,(A,c),[]) (⟨StabI.start hr hG,(fun e=>by cases e),fun _=>⟨rfl,rfl⟩⟩) ⟨rfl,sz⟩ (fun _ h=>h) ?_
 intro⟨r,ss,fl,⟨cA,cc⟩,cl⟩ hx L hL1
 refine v9 ?_;refine r9 ?_
 obtain ⟨hx1,hx2,hx3⟩ :StabI hot rs ss r∧(fl=false→cl.map (·.xs) =ss)∧(fl=true→ss=rs∧(cA,cc) = (A,c)) :=hx
 have hr400:=hx1.r_le
 have hs40:=WR hx1.reg
 have hsm:∀q∈ss,q.length≤1099511627776:= (fun q hq=>by obtain ⟨i,hi,e⟩ :=ji0 hq;have:=Qf (Km hx1.reg hi);rw [Wa hi] at e;rw [e] at this;omega)
 refine S5 ?_;refine aL (fun b3=> ?_);refine N1 ?_;refine Q7 (T:=77) (s:=1) ?_;refine t9 ?_;refine Vq ?_;refine t9 ?_;refine S9 ?_;refine JQ (X:=Nat×(Option Addr×Nat)×List Pc) (fun y=>y.1≤ss.length∧y.2.2.map (·.xs) = (qR hot ss).take y.1) (fun y=>ss.length- y.1) (fun y=> [(20, .int .i64 (y.1:Int))]) (kK [1,2,4,5,6,7,8,17,18,19]) (fun y=> [.cel b1 26 [.slice cA ss.length cc], .cel b2 26 [.slice none 0 0],uV w ss.length ss (fl,(cA,cc),cl),ym (fl,(cA,cc),cl), .cel b3 26 [.slice y.2.1.1 y.1 y.2.1.2],JY (Bs.N ⟨w,[]⟩) 77 1 y.1 (y.2.2.map Pc.val) y.2.1,vE y.2.2]) (0,(none,0),[]) (⟨jii _,J⟩) ⟨J,sz⟩ (fun _ h=>h) ?_
 intro⟨k,⟨rA,rc⟩,l⟩ hy L hL2
 refine v9 ?_;refine r9 ?_
 obtain ⟨hk,hmp⟩ :k≤ss.length∧l.map (·.xs) = (qR hot ss).take k:=hy
 have hlk:l.length=k:= (by have:=congrArg List.length hmp;rw [jit,jiy,vW] at this;omega)
 refine S5 ?_;refine cZ (fun c1=> ?_) (fun c1=> ?_)
 ·have hlt:k<ss.length:=Om
  refine ky (fun w1 hs=>jgn (hs.all 2 _ J).1 (hs.all 3 _ J).1 hx2 J hlt) ?_
  rintro⟨eb,eo,eA0,Ak,ck,hread⟩
  have eA1:cA=some ⟨eb,eo,none⟩ :=eA0
  subst eA1
  have hpos:=Qf (Km hx1.reg hlt)
  obtain ⟨ho1,ho2,ho3⟩ :=hx1.bare.on hlt
  have hsl:=ZM (hot:=hot) (xs:=rg ss k) Om Om
  obtain ⟨E,hEe⟩ :∃E,E=J0 (rg ss k) :=⟨_,rfl⟩
  have hEl:E.length≤400:= (by rw [hEe];omega)
  refine S7 ?_;refine a9 (jk J J JM J (jhK (fun w' hs=> (hread w' (hs.all 2 _ J).1 (hs.all 3 _ J).1 hs.fin).1))) ?_;refine S1 ?_;refine aL (fun b4=> ?_);refine N6 ?_;refine Q7 (T:=56) (s:=2) ?_;refine N6 ?_;refine J4 Ug (v:=fun x:Option Addr×Nat=> .slice x.1 (J0 (rg ss k)).length x.2) (r:=fun x=>JY 0 131 4 _ _ x) (H:=fun _=>True) J J J (lb J) (fun w1 hs=>Qh (uW Ak _ ck (rg ss k) w1 (hread w1 (hs.all 2 _ J).1 (hs.all 3 _ J).1 hs.fin).2 Om)) ?_
  rintro⟨eA,ec⟩ -
  refine N3 ?_
  rw [←hEe]
  refine S1 ?_;refine JQ (X:=Nat×Option Addr×Nat) (fun z=>z.1≤E.length) (fun z=>E.length- z.1) (fun z=> [(11, .slice z.2.1 (UW hot E z.1).length z.2.2),(27, .int .i64 (z.1:Int))]) (kK [1,2,4,5,6,7,8,17,18,19,20,21,22,23,10,24,25,26]) (fun z=> [.cel b1 26 [.slice (some ⟨eb,eo,none⟩) ss.length cc], .cel b2 26 [.slice none 0 0],uV w ss.length ss (fl,(some ⟨eb,eo,none⟩,cc),cl),ym (fl,(some ⟨eb,eo,none⟩,cc),cl), .cel b3 26 [.slice rA k rc],JY (Bs.N ⟨w,[]⟩) 77 1 k (l.map Pc.val) (rA,rc),vE l, .cel b4 77 [.slice Ak (rg ss k).length ck],JY (Bs.N ⟨w,[]⟩) 56 2 (UW hot E z.1).length ((UW hot E z.1).flatMap Js) z.2,JY 0 131 4 E.length (E.flatMap jZ) (eA,ec)]) (0,none,0) (jii _) ⟨J,sz⟩ (fun _ h=>h) ?_
  intro⟨j,qA,qc⟩ hz L hL3
  refine v9 ?_;refine r9 ?_
  have hj:j≤E.length:=hz
  have hsn:=X9 (hot:=hot) (E:=E) (m:=1048576) Om j hj
  refine S5 ?_;refine cZ (fun c2=> ?_) (fun c2=> ?_)
  ·have hjl:j<E.length:=Om
   obtain ⟨g1',g2',g3'⟩ := (hEe▸ho1:onHot hot E).at_ hjl
   obtain ⟨mid,hmid⟩ :=ZH g1' g2' g3'
   have hpl:0< (qD (lA (lg E j)) (lB (lg E j)) hot).length:= (by rw [hmid];simp)
   have hpm: (qD (lA (lg E j)) (lB (lg E j)) hot).length≤1048576:= (by rw [wK];have:=Gg (lA (lg E j)) (lB (lg E j)) hot;omega)
   refine ky (fun w hs=>VJ (k:=9) J hs Om) ?_
   rintro⟨eg,rfl⟩
   refine S7 ?_;refine a9 (jk J J qG J (ya (b:=eg) (o:=0) (JC (k:=9) (x:= (some ⟨eg,0,none⟩,ec)) (ls:=E) J J) hjl)) ?_;refine S1 ?_;refine aL (fun b5=> ?_);refine N1 ?_;refine j9 10 qn.szx ?_;refine N4 ?_;refine a9 (jk J J jj J (Yg (k:=10) J J J)) ?_;refine S1 ?_;refine a9 (jk J J jj J (Yg (k:=10) J J J)) ?_;refine S2 ?_;refine J4 G2 (v:=fun x:Option Addr×Nat=> .slice x.1 (qD (lA (lg E j)) (lB (lg E j)) hot).length x.2) (r:=fun x=>JY 0 56 2 (qD (lA (lg E j)) (lB (lg E j)) hot).length ((qD (lA (lg E j)) (lB (lg E j)) hot).flatMap Js) x) (H:=fun _=>True) J J J (lb J) (fun w1 hs=>Qh (ID (lA (lg E j)) (lB (lg E j)) B m d hot w1 (hh.over hs.fin) (hok _ g2') (hok _ g3') hok hasc hmd hm)) ?_
   rintro⟨pA,pc⟩ -
   refine N2 ?_;refine ky (fun w hs=>VJ (k:=11) J hs hpl) ?_
   rintro⟨pg,rfl⟩
   refine ky (fun w hs=>uZ (hs.all 11 _ J).1) ?_
   intro hcap
   have hst:UW hot E (j+1) =UW hot E j++ (qD (lA (lg E j)) (lB (lg E j)) hot).take ((qD (lA (lg E j)) (lB (lg E j)) hot).length- 1) := (by rw [HA hjl];unfold Qs;rw [List.dropLast_eq_take])
   have hstl: (UW hot E (j+1)).length= (UW hot E j).length+ ((qD (lA (lg E j)) (lB (lg E j)) hot).length- 1) := (by rw [hst,jif,jiy];omega)
   refine S5 ?_;refine a9 ((JJ J J J Om Om).as (congrArg _ (show(((qD (lA (lg E j)) (lB (lg E j)) hot).length:Int) - 1) = (((qD (lA (lg E j)) (lB (lg E j)) hot).length- 1:Nat) :Int) by omega))) ?_;refine a9 ((Kl J J J jw Om).as (WT _ _ _ _ _)) ?_;refine S1 ?_;refine JV (k:=8) J jw jH Dc J Dc J J J (fun w' hs=>IG (uu (hs.all 11 _ J).1 J) Om) (Ww _) (by unfold maxLen;omega) Om (jih _) (fun r1=> ?_);refine N8 ?_
   exact Ji hL3 ((j+1,r1)) ((show j+1≤E.length by omega)) (by simp only;omega) ⟨(by rw [hstl];rfl),vi Om,sz⟩ (fun _ h=> (h.picks [0,1,2,3,4,5,6,7,8,9] Dc).upto ⟨J,J,J,J,J,J,J,J,by rw [hstl,hst,jio],sz⟩)
  ·have hjE:j=E.length:=Om
   subst hjE
   rw [show UW hot E E.length=kU hot (rg ss k) by rw [OZ,hEe]]
   refine S9 ?_;refine a9 (JU J J (Vs J)) ?_;refine S1 ?_;refine Jx J J (qH J) J (lb J) (fun b6=> ?_);refine N1 ?_;refine JV (k:=5) J jK Jw Dc J Dc J J J (fun w' hs=>Qb hs (k:=10) J J) (by simp [Value.oneCell']) (by unfold maxLen;omega) Om (jih _) (fun r2=> ?_);refine N4 ?_;refine ZY 8 J J (fun clo chi=> ?_);refine t9 ?_;refine wN 6 8 J J Dc J ?_;refine t9 ?_;refine S6 ?_
   exact Ji hL2 ((k+1,r2,l++ [⟨kU hot (rg ss k),qA,qc,clo,chi⟩])) (⟨show k+1≤ss.length by omega,by rw [jiO,hmp,wl (by rw [vW];omega),OS hlt];rfl⟩) (by simp only;omega) ⟨vi Om,sz⟩ (fun _ h=> (h.picks [0,1,2,3,4,5,6] Dc).upto ⟨J,J,J,J,J,by rw [jiO];rfl,(vT _ _).symm,trivial⟩)
 ·have hkn:k=ss.length:=Om
  subst hkn
  have hall:l.map (·.xs) =qR hot ss:= (by rw [hmp,jiK (by rw [vW];omega)])
  have hsml:∀e∈l,e.xs.length≤1099511627776:= (fun e he=>by obtain ⟨q,hq,e2⟩ :=jip.1 (hall▸jip.2 ⟨e,he,rfl⟩ :e.xs∈qR hot ss);rw [←e2];obtain ⟨i,hi,e3⟩ :=ji0 hq;have:=Qf (Km hx1.reg hi);rw [Wa hi] at e3;rw [e3] at this;have:=ZM (hot:=hot) (xs:=q) Om Om;omega)
  refine S10 ?_;refine a9 (jT UI J J (fun w1 hs=>zo rA cA ss.length ss.length rc cc (qR hot ss) ss w1 (hall▸Hw (hs.all 5 _ J).1 (hs.all 6 _ J).1 hlk hsml) (Ey (hs.all 2 _ J).1 (hs.all 3 _ J).1 hs.fin hx2 J hsm) Om)) ?_;refine S1 ?_;refine cZ (fun c3=> ?_) (fun c3=> ?_)
  ·have hsame:qR hot ss=ss:= (by simpa using c3)
   refine S15 ?_;refine L9 J (qh (k:=1) J jG J J) (.tmp J) (.tmp J) ?_
   intro w' hs
   obtain ⟨e1,e2,e3⟩ :=wW (hx1.fin hsame)
   refine⟨cA,cc,by rw [e1,e2,e3];rfl,?_,hs.fin⟩
   rw [e1]
   cases fl
   ·exact .inr (yZ hs (kr:=2) (kp:=3) rfl rfl Dc rfl (by have:=congrArg List.length (hx2 rfl);rw [jit] at this;omega) (hx2 rfl) (fun j hj=>by have:=hsm _ (jis hj);rw [Wa hj] at this;omega))
   ·exact(by obtain ⟨q1,q2⟩ :=hx3 rfl;injection q2 with q2 q3;exact .inl ⟨q2,q3,q1⟩)
  ·refine S6 ?_;refine a9 (jT vG J J (fun w1 hs=>wM rA ss.length rc (qR hot ss) w1 (hall▸Hw (hs.all 5 _ J).1 (hs.all 6 _ J).1 hlk hsml) Om)) ?_;refine S2 ?_;refine cZ (fun c4=> ?_) (fun c4=> ?_)
   ·refine S2 ?_;refine a9 (JU J J (qg)) ?_;refine S11 ?_;refine L9 J (qh (k:=1) J jG J J) (.tmp J) (.tmp J) ?_
    intro w' hs
    obtain ⟨e1,e2,e3⟩ :=IL (hx1.full c4)
    exact⟨none,0,by rw [e1,e2,e3];rfl,by rw [e1];exact .inr (OwnG.nil none),hs.fin⟩
   ·obtain ⟨k1,k2⟩ :=hx1.step hnd c4 (by simpa using c3)
    have hc4:=Is k1.reg k1.bare
    refine S14 ?_
    exact Ji hL1 ((r+1,qR hot ss,false,(rA,rc),l)) (⟨k1,(fun _=>hall),(fun e=>by cases e)⟩) (by simp only;omega) ⟨vi Om,sz⟩ (fun _ h=> (h.picks [0,1,5,6] Dc).upto ⟨by rw [vW],rfl,by rw [vW];rfl,sz⟩)
end Go.Proofs.YtpncbbcmoiiipaaGreat
