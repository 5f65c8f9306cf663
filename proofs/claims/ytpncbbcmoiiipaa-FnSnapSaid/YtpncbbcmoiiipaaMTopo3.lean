import Derived.Test.YtpncbbcmoiiipaaMTopo2
import Derived.Test.YtpncbbcmoiiipaaMSnapG
set_option linter.unusedVariables false
set_option linter.unusedSimpArgs false
namespace Go.Proofs.Ytpncbbcmoiiipaa
open Go Go.RowKit
def Frag (hot:List Pn) (a b h h':Pn) :Prop:=∃V u u':Int,0<V∧(0≤u∧u≤u'∧u'≤V)∧kF a b h u V∧kF a b h' u' V∧∀k∈hot,k≠h→k≠h'→Uv a b k V u u'
theorem Zu {f d lo u v m:Int} (hm:0<m) :wo f d lo (u*m) (v*m)↔wo f d lo u v:=by
 have e1:lo* (v*m) =lo*v*m:=by grind
 have e2:f* (v*m) +u*m*d= (f*v+u*d) *m:=by grind
 have e3: (lo+2) * (v*m) = (lo+2) *v*m:=by grind
 unfold wo
 rw [e1,e2,e3]
 constructor
 ·rintro⟨h1,h2⟩;exact⟨Fa h1 hm,Fj h2 Om⟩
 ·rintro⟨h1,h2⟩;exact⟨DJ h1 Om,D4 h2 hm⟩
theorem vY {a b p:Pn} {u v m:Int} (hm:0<m) :kF a b p (u*m) (v*m)↔kF a b p u v:=by
 unfold kF
 rw [Zu hm,Zu hm]
theorem xx {a b k:Pn} {V u u' m:Int} (hm:0<m) (h:Uv a b k V u u') :Uv a b k (V*m) (u*m) (u'*m) :=fun t v hv h1 h2=>by
 refine h t v hv ?_ ?_
 ·have e1:u*m*v=u*v*m:=by grind
  have e2:t* (V*m) =t*V*m:=by grind
  rw [e1,e2] at h1
  exact Fa h1 hm
 ·have e1:u'*m*v=u'*v*m:=by grind
  have e2:t* (V*m) =t*V*m:=by grind
  rw [e1,e2] at h2
  exact Fa h2 hm
theorem Frag.scale {hot:List Pn} {a b h h':Pn} {V u u' m:Int} (hm:0<m) (hV:0<V) (hu:0≤u∧u≤u'∧u'≤V) (h1:kF a b h u V) (h2:kF a b h' u' V) (h3:∀k∈hot,k≠h→k≠h'→Uv a b k V u u') :
  0<V*m∧(0≤u*m∧u*m≤u'*m∧u'*m≤V*m)∧kF a b h (u*m) (V*m)∧kF a b h' (u'*m) (V*m)∧∀k∈hot,k≠h→k≠h'→Uv a b k (V*m) (u*m) (u'*m) :=
 ⟨Fr hV hm,⟨DU hu.1 Om,DJ hu.2.1 Om,DJ hu.2.2 Om⟩,(vY hm).2 h1,(vY hm).2 h2,fun k a1 a2 a3=>xx hm (h3 k a1 a2 a3)⟩
theorem XS (a b c d:Pn) (V w w' t:Int) :tn (sc c d w V) (sc c d w' V) (sc a b t V) =4* (w'- w) * (V*tn c d a+t* (tn c d b- tn c d a)) :=by
 simp only [sc,tn,QX]
 grind
theorem Lf {A B V u u' D p q:Int} (hu:0≤u∧u≤u'∧u'≤V) (hD:0≤D) (hp:p=D* (V*A+u* (B- A))) (hq:q=D* (V*A+u'* (B- A))) (h: (p<0∧0<q)∨(0<p∧q<0)) : (A<0∧0<B)∨(0<A∧B<0) :=by
 have e1:V*A+u* (B- A) = (V- u) *A+u*B:=by grind
 have e2:V*A+u'* (B- A) = (V- u') *A+u'*B:=by grind
 rw [e1] at hp
 rw [e2] at hq
 have s1:=QO hp
 have s2:=QO hq
 have k:¬(0≤A∧0≤B) :=fun ⟨g1,g2⟩ =>by
  have m1:=DU (show 0≤V- u by omega) g1
  have m2:=DU hu.1 g2
  have m3:=DU (show 0≤V- u' by omega) g1
  have m4:=DU (show 0≤u' by omega) g2
  omega
 have k':¬(A≤0∧B≤0) :=fun ⟨g1,g2⟩ =>by
  have m1:=FT (show 0≤V- u by omega) g1
  have m2:=FT hu.1 g2
  have m3:=FT (show 0≤V- u' by omega) g1
  have m4:=FT (show 0≤u' by omega) g2
  omega
 omega
theorem xW {a b c d:Pn} {V u u' w w':Int} (hV:0<V) (hu:0≤u∧u≤u'∧u'≤V) (hw:0≤w∧w≤w'∧w'≤V) (hs:J4 (sc a b u V) (sc a b u' V) (sc c d w V) (sc c d w' V) =true) :
  J4 a b c d=true∧∃t t' v:Int,0<v∧(u*v≤t*V∧t*V≤u'*v)∧(w*v≤t'*V∧t'*V≤w'*v)∧sc a b t v=sc c d t' v:=by
 obtain ⟨h1,h2⟩ :=QS.1 hs
 have hd:=zn (sc a b u V) (sc a b u' V) (sc c d w V) (sc c d w' V)
 refine⟨QS.2 ⟨?_,?_⟩,?_⟩
 ·exact Lf hw Om (XS c d a b V u u' w) (XS c d a b V u u' w') h1
 ·exact Lf hu Om (XS a b c d V w w' u) (XS a b c d V w w' u') h2
 ·
  have i1:∀q1 q2:Int,(sc a b (u*q2- u'*q1) (V* (q2- q1))) = (q2* (sc a b u V).1- q1* (sc a b u' V).1,q2* (sc a b u V).2- q1* (sc a b u' V).2) :=fun q1 q2=>by
   apply Prod.ext<;> (simp only [sc];grind)
  have i2:∀p1 p2:Int,(sc c d (w'*p1- w*p2) (V* (p1- p2))) = (p1* (sc c d w' V).1- p2* (sc c d w V).1,p1* (sc c d w' V).2- p2* (sc c d w V).2) :=fun p1 p2=>by
   apply Prod.ext<;> (simp only [sc];grind)
  have j1:∀X X' Y Y':Pn,tn Y Y' X'*X.1- tn Y Y' X*X'.1=tn X X' Y*Y'.1- tn X X' Y'*Y.1:=fun X X' Y Y'=>by simp only [tn,QX];grind
  have j2:∀X X' Y Y':Pn,tn Y Y' X'*X.2- tn Y Y' X*X'.2=tn X X' Y*Y'.2- tn X X' Y'*Y.2:=fun X X' Y Y'=>by simp only [tn,QX];grind
  have J1:=j1 (sc a b u V) (sc a b u' V) (sc c d w V) (sc c d w' V)
  have J2:=j2 (sc a b u V) (sc a b u' V) (sc c d w V) (sc c d w' V)
  generalize tn (sc a b u V) (sc a b u' V) (sc c d w V) =p1 at*
  generalize tn (sc a b u V) (sc a b u' V) (sc c d w' V) =p2 at*
  generalize tn (sc c d w V) (sc c d w' V) (sc a b u V) =q1 at*
  generalize tn (sc c d w V) (sc c d w' V) (sc a b u' V) =q2 at*
  rcases h2 with⟨g1,g2⟩ |⟨g1,g2⟩
  ·refine⟨u*q2- u'*q1,w'*p1- w*p2,V* (q2- q1),Fr hV Om,?_,?_,?_⟩
   ·have e1:u* (V* (q2- q1)) = (u*q2- u*q1) *V:=by grind
    have e2:u'* (V* (q2- q1)) = (u'*q2- u'*q1) *V:=by grind
    rw [e1,e2]
    have m1:u*q2≤u'*q2:=DJ hu.2.1 Om
    have m2:u'*q1≤u*q1:=FN hu.2.1 Om
    exact⟨DJ Om Om,DJ Om Om⟩
   ·have e0:q2- q1=p1- p2:=by omega
    rw [e0]
    have e1:w* (V* (p1- p2)) = (w*p1- w*p2) *V:=by grind
    have e2:w'* (V* (p1- p2)) = (w'*p1- w'*p2) *V:=by grind
    rw [e1,e2]
    have m1:w*p1≤w'*p1:=DJ hw.2.1 Om
    have m2:w'*p2≤w*p2:=FN hw.2.1 Om
    exact⟨DJ Om Om,DJ Om Om⟩
   ·rw [i1,show q2- q1=p1- p2 by omega,i2,J1,J2]
  ·have i1':=i1 (-q1) (-q2)
   have i2':=i2 (-p1) (-p2)
   refine⟨u* -q2- u'* -q1,w'* -p1- w* -p2,V* (-q2- -q1),Fr hV Om,?_,?_,?_⟩
   ·have e1:u* (V* (-q2- -q1)) = (u* -q2- u* -q1) *V:=by grind
    have e2:u'* (V* (-q2- -q1)) = (u'* -q2- u'* -q1) *V:=by grind
    rw [e1,e2]
    have m1:u* -q2≤u'* -q2:=DJ hu.2.1 Om
    have m2:u'* -q1≤u* -q1:=FN hu.2.1 Om
    exact⟨DJ Om Om,DJ Om Om⟩
   ·have e0: -q2- -q1= -p1- -p2:=by omega
    rw [e0]
    have e1:w* (V* (-p1- -p2)) = (w* -p1- w* -p2) *V:=by grind
    have e2:w'* (V* (-p1- -p2)) = (w'* -p1- w'* -p2) *V:=by grind
    rw [e1,e2]
    have m1:w* -p1≤w'* -p1:=DJ hw.2.1 Om
    have m2:w'* -p2≤w* -p2:=FN hw.2.1 Om
    exact⟨DJ Om Om,DJ Om Om⟩
   ·have n:∀x y:Int,-x*y= -(x*y) :=fun x y=>Int.neg_mul ..
    rw [i1 (-q1) (-q2),show-q2- -q1= -p1- -p2 by omega,i2 (-p1) (-p2)]
    simp only [n]
    apply Prod.ext
    ·simp only;omega
    ·simp only;omega
def zA (hot:List Pn) (a b c d:Pn) :Prop:=J4 a b c d=true→∃k∈hot,∀t t' v:Int,0<v→sc a b t v=sc c d t' v→kF a b k t v
theorem Yw {h h' g g':Pn} (hs:J4 h h' g g'=true) :h≠h'∧g≠g'∧g≠h∧g≠h'∧g'≠h∧g'≠h':=by
 obtain ⟨h1,h2⟩ :=QS.1 hs
 have z1:∀p q:Pn,tn p p q=0:=fun p q=>by simp only [tn,QX];grind
 have z2:∀p q:Pn,tn p q p=0:=fun p q=>by simp only [tn,QX];grind
 have z3:∀p q:Pn,tn p q q=0:=fun p q=>by simp only [tn,QX];grind
 refine⟨?_,?_,?_,?_,?_,?_⟩ <;>rintro rfl<;>simp [z1,z2,z3] at h1 h2
theorem xh {hot:List Pn} {a b c d h h' g g':Pn} (F:Frag hot a b h h') (G:Frag hot c d g g') (mh:h∈hot) (mh':h'∈hot) (mg:g∈hot) (mg':g'∈hot) (hc:zA hot a b c d) :J4 h h' g g'≠true:=fun hs=>by
 obtain ⟨n1,n2,n3,n4,n5,n6⟩ :=Yw hs
 obtain ⟨V,u,u',hV,hu,i1,i2,i3⟩ :=F
 obtain ⟨W,w,w',hW,hw,j1,j2,j3⟩ :=G
 obtain ⟨pV,qu,k1,k2,k3⟩ :=Frag.scale hW hV hu i1 i2 i3
 obtain ⟨pW,qw,l1,l2,l3⟩ :=Frag.scale hV hW hw j1 j2 j3
 rw [Fg W V] at pW qw l1 l2 l3
 generalize V*W=U at*
 generalize u*W=x at*
 generalize u'*W=x' at*
 generalize w*V=y at*
 generalize w'*V=y' at*
 refine H9 pV qu qw k1 k2 l1 l2 n1 n2 (k3 g mg n3 n4) (k3 g' mg' n5 n6) (l3 h mh (Ne.symm n3) (Ne.symm n5)) (l3 h' mh' (Ne.symm n4) (Ne.symm n6)) ?_ hs
 intro hss
 obtain ⟨s1,t,t',v,hv,s2,s3,s4⟩ :=xW pV qu qw hss
 obtain ⟨k,mk,hk⟩ :=hc s1
 have p1:=hk t t' v hv s4
 have p2:kF c d k t' v:=by rw [QN,←s4];exact QN.1 p1
 by_cases e1:k=g
 ·subst e1;exact k3 k mk n3 n4 t v hv s2.1 s2.2 p1
 ·by_cases e2:k=g'
  ·subst e2;exact k3 k mk n5 n6 t v hv s2.1 s2.2 p1
  ·exact l3 k mk e1 e2 t' v hv s3.1 s3.2 p2
theorem UV {s x:Sp} {u v:Int} (hs:0<s.ld) (hx:0<x.ld) (hv:0<v) (h:Yr x s=false) (hl:lowOk x u v) :lowOk s u v:=by
 have hns:¬(x.ln*s.ld<s.ln*x.ld∨(x.ln*s.ld=s.ln*x.ld∧x.lc=true∧s.lc=false)) :=fun h'=>by
  have:=yd.2 h'
  rw [h] at this
  cases this
 have hle:s.ln*x.ld≤x.ln*s.ld:=FO.1 fun h'=>hns (.inl h')
 by_cases g:x.ln*v<u*x.ld
 ·exact .inl (QB hx hs hv hle g)
 ·obtain ⟨g1,g2⟩ :=hl.resolve_left g
  by_cases k:s.ln*x.ld<x.ln*s.ld
  ·exact .inl (ke hx hs hv k Om)
  ·have l1:=Q2 (a:=s.ln) (b:=s.ld) (c:=x.ln) (d:=x.ld) (e:=u) (f:=v) hx hs hv Om Om
   have l2:=Q2 (a:=u) (b:=v) (c:=x.ln) (d:=x.ld) (e:=s.ln) (f:=s.ld) hx hv hs Om Om
   refine .inr ⟨by omega,?_⟩
   cases hc:s.lc with
   | true=>rfl
   | false=>exact absurd (.inr ⟨by omega,g2,hc⟩) hns
theorem W4 {s:Sp} {u v u' v':Int} (hs:0<s.hd) (hv:0<v) (hv':0<v') (hle:u*v'≤u'*v) (h:highOk s u' v') :highOk s u v:=by
 rcases h with h |⟨h,hc⟩
 ·exact .inl (QB hv' hv hs hle h)
 ·by_cases k:u*v'<u'*v
  ·exact .inl (ke hv' hv hs k Om)
  ·have l1:=Q2 (a:=u) (b:=v) (c:=u') (d:=v') (e:=s.hn) (f:=s.hd) hv' hv hs Om Om
   have l2:=Q2 (a:=s.hn) (b:=s.hd) (c:=u') (d:=v') (e:=u) (f:=v) hv' hs hv Om Om
   exact .inr ⟨by omega,hc⟩
theorem Lo {f' d' k u v:Int} (hv:0<v) (h0:0≤u) (h1:u≤v) (h:wo (2*f') (2* (d'- f')) (2*k- 1) u v) :min f' d'- 1≤k∧k≤max f' d'+1:=by
 obtain ⟨g1,g2⟩ :=h
 have e:2*f'*v+u* (2* (d'- f')) =2* (f'* (v- u) +d'*u) :=by grind
 rw [e] at g1 g2
 have a1:min f' d'* (v- u)≤f'* (v- u) :=DJ Om Om
 have a2:min f' d'*u≤d'*u:=DJ Om h0
 have a3:f'* (v- u)≤max f' d'* (v- u) :=DJ Om Om
 have a4:d'*u≤max f' d'*u:=DJ Om h0
 have b1:min f' d'* (v- u) +min f' d'*u=min f' d'*v:=by grind
 have b2:max f' d'* (v- u) +max f' d'*u=max f' d'*v:=by grind
 have c1: (2*k- 1) *v≤(2*max f' d') *v:=by
  have:2*max f' d'*v=2* (max f' d'*v) :=by grind
  omega
 have c2: (2*min f' d') *v< (2*k- 1+2) *v:=by
  have:2*min f' d'*v=2* (min f' d'*v) :=by grind
  omega
 have d1:=Fa c1 hv
 have d2:=Fj c2 Om
 omega
theorem Zl {a b k:Pn} {u v:Int} (hv:0<v) (h0:0≤u) (h1:u≤v) (h:kF a b k u v) :kl a b k=true:=by
 have x:=Lo hv h0 h1 h.1
 have y:=Lo hv h0 h1 h.2
 exact vH (UF x.1 x.2) (VA y.1 y.2) (YR hv h0 h1 h)
theorem Uf {a b p:Pn} (h:K9 a b p=true) :∃u v:Int,0<v∧VL (Ji a b p) u v∧0≤u∧u≤v∧kF a b p u v:=by
 have hn:kn (Ji a b p) =true:=by have h':=h;unfold K9 UN at h';simp only [DL] at h';exact h'.2
 obtain ⟨u,v,hv,hm⟩ :=Uh (Q8 a b p) hn
 have:= (Q9 hv h).1 hm
 exact⟨u,v,hv,hm,this.1.1,this.1.2,this.2⟩
theorem L8 {hot l1 l2:List Pn} {a b h h':Pn} (hnd:hot.Nodup) (hp:qp a b hot=l1++h::h'::l2) :Frag hot a b h h':=by
 have hs:wn (vN a b) (qp a b hot) :=by rw [vK];exact ZH a b hot
 have hd:=Vd (a:=a) (b:=b) hnd
 have hi:∀p∈qp a b hot,K9 a b p=true:=fun p hp=>wa (Qu.1 hp).2
 have mh:h∈qp a b hot:=by rw [hp];simp
 have mh':h'∈qp a b hot:=by rw [hp];simp
 have hmem:∀k,k∈hot→kl a b k=true→k≠h→k≠h'→k∈l1∨k∈l2:=fun k k1 k2 k3 k4=>by
  have:=Qu.2 ⟨k1,k2⟩
  rw [hp] at this
  simp only [DV,DZ] at this
  rcases this with h1 | rfl | rfl | h1
  ·exact .inl h1
  ·exact absurd rfl k3
  ·exact absurd rfl k4
  ·exact .inr h1
 rw [hp] at hs hd
 have hs1:=FZ.1 hs
 have hs2:=Fn.1 hs1.2.1
 have hs3:=Fn.1 hs2.2
 have hne:h≠h':=fun e=>by
  have:= (List.nodup_append.1 hd).2.1
  rw [e] at this
  exact(List.nodup_cons.1 this).1 (by simp)
 obtain ⟨u0,v0,p0,m0,a0,b0,c0⟩ :=Uf (hi h mh)
 obtain ⟨u1,v1,p1,m1,a1,b1,c1⟩ :=Uf (hi h' mh')
 have pos:=fun p=>Q8 a b p
 have hle:u0*v1≤u1*v0:=FO.1 fun hlt=>by
  have lo:lowOk (Ji a b h) u1 v1:=UV (pos h).1 (pos h').1 p1 (hs2.1 h' (by simp)) m1.1
  have hi':highOk (Ji a b h) u1 v1:=W4 (pos h).2 p1 p0 Om m0.2
  exact hne (vA p1 ((Q9 p1 (hi h mh)).1 ⟨lo,hi'⟩).2 c1)
 refine⟨v0*v1,u0*v1,u1*v0,Fr p0 p1,⟨DU a0 Om,hle,?_⟩,?_,?_,?_⟩
 ·rw [Fg v0 v1]
  exact DJ b1 Om
 ·exact(vY p1).2 c0
 ·rw [Fg v0 v1]
  exact(vY p0).2 c1
 ·intro k k1 k2 k3 t v hv t1 t2 hin
  have t1':u0*v≤t*v0:=by
   have e1:u0*v1*v=u0*v*v1:=by grind
   have e2:t* (v0*v1) =t*v0*v1:=by grind
   rw [e1,e2] at t1
   exact Fa t1 p1
  have t2':t*v1≤u1*v:=by
   have e1:u1*v0*v=u1*v*v0:=by grind
   have e2:t* (v0*v1) =t*v1*v0:=by grind
   rw [e1,e2] at t2
   exact Fa t2 p0
  have g0:0≤t:=by
   refine FO.1 fun hn=> ?_
   have:=DU a0 (show 0≤v by omega)
   have:=FA hn p0
   omega
  have g1:t≤v:=by
   have e1:u1*v≤v1*v:=DJ b1 Om
   have e2:t*v1≤v*v1:=by rw [Fg v v1];omega
   exact Fa e2 p1
  have hw:=Zl hv g0 g1 hin
  have hik:=wa hw
  have mk:= (Q9 hv hik).2 ⟨⟨g0,g1⟩,hin⟩
  rcases hmem k k1 hw k2 k3 with c | c
  ·have lo:lowOk (Ji a b k) u0 v0:=UV (pos k).1 (pos h).1 p0 (hs1.2.2 k c h (by simp)) m0.1
   have hi':highOk (Ji a b k) u0 v0:=W4 (pos k).2 p0 hv t1' mk.2
   exact k2 (vA p0 ((Q9 p0 hik).1 ⟨lo,hi'⟩).2 c0)
  ·have lo:lowOk (Ji a b h') t v:=UV (pos h').1 (pos k).1 hv (hs3.1 k c) mk.1
   have hi':highOk (Ji a b h') t v:=W4 (pos h').2 hv p1 t2' m1.2
   exact k3 (vA hv ((Q9 hv (hi h' mh')).1 ⟨lo,hi'⟩).2 hin).symm
end Go.Proofs.Ytpncbbcmoiiipaa
