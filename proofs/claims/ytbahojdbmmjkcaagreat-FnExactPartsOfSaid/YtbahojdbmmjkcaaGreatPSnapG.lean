import Derived.Test.YtbahojdbmmjkcaaGreatPRounds
import Derived.Test.YtbahojdbmmjkcaaGreatPHotLaw
import Derived.Test.YtbahojdbmmjkcaaGreatPCross
import Derived.Test.YtbahojdbmmjkcaaGreatPTo
import Derived.Test.YtbahojdbmmjkcaaGreatPTopo
import Derived.Test.YtbahojdbmmjkcaaGreatPNetQ
set_option linter.unusedVariables false
set_option linter.unusedSimpArgs false
namespace Go.Proofs.YtbahojdbmmjkcaaGreat
open Go Go.RowKit
variable {A:Option Addr} {V:Option Addr→Nat→Value} {args:Array Value} {rs ss:List jK}
set_option maxRecDepth 100000
set_option maxHeartbeats 4000000
def jc3 (E:List Leg) :List Pn:=kf (Yr E E.length)
theorem jaW {a b c d:Pn} (h:Q4 a b c d=2) :qU a b c d=true:=by
 unfold Q4 at h
 split at h
 ·split at h
  ·rename_i h1;exact h1
  ·omega
 ·split at h<;>omega
theorem Rb {E:List Leg} :∀i,i≤E.length→∀k,k<i→lA (lg E k)∈Yr E i∧lB (lg E k)∈Yr E i
 | 0,_,k,hk=>absurd hk Om
 | i+1,hi,k,hk=>by
  rw [Yr]
  rcases jhK (show k≤i by omega) with h | rfl
  ·obtain ⟨h1,h2⟩ :=Rb (E:=E) i Om k h
   exact⟨jht _ (jht _ h1),jht _ (jht _ h2)⟩
  ·exact⟨jht _ (jh1 _ (by simp)),jht _ (jh1 _ (by simp))⟩
theorem E7 {E:List Leg} (hok:∀l∈E,qr l) {i:Nat} (hi:i<E.length) :∀k,k≤i→∀p∈cz E i k,bd2 p
 | 0,_,p,hp=>by simp [cz] at hp
 | k+1,hk,p,hp=>by
  rw [cz] at hp
  rcases jgL.1 hp with h | h
  ·exact E7 hok hi k Om p h
  ·split at h
   ·rename_i hm
    rw [jgC.1 h]
    exact(Ce (VR (QK hok Om)) (wM (QK hok Om)) (jaW hm)).1
   ·simp at h
theorem Nr {E:List Leg} (hok:∀l∈E,qr l) :∀i,i≤E.length→∀p∈Yr E i,bd2 p
 | 0,_,p,hp=>by simp [Yr] at hp
 | i+1,hi,p,hp=>by
  rw [Yr] at hp
  rcases jgL.1 hp with h | h
  ·rcases jgL.1 h with h | h
   ·exact Nr hok i Om p h
   ·simp only [jgK,jhz,or_false] at h
    rcases h with rfl | rfl
    ·exact VR (QK hok Om)
    ·exact wM (QK hok Om)
  ·exact E7 hok Om i (jgx _) p h
theorem PY {l:List Pn} (h:Asc l) :l.Nodup:=List.Pairwise.imp (fun {a b} (hab:wc a b) (e:a=b) =>Q7 a (by rw [←e] at hab;exact hab)) h
theorem je1 {E:List Leg} {k:Nat} (hk:k<E.length) :lg E k=E[k] :=by simp [lg,List.getD,hk]
theorem LD {rs:List jK} :∀k,k≤rs.length→cnt (KY rs k) = (qW rs k).length
 | 0,_=>rfl
 | k+1,hk=>by
  have ih:=LD (rs:=rs) k Om
  have e: (qW rs (k+1)).length= (qW rs k).length+ (Jy (rg rs k)).length:=jgv
  have e2: (KT (rg rs k)).length= (Jy (rg rs k)).length:=jgF ..
  by_cases h:0< (KT (rg rs k)).length
  ·rw [yt Om h,e,←ih]
   simp [cnt,e2]
  ·rw [zv Om h,e,←ih]
   omega
theorem YC (hr:JW rs=true) :∀r∈qb rs,bare r:=fun r h=>by
 obtain ⟨h0,q,hq,rfl⟩ :=Zt h
 obtain ⟨i,hi,e⟩ :=jg1 hq
 have:=qS (vN hr hi)
 rw [Vm hi] at e
 rw [e] at this
 exact Bw this.1 h0
theorem jc6 {xs:List Pn} (h:qG xs=true) :∀p∈KT xs,wF p.1 p.2=true:=fun p hp=>by
 obtain ⟨l,hl,rfl⟩ :=jgO.1 hp
 exact yu (VR (yF (KM h).2.2 _ (jgx _) l hl))
theorem yr (hr:JW rs=true) :JW (qb rs) =true:=by
 have h40:=vO hr
 have hl:=Zs rs rs.length
 have hcnt: (Jx (qb rs)).length≤400:=by
  rw [xj (YC hr)]
  have:=LD (rs:=rs) rs.length (jgx _)
  have h4: (Jx rs).length≤400:=by simp [JW] at hr;omega
  unfold Jx at h4
  unfold qb
  omega
 have hall: (qb rs).all qG=true:=jhR.2 fun r h=>by
  have hs:=ZF hr h
  obtain ⟨h0,q,hq,rfl⟩ :=Zt h
  obtain ⟨i,hi,e⟩ :=jg1 hq
  have hb:=vN hr hi
  rw [Vm hi] at e
  rw [e] at hb
  unfold qG Z7
  rw [decide_eq_true (show(1:Int)≤((KT q).length:Int) by omega),decide_eq_true (show((KT q).length:Int)≤400 by omega)]
  exact jhR.2 fun p hp=>jc6 hb p hp
 rw [uX (by unfold qb;omega) hall]
 exact decide_eq_true hcnt
structure HotOk (hot:List Pn) (ss:List jK) :Prop where
 reg:JW ss=true
 ok:∀p∈hot,wF p.1 p.2=true
 asc:Asc hot
 nd:hot.Nodup
 len:hot.length≤1048576
 bare:bareG hot ss
theorem Db {hot:List Pn} (hnd:hot.Nodup) :∀(f:Nat) {rs ss:List jK} {r q:Nat},JW rs=true→bareG hot rs→Xn hot f rs r=some (ss,q)→JW ss=true
 | 0,_,_,_,_,_,_,h=>by cases h
 | f+1,rs,ss,r,q,hr,hb,h=>by
  rw [Xn] at h
  split at h
  ·cases h
  ·rename_i h1
   split at h
   ·injection h with h
    injection h with h2 h3
    exact h2▸hr
   ·exact Db hnd f (by simpa using h1) (hb.snap hnd) h
theorem jce {hot:List Pn} (hnd:hot.Nodup) {r:Nat} (hr:JW rs=true) (hb:bareG hot rs) (h:M3 hot rs=some (ss,r)) :JW ss=true:=Db hnd _ hr hb h
theorem jaj {P:Program} {f:FuncId} {w1:World} {n lo hi:Nat} {c:Nat} (hg: (Q6 n ss lo hi A).P w1) (hn:ss.length=n) (h:Calls P f args w1 fun e w'=>∃A' c',e= .returned (V A' c')∧((A'=A∧c'=c∧rs=ss)∨OwnG w1.heap.size w'.heap.size w' A' rs.length rs)∧Over w1 w') :
  Calls P f args w1 fun e w'=>∃x: (Option Addr×Nat)×Nat×Nat,e= .returned (V x.1.1 x.1.2)∧Wrs (Q6 n ss lo hi A).F w1 w'∧(Q6 rs.length rs x.2.1 x.2.2 x.1.1).P w'∧(∀b,(Q6 rs.length rs x.2.1 x.2.2 x.1.1).F b→(Q6 n ss lo hi A).F b∨w1.heap.size≤b)∧(Q6 rs.length rs x.2.1 x.2.2 x.1.1).B=0:=by
 refine h.mono ?_
 rintro e w' ⟨A',c',rfl,ho,hO⟩
 rcases ho with⟨rfl,rfl,rfl⟩ | ho
 ·subst hn
  have hz:hi≤w1.heap.size:=hg.1
  exact⟨((A',c'),lo,hi),rfl,Wrs.of hO,SO ((WX hg).agree fun b h1 h2=>hO.out.block b Om) (jhi hz hO.size),fun b hb=> .inl hb,rfl⟩
 ·exact⟨((A',c'),w1.heap.size,w'.heap.size),rfl,Wrs.of hO,SO ho (jgx _),fun b hb=> .inr hb.1,rfl⟩
end Go.Proofs.YtbahojdbmmjkcaaGreat
namespace Go.Proofs.YtbahojdbmmjkcaaGreat
open Go Go.RowKit
variable {E:List Leg} {a b c d h':Pn} {e:Leg} {hot:List Pn} {j:Nat} {l:List (Pn×Pn)} {m u u' v:Int} {rs:List jK}
def Frag (hot:List Pn) (a b h h':Pn) :Prop:=∃V u u':Int,0<V∧(0≤u∧u≤u'∧u'≤V)∧wB a b h u V∧wB a b h' u' V∧∀k∈hot,k≠h→k≠h'→Ls a b k V u u'
theorem R3 {f d lo:Int} (hm:0<m) :zT f d lo (u*m) (v*m)↔zT f d lo u v:=by
 have e1:lo* (v*m) =lo*v*m:=by grind
 have e2:f* (v*m) +u*m*d= (f*v+u*d) *m:=by grind
 have e3: (lo+2) * (v*m) = (lo+2) *v*m:=by grind
 unfold zT
 rw [e1,e2,e3]
 constructor
 ·rintro⟨h1,h2⟩;exact⟨jg8 h1 hm,jhl h2 Om⟩
 ·rintro⟨h1,h2⟩;exact⟨jgz h1 Om,jg6 h2 hm⟩
theorem yG {p:Pn} (hm:0<m) :wB a b p (u*m) (v*m)↔wB a b p u v:=by
 unfold wB
 rw [R3 hm,R3 hm]
theorem Tj {k:Pn} {V:Int} (hm:0<m) (h:Ls a b k V u u') :Ls a b k (V*m) (u*m) (u'*m) :=fun t v hv h1 h2=>by
 refine h t v hv ?_ ?_
 ·have e1:u*m*v=u*v*m:=by grind
  have e2:t* (V*m) =t*V*m:=by grind
  rw [e1,e2] at h1
  exact jg8 h1 hm
 ·have e1:u'*m*v=u'*v*m:=by grind
  have e2:t* (V*m) =t*V*m:=by grind
  rw [e1,e2] at h2
  exact jg8 h2 hm
theorem Frag.scale {h:Pn} {V:Int} (hm:0<m) (hV:0<V) (hu:0≤u∧u≤u'∧u'≤V) (h1:wB a b h u V) (h2:wB a b h' u' V) (h3:∀k∈hot,k≠h→k≠h'→Ls a b k V u u') :
  0<V*m∧(0≤u*m∧u*m≤u'*m∧u'*m≤V*m)∧wB a b h (u*m) (V*m)∧wB a b h' (u'*m) (V*m)∧∀k∈hot,k≠h→k≠h'→Ls a b k (V*m) (u*m) (u'*m) :=
 ⟨jhm hV hm,⟨jg9 hu.1 Om,jgz hu.2.1 Om,jgz hu.2.2 Om⟩,(yG hm).2 h1,(yG hm).2 h2,fun k a1 a2 a3=>Tj hm (h3 k a1 a2 a3)⟩
theorem Pr (a b c d:Pn) (V w w' t:Int) :tn (sc c d w V) (sc c d w' V) (sc a b t V) =4* (w'- w) * (V*tn c d a+t* (tn c d b- tn c d a)) :=by
 simp only [sc,tn,Kc]
 grind
theorem jbm {A B V D p q:Int} (hu:0≤u∧u≤u'∧u'≤V) (hD:0≤D) (hp:p=D* (V*A+u* (B- A))) (hq:q=D* (V*A+u'* (B- A))) (h: (p<0∧0<q)∨(0<p∧q<0)) : (A<0∧0<B)∨(0<A∧B<0) :=by
 have e1:V*A+u* (B- A) = (V- u) *A+u*B:=by grind
 have e2:V*A+u'* (B- A) = (V- u') *A+u'*B:=by grind
 rw [e1] at hp
 rw [e2] at hq
 have s1:=kx hp
 have s2:=kx hq
 have k:¬(0≤A∧0≤B) :=fun ⟨g1,g2⟩ =>by
  have m1:=jg9 (show 0≤V- u by omega) g1
  have m2:=jg9 hu.1 g2
  have m3:=jg9 (show 0≤V- u' by omega) g1
  have m4:=jg9 (show 0≤u' by omega) g2
  omega
 have k':¬(A≤0∧B≤0) :=fun ⟨g1,g2⟩ =>by
  have m1:=jhT (show 0≤V- u by omega) g1
  have m2:=jhT hu.1 g2
  have m3:=jhT (show 0≤V- u' by omega) g1
  have m4:=jhT (show 0≤u' by omega) g2
  omega
 omega
theorem TF {V w w':Int} (hV:0<V) (hu:0≤u∧u≤u'∧u'≤V) (hw:0≤w∧w≤w'∧w'≤V) (hs:qU (sc a b u V) (sc a b u' V) (sc c d w V) (sc c d w' V) =true) :
  qU a b c d=true∧∃t t' v:Int,0<v∧(u*v≤t*V∧t*V≤u'*v)∧(w*v≤t'*V∧t'*V≤w'*v)∧sc a b t v=sc c d t' v:=by
 obtain ⟨h1,h2⟩ :=KS.1 hs
 have hd:=FY (sc a b u V) (sc a b u' V) (sc c d w V) (sc c d w' V)
 refine⟨KS.2 ⟨?_,?_⟩,?_⟩
 ·exact jbm hw Om (Pr c d a b V u u' w) (Pr c d a b V u u' w') h1
 ·exact jbm hu Om (Pr a b c d V w w' u) (Pr a b c d V w w' u') h2
 ·
  have i1:∀q1 q2:Int,(sc a b (u*q2- u'*q1) (V* (q2- q1))) = (q2* (sc a b u V).1- q1* (sc a b u' V).1,q2* (sc a b u V).2- q1* (sc a b u' V).2) :=fun q1 q2=>by
   apply Prod.ext<;> (simp only [sc];grind)
  have i2:∀p1 p2:Int,(sc c d (w'*p1- w*p2) (V* (p1- p2))) = (p1* (sc c d w' V).1- p2* (sc c d w V).1,p1* (sc c d w' V).2- p2* (sc c d w V).2) :=fun p1 p2=>by
   apply Prod.ext<;> (simp only [sc];grind)
  have j1:∀X X' Y Y':Pn,tn Y Y' X'*X.1- tn Y Y' X*X'.1=tn X X' Y*Y'.1- tn X X' Y'*Y.1:=fun X X' Y Y'=>by simp only [tn,Kc];grind
  have j2:∀X X' Y Y':Pn,tn Y Y' X'*X.2- tn Y Y' X*X'.2=tn X X' Y*Y'.2- tn X X' Y'*Y.2:=fun X X' Y Y'=>by simp only [tn,Kc];grind
  have J1:=j1 (sc a b u V) (sc a b u' V) (sc c d w V) (sc c d w' V)
  have J2:=j2 (sc a b u V) (sc a b u' V) (sc c d w V) (sc c d w' V)
  generalize tn (sc a b u V) (sc a b u' V) (sc c d w V) =p1 at*
  generalize tn (sc a b u V) (sc a b u' V) (sc c d w' V) =p2 at*
  generalize tn (sc c d w V) (sc c d w' V) (sc a b u V) =q1 at*
  generalize tn (sc c d w V) (sc c d w' V) (sc a b u' V) =q2 at*
  rcases h2 with⟨g1,g2⟩ |⟨g1,g2⟩
  ·refine⟨u*q2- u'*q1,w'*p1- w*p2,V* (q2- q1),jhm hV Om,?_,?_,?_⟩
   ·have e1:u* (V* (q2- q1)) = (u*q2- u*q1) *V:=by grind
    have e2:u'* (V* (q2- q1)) = (u'*q2- u'*q1) *V:=by grind
    rw [e1,e2]
    have m1:u*q2≤u'*q2:=jgz hu.2.1 Om
    have m2:u'*q1≤u*q1:=jhN hu.2.1 Om
    exact⟨jgz Om Om,jgz Om Om⟩
   ·have e0:q2- q1=p1- p2:=by omega
    rw [e0]
    have e1:w* (V* (p1- p2)) = (w*p1- w*p2) *V:=by grind
    have e2:w'* (V* (p1- p2)) = (w'*p1- w'*p2) *V:=by grind
    rw [e1,e2]
    have m1:w*p1≤w'*p1:=jgz hw.2.1 Om
    have m2:w'*p2≤w*p2:=jhN hw.2.1 Om
    exact⟨jgz Om Om,jgz Om Om⟩
   ·rw [i1,show q2- q1=p1- p2 by omega,i2,J1,J2]
  ·have i1':=i1 (-q1) (-q2)
   have i2':=i2 (-p1) (-p2)
   refine⟨u* -q2- u'* -q1,w'* -p1- w* -p2,V* (-q2- -q1),jhm hV Om,?_,?_,?_⟩
   ·have e1:u* (V* (-q2- -q1)) = (u* -q2- u* -q1) *V:=by grind
    have e2:u'* (V* (-q2- -q1)) = (u'* -q2- u'* -q1) *V:=by grind
    rw [e1,e2]
    have m1:u* -q2≤u'* -q2:=jgz hu.2.1 Om
    have m2:u'* -q1≤u* -q1:=jhN hu.2.1 Om
    exact⟨jgz Om Om,jgz Om Om⟩
   ·have e0: -q2- -q1= -p1- -p2:=by omega
    rw [e0]
    have e1:w* (V* (-p1- -p2)) = (w* -p1- w* -p2) *V:=by grind
    have e2:w'* (V* (-p1- -p2)) = (w'* -p1- w'* -p2) *V:=by grind
    rw [e1,e2]
    have m1:w* -p1≤w'* -p1:=jgz hw.2.1 Om
    have m2:w'* -p2≤w* -p2:=jhN hw.2.1 Om
    exact⟨jgz Om Om,jgz Om Om⟩
   ·have n:∀x y:Int,-x*y= -(x*y) :=fun x y=>Int.neg_mul ..
    rw [i1 (-q1) (-q2),show-q2- -q1= -p1- -p2 by omega,i2 (-p1) (-p2)]
    simp only [n]
    apply Prod.ext
    ·simp only;omega
    ·simp only;omega
def Ii (hot:List Pn) (a b c d:Pn) :Prop:=qU a b c d=true→∃k∈hot,∀t t' v:Int,0<v→sc a b t v=sc c d t' v→wB a b k t v
theorem De {h g g':Pn} (hs:qU h h' g g'=true) :h≠h'∧g≠g'∧g≠h∧g≠h'∧g'≠h∧g'≠h':=by
 obtain ⟨h1,h2⟩ :=KS.1 hs
 have z1:∀p q:Pn,tn p p q=0:=fun p q=>by simp only [tn,Kc];grind
 have z2:∀p q:Pn,tn p q p=0:=fun p q=>by simp only [tn,Kc];grind
 have z3:∀p q:Pn,tn p q q=0:=fun p q=>by simp only [tn,Kc];grind
 refine⟨?_,?_,?_,?_,?_,?_⟩ <;>rintro rfl<;>simp [z1,z2,z3] at h1 h2
theorem SN {h g g':Pn} (F:Frag hot a b h h') (G:Frag hot c d g g') (mh:h∈hot) (mh':h'∈hot) (mg:g∈hot) (mg':g'∈hot) (hc:Ii hot a b c d) :qU h h' g g'≠true:=fun hs=>by
 obtain ⟨n1,n2,n3,n4,n5,n6⟩ :=De hs
 obtain ⟨V,u,u',hV,hu,i1,i2,i3⟩ :=F
 obtain ⟨W,w,w',hW,hw,j1,j2,j3⟩ :=G
 obtain ⟨pV,qu,k1,k2,k3⟩ :=Frag.scale hW hV hu i1 i2 i3
 obtain ⟨pW,qw,l1,l2,l3⟩ :=Frag.scale hV hW hw j1 j2 j3
 rw [jha W V] at pW qw l1 l2 l3
 generalize V*W=U at*
 generalize u*W=x at*
 generalize u'*W=x' at*
 generalize w*V=y at*
 generalize w'*V=y' at*
 refine jbf pV qu qw k1 k2 l1 l2 n1 n2 (k3 g mg n3 n4) (k3 g' mg' n5 n6) (l3 h mh (Ne.symm n3) (Ne.symm n5)) (l3 h' mh' (Ne.symm n4) (Ne.symm n6)) ?_ hs
 intro hss
 obtain ⟨s1,t,t',v,hv,s2,s3,s4⟩ :=TF pV qu qw hss
 obtain ⟨k,mk,hk⟩ :=hc s1
 have p1:=hk t t' v hv s4
 have p2:wB c d k t' v:=by rw [vk,←s4];exact vk.1 p1
 by_cases e1:k=g
 ·subst e1;exact k3 k mk n3 n4 t v hv s2.1 s2.2 p1
 ·by_cases e2:k=g'
  ·subst e2;exact k3 k mk n5 n6 t v hv s2.1 s2.2 p1
  ·exact l3 k mk e1 e2 t' v hv s3.1 s3.2 p2
theorem Me {s x:Sp} (hs:0<s.ld) (hx:0<x.ld) (hv:0<v) (h:zm x s=false) (hl:lowOk x u v) :lowOk s u v:=by
 have hns:¬(x.ln*s.ld<s.ln*x.ld∨(x.ln*s.ld=s.ln*x.ld∧x.lc=true∧s.lc=false)) :=fun h'=>by
  have:=MS.2 h'
  rw [h] at this
  cases this
 have hle:s.ln*x.ld≤x.ln*s.ld:=jhG.1 fun h'=>hns (.inl h')
 by_cases g:x.ln*v<u*x.ld
 ·exact .inl (KZ hx hs hv hle g)
 ·obtain ⟨g1,g2⟩ :=hl.resolve_left g
  by_cases k:s.ln*x.ld<x.ln*s.ld
  ·exact .inl (Vq hx hs hv k Om)
  ·have l1:=vM (a:=s.ln) (b:=s.ld) (c:=x.ln) (d:=x.ld) (e:=u) (f:=v) hx hs hv Om Om
   have l2:=vM (a:=u) (b:=v) (c:=x.ln) (d:=x.ld) (e:=s.ln) (f:=s.ld) hx hv hs Om Om
   refine .inr ⟨by omega,?_⟩
   cases hc:s.lc with
   | true=>rfl
   | false=>exact absurd (.inr ⟨by omega,g2,hc⟩) hns
theorem XQ {s:Sp} {v':Int} (hs:0<s.hd) (hv:0<v) (hv':0<v') (hle:u*v'≤u'*v) (h:highOk s u' v') :highOk s u v:=by
 rcases h with h |⟨h,hc⟩
 ·exact .inl (KZ hv' hv hs hle h)
 ·by_cases k:u*v'<u'*v
  ·exact .inl (Vq hv' hv hs k Om)
  ·have l1:=vM (a:=u) (b:=v) (c:=u') (d:=v') (e:=s.hn) (f:=s.hd) hv' hv hs Om Om
   have l2:=vM (a:=s.hn) (b:=s.hd) (c:=u') (d:=v') (e:=u) (f:=v) hv' hs hv Om Om
   exact .inr ⟨by omega,hc⟩
theorem jbF {f' d' k:Int} (hv:0<v) (h0:0≤u) (h1:u≤v) (h:zT (2*f') (2* (d'- f')) (2*k- 1) u v) :min f' d'- 1≤k∧k≤max f' d'+1:=by
 obtain ⟨g1,g2⟩ :=h
 have e:2*f'*v+u* (2* (d'- f')) =2* (f'* (v- u) +d'*u) :=by grind
 rw [e] at g1 g2
 have a1:min f' d'* (v- u)≤f'* (v- u) :=jgz Om Om
 have a2:min f' d'*u≤d'*u:=jgz Om h0
 have a3:f'* (v- u)≤max f' d'* (v- u) :=jgz Om Om
 have a4:d'*u≤max f' d'*u:=jgz Om h0
 have b1:min f' d'* (v- u) +min f' d'*u=min f' d'*v:=by grind
 have b2:max f' d'* (v- u) +max f' d'*u=max f' d'*v:=by grind
 have c1: (2*k- 1) *v≤(2*max f' d') *v:=by
  have:2*max f' d'*v=2* (max f' d'*v) :=by grind
  omega
 have c2: (2*min f' d') *v< (2*k- 1+2) *v:=by
  have:2*min f' d'*v=2* (min f' d'*v) :=by grind
  omega
 have d1:=jg8 c1 hv
 have d2:=jhl c2 Om
 omega
theorem RK {k:Pn} (hv:0<v) (h0:0≤u) (h1:u≤v) (h:wB a b k u v) :KK a b k=true:=by
 have x:=jbF hv h0 h1 h.1
 have y:=jbF hv h0 h1 h.2
 exact U9 (xf x.1 x.2) (YG y.1 y.2) (DV hv h0 h1 h)
theorem DU {p:Pn} (h:WZ a b p=true) :∃u v:Int,0<v∧Y0 (J4 a b p) u v∧0≤u∧u≤v∧wB a b p u v:=by
 have hn:K5 (J4 a b p) =true:=by have h':=h;unfold WZ xt at h';simp only [jgy] at h';exact h'.2
 obtain ⟨u,v,hv,hm⟩ :=H5 (Vc a b p) hn
 have:= (Vd hv h).1 hm
 exact⟨u,v,hv,hm,this.1.1,this.1.2,this.2⟩
theorem jc0 {l1 l2:List Pn} {h:Pn} (hnd:hot.Nodup) (hp:Qi a b hot=l1++h::h'::l2) :Frag hot a b h h':=by
 have hs:Ub (VW a b) (Qi a b hot) :=by rw [W3];exact M5 a b hot
 have hd:=ZT (a:=a) (b:=b) hnd
 have hi:∀p∈Qi a b hot,WZ a b p=true:=fun p hp=>Ga (wj.1 hp).2
 have mh:h∈Qi a b hot:=by rw [hp];simp
 have mh':h'∈Qi a b hot:=by rw [hp];simp
 have hmem:∀k,k∈hot→KK a b k=true→k≠h→k≠h'→k∈l1∨k∈l2:=fun k k1 k2 k3 k4=>by
  have:=wj.2 ⟨k1,k2⟩
  rw [hp] at this
  simp only [jgL,jgK] at this
  rcases this with h1 | rfl | rfl | h1
  ·exact .inl h1
  ·exact absurd rfl k3
  ·exact absurd rfl k4
  ·exact .inr h1
 rw [hp] at hs hd
 have hs1:=jhS.1 hs
 have hs2:=jg4.1 hs1.2.1
 have hs3:=jg4.1 hs2.2
 have hne:h≠h':=fun e=>by
  have:= (List.nodup_append.1 hd).2.1
  rw [e] at this
  exact(List.nodup_cons.1 this).1 (by simp)
 obtain ⟨u0,v0,p0,m0,a0,b0,c0⟩ :=DU (hi h mh)
 obtain ⟨u1,v1,p1,m1,a1,b1,c1⟩ :=DU (hi h' mh')
 have pos:=fun p=>Vc a b p
 have hle:u0*v1≤u1*v0:=jhG.1 fun hlt=>by
  have lo:lowOk (J4 a b h) u1 v1:=Me (pos h).1 (pos h').1 p1 (hs2.1 h' (by simp)) m1.1
  have hi':highOk (J4 a b h) u1 v1:=XQ (pos h).2 p1 p0 Om m0.2
  exact hne (U0 p1 ((Vd p1 (hi h mh)).1 ⟨lo,hi'⟩).2 c1)
 refine⟨v0*v1,u0*v1,u1*v0,jhm p0 p1,⟨jg9 a0 Om,hle,?_⟩,?_,?_,?_⟩
 ·rw [jha v0 v1]
  exact jgz b1 Om
 ·exact(yG p1).2 c0
 ·rw [jha v0 v1]
  exact(yG p0).2 c1
 ·intro k k1 k2 k3 t v hv t1 t2 hin
  have t1':u0*v≤t*v0:=by
   have e1:u0*v1*v=u0*v*v1:=by grind
   have e2:t* (v0*v1) =t*v0*v1:=by grind
   rw [e1,e2] at t1
   exact jg8 t1 p1
  have t2':t*v1≤u1*v:=by
   have e1:u1*v0*v=u1*v*v0:=by grind
   have e2:t* (v0*v1) =t*v1*v0:=by grind
   rw [e1,e2] at t2
   exact jg8 t2 p0
  have g0:0≤t:=by
   refine jhG.1 fun hn=> ?_
   have:=jg9 a0 (show 0≤v by omega)
   have:=jhI hn p0
   omega
  have g1:t≤v:=by
   have e1:u1*v≤v1*v:=jgz b1 Om
   have e2:t*v1≤v*v1:=by rw [jha v v1];omega
   exact jg8 e2 p1
  have hw:=RK hv g0 g1 hin
  have hik:=Ga hw
  have mk:= (Vd hv hik).2 ⟨⟨g0,g1⟩,hin⟩
  rcases hmem k k1 hw k2 k3 with c | c
  ·have lo:lowOk (J4 a b k) u0 v0:=Me (pos k).1 (pos h).1 p0 (hs1.2.2 k c h (by simp)) m0.1
   have hi':highOk (J4 a b k) u0 v0:=XQ (pos k).2 p0 hv t1' mk.2
   exact k2 (U0 p0 ((Vd p0 hik).1 ⟨lo,hi'⟩).2 c0)
  ·have lo:lowOk (J4 a b h') t v:=Me (pos h').1 (pos k).1 hv (hs3.1 k c) mk.1
   have hi':highOk (J4 a b h') t v:=XQ (pos h').2 hv p1 t2' m1.2
   exact k3 (U0 hv ((Vd hv (hi h' mh')).1 ⟨lo,hi'⟩).2 hin).symm
def PR (p q:Pn) (l:List Pn) :Prop:=∃l1 l2,l=l1++p::q::l2
theorem Bp {e:Pn×Pn} (h:e.1≠e.2∧e.1∈hot∧e.2∈hot) :∃rest,(e::l).flatMap (kt hot) =e.1::rest:=by
 obtain ⟨mid,h1,_⟩ :=wl h
 exact⟨mid++l.flatMap (kt hot),by rw [jgU,h1];rfl⟩
theorem Bj {hot:List Pn} {p q:Pn} :∀ {es:List (Pn×Pn)} {e:Pn×Pn} {z:Pn},Lk (e::es) z→(∀d∈e::es,d.1≠d.2∧d.1∈hot∧d.2∈hot)→PR p q ((e::es).flatMap (kt hot) ++ [z])→∃d∈e::es,PR p q (Qi d.1 d.2 hot)
 | [],e,z,hl,hm,hc=>by
  obtain ⟨mid,h1,h2⟩ :=wl (hm e (jgZ ..))
  have hz:e.2=z:=hl
  refine⟨e,jgZ ..,?_⟩
  rw [h2,hz]
  simpa using hc
 | f::l,e,z,hl,hm,hc=>by
  obtain ⟨mid,h1,h2⟩ :=wl (hm e (jgZ ..))
  obtain ⟨rest,hr⟩ :=Bp (l:=l) (hm f (jgP _ (jgZ ..)))
  have ih:=Bj (p:=p) (q:=q) (es:=l) (e:=f) (z:=z) hl.2 (fun d hd=>hm d (jgP _ hd))
  have lift:PR p q ((f::l).flatMap (kt hot) ++ [z])→∃d∈e::f::l,PR p q (Qi d.1 d.2 hot) :=fun h=>by
   obtain ⟨d,hd,hk⟩ :=ih h
   exact⟨d,jgP _ hd,hk⟩
  obtain ⟨l1,l2,hc⟩ :=hc
  rw [jgU,jgB] at hc
  have hB: (f::l).flatMap (kt hot) ++ [z] =f.1:: (rest++ [z]) :=by rw [hr];rfl
  rcases List.append_eq_append_iff.1 hc with⟨zs,h3,h4⟩ |⟨zs,h3,h4⟩
  ·exact lift ⟨zs,l2,h4⟩
  ·match zs,h3,h4 with
   | [],h3,h4=>exact lift ⟨[],l2,h4.symm⟩
   | [x],h3,h4=>
    rw [hB] at h4
    simp only [jg0,jhb,List.cons.injEq] at h4
    refine⟨e,jgZ ..,l1,[],?_⟩
    rw [h2,h3,hl.1,h4.1,h4.2.1]
    simp
   | x::y::zs,h3,h4=>
    simp only [jg0,List.cons.injEq] at h4
    refine⟨e,jgZ ..,l1,zs++ [e.2],?_⟩
    rw [h2,h3,h4.1,h4.2.1]
    simp
theorem jcO {l:List Pn} (h:j+1<l.length) :PR l[j] l[j+1] l:=
 ⟨l.take j,l.drop (j+2),by
  have e1:l.drop j=l[j] ::l.drop (j+1) :=jg3 Om
  have e2:l.drop (j+1) =l[j+1] ::l.drop (j+2) :=jg3 h
  rw [←e2,←e1,jgI]⟩
theorem Cc {S:List Pn} (h:j<S.length) :PR (pt S j) (pt S (nx S j)) (S++ [pt S 0]) :=by
 have hc:=jcO (l:=S++ [pt S 0]) (j:=j) (by simp;omega)
 have e1: (S++ [pt S 0])[j]'(by simp;omega) =pt S j:=by rw [List.getElem_append_left h,Kl h]
 have e2: (S++ [pt S 0])[j+1]'(by simp;omega) =pt S (nx S j) :=by
  by_cases k:j+1<S.length
  ·rw [List.getElem_append_left k,Kl k,show nx S j=j+1 from jhM k]
  ·rw [List.getElem_append_right Om,show nx S j=0 by unfold nx;rw [show j+1=S.length by omega,Nat.mod_self]]
   simp
 rw [e1,e2] at hc
 exact hc
theorem Bm {xs:List Pn} (hnd:hot.Nodup) (hb:bare xs) (hm:∀p∈xs,p∈hot) (he:e∈Jy (Km hot xs)) :∃f∈Jy xs,Frag hot (lA f) (lB f) (lA e) (lB e)∧lA e∈hot∧lB e∈hot:=by
 have hS:= (Gs hnd hb hm).1
 rw [vW hS] at he
 obtain ⟨pq,hpq,rfl⟩ :=jgO.1 he
 obtain ⟨j,hj,rfl⟩ :=jgO.1 hpq
 have hj:=jh9.1 hj
 have hc:=Cc hj
 have hSp:=zk (hot:=hot) hb
 have hlk:=RS (xs:=xs)
 have hok:=Xc hb hm
 have hhd:∀h:0< (vz xs).length,((vz xs)[0]'h).1=pt xs 0:=fun h=>by simp [vz]
 have hlen:0< (vz xs).length:=by rw [WF];exact hb.1
 cases hP:vz xs with
 | nil=>rw [hP] at hlen;exact absurd hlen (by simp)
 | cons e0 es=>
  simp only [hP] at hlk hok hhd hlen hSp
  obtain ⟨rest,hr⟩ :=Bp (l:=es) (hok e0 (jgZ ..))
  have h0:pt (Km hot xs) 0=pt xs 0:=by
   rw [hSp,hr,←hhd hlen]
   rfl
  rw [h0,hSp] at hc
  obtain ⟨d,hd,l1,l2,hk⟩ :=Bj hlk hok hc
  refine⟨mkL d,?_,?_,?_,?_⟩
  ·rw [vW hb,hP]
   exact jgO.2 ⟨d,hd,rfl⟩
  ·have:=jc0 hnd hk
   rw [←hSp] at this
   exact this
  ·exact MQ (xs:=xs) (by show pt (Km hot xs) j∈_;rw [←Kl hj];exact jgH _)
  ·have hn:nx (Km hot xs) j< (Km hot xs).length:=Nat.mod_lt _ Om
   exact MQ (xs:=xs) (by show pt (Km hot xs) (nx (Km hot xs) j)∈_;rw [←Kl hn];exact jgH _)
theorem BK {rs:List jK} {e:Leg} :∀k,e∈qW rs k↔∃j,j<k∧e∈Jy (rg rs j)
 | 0=>by simp [qW]
 | k+1=>by
  show e∈qW rs k++Jy (rg rs k)↔_
  rw [jgL,BK k]
  constructor
  ·rintro(⟨j,h1,h2⟩ | h)
   ·exact⟨j,by omega,h2⟩
   ·exact⟨k,by omega,h⟩
  ·rintro⟨j,h1,h2⟩
   by_cases h:j=k
   ·subst h;exact .inr h2
   ·exact .inl ⟨j,by omega,h2⟩
theorem zF :e∈Jx rs↔∃r∈rs,e∈Jy r:=by
 unfold Jx
 rw [BK]
 constructor
 ·rintro⟨j,h1,h2⟩
  exact⟨rg rs j,by rw [←Vm h1];exact jgH _,h2⟩
 ·rintro⟨r,h1,h2⟩
  obtain ⟨j,hj,e1⟩ :=jg1 h1
  exact⟨j,hj,by rw [←Vm hj,e1];exact h2⟩
def Es (hot:List Pn) (E:List Leg) :Prop:=∀e∈E,∀f∈E,Ii hot (lA e) (lB e) (lA f) (lB f)
def NoX (E:List Leg) :Prop:=∀e∈E,∀f∈E,qU (lA e) (lB e) (lA f) (lB f)≠true
theorem NoX.inv (h:NoX E) :Es hot E:=fun e he f hf hs=>absurd hs (h e he f hf)
theorem Rd (hnd:hot.Nodup) (hb:bareG hot rs) (h:Es hot (Jx rs)) :NoX (Jx (qY hot rs)) :=fun e he f hf=>by
 obtain ⟨r,hr,he⟩ :=zF.1 he
 obtain ⟨s,hs,hf⟩ :=zF.1 hf
 obtain ⟨r0,hr0,rfl⟩ :=jgO.1 hr
 obtain ⟨s0,hs0,rfl⟩ :=jgO.1 hs
 obtain ⟨e0,he0,F,m1,m2⟩ :=Bm hnd (hb r0 hr0).1 (hb r0 hr0).2 he
 obtain ⟨f0,hf0,G,m3,m4⟩ :=Bm hnd (hb s0 hs0).1 (hb s0 hs0).2 hf
 exact SN F G m1 m2 m3 m4 (h e0 (zF.2 ⟨r0,hr0,he0⟩) f0 (zF.2 ⟨s0,hs0,hf0⟩))
def Re (hot:List Pn) :Nat→List jK→List jK
 | 0,rs=>rs
 | n+1,rs=>Re hot n (qY hot rs)
theorem Nv (hot:List Pn) :∀n rs ss,Re hot n (rs++ss) =Re hot n rs++Re hot n ss
 | 0,_,_=>rfl
 | n+1,rs,ss=>by
  show Re hot n (qY hot (rs++ss)) =_
  rw [show qY hot (rs++ss) =qY hot rs++qY hot ss by simp [qY],Nv]
  rfl
theorem DX {hot:List Pn} {rs:List jK} (h:qY hot rs=rs) :∀n,Re hot n rs=rs
 | 0=>rfl
 | n+1=>by
  show Re hot n (qY hot rs) =rs
  rw [h,DX h n]
theorem DW {hot:List Pn} :∀m n rs,Re hot (m+n) rs=Re hot n (Re hot m rs)
 | 0,n,rs=>by rw [jgT];rfl
 | m+1,n,rs=>by
  rw [show m+1+n= (m+n) +1 by omega]
  exact DW m n (qY hot rs)
theorem Nw {hot:List Pn} (hnd:hot.Nodup) :∀n rs,bareG hot rs→Es hot (Jx rs)→bareG hot (Re hot n rs)∧Es hot (Jx (Re hot n rs))
 | 0,rs,h1,h2=>⟨h1,h2⟩
 | n+1,rs,h1,h2=>Nw hnd n (qY hot rs) (h1.snap hnd) (Rd hnd h1 h2).inv
theorem PJ {hot:List Pn} :∀f {rs ss:List jK} {r q:Nat},Xn hot f rs r=some (ss,q)→qY hot ss=ss∧∃n,ss=Re hot n rs
 | 0,_,_,_,_,h=>by cases h
 | f+1,rs,ss,r,q,h=>by
  unfold Xn at h
  split at h
  ·cases h
  ·split at h
   ·rename_i e
    injection h with h
    injection h with h1 h2
    subst h1
    exact⟨e,0,rfl⟩
   ·obtain ⟨h1,n,h2⟩ :=PJ f h
    exact⟨h1,n+1,h2⟩
theorem I6 {hot:List Pn} :∀ {es:List (Pn×Pn)},(∀d∈es,d.1≠d.2∧d.1∈hot∧d.2∈hot)→(es.flatMap (kt hot)).length=es.length→∀e∈es,Qi e.1 e.2 hot= [e.1,e.2]
 | [],_,_,e,he=>by cases he
 | d::l,h,hl,e,he=>by
  obtain ⟨mid,h1,h2⟩ :=wl (h d (jgZ ..))
  have hg:= (XP (es:=l) fun x hx=>h x (jgP _ hx)).1
  rw [jgU,h1,jgv,jgD,jgD] at hl
  rcases jgK.1 he with rfl | he
  ·obtain rfl:mid= [] :=jgX Om
   rw [h2,h1]
   rfl
  ·exact I6 (fun x hx=>h x (jgP _ hx)) Om e he
theorem Dd (hb:bareG hot rs) (hs:qY hot rs=rs) (he:e∈Jx rs) :lA e∈hot∧lB e∈hot∧lA e≠lB e∧Qi (lA e) (lB e) hot= [lA e,lB e] :=by
 obtain ⟨r,hr,he⟩ :=zF.1 he
 have hsr:Km hot r=r:=by
  have:∀ {l:List jK},l.map (Km hot) =l→∀x∈l,Km hot x=x:=fun {l} =>by
   induction l with
   | nil=>intro _ x hx;cases hx
   | cons y l ih=>
    intro h x hx
    simp only [jgM,List.cons.injEq] at h
    rcases jgK.1 hx with rfl | hx
    ·exact h.1
    ·exact ih h.2 x hx
  exact this hs r hr
 obtain ⟨h1,h2⟩ :=hb r hr
 have hok:=Xc h1 h2
 rw [vW h1] at he
 obtain ⟨d,hd,rfl⟩ :=jgO.1 he
 have hl: ((vz r).flatMap (kt hot)).length= (vz r).length:=by rw [←zk h1,hsr,WF]
 obtain ⟨g1,g2,g3⟩ :=hok d hd
 exact⟨g2,g3,g1,I6 hok hl d hd⟩
theorem SJ (a b c d:Pn) : (Q3 a b c d).Nodup:=by
 have key:∀out p,out.Nodup→(Ho a b c d out p).Nodup:=fun out p h=>by
  unfold Ho
  split
  ·rename_i k
   simp only [jgy,jhe] at k
   refine List.nodup_append.2 ⟨h,by simp,fun x hx y hy e=> ?_⟩
   rw [jgC.1 hy] at e
   subst e
   have:=k.1
   rw [List.contains_eq_mem,decide_eq_false_iff_not] at this
   exact this hx
  ·exact h
 exact key _ _ (key _ _ (key _ _ (key _ _ List.nodup_nil)))
theorem Ed (hb:bareG hot rs) (hs:qY hot rs=rs) (hx:NoX (Jx rs)) (hok:∀p∈hot,bd2 p) {f:Leg} (he:e∈Jx rs) (hf:f∈Jx rs) :Xb (lA e) (lB e) (lA f) (lB f) =true:=by
 obtain ⟨e1,e2,e3,e4⟩ :=Dd hb hs he
 obtain ⟨f1,f2,f3,f4⟩ :=Dd hb hs hf
 have hno:=hx e he f hf
 generalize lA e=a at*
 generalize lB e=b at*
 generalize lA f=c at*
 generalize lB f=d at*
 have way:∀ {p q x:Pn},Qi p q hot= [p,q]→p∈hot→q∈hot→x∈hot→UJ p q x=true→x=p∨x=q:=fun {p q x} h hp hq hx ho=>by
  have hi:= (jfi (hok p hp) (hok q hq) ho).2
  unfold ipB at hi
  simp only [jgy] at hi
  obtain ⟨u,v,hv,_,h0,h1,h2⟩ :=DU (a:=p) (b:=q) (p:=x) hi.2
  have hm:x∈Qi p q hot:=wj.2 ⟨hx,RK hv h0 h1 h2⟩
  rw [h] at hm
  simpa using hm
 have both:∀q∈Q3 a b c d,(q=a∨q=b)∧(q=c∨q=d) :=fun q hq=>by
  obtain ⟨h1,h2⟩ :=Q9.1 hq
  unfold Kz at h2
  simp only [jgy] at h2
  have hqh:q∈hot:=by
   rcases h1 with rfl | rfl | rfl | rfl<;>assumption
  exact⟨way e4 e1 e2 hqh h2.1,way f4 f1 f2 hqh h2.2⟩
 have nd:=SJ a b c d
 unfold Xb
 split
 ·rfl
 ·split
  ·rename_i h2
   exact absurd (jaW h2) hno
  ·split
   ·rename_i h1
    have:∃q,q∈Q3 a b c d:=by
     unfold Q4 at h1
     cases hh:Q3 a b c d with
     | nil=>rw [hh] at h1;simp at h1;split at h1<;>omega
     | cons x l=>exact⟨x,by simp⟩
    obtain ⟨q,hq⟩ :=this
    obtain ⟨k1,k2⟩ :=both q hq
    simp only [jhe,jh5,decide_eq_false_iff_not,ne_eq,Decidable.not_not]
    rcases k1 with rfl | rfl<;>rcases k2 with rfl | rfl<;>simp
   ·split
    ·rename_i h3
     unfold Q4 at h3
     match hh:Q3 a b c d with
     | [] =>rw [hh] at h3;simp at h3;split at h3<;>omega
     | [x] =>rw [hh] at h3;simp at h3
     | x::y::l=>
      rw [hh] at nd both
      have hxy:x≠y:=fun e=> (List.nodup_cons.1 nd).1 (by rw [e];simp)
      obtain ⟨k1,k2⟩ :=both x (by simp)
      obtain ⟨k3,k4⟩ :=both y (by simp)
      rw [decide_eq_true_iff]
      rcases k1 with rfl | rfl<;>rcases k3 with rfl | rfl
      ·exact absurd rfl hxy
      ·rcases k2 with rfl | rfl<;>rcases k4 with rfl | rfl
       ·exact absurd rfl hxy
       ·exact .inl ⟨rfl,rfl⟩
       ·exact .inr ⟨rfl,rfl⟩
       ·exact absurd rfl hxy
      ·rcases k2 with rfl | rfl<;>rcases k4 with rfl | rfl
       ·exact absurd rfl hxy
       ·exact .inr ⟨rfl,rfl⟩
       ·exact .inl ⟨rfl,rfl⟩
       ·exact absurd rfl hxy
      ·exact absurd rfl hxy
    ·rfl
theorem M6 (h:qU a b c d=true) :Q4 a b c d=2:=by
 have hn:Q3 a b c d= [] :=by
  refine List.eq_nil_iff_forall_not_mem.2 fun q hq=> ?_
  obtain ⟨h1,h2⟩ :=Q9.1 hq
  unfold Kz at h2
  simp only [jgy] at h2
  have t1:= (Kf.1 h2.1).1
  have t2:= (Kf.1 h2.2).1
  obtain ⟨s1,s2⟩ :=KS.1 h
  rcases h1 with rfl | rfl | rfl | rfl<;>omega
 unfold Q4
 rw [hn,if_pos (show([] :List Pn).length=0 from rfl),if_pos h]
theorem SF {E:List Leg} {i k:Nat} (h:Q4 (lA (lg E i)) (lB (lg E i)) (lA (lg E k)) (lB (lg E k)) =2) :∀j,k<j→DF (lA (lg E i)) (lB (lg E i)) (lA (lg E k)) (lB (lg E k))∈cz E i j
 | 0,hj=>absurd hj Om
 | j+1,hj=>by
  unfold cz
  by_cases e:k=j
  ·subst e
   rw [if_pos h]
   simp
  ·exact jht _ (SF h j Om)
theorem SQ {E:List Leg} {i:Nat} {p:Pn} (h:p∈cz E i i) :∀n,i<n→p∈Yr E n
 | 0,hn=>absurd hn Om
 | n+1,hn=>by
  unfold Yr
  by_cases e:i=n
  ·subst e;exact jh1 _ h
  ·exact jht _ (jht _ (SQ h n Om))
theorem jbW {t t':Int} (h:sc a b t v=sc c d t' v) :v*tn c d a=t* (tn c d a- tn c d b) :=by
 have e1:2* (v*tn c d a+t* (tn c d b- tn c d a)) = (d.1- c.1) * ((sc a b t v).2- (sc c d t' v).2) - (d.2- c.2) * ((sc a b t v).1- (sc c d t' v).1) :=by simp only [sc,tn,Kc];grind
 rw [h] at e1
 have e2:v*tn c d a+t* (tn c d b- tn c d a) =0:=by
  have: (d.1- c.1) * ((sc c d t' v).2- (sc c d t' v).2) - (d.2- c.2) * ((sc c d t' v).1- (sc c d t' v).1) =0:=by rw [Int.sub_self,Int.sub_self];simp
  omega
 have e3:t* (tn c d a- tn c d b) = -(t* (tn c d b- tn c d a)) :=by grind
 omega
theorem E4 {x y n D0 t:Int} (hd:D0≠0) (hv:0<v) (h:v*n=t*D0) :zT (2*x) (2* (y- x)) (2*On x y n D0- 1) t v:=by
 obtain ⟨N,D,hD,hND,g1,g2⟩ :=SD (x:=x) (y:=y) (n:=n) hd
 have hk:v*N=t*D:=by
  rcases hND with⟨_,rfl,rfl⟩ |⟨_,rfl,rfl⟩
  ·rw [Int.mul_neg,Int.mul_neg,h]
  ·exact h
 generalize On x y n D0=r at*
 unfold zT
 have e: (2*x*v+t* (2* (y- x))) *D=2* (x*D+ (y- x) *N) *v:=by
  have: (2*x*v+t* (2* (y- x))) *D=2*x*D*v+2* (y- x) * (t*D) :=by grind
  rw [this,←hk]
  grind
 have m1:=jgz g1 (show 0≤v by omega)
 have m2:=jg6 g2 hv
 rw [←e] at m1 m2
 have f1: (2*r- 1) *D*v= (2*r- 1) *v*D:=by grind
 have f2: (2*r+1) *D*v= (2*r- 1+2) *v*D:=by grind
 rw [f1] at m1
 rw [f2] at m2
 exact⟨jg8 m1 hD,jhl m2 Om⟩
theorem Iq9 (hs:qU a b c d=true) {t t':Int} (hv:0<v) (h:sc a b t v=sc c d t' v) :wB a b (DF a b c d) t v:=by
 have hd:=u7 hs
 have hk2:v*crN a c d=t*Cd a b c d:=by
  rw [XN,ZB]
  exact jbW h
 exact⟨E4 hd hv hk2,E4 hd hv hk2⟩
theorem Sf (h:qU a b c d=true) :qU c d a b=true:=by
 obtain ⟨h1,h2⟩ :=KS.1 h
 exact KS.2 ⟨h2,h1⟩
theorem Ck (hh:∀p∈Yr E E.length,p∈hot) :Es hot E:=fun e he f hf hs=>by
 obtain ⟨i,hi,rfl⟩ :=BF he
 obtain ⟨k,hk,rfl⟩ :=BF hf
 rcases Nat.lt_trichotomy i k with c | c | c
 ·have hs':=Sf hs
  refine⟨DF (lA (lg E k)) (lB (lg E k)) (lA (lg E i)) (lB (lg E i)),hh _ (SQ (SF (M6 hs') k c) _ hk),fun t t' v hv h=> ?_⟩
  rw [SA (u7 hs) (u7 hs')]
  exact Iq9 hs hv h
 ·subst c
  exact absurd rfl (De hs).2.2.1
 ·exact⟨DF (lA (lg E i)) (lB (lg E i)) (lA (lg E k)) (lB (lg E k)),hh _ (SQ (SF (M6 hs) i c) _ hi),fun t t' v hv h=>Iq9 hs hv h⟩
end Go.Proofs.YtbahojdbmmjkcaaGreat
