import Derived.Test.YtkagkgjjfdkoaaaGreatMRounds
import Derived.Test.YtkagkgjjfdkoaaaGreatMHotLaw
import Derived.Test.YtkagkgjjfdkoaaaGreatMCross
import Derived.Test.YtkagkgjjfdkoaaaGreatMLawKit
import Derived.Test.YtkagkgjjfdkoaaaGreatMTopo2
import Derived.Test.YtkagkgjjfdkoaaaGreatMNetQ
set_option linter.unusedVariables false
set_option linter.unusedSimpArgs false
namespace Go.Proofs.YtkagkgjjfdkoaaaGreat
open Go Go.RowKit
def jbw (E:List Leg) :List Pn:=kh (Yf E E.length)
theorem EB {a b c d:Pn} (h:Q1 a b c d=2) :qM a b c d=true:=by
 unfold Q1 at h
 split at h
 ·split at h
  ·rename_i h1;exact h1
  ·omega
 ·split at h<;>omega
theorem Im {E:List Leg} :∀i,i≤E.length→∀k,k<i→lA (lg E k)∈Yf E i∧lB (lg E k)∈Yf E i
 | 0,_,k,hk=>absurd hk (by omega)
 | i+1,hi,k,hk=>by
  rw [Yf]
  rcases jfX (show k≤i by omega) with h | rfl
  ·obtain ⟨h1,h2⟩ :=Im (E:=E) i (by omega) k h
   exact⟨jfE _ (jfE _ h1),jfE _ (jfE _ h2)⟩
  ·exact⟨jfE _ (jgd _ (by simp)),jfE _ (jgd _ (by simp))⟩
theorem CU {E:List Leg} (hok:∀l∈E,qO l) {i:Nat} (hi:i<E.length) :∀k,k≤i→∀p∈cz E i k,bd2 p
 | 0,_,p,hp=>by simp [cz] at hp
 | k+1,hk,p,hp=>by
  rw [cz] at hp
  rcases jeY.1 hp with h | h
  ·exact CU hok hi k (by omega) p h
  ·split at h
   ·rename_i hm
    rw [jeT.1 h]
    exact(NW (wL (Q6 hok (by omega))) (Wt (Q6 hok (by omega))) (EB hm)).1
   ·simp at h
theorem Tu {E:List Leg} (hok:∀l∈E,qO l) :∀i,i≤E.length→∀p∈Yf E i,bd2 p
 | 0,_,p,hp=>by simp [Yf] at hp
 | i+1,hi,p,hp=>by
  rw [Yf] at hp
  rcases jeY.1 hp with h | h
  ·rcases jeY.1 h with h | h
   ·exact Tu hok i (by omega) p h
   ·simp only [je0,jfQ,or_false] at h
    rcases h with rfl | rfl
    ·exact wL (Q6 hok (by omega))
    ·exact Wt (Q6 hok (by omega))
  ·exact CU hok (by omega) i (jeD _) p h
theorem NI {l:List Pn} (h:Asc l) :l.Nodup:=List.Pairwise.imp (fun {a b} (hab:wq a b) (e:a=b) =>Q7 a (by rw [←e] at hab;exact hab)) h
theorem jdh {E:List Leg} {k:Nat} (hk:k<E.length) :lg E k=E[k] :=by simp [lg,List.getD,hk]
theorem Lo {rs:List jS} :∀k,k≤rs.length→cnt (K3 rs k) = (Qg rs k).length
 | 0,_=>rfl
 | k+1,hk=>by
  have ih:=Lo (rs:=rs) k (by omega)
  have e: (Qg rs (k+1)).length= (Qg rs k).length+ (J0 (rg rs k)).length:=jeC
  have e2: (KY (rg rs k)).length= (J0 (rg rs k)).length:=jeX ..
  by_cases h:0< (KY (rg rs k)).length
  ·rw [yi (by omega) h,e,←ih]
   simp [cnt,e2]
  ·rw [zn (by omega) h,e,←ih]
   omega
theorem Yl {rs:List jS} (hr:JO rs=true) :∀r∈J4 rs,bare r:=fun r h=>by
 obtain ⟨h0,q,hq,rfl⟩ :=Zf h
 obtain ⟨i,hi,e⟩ :=jfm hq
 have:=Qa (kU hr hi)
 rw [wl hi] at e
 rw [e] at this
 exact O7 this.1 h0
theorem jbz {xs:List Pn} (h:kH xs=true) :∀p∈KY xs,wU p.1 p.2=true:=fun p hp=>by
 obtain ⟨l,hl,rfl⟩ :=je7.1 hp
 exact yj (wL (Zo (GS h).2.2 _ (jeD _) l hl))
theorem yh {rs:List jS} (hr:JO rs=true) :JO (J4 rs) =true:=by
 have h40:=wb hr
 have hl:=Ze rs rs.length
 have hcnt: (Jm (J4 rs)).length≤400:=by
  rw [Z7 (Yl hr)]
  have:=Lo (rs:=rs) rs.length (jeD _)
  have h4: (Jm rs).length≤400:=by simp [JO] at hr;omega
  unfold Jm at h4
  unfold J4
  omega
 have hall: (J4 rs).all kH=true:=jfP.2 fun r h=>by
  have hs:=Zr hr h
  obtain ⟨h0,q,hq,rfl⟩ :=Zf h
  obtain ⟨i,hi,e⟩ :=jfm hq
  have hb:=kU hr hi
  rw [wl hi] at e
  rw [e] at hb
  unfold kH XA
  rw [decide_eq_true (show(1:Int)≤((KY q).length:Int) by omega),decide_eq_true (show((KY q).length:Int)≤400 by omega)]
  exact jfP.2 fun p hp=>jbz hb p hp
 rw [ZN (by unfold J4;omega) hall]
 exact decide_eq_true hcnt
structure HotOk (hot:List Pn) (ss:List jS) :Prop where
 reg:JO ss=true
 ok:∀p∈hot,wU p.1 p.2=true
 asc:Asc hot
 nd:hot.Nodup
 len:hot.length≤1048576
 bare:bareG hot ss
theorem BE {hot:List Pn} (hnd:hot.Nodup) :∀(f:Nat) {rs ss:List jS} {r q:Nat},JO rs=true→bareG hot rs→Xm hot f rs r=some (ss,q)→JO ss=true
 | 0,_,_,_,_,_,_,h=>by cases h
 | f+1,rs,ss,r,q,hr,hb,h=>by
  rw [Xm] at h
  split at h
  ·cases h
  ·rename_i h1
   split at h
   ·injection h with h
    injection h with h2 h3
    exact h2▸hr
   ·exact BE hnd f (by simpa using h1) (hb.snap hnd) h
theorem jaK {hot:List Pn} (hnd:hot.Nodup) {rs ss:List jS} {r:Nat} (hr:JO rs=true) (hb:bareG hot rs) (h:MI hot rs=some (ss,r)) :JO ss=true:=BE hnd _ hr hb h
theorem C4 {P:Program} {f:FuncId} {args:Array Value} {w1:World} {n lo hi:Nat} {ss rs:List jS} {A:Option Addr} {c:Nat} {V:Option Addr→Nat→Value} (hg: (JD n ss lo hi A).P w1) (hn:ss.length=n)
  (h:Calls P f args w1 fun e w'=>∃A' c',e= .returned (V A' c')∧((A'=A∧c'=c∧rs=ss)∨OwnG w1.heap.size w'.heap.size w' A' rs.length rs)∧Over w1 w') :
  Calls P f args w1 fun e w'=>∃x: (Option Addr×Nat)×Nat×Nat,e= .returned (V x.1.1 x.1.2)∧Wrs (JD n ss lo hi A).F w1 w'∧(JD rs.length rs x.2.1 x.2.2 x.1.1).P w'∧(∀b,(JD rs.length rs x.2.1 x.2.2 x.1.1).F b→(JD n ss lo hi A).F b∨w1.heap.size≤b)∧(JD rs.length rs x.2.1 x.2.2 x.1.1).B=0:=by
 refine h.mono ?_
 rintro e w' ⟨A',c',rfl,ho,hO⟩
 rcases ho with⟨rfl,rfl,rfl⟩ | ho
 ·subst hn
  have hz:hi≤w1.heap.size:=hg.1
  exact⟨((A',c'),lo,hi),rfl,Wrs.of hO,Ii ((Vy hg).agree fun b h1 h2=>hO.out.block b (by omega)) (jft hz hO.size),fun b hb=> .inl hb,rfl⟩
 ·exact⟨((A',c'),w1.heap.size,w'.heap.size),rfl,Wrs.of hO,Ii ho (jeD _),fun b hb=> .inr hb.1,rfl⟩
def Frag (hot:List Pn) (a b h h':Pn) :Prop:=∃V u u':Int,0<V∧(0≤u∧u≤u'∧u'≤V)∧wO a b h u V∧wO a b h' u' V∧∀k∈hot,k≠h→k≠h'→Lf a b k V u u'
theorem Re {f d lo u v m:Int} (hm:0<m) :zL f d lo (u*m) (v*m)↔zL f d lo u v:=by
 have e1:lo* (v*m) =lo*v*m:=by grind
 have e2:f* (v*m) +u*m*d= (f*v+u*d) *m:=by grind
 have e3: (lo+2) * (v*m) = (lo+2) *v*m:=by grind
 unfold zL
 rw [e1,e2,e3]
 constructor
 ·rintro⟨h1,h2⟩;exact⟨jfk h1 hm,jfv h2 (by omega)⟩
 ·rintro⟨h1,h2⟩;exact⟨jeH h1 (by omega),jfh h2 hm⟩
theorem yt {a b p:Pn} {u v m:Int} (hm:0<m) :wO a b p (u*m) (v*m)↔wO a b p u v:=by
 unfold wO
 rw [Re hm,Re hm]
theorem Sq {a b k:Pn} {V u u' m:Int} (hm:0<m) (h:Lf a b k V u u') :Lf a b k (V*m) (u*m) (u'*m) :=fun t v hv h1 h2=>by
 refine h t v hv ?_ ?_
 ·have e1:u*m*v=u*v*m:=by grind
  have e2:t* (V*m) =t*V*m:=by grind
  rw [e1,e2] at h1
  exact jfk h1 hm
 ·have e1:u'*m*v=u'*v*m:=by grind
  have e2:t* (V*m) =t*V*m:=by grind
  rw [e1,e2] at h2
  exact jfk h2 hm
theorem Frag.scale {hot:List Pn} {a b h h':Pn} {V u u' m:Int} (hm:0<m) (hV:0<V) (hu:0≤u∧u≤u'∧u'≤V) (h1:wO a b h u V) (h2:wO a b h' u' V) (h3:∀k∈hot,k≠h→k≠h'→Lf a b k V u u') :
  0<V*m∧(0≤u*m∧u*m≤u'*m∧u'*m≤V*m)∧wO a b h (u*m) (V*m)∧wO a b h' (u'*m) (V*m)∧∀k∈hot,k≠h→k≠h'→Lf a b k (V*m) (u*m) (u'*m) :=
 ⟨jfw hV hm,⟨jfl hu.1 (by omega),jeH hu.2.1 (by omega),jeH hu.2.2 (by omega)⟩,(yt hm).2 h1,(yt hm).2 h2,fun k a1 a2 a3=>Sq hm (h3 k a1 a2 a3)⟩
theorem T9 (a b c d:Pn) (V w w' t:Int) :tn (sc c d w V) (sc c d w' V) (sc a b t V) =4* (w'- w) * (V*tn c d a+t* (tn c d b- tn c d a)) :=by
 simp only [sc,tn,Kd]
 grind
theorem EX {A B V u u' D p q:Int} (hu:0≤u∧u≤u'∧u'≤V) (hD:0≤D) (hp:p=D* (V*A+u* (B- A))) (hq:q=D* (V*A+u'* (B- A))) (h: (p<0∧0<q)∨(0<p∧q<0)) : (A<0∧0<B)∨(0<A∧B<0) :=by
 have e1:V*A+u* (B- A) = (V- u) *A+u*B:=by grind
 have e2:V*A+u'* (B- A) = (V- u') *A+u'*B:=by grind
 rw [e1] at hp
 rw [e2] at hq
 have s1:=kB hp
 have s2:=kB hq
 have k:¬(0≤A∧0≤B) :=fun ⟨g1,g2⟩ =>by
  have m1:=jfl (show 0≤V- u by omega) g1
  have m2:=jfl hu.1 g2
  have m3:=jfl (show 0≤V- u' by omega) g1
  have m4:=jfl (show 0≤u' by omega) g2
  omega
 have k':¬(A≤0∧B≤0) :=fun ⟨g1,g2⟩ =>by
  have m1:=jf6 (show 0≤V- u by omega) g1
  have m2:=jf6 hu.1 g2
  have m3:=jf6 (show 0≤V- u' by omega) g1
  have m4:=jf6 (show 0≤u' by omega) g2
  omega
 omega
theorem SL {a b c d:Pn} {V u u' w w':Int} (hV:0<V) (hu:0≤u∧u≤u'∧u'≤V) (hw:0≤w∧w≤w'∧w'≤V) (hs:qM (sc a b u V) (sc a b u' V) (sc c d w V) (sc c d w' V) =true) :
  qM a b c d=true∧∃t t' v:Int,0<v∧(u*v≤t*V∧t*V≤u'*v)∧(w*v≤t'*V∧t'*V≤w'*v)∧sc a b t v=sc c d t' v:=by
 obtain ⟨h1,h2⟩ :=KX.1 hs
 have hd:=Fd (sc a b u V) (sc a b u' V) (sc c d w V) (sc c d w' V)
 refine⟨KX.2 ⟨?_,?_⟩,?_⟩
 ·exact EX hw (by omega) (T9 c d a b V u u' w) (T9 c d a b V u u' w') h1
 ·exact EX hu (by omega) (T9 a b c d V w w' u) (T9 a b c d V w w' u') h2
 ·
  have i1:∀q1 q2:Int,(sc a b (u*q2- u'*q1) (V* (q2- q1))) = (q2* (sc a b u V).1- q1* (sc a b u' V).1,q2* (sc a b u V).2- q1* (sc a b u' V).2) :=fun q1 q2=>by
   apply Prod.ext<;> (simp only [sc];grind)
  have i2:∀p1 p2:Int,(sc c d (w'*p1- w*p2) (V* (p1- p2))) = (p1* (sc c d w' V).1- p2* (sc c d w V).1,p1* (sc c d w' V).2- p2* (sc c d w V).2) :=fun p1 p2=>by
   apply Prod.ext<;> (simp only [sc];grind)
  have j1:∀X X' Y Y':Pn,tn Y Y' X'*X.1- tn Y Y' X*X'.1=tn X X' Y*Y'.1- tn X X' Y'*Y.1:=fun X X' Y Y'=>by simp only [tn,Kd];grind
  have j2:∀X X' Y Y':Pn,tn Y Y' X'*X.2- tn Y Y' X*X'.2=tn X X' Y*Y'.2- tn X X' Y'*Y.2:=fun X X' Y Y'=>by simp only [tn,Kd];grind
  have J1:=j1 (sc a b u V) (sc a b u' V) (sc c d w V) (sc c d w' V)
  have J2:=j2 (sc a b u V) (sc a b u' V) (sc c d w V) (sc c d w' V)
  generalize tn (sc a b u V) (sc a b u' V) (sc c d w V) =p1 at*
  generalize tn (sc a b u V) (sc a b u' V) (sc c d w' V) =p2 at*
  generalize tn (sc c d w V) (sc c d w' V) (sc a b u V) =q1 at*
  generalize tn (sc c d w V) (sc c d w' V) (sc a b u' V) =q2 at*
  rcases h2 with⟨g1,g2⟩ |⟨g1,g2⟩
  ·refine⟨u*q2- u'*q1,w'*p1- w*p2,V* (q2- q1),jfw hV (by omega),?_,?_,?_⟩
   ·have e1:u* (V* (q2- q1)) = (u*q2- u*q1) *V:=by grind
    have e2:u'* (V* (q2- q1)) = (u'*q2- u'*q1) *V:=by grind
    rw [e1,e2]
    have m1:u*q2≤u'*q2:=jeH hu.2.1 (by omega)
    have m2:u'*q1≤u*q1:=jfZ hu.2.1 (by omega)
    exact⟨jeH (by omega) (by omega),jeH (by omega) (by omega)⟩
   ·have e0:q2- q1=p1- p2:=by omega
    rw [e0]
    have e1:w* (V* (p1- p2)) = (w*p1- w*p2) *V:=by grind
    have e2:w'* (V* (p1- p2)) = (w'*p1- w'*p2) *V:=by grind
    rw [e1,e2]
    have m1:w*p1≤w'*p1:=jeH hw.2.1 (by omega)
    have m2:w'*p2≤w*p2:=jfZ hw.2.1 (by omega)
    exact⟨jeH (by omega) (by omega),jeH (by omega) (by omega)⟩
   ·rw [i1,show q2- q1=p1- p2 by omega,i2,J1,J2]
  ·have i1':=i1 (-q1) (-q2)
   have i2':=i2 (-p1) (-p2)
   refine⟨u* -q2- u'* -q1,w'* -p1- w* -p2,V* (-q2- -q1),jfw hV (by omega),?_,?_,?_⟩
   ·have e1:u* (V* (-q2- -q1)) = (u* -q2- u* -q1) *V:=by grind
    have e2:u'* (V* (-q2- -q1)) = (u'* -q2- u'* -q1) *V:=by grind
    rw [e1,e2]
    have m1:u* -q2≤u'* -q2:=jeH hu.2.1 (by omega)
    have m2:u'* -q1≤u* -q1:=jfZ hu.2.1 (by omega)
    exact⟨jeH (by omega) (by omega),jeH (by omega) (by omega)⟩
   ·have e0: -q2- -q1= -p1- -p2:=by omega
    rw [e0]
    have e1:w* (V* (-p1- -p2)) = (w* -p1- w* -p2) *V:=by grind
    have e2:w'* (V* (-p1- -p2)) = (w'* -p1- w'* -p2) *V:=by grind
    rw [e1,e2]
    have m1:w* -p1≤w'* -p1:=jeH hw.2.1 (by omega)
    have m2:w'* -p2≤w* -p2:=jfZ hw.2.1 (by omega)
    exact⟨jeH (by omega) (by omega),jeH (by omega) (by omega)⟩
   ·have n:∀x y:Int,-x*y= -(x*y) :=fun x y=>Int.neg_mul ..
    rw [i1 (-q1) (-q2),show-q2- -q1= -p1- -p2 by omega,i2 (-p1) (-p2)]
    simp only [n]
    apply Prod.ext
    ·simp only;omega
    ·simp only;omega
def Fx (hot:List Pn) (a b c d:Pn) :Prop:=qM a b c d=true→∃k∈hot,∀t t' v:Int,0<v→sc a b t v=sc c d t' v→wO a b k t v
theorem BG {h h' g g':Pn} (hs:qM h h' g g'=true) :h≠h'∧g≠g'∧g≠h∧g≠h'∧g'≠h∧g'≠h':=by
 obtain ⟨h1,h2⟩ :=KX.1 hs
 have z1:∀p q:Pn,tn p p q=0:=fun p q=>by simp only [tn,Kd];grind
 have z2:∀p q:Pn,tn p q p=0:=fun p q=>by simp only [tn,Kd];grind
 have z3:∀p q:Pn,tn p q q=0:=fun p q=>by simp only [tn,Kd];grind
 refine⟨?_,?_,?_,?_,?_,?_⟩ <;>rintro rfl<;>simp [z1,z2,z3] at h1 h2
theorem R4 {hot:List Pn} {a b c d h h' g g':Pn} (F:Frag hot a b h h') (G:Frag hot c d g g') (mh:h∈hot) (mh':h'∈hot) (mg:g∈hot) (mg':g'∈hot) (hc:Fx hot a b c d) :qM h h' g g'≠true:=fun hs=>by
 obtain ⟨n1,n2,n3,n4,n5,n6⟩ :=BG hs
 obtain ⟨V,u,u',hV,hu,i1,i2,i3⟩ :=F
 obtain ⟨W,w,w',hW,hw,j1,j2,j3⟩ :=G
 obtain ⟨pV,qu,k1,k2,k3⟩ :=Frag.scale hW hV hu i1 i2 i3
 obtain ⟨pW,qw,l1,l2,l3⟩ :=Frag.scale hV hW hw j1 j2 j3
 rw [jfn W V] at pW qw l1 l2 l3
 generalize V*W=U at*
 generalize u*W=x at*
 generalize u'*W=x' at*
 generalize w*V=y at*
 generalize w'*V=y' at*
 refine EP pV qu qw k1 k2 l1 l2 n1 n2 (k3 g mg n3 n4) (k3 g' mg' n5 n6) (l3 h mh (Ne.symm n3) (Ne.symm n5)) (l3 h' mh' (Ne.symm n4) (Ne.symm n6)) ?_ hs
 intro hss
 obtain ⟨s1,t,t',v,hv,s2,s3,s4⟩ :=SL pV qu qw hss
 obtain ⟨k,mk,hk⟩ :=hc s1
 have p1:=hk t t' v hv s4
 have p2:wO c d k t' v:=by rw [vu,←s4];exact vu.1 p1
 by_cases e1:k=g
 ·subst e1;exact k3 k mk n3 n4 t v hv s2.1 s2.2 p1
 ·by_cases e2:k=g'
  ·subst e2;exact k3 k mk n5 n6 t v hv s2.1 s2.2 p1
  ·exact l3 k mk e1 e2 t' v hv s3.1 s3.2 p2
theorem LT {s x:Sp} {u v:Int} (hs:0<s.ld) (hx:0<x.ld) (hv:0<v) (h:Y3 x s=false) (hl:lowOk x u v) :lowOk s u v:=by
 have hns:¬(x.ln*s.ld<s.ln*x.ld∨(x.ln*s.ld=s.ln*x.ld∧x.lc=true∧s.lc=false)) :=fun h'=>by
  have:=Mz.2 h'
  rw [h] at this
  cases this
 have hle:s.ln*x.ld≤x.ln*s.ld:=jfx.1 fun h'=>hns (.inl h')
 by_cases g:x.ln*v<u*x.ld
 ·exact .inl (K5 hx hs hv hle g)
 ·obtain ⟨g1,g2⟩ :=hl.resolve_left g
  by_cases k:s.ln*x.ld<x.ln*s.ld
  ·exact .inl (Vx hx hs hv k (by omega))
  ·have l1:=vT (a:=s.ln) (b:=s.ld) (c:=x.ln) (d:=x.ld) (e:=u) (f:=v) hx hs hv (by omega) (by omega)
   have l2:=vT (a:=u) (b:=v) (c:=x.ln) (d:=x.ld) (e:=s.ln) (f:=s.ld) hx hv hs (by omega) (by omega)
   refine .inr ⟨by omega,?_⟩
   cases hc:s.lc with
   | true=>rfl
   | false=>exact absurd (.inr ⟨by omega,g2,hc⟩) hns
theorem XN {s:Sp} {u v u' v':Int} (hs:0<s.hd) (hv:0<v) (hv':0<v') (hle:u*v'≤u'*v) (h:highOk s u' v') :highOk s u v:=by
 rcases h with h |⟨h,hc⟩
 ·exact .inl (K5 hv' hv hs hle h)
 ·by_cases k:u*v'<u'*v
  ·exact .inl (Vx hv' hv hs k (by omega))
  ·have l1:=vT (a:=u) (b:=v) (c:=u') (d:=v') (e:=s.hn) (f:=s.hd) hv' hv hs (by omega) (by omega)
   have l2:=vT (a:=s.hn) (b:=s.hd) (c:=u') (d:=v') (e:=u) (f:=v) hv' hs hv (by omega) (by omega)
   exact .inr ⟨by omega,hc⟩
theorem jae {f' d' k u v:Int} (hv:0<v) (h0:0≤u) (h1:u≤v) (h:zL (2*f') (2* (d'- f')) (2*k- 1) u v) :min f' d'- 1≤k∧k≤max f' d'+1:=by
 obtain ⟨g1,g2⟩ :=h
 have e:2*f'*v+u* (2* (d'- f')) =2* (f'* (v- u) +d'*u) :=by grind
 rw [e] at g1 g2
 have a1:min f' d'* (v- u)≤f'* (v- u) :=jeH (by omega) (by omega)
 have a2:min f' d'*u≤d'*u:=jeH (by omega) h0
 have a3:f'* (v- u)≤max f' d'* (v- u) :=jeH (by omega) (by omega)
 have a4:d'*u≤max f' d'*u:=jeH (by omega) h0
 have b1:min f' d'* (v- u) +min f' d'*u=min f' d'*v:=by grind
 have b2:max f' d'* (v- u) +max f' d'*u=max f' d'*v:=by grind
 have c1: (2*k- 1) *v≤(2*max f' d') *v:=by
  have:2*max f' d'*v=2* (max f' d'*v) :=by grind
  omega
 have c2: (2*min f' d') *v< (2*k- 1+2) *v:=by
  have:2*min f' d'*v=2* (min f' d'*v) :=by grind
  omega
 have d1:=jfk c1 hv
 have d2:=jfv c2 (by omega)
 omega
theorem IY {a b k:Pn} {u v:Int} (hv:0<v) (h0:0≤u) (h1:u≤v) (h:wO a b k u v) :KR a b k=true:=by
 have x:=jae hv h0 h1 h.1
 have y:=jae hv h0 h1 h.2
 exact US (Z3 x.1 x.2) (Yq y.1 y.2) (Dp hv h0 h1 h)
theorem Dn {a b p:Pn} (h:WX a b p=true) :∃u v:Int,0<v∧YK (JU a b p) u v∧0≤u∧u≤v∧wO a b p u v:=by
 have hn:va (JU a b p) =true:=by have h':=h;unfold WX xm at h';simp only [jeF] at h';exact h'.2
 obtain ⟨u,v,hv,hm⟩ :=HU (Vk a b p) hn
 have:= (Vl hv h).1 hm
 exact⟨u,v,hv,hm,this.1.1,this.1.2,this.2⟩
theorem jbt {hot l1 l2:List Pn} {a b h h':Pn} (hnd:hot.Nodup) (hp:Qj a b hot=l1++h::h'::l2) :Frag hot a b h h':=by
 have hs:uW (VX a b) (Qj a b hot) :=by rw [W0];exact MK a b hot
 have hd:=ZG (a:=a) (b:=b) hnd
 have hi:∀p∈Qj a b hot,WX a b p=true:=fun p hp=>X3 (wz.1 hp).2
 have mh:h∈Qj a b hot:=by rw [hp];simp
 have mh':h'∈Qj a b hot:=by rw [hp];simp
 have hmem:∀k,k∈hot→KR a b k=true→k≠h→k≠h'→k∈l1∨k∈l2:=fun k k1 k2 k3 k4=>by
  have:=wz.2 ⟨k1,k2⟩
  rw [hp] at this
  simp only [jeY,je0] at this
  rcases this with h1 | rfl | rfl | h1
  ·exact .inl h1
  ·exact absurd rfl k3
  ·exact absurd rfl k4
  ·exact .inr h1
 rw [hp] at hs hd
 have hs1:=jf4.1 hs
 have hs2:=jff.1 hs1.2.1
 have hs3:=jff.1 hs2.2
 have hne:h≠h':=fun e=>by
  have:= (List.nodup_append.1 hd).2.1
  rw [e] at this
  exact(List.nodup_cons.1 this).1 (by simp)
 obtain ⟨u0,v0,p0,m0,a0,b0,c0⟩ :=Dn (hi h mh)
 obtain ⟨u1,v1,p1,m1,a1,b1,c1⟩ :=Dn (hi h' mh')
 have pos:=fun p=>Vk a b p
 have hle:u0*v1≤u1*v0:=jfx.1 fun hlt=>by
  have lo:lowOk (JU a b h) u1 v1:=LT (pos h).1 (pos h').1 p1 (hs2.1 h' (by simp)) m1.1
  have hi':highOk (JU a b h) u1 v1:=XN (pos h).2 p1 p0 (by omega) m0.2
  exact hne (UI p1 ((Vl p1 (hi h mh)).1 ⟨lo,hi'⟩).2 c1)
 refine⟨v0*v1,u0*v1,u1*v0,jfw p0 p1,⟨jfl a0 (by omega),hle,?_⟩,?_,?_,?_⟩
 ·rw [jfn v0 v1]
  exact jeH b1 (by omega)
 ·exact(yt p1).2 c0
 ·rw [jfn v0 v1]
  exact(yt p0).2 c1
 ·intro k k1 k2 k3 t v hv t1 t2 hin
  have t1':u0*v≤t*v0:=by
   have e1:u0*v1*v=u0*v*v1:=by grind
   have e2:t* (v0*v1) =t*v0*v1:=by grind
   rw [e1,e2] at t1
   exact jfk t1 p1
  have t2':t*v1≤u1*v:=by
   have e1:u1*v0*v=u1*v*v0:=by grind
   have e2:t* (v0*v1) =t*v1*v0:=by grind
   rw [e1,e2] at t2
   exact jfk t2 p0
  have g0:0≤t:=by
   refine jfx.1 fun hn=> ?_
   have:=jfl a0 (show 0≤v by omega)
   have:=jfS hn p0
   omega
  have g1:t≤v:=by
   have e1:u1*v≤v1*v:=jeH b1 (by omega)
   have e2:t*v1≤v*v1:=by rw [jfn v v1];omega
   exact jfk e2 p1
  have hw:=IY hv g0 g1 hin
  have hik:=X3 hw
  have mk:= (Vl hv hik).2 ⟨⟨g0,g1⟩,hin⟩
  rcases hmem k k1 hw k2 k3 with c | c
  ·have lo:lowOk (JU a b k) u0 v0:=LT (pos k).1 (pos h).1 p0 (hs1.2.2 k c h (by simp)) m0.1
   have hi':highOk (JU a b k) u0 v0:=XN (pos k).2 p0 hv t1' mk.2
   exact k2 (UI p0 ((Vl p0 hik).1 ⟨lo,hi'⟩).2 c0)
  ·have lo:lowOk (JU a b h') t v:=LT (pos h').1 (pos k).1 hv (hs3.1 k c) mk.1
   have hi':highOk (JU a b h') t v:=XN (pos h').2 hv p1 t2' m1.2
   exact k3 (UI hv ((Vl hv (hi h' mh')).1 ⟨lo,hi'⟩).2 hin).symm
def NB (p q:Pn) (l:List Pn) :Prop:=∃l1 l2,l=l1++p::q::l2
theorem O0 {hot:List Pn} {e:Pn×Pn} {l:List (Pn×Pn)} (h:e.1≠e.2∧e.1∈hot∧e.2∈hot) :∃rest,(e::l).flatMap (ku hot) =e.1::rest:=by
 obtain ⟨mid,h1,_⟩ :=wB h
 exact⟨mid++l.flatMap (ku hot),by rw [je4,h1];rfl⟩
theorem OV {hot:List Pn} {p q:Pn} :∀ {es:List (Pn×Pn)} {e:Pn×Pn} {z:Pn},Lk (e::es) z→(∀d∈e::es,d.1≠d.2∧d.1∈hot∧d.2∈hot)→NB p q ((e::es).flatMap (ku hot) ++ [z])→∃d∈e::es,NB p q (Qj d.1 d.2 hot)
 | [],e,z,hl,hm,hc=>by
  obtain ⟨mid,h1,h2⟩ :=wB (hm e (jfd ..))
  have hz:e.2=z:=hl
  refine⟨e,jfd ..,?_⟩
  rw [h2,hz]
  simpa using hc
 | f::l,e,z,hl,hm,hc=>by
  obtain ⟨mid,h1,h2⟩ :=wB (hm e (jfd ..))
  obtain ⟨rest,hr⟩ :=O0 (l:=l) (hm f (je5 _ (jfd ..)))
  have ih:=OV (p:=p) (q:=q) (es:=l) (e:=f) (z:=z) hl.2 (fun d hd=>hm d (je5 _ hd))
  have lift:NB p q ((f::l).flatMap (ku hot) ++ [z])→∃d∈e::f::l,NB p q (Qj d.1 d.2 hot) :=fun h=>by
   obtain ⟨d,hd,hk⟩ :=ih h
   exact⟨d,je5 _ hd,hk⟩
  obtain ⟨l1,l2,hc⟩ :=hc
  rw [je4,jeN] at hc
  have hB: (f::l).flatMap (ku hot) ++ [z] =f.1:: (rest++ [z]) :=by rw [hr];rfl
  rcases List.append_eq_append_iff.1 hc with⟨zs,h3,h4⟩ |⟨zs,h3,h4⟩
  ·exact lift ⟨zs,l2,h4⟩
  ·match zs,h3,h4 with
   | [],h3,h4=>exact lift ⟨[],l2,h4.symm⟩
   | [x],h3,h4=>
    rw [hB] at h4
    simp only [jeG,jeL,List.cons.injEq] at h4
    refine⟨e,jfd ..,l1,[],?_⟩
    rw [h2,h3,hl.1,h4.1,h4.2.1]
    simp
   | x::y::zs,h3,h4=>
    simp only [jeG,List.cons.injEq] at h4
    refine⟨e,jfd ..,l1,zs++ [e.2],?_⟩
    rw [h2,h3,h4.1,h4.2.1]
    simp
theorem jbi {l:List Pn} {j:Nat} (h:j+1<l.length) :NB l[j] l[j+1] l:=
 ⟨l.take j,l.drop (j+2),by
  have e1:l.drop j=l[j] ::l.drop (j+1) :=jfi (by omega)
  have e2:l.drop (j+1) =l[j+1] ::l.drop (j+2) :=jfi h
  rw [←e2,←e1,jeU]⟩
theorem NU {S:List Pn} {j:Nat} (h:j<S.length) :NB (pt S j) (pt S (nx S j)) (S++ [pt S 0]) :=by
 have hc:=jbi (l:=S++ [pt S 0]) (j:=j) (by simp;omega)
 have e1: (S++ [pt S 0])[j]'(by simp;omega) =pt S j:=by rw [List.getElem_append_left h,Kl h]
 have e2: (S++ [pt S 0])[j+1]'(by simp;omega) =pt S (nx S j) :=by
  by_cases k:j+1<S.length
  ·rw [List.getElem_append_left k,Kl k,show nx S j=j+1 from jfY k]
  ·rw [List.getElem_append_right (by omega),show nx S j=0 by unfold nx;rw [show j+1=S.length by omega,Nat.mod_self]]
   simp
 rw [e1,e2] at hc
 exact hc
theorem OX {hot xs:List Pn} (hnd:hot.Nodup) (hb:bare xs) (hm:∀p∈xs,p∈hot) {e:Leg} (he:e∈J0 (Km hot xs)) :∃f∈J0 xs,Frag hot (lA f) (lB f) (lA e) (lB e)∧lA e∈hot∧lB e∈hot:=by
 have hS:= (Gh hnd hb hm).1
 rw [Vc hS] at he
 obtain ⟨pq,hpq,rfl⟩ :=je7.1 he
 obtain ⟨j,hj,rfl⟩ :=je7.1 hpq
 have hj:=jgi.1 hj
 have hc:=NU hj
 have hSp:=Y1 (hot:=hot) hb
 have hlk:=I6 (xs:=xs)
 have hok:=x5 hb hm
 have hhd:∀h:0< (vL xs).length,((vL xs)[0]'h).1=pt xs 0:=fun h=>by simp [vL]
 have hlen:0< (vL xs).length:=by rw [WJ];exact hb.1
 cases hP:vL xs with
 | nil=>rw [hP] at hlen;exact absurd hlen (by simp)
 | cons e0 es=>
  simp only [hP] at hlk hok hhd hlen hSp
  obtain ⟨rest,hr⟩ :=O0 (l:=es) (hok e0 (jfd ..))
  have h0:pt (Km hot xs) 0=pt xs 0:=by
   rw [hSp,hr,←hhd hlen]
   rfl
  rw [h0,hSp] at hc
  obtain ⟨d,hd,l1,l2,hk⟩ :=OV hlk hok hc
  refine⟨mkL d,?_,?_,?_,?_⟩
  ·rw [Vc hb,hP]
   exact je7.2 ⟨d,hd,rfl⟩
  ·have:=jbt hnd hk
   rw [←hSp] at this
   exact this
  ·exact Mx (xs:=xs) (by show pt (Km hot xs) j∈_;rw [←Kl hj];exact jeW _)
  ·have hn:nx (Km hot xs) j< (Km hot xs).length:=Nat.mod_lt _ (by omega)
   exact Mx (xs:=xs) (by show pt (Km hot xs) (nx (Km hot xs) j)∈_;rw [←Kl hn];exact jeW _)
theorem Bi {rs:List jS} {e:Leg} :∀k,e∈Qg rs k↔∃j,j<k∧e∈J0 (rg rs j)
 | 0=>by simp [Qg]
 | k+1=>by
  show e∈Qg rs k++J0 (rg rs k)↔_
  rw [jeY,Bi k]
  constructor
  ·rintro(⟨j,h1,h2⟩ | h)
   ·exact⟨j,by omega,h2⟩
   ·exact⟨k,by omega,h⟩
  ·rintro⟨j,h1,h2⟩
   by_cases h:j=k
   ·subst h;exact .inr h2
   ·exact .inl ⟨j,by omega,h2⟩
theorem zx {rs:List jS} {e:Leg} :e∈Jm rs↔∃r∈rs,e∈J0 r:=by
 unfold Jm
 rw [Bi]
 constructor
 ·rintro⟨j,h1,h2⟩
  exact⟨rg rs j,by rw [←wl h1];exact jeW _,h2⟩
 ·rintro⟨r,h1,h2⟩
  obtain ⟨j,hj,e1⟩ :=jfm h1
  exact⟨j,hj,by rw [←wl hj,e1];exact h2⟩
def Ci (hot:List Pn) (E:List Leg) :Prop:=∀e∈E,∀f∈E,Fx hot (lA e) (lB e) (lA f) (lB f)
def NoX (E:List Leg) :Prop:=∀e∈E,∀f∈E,qM (lA e) (lB e) (lA f) (lB f)≠true
theorem NoX.inv {hot:List Pn} {E:List Leg} (h:NoX E) :Ci hot E:=fun e he f hf hs=>absurd hs (h e he f hf)
theorem Ip {hot:List Pn} {rs:List jS} (hnd:hot.Nodup) (hb:bareG hot rs) (h:Ci hot (Jm rs)) :NoX (Jm (qT hot rs)) :=fun e he f hf=>by
 obtain ⟨r,hr,he⟩ :=zx.1 he
 obtain ⟨s,hs,hf⟩ :=zx.1 hf
 obtain ⟨r0,hr0,rfl⟩ :=je7.1 hr
 obtain ⟨s0,hs0,rfl⟩ :=je7.1 hs
 obtain ⟨e0,he0,F,m1,m2⟩ :=OX hnd (hb r0 hr0).1 (hb r0 hr0).2 he
 obtain ⟨f0,hf0,G,m3,m4⟩ :=OX hnd (hb s0 hs0).1 (hb s0 hs0).2 hf
 exact R4 F G m1 m2 m3 m4 (h e0 (zx.2 ⟨r0,hr0,he0⟩) f0 (zx.2 ⟨s0,hs0,hf0⟩))
def Iq (hot:List Pn) :Nat→List jS→List jS
 | 0,rs=>rs
 | n+1,rs=>Iq hot n (qT hot rs)
theorem Ty (hot:List Pn) :∀n rs ss,Iq hot n (rs++ss) =Iq hot n rs++Iq hot n ss
 | 0,_,_=>rfl
 | n+1,rs,ss=>by
  show Iq hot n (qT hot (rs++ss)) =_
  rw [show qT hot (rs++ss) =qT hot rs++qT hot ss by simp [qT],Ty]
  rfl
theorem Dr {hot:List Pn} {rs:List jS} (h:qT hot rs=rs) :∀n,Iq hot n rs=rs
 | 0=>rfl
 | n+1=>by
  show Iq hot n (qT hot rs) =rs
  rw [h,Dr h n]
theorem Dq {hot:List Pn} :∀m n rs,Iq hot (m+n) rs=Iq hot n (Iq hot m rs)
 | 0,n,rs=>by rw [je3];rfl
 | m+1,n,rs=>by
  rw [show m+1+n= (m+n) +1 by omega]
  exact Dq m n (qT hot rs)
theorem Tz {hot:List Pn} (hnd:hot.Nodup) :∀n rs,bareG hot rs→Ci hot (Jm rs)→bareG hot (Iq hot n rs)∧Ci hot (Jm (Iq hot n rs))
 | 0,rs,h1,h2=>⟨h1,h2⟩
 | n+1,rs,h1,h2=>Tz hnd n (qT hot rs) (h1.snap hnd) (Ip hnd h1 h2).inv
theorem Nr {hot:List Pn} :∀f {rs ss:List jS} {r q:Nat},Xm hot f rs r=some (ss,q)→qT hot ss=ss∧∃n,ss=Iq hot n rs
 | 0,_,_,_,_,h=>by cases h
 | f+1,rs,ss,r,q,h=>by
  unfold Xm at h
  split at h
  ·cases h
  ·split at h
   ·rename_i e
    injection h with h
    injection h with h1 h2
    subst h1
    exact⟨e,0,rfl⟩
   ·obtain ⟨h1,n,h2⟩ :=Nr f h
    exact⟨h1,n+1,h2⟩
theorem Ig {hot:List Pn} :∀ {es:List (Pn×Pn)},(∀d∈es,d.1≠d.2∧d.1∈hot∧d.2∈hot)→(es.flatMap (ku hot)).length=es.length→∀e∈es,Qj e.1 e.2 hot= [e.1,e.2]
 | [],_,_,e,he=>by cases he
 | d::l,h,hl,e,he=>by
  obtain ⟨mid,h1,h2⟩ :=wB (h d (jfd ..))
  have hg:= (XM (es:=l) fun x hx=>h x (je5 _ hx)).1
  rw [je4,h1,jeC,jeP,jeP] at hl
  rcases je0.1 he with rfl | he
  ·obtain rfl:mid= [] :=je9 (by omega)
   rw [h2,h1]
   rfl
  ·exact Ig (fun x hx=>h x (je5 _ hx)) (by omega) e he
theorem BF {hot:List Pn} {rs:List jS} (hb:bareG hot rs) (hs:qT hot rs=rs) {e:Leg} (he:e∈Jm rs) :lA e∈hot∧lB e∈hot∧lA e≠lB e∧Qj (lA e) (lB e) hot= [lA e,lB e] :=by
 obtain ⟨r,hr,he⟩ :=zx.1 he
 have hsr:Km hot r=r:=by
  have:∀ {l:List jS},l.map (Km hot) =l→∀x∈l,Km hot x=x:=fun {l} =>by
   induction l with
   | nil=>intro _ x hx;cases hx
   | cons y l ih=>
    intro h x hx
    simp only [jeZ,List.cons.injEq] at h
    rcases je0.1 hx with rfl | hx
    ·exact h.1
    ·exact ih h.2 x hx
  exact this hs r hr
 obtain ⟨h1,h2⟩ :=hb r hr
 have hok:=x5 h1 h2
 rw [Vc h1] at he
 obtain ⟨d,hd,rfl⟩ :=je7.1 he
 have hl: ((vL r).flatMap (ku hot)).length= (vL r).length:=by rw [←Y1 h1,hsr,WJ]
 obtain ⟨g1,g2,g3⟩ :=hok d hd
 exact⟨g2,g3,g1,Ig hok hl d hd⟩
theorem RX (a b c d:Pn) : (Q0 a b c d).Nodup:=by
 have key:∀out p,out.Nodup→(He a b c d out p).Nodup:=fun out p h=>by
  unfold He
  split
  ·rename_i k
   simp only [jeF,jfq] at k
   refine List.nodup_append.2 ⟨h,by simp,fun x hx y hy e=> ?_⟩
   rw [jeT.1 hy] at e
   subst e
   have:=k.1
   rw [List.contains_eq_mem,decide_eq_false_iff_not] at this
   exact this hx
  ·exact h
 exact key _ _ (key _ _ (key _ _ (key _ _ List.nodup_nil)))
theorem P6 {hot:List Pn} {rs:List jS} (hb:bareG hot rs) (hs:qT hot rs=rs) (hx:NoX (Jm rs)) (hok:∀p∈hot,bd2 p) {e f:Leg} (he:e∈Jm rs) (hf:f∈Jm rs) :xZ (lA e) (lB e) (lA f) (lB f) =true:=by
 obtain ⟨e1,e2,e3,e4⟩ :=BF hb hs he
 obtain ⟨f1,f2,f3,f4⟩ :=BF hb hs hf
 have hno:=hx e he f hf
 generalize lA e=a at*
 generalize lB e=b at*
 generalize lA f=c at*
 generalize lB f=d at*
 have way:∀ {p q x:Pn},Qj p q hot= [p,q]→p∈hot→q∈hot→x∈hot→uX p q x=true→x=p∨x=q:=fun {p q x} h hp hq hx ho=>by
  have hi:= (jdw (hok p hp) (hok q hq) ho).2
  unfold ipB at hi
  simp only [jeF] at hi
  obtain ⟨u,v,hv,_,h0,h1,h2⟩ :=Dn (a:=p) (b:=q) (p:=x) hi.2
  have hm:x∈Qj p q hot:=wz.2 ⟨hx,IY hv h0 h1 h2⟩
  rw [h] at hm
  simpa using hm
 have both:∀q∈Q0 a b c d,(q=a∨q=b)∧(q=c∨q=d) :=fun q hq=>by
  obtain ⟨h1,h2⟩ :=Q9.1 hq
  unfold KC at h2
  simp only [jeF] at h2
  have hqh:q∈hot:=by
   rcases h1 with rfl | rfl | rfl | rfl<;>assumption
  exact⟨way e4 e1 e2 hqh h2.1,way f4 f1 f2 hqh h2.2⟩
 have nd:=RX a b c d
 unfold xZ
 split
 ·rfl
 ·split
  ·rename_i h2
   exact absurd (EB h2) hno
  ·split
   ·rename_i h1
    have:∃q,q∈Q0 a b c d:=by
     unfold Q1 at h1
     cases hh:Q0 a b c d with
     | nil=>rw [hh] at h1;simp at h1;split at h1<;>omega
     | cons x l=>exact⟨x,by simp⟩
    obtain ⟨q,hq⟩ :=this
    obtain ⟨k1,k2⟩ :=both q hq
    simp only [jfq,jgj,decide_eq_false_iff_not,ne_eq,Decidable.not_not]
    rcases k1 with rfl | rfl<;>rcases k2 with rfl | rfl<;>simp
   ·split
    ·rename_i h3
     unfold Q1 at h3
     match hh:Q0 a b c d with
     | [] =>rw [hh] at h3;simp at h3;split at h3<;>omega
     | [x] =>rw [hh] at h3;simp at h3
     | x::y::l=>
      rw [hh] at nd both
      have hxy:x≠y:=fun e=> (List.nodup_cons.1 nd).1 (by rw [e];simp)
      obtain ⟨k1,k2⟩ :=both x (by simp)
      obtain ⟨k3,k4⟩ :=both y (by simp)
      rw [decide_eq_true_iff]
      rcases k1 with rfl | rfl<;>rcases k3 with rfl | rfl
      ·exact absurd rfl hxy
      ·rcases k2 with rfl | rfl<;>rcases k4 with rfl | rfl
       ·exact absurd rfl hxy
       ·exact .inl ⟨rfl,rfl⟩
       ·exact .inr ⟨rfl,rfl⟩
       ·exact absurd rfl hxy
      ·rcases k2 with rfl | rfl<;>rcases k4 with rfl | rfl
       ·exact absurd rfl hxy
       ·exact .inr ⟨rfl,rfl⟩
       ·exact .inl ⟨rfl,rfl⟩
       ·exact absurd rfl hxy
      ·exact absurd rfl hxy
    ·rfl
theorem ML {a b c d:Pn} (h:qM a b c d=true) :Q1 a b c d=2:=by
 have hn:Q0 a b c d= [] :=by
  refine List.eq_nil_iff_forall_not_mem.2 fun q hq=> ?_
  obtain ⟨h1,h2⟩ :=Q9.1 hq
  unfold KC at h2
  simp only [jeF] at h2
  have t1:= (Kf.1 h2.1).1
  have t2:= (Kf.1 h2.2).1
  obtain ⟨s1,s2⟩ :=KX.1 h
  rcases h1 with rfl | rfl | rfl | rfl<;>omega
 unfold Q1
 rw [hn,if_pos (show([] :List Pn).length=0 from rfl),if_pos h]
theorem RT {E:List Leg} {i k:Nat} (h:Q1 (lA (lg E i)) (lB (lg E i)) (lA (lg E k)) (lB (lg E k)) =2) :∀j,k<j→Da (lA (lg E i)) (lB (lg E i)) (lA (lg E k)) (lB (lg E k))∈cz E i j
 | 0,hj=>absurd hj (by omega)
 | j+1,hj=>by
  unfold cz
  by_cases e:k=j
  ·subst e
   rw [if_pos h]
   simp
  ·exact jfE _ (RT h j (by omega))
theorem R5 {E:List Leg} {i:Nat} {p:Pn} (h:p∈cz E i i) :∀n,i<n→p∈Yf E n
 | 0,hn=>absurd hn (by omega)
 | n+1,hn=>by
  unfold Yf
  by_cases e:i=n
  ·subst e;exact jgd _ h
  ·exact jfE _ (jfE _ (R5 h n (by omega)))
theorem jas {a b c d:Pn} {t t' v:Int} (h:sc a b t v=sc c d t' v) :v*tn c d a=t* (tn c d a- tn c d b) :=by
 have e1:2* (v*tn c d a+t* (tn c d b- tn c d a)) = (d.1- c.1) * ((sc a b t v).2- (sc c d t' v).2) - (d.2- c.2) * ((sc a b t v).1- (sc c d t' v).1) :=by simp only [sc,tn,Kd];grind
 rw [h] at e1
 have e2:v*tn c d a+t* (tn c d b- tn c d a) =0:=by
  have: (d.1- c.1) * ((sc c d t' v).2- (sc c d t' v).2) - (d.2- c.2) * ((sc c d t' v).1- (sc c d t' v).1) =0:=by rw [Int.sub_self,Int.sub_self];simp
  omega
 have e3:t* (tn c d a- tn c d b) = -(t* (tn c d b- tn c d a)) :=by grind
 omega
theorem CR {x y n D0 t v:Int} (hd:D0≠0) (hv:0<v) (h:v*n=t*D0) :zL (2*x) (2* (y- x)) (2*M1 x y n D0- 1) t v:=by
 obtain ⟨N,D,hD,hND,g1,g2⟩ :=RR (x:=x) (y:=y) (n:=n) hd
 have hk:v*N=t*D:=by
  rcases hND with⟨_,rfl,rfl⟩ |⟨_,rfl,rfl⟩
  ·rw [Int.mul_neg,Int.mul_neg,h]
  ·exact h
 generalize M1 x y n D0=r at*
 unfold zL
 have e: (2*x*v+t* (2* (y- x))) *D=2* (x*D+ (y- x) *N) *v:=by
  have: (2*x*v+t* (2* (y- x))) *D=2*x*D*v+2* (y- x) * (t*D) :=by grind
  rw [this,←hk]
  grind
 have m1:=jeH g1 (show 0≤v by omega)
 have m2:=jfh g2 hv
 rw [←e] at m1 m2
 have f1: (2*r- 1) *D*v= (2*r- 1) *v*D:=by grind
 have f2: (2*r+1) *D*v= (2*r- 1+2) *v*D:=by grind
 rw [f1] at m1
 rw [f2] at m2
 exact⟨jfk m1 hD,jfv m2 (by omega)⟩
theorem FY {a b c d:Pn} (hs:qM a b c d=true) {t t' v:Int} (hv:0<v) (h:sc a b t v=sc c d t' v) :wO a b (Da a b c d) t v:=by
 have hd:=uU hs
 have hk2:v*crN a c d=t*NV a b c d:=by
  rw [XJ,Zn]
  exact jas h
 exact⟨CR hd hv hk2,CR hd hv hk2⟩
theorem Rr {a b c d:Pn} (h:qM a b c d=true) :qM c d a b=true:=by
 obtain ⟨h1,h2⟩ :=KX.1 h
 exact KX.2 ⟨h2,h1⟩
theorem Pb {E:List Leg} {hot:List Pn} (hh:∀p∈Yf E E.length,p∈hot) :Ci hot E:=fun e he f hf hs=>by
 obtain ⟨i,hi,rfl⟩ :=Bd he
 obtain ⟨k,hk,rfl⟩ :=Bd hf
 rcases Nat.lt_trichotomy i k with c | c | c
 ·have hs':=Rr hs
  refine⟨Da (lA (lg E k)) (lB (lg E k)) (lA (lg E i)) (lB (lg E i)),hh _ (R5 (RT (ML hs') k c) _ hk),fun t t' v hv h=> ?_⟩
  rw [RO (uU hs) (uU hs')]
  exact FY hs hv h
 ·subst c
  exact absurd rfl (BG hs).2.2.1
 ·exact⟨Da (lA (lg E i)) (lB (lg E i)) (lA (lg E k)) (lB (lg E k)),hh _ (R5 (RT (ML hs) i c) _ hi),fun t t' v hv h=>FY hs hv h⟩
end Go.Proofs.YtkagkgjjfdkoaaaGreat
