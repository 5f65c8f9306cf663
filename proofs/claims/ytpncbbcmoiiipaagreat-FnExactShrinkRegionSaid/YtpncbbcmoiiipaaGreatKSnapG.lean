import Derived.Test.YtpncbbcmoiiipaaGreatKTopo2
import Derived.Test.YtpncbbcmoiiipaaGreatKHotLaw
import Derived.Test.YtpncbbcmoiiipaaGreatKCross
import Derived.Test.YtpncbbcmoiiipaaGreatKLawKit
set_option linter.unusedVariables false
set_option linter.unusedSimpArgs false
namespace Go.Proofs.YtpncbbcmoiiipaaGreat
open Go Go.RowKit
set_option maxRecDepth 100000
set_option maxHeartbeats 4000000
def Nb (E:List Leg) :List Pn:=kH (U0 E E.length)
theorem Ia {a b c d:Pn} (h:qU a b c d=2) :qf a b c d=true:=by
 unfold qU at h
 split at h
 ·split at h
  ·rename_i h1;exact h1
  ·omega
 ·split at h<;>omega
theorem M0 {E:List Leg} :∀i,i≤E.length→∀k,k<i→lA (lg E k)∈U0 E i∧lB (lg E k)∈U0 E i
 | 0,_,k,hk=>absurd hk Om
 | i+1,hi,k,hk=>by
  rw [U0]
  rcases jjp (show k≤i by omega) with h | rfl
  ·obtain ⟨h1,h2⟩ :=M0 (E:=E) i Om k h
   exact⟨jjc _ (jjc _ h1),jjc _ (jjc _ h2)⟩
  ·exact⟨jjc _ (jjH _ (by simp)),jjc _ (jjH _ (by simp))⟩
theorem joV {E:List Leg} (hok:∀l∈E,qN l) {i:Nat} (hi:i<E.length) :∀k,k≤i→∀p∈cz E i k,bd2 p
 | 0,_,p,hp=>by simp [cz] at hp
 | k+1,hk,p,hp=>by
  rw [cz] at hp
  rcases jiv.1 hp with h | h
  ·exact joV hok hi k Om p h
  ·split at h
   ·rename_i hm
    rw [jik.1 h]
    exact(Ex (VG (QS hok Om)) (wq (QS hok Om)) (Ia hm)).1
   ·simp at h
theorem PM {E:List Leg} (hok:∀l∈E,qN l) :∀i,i≤E.length→∀p∈U0 E i,bd2 p
 | 0,_,p,hp=>by simp [U0] at hp
 | i+1,hi,p,hp=>by
  rw [U0] at hp
  rcases jiv.1 hp with h | h
  ·rcases jiv.1 h with h | h
   ·exact PM hok i Om p h
   ·simp only [jir,ji3,or_false] at h
    rcases h with rfl | rfl
    ·exact VG (QS hok Om)
    ·exact wq (QS hok Om)
  ·exact joV hok Om i (jih _) p h
theorem Eg {l:List Pn} (h:Asc l) :l.Nodup:=List.Pairwise.imp (fun {a b} (hab:vh a b) (e:a=b) =>kC a (by rw [←e] at hab;exact hab)) h
theorem xx {E:List Leg} {k:Nat} (hk:k<E.length) :lg E k=E[k] :=by simp [lg,List.getD,hk]
theorem MG {rs:List jV} :∀k,k≤rs.length→cnt (vf rs k) = (qJ rs k).length
 | 0,_=>rfl
 | k+1,hk=>by
  have ih:=MG (rs:=rs) k Om
  have e: (qJ rs (k+1)).length= (qJ rs k).length+ (J0 (rg rs k)).length:=jif
  have e2: (Q3 (rg rs k)).length= (J0 (rg rs k)).length:=jit ..
  by_cases h:0< (Q3 (rg rs k)).length
  ·rw [Yk Om h,e,←ih]
   simp [cnt,e2]
  ·rw [Zs Om h,e,←ih]
   omega
theorem zx {rs:List jV} (hr:JE rs=true) :∀r∈J8 rs,bare r:=fun r h=>by
 obtain ⟨h0,q,hq,rfl⟩ :=xd h
 obtain ⟨i,hi,e⟩ :=ji0 hq
 have:=Qf (Km hr hi)
 rw [Wa hi] at e
 rw [e] at this
 exact ZA this.1 h0
theorem jeC {xs:List Pn} (h:QA xs=true) :∀p∈Q3 xs,wR p.1 p.2=true:=fun p hp=>by
 obtain ⟨l,hl,rfl⟩ :=jip.1 hp
 exact yh (VG (Yr (uJ h).2.2 _ (jih _) l hl))
theorem Yj {rs:List jV} (hr:JE rs=true) :JE (J8 rs) =true:=by
 have h40:=WR hr
 have hl:=xb rs rs.length
 have hcnt: (jE (J8 rs)).length≤400:=by
  rw [Xk (zx hr)]
  have:=MG (rs:=rs) rs.length (jih _)
  have h4: (jE rs).length≤400:=by simp [JE] at hr;omega
  unfold jE at h4
  unfold J8
  omega
 have hall: (J8 rs).all QA=true:=jjn.2 fun r h=>by
  have hs:=xt hr h
  obtain ⟨h0,q,hq,rfl⟩ :=xd h
  obtain ⟨i,hi,e⟩ :=ji0 hq
  have hb:=Km hr hi
  rw [Wa hi] at e
  rw [e] at hb
  unfold QA xZ
  rw [decide_eq_true (show(1:Int)≤((Q3 q).length:Int) by omega),decide_eq_true (show((Q3 q).length:Int)≤400 by omega)]
  exact jjn.2 fun p hp=>jeC hb p hp
 rw [UP (by unfold J8;omega) hall]
 exact decide_eq_true hcnt
structure HotOk (hot:List Pn) (ss:List jV) :Prop where
 reg:JE ss=true
 ok:∀p∈hot,wR p.1 p.2=true
 asc:Asc hot
 nd:hot.Nodup
 len:hot.length≤1048576
 bare:bareG hot ss
theorem Fe {hot:List Pn} (hnd:hot.Nodup) :∀(f:Nat) {rs ss:List jV} {r q:Nat},JE rs=true→bareG hot rs→WV hot f rs r=some (ss,q)→JE ss=true
 | 0,_,_,_,_,_,_,h=>by cases h
 | f+1,rs,ss,r,q,hr,hb,h=>by
  rw [WV] at h
  split at h
  ·cases h
  ·rename_i h1
   split at h
   ·injection h with h
    injection h with h2 h3
    exact h2▸hr
   ·exact Fe hnd f (by simpa using h1) (hb.snap hnd) h
theorem jdw {hot:List Pn} (hnd:hot.Nodup) {rs ss:List jV} {r:Nat} (hr:JE rs=true) (hb:bareG hot rs) (h:zn hot rs=some (ss,r)) :JE ss=true:=Fe hnd _ hr hb h
theorem jbO {P:Program} {f:FuncId} {args:Array Value} {w1:World} {n lo hi:Nat} {ss rs:List jV} {A:Option Addr} {c:Nat} {V:Option Addr→Nat→Value} (hg: (Ky n ss lo hi A).P w1) (hn:ss.length=n)
  (h:Calls P f args w1 fun e w'=>∃A' c',e= .returned (V A' c')∧((A'=A∧c'=c∧rs=ss)∨OwnG w1.heap.size w'.heap.size w' A' rs.length rs)∧Over w1 w') :
  Calls P f args w1 fun e w'=>∃x: (Option Addr×Nat)×Nat×Nat,e= .returned (V x.1.1 x.1.2)∧Wrs (Ky n ss lo hi A).F w1 w'∧(Ky rs.length rs x.2.1 x.2.2 x.1.1).P w'∧(∀b,(Ky rs.length rs x.2.1 x.2.2 x.1.1).F b→(Ky n ss lo hi A).F b∨w1.heap.size≤b)∧(Ky rs.length rs x.2.1 x.2.2 x.1.1).B=0:=by
 refine h.mono ?_
 rintro e w' ⟨A',c',rfl,ho,hO⟩
 rcases ho with⟨rfl,rfl,rfl⟩ | ho
 ·subst hn
  have hz:hi≤w1.heap.size:=hg.1
  exact⟨((A',c'),lo,hi),rfl,Wrs.of hO,jev ((UD hg).agree fun b h1 h2=>hO.out.block b Om) (jjb hz hO.size),fun b hb=> .inl hb,rfl⟩
 ·exact⟨((A',c'),w1.heap.size,w'.heap.size),rfl,Wrs.of hO,jev ho (jih _),fun b hb=> .inr hb.1,rfl⟩
end Go.Proofs.YtpncbbcmoiiipaaGreat
namespace Go.Proofs.YtpncbbcmoiiipaaGreat
open Go Go.RowKit
def Frag (hot:List Pn) (a b h h':Pn) :Prop:=∃V u u':Int,0<V∧(0≤u∧u≤u'∧u'≤V)∧wu a b h u V∧wu a b h' u' V∧∀k∈hot,k≠h→k≠h'→Mz a b k V u u'
theorem Td {f d lo u v m:Int} (hm:0<m) :zR f d lo (u*m) (v*m)↔zR f d lo u v:=by
 have e1:lo* (v*m) =lo*v*m:=by grind
 have e2:f* (v*m) +u*m*d= (f*v+u*d) *m:=by grind
 have e3: (lo+2) * (v*m) = (lo+2) *v*m:=by grind
 unfold zR
 rw [e1,e2,e3]
 constructor
 ·rintro⟨h1,h2⟩;exact⟨jiS h1 hm,jiP h2 Om⟩
 ·rintro⟨h1,h2⟩;exact⟨jij h1 Om,jiz h2 hm⟩
theorem Ys {a b p:Pn} {u v m:Int} (hm:0<m) :wu a b p (u*m) (v*m)↔wu a b p u v:=by
 unfold wu
 rw [Td hm,Td hm]
theorem Ny {a b k:Pn} {V u u' m:Int} (hm:0<m) (h:Mz a b k V u u') :Mz a b k (V*m) (u*m) (u'*m) :=fun t v hv h1 h2=>by
 refine h t v hv ?_ ?_
 ·have e1:u*m*v=u*v*m:=by grind
  have e2:t* (V*m) =t*V*m:=by grind
  rw [e1,e2] at h1
  exact jiS h1 hm
 ·have e1:u'*m*v=u'*v*m:=by grind
  have e2:t* (V*m) =t*V*m:=by grind
  rw [e1,e2] at h2
  exact jiS h2 hm
theorem Frag.scale {hot:List Pn} {a b h h':Pn} {V u u' m:Int} (hm:0<m) (hV:0<V) (hu:0≤u∧u≤u'∧u'≤V) (h1:wu a b h u V) (h2:wu a b h' u' V) (h3:∀k∈hot,k≠h→k≠h'→Mz a b k V u u') :
  0<V*m∧(0≤u*m∧u*m≤u'*m∧u'*m≤V*m)∧wu a b h (u*m) (V*m)∧wu a b h' (u'*m) (V*m)∧∀k∈hot,k≠h→k≠h'→Mz a b k (V*m) (u*m) (u'*m) :=
 ⟨jiU hV hm,⟨jiF hu.1 Om,jij hu.2.1 Om,jij hu.2.2 Om⟩,(Ys hm).2 h1,(Ys hm).2 h2,fun k a1 a2 a3=>Ny hm (h3 k a1 a2 a3)⟩
theorem CE (a b c d:Pn) (V w w' t:Int) :tn (sc c d w V) (sc c d w' V) (sc a b t V) =4* (w'- w) * (V*tn c d a+t* (tn c d b- tn c d a)) :=by
 simp only [sc,tn,Q8]
 grind
theorem jcE {A B V u u' D p q:Int} (hu:0≤u∧u≤u'∧u'≤V) (hD:0≤D) (hp:p=D* (V*A+u* (B- A))) (hq:q=D* (V*A+u'* (B- A))) (h: (p<0∧0<q)∨(0<p∧q<0)) : (A<0∧0<B)∨(0<A∧B<0) :=by
 have e1:V*A+u* (B- A) = (V- u) *A+u*B:=by grind
 have e2:V*A+u'* (B- A) = (V- u') *A+u'*B:=by grind
 rw [e1] at hp
 rw [e2] at hq
 have s1:=kV hp
 have s2:=kV hq
 have k:¬(0≤A∧0≤B) :=fun ⟨g1,g2⟩ =>by
  have m1:=jiF (show 0≤V- u by omega) g1
  have m2:=jiF hu.1 g2
  have m3:=jiF (show 0≤V- u' by omega) g1
  have m4:=jiF (show 0≤u' by omega) g2
  omega
 have k':¬(A≤0∧B≤0) :=fun ⟨g1,g2⟩ =>by
  have m1:=jjO (show 0≤V- u by omega) g1
  have m2:=jjO hu.1 g2
  have m3:=jjO (show 0≤V- u' by omega) g1
  have m4:=jjO (show 0≤u' by omega) g2
  omega
 omega
theorem NV {a b c d:Pn} {V u u' w w':Int} (hV:0<V) (hu:0≤u∧u≤u'∧u'≤V) (hw:0≤w∧w≤w'∧w'≤V) (hs:qf (sc a b u V) (sc a b u' V) (sc c d w V) (sc c d w' V) =true) :
  qf a b c d=true∧∃t t' v:Int,0<v∧(u*v≤t*V∧t*V≤u'*v)∧(w*v≤t'*V∧t'*V≤w'*v)∧sc a b t v=sc c d t' v:=by
 obtain ⟨h1,h2⟩ :=K4.1 hs
 have hd:=IQ (sc a b u V) (sc a b u' V) (sc c d w V) (sc c d w' V)
 refine⟨K4.2 ⟨?_,?_⟩,?_⟩
 ·exact jcE hw Om (CE c d a b V u u' w) (CE c d a b V u u' w') h1
 ·exact jcE hu Om (CE a b c d V w w' u) (CE a b c d V w w' u') h2
 ·
  have i1:∀q1 q2:Int,(sc a b (u*q2- u'*q1) (V* (q2- q1))) = (q2* (sc a b u V).1- q1* (sc a b u' V).1,q2* (sc a b u V).2- q1* (sc a b u' V).2) :=fun q1 q2=>by
   apply Prod.ext<;> (simp only [sc];grind)
  have i2:∀p1 p2:Int,(sc c d (w'*p1- w*p2) (V* (p1- p2))) = (p1* (sc c d w' V).1- p2* (sc c d w V).1,p1* (sc c d w' V).2- p2* (sc c d w V).2) :=fun p1 p2=>by
   apply Prod.ext<;> (simp only [sc];grind)
  have j1:∀X X' Y Y':Pn,tn Y Y' X'*X.1- tn Y Y' X*X'.1=tn X X' Y*Y'.1- tn X X' Y'*Y.1:=fun X X' Y Y'=>by simp only [tn,Q8];grind
  have j2:∀X X' Y Y':Pn,tn Y Y' X'*X.2- tn Y Y' X*X'.2=tn X X' Y*Y'.2- tn X X' Y'*Y.2:=fun X X' Y Y'=>by simp only [tn,Q8];grind
  have J1:=j1 (sc a b u V) (sc a b u' V) (sc c d w V) (sc c d w' V)
  have J2:=j2 (sc a b u V) (sc a b u' V) (sc c d w V) (sc c d w' V)
  generalize tn (sc a b u V) (sc a b u' V) (sc c d w V) =p1 at*
  generalize tn (sc a b u V) (sc a b u' V) (sc c d w' V) =p2 at*
  generalize tn (sc c d w V) (sc c d w' V) (sc a b u V) =q1 at*
  generalize tn (sc c d w V) (sc c d w' V) (sc a b u' V) =q2 at*
  rcases h2 with⟨g1,g2⟩ |⟨g1,g2⟩
  ·refine⟨u*q2- u'*q1,w'*p1- w*p2,V* (q2- q1),jiU hV Om,?_,?_,?_⟩
   ·have e1:u* (V* (q2- q1)) = (u*q2- u*q1) *V:=by grind
    have e2:u'* (V* (q2- q1)) = (u'*q2- u'*q1) *V:=by grind
    rw [e1,e2]
    have m1:u*q2≤u'*q2:=jij hu.2.1 Om
    have m2:u'*q1≤u*q1:=jjE hu.2.1 Om
    exact⟨jij Om Om,jij Om Om⟩
   ·have e0:q2- q1=p1- p2:=by omega
    rw [e0]
    have e1:w* (V* (p1- p2)) = (w*p1- w*p2) *V:=by grind
    have e2:w'* (V* (p1- p2)) = (w'*p1- w'*p2) *V:=by grind
    rw [e1,e2]
    have m1:w*p1≤w'*p1:=jij hw.2.1 Om
    have m2:w'*p2≤w*p2:=jjE hw.2.1 Om
    exact⟨jij Om Om,jij Om Om⟩
   ·rw [i1,show q2- q1=p1- p2 by omega,i2,J1,J2]
  ·have i1':=i1 (-q1) (-q2)
   have i2':=i2 (-p1) (-p2)
   refine⟨u* -q2- u'* -q1,w'* -p1- w* -p2,V* (-q2- -q1),jiU hV Om,?_,?_,?_⟩
   ·have e1:u* (V* (-q2- -q1)) = (u* -q2- u* -q1) *V:=by grind
    have e2:u'* (V* (-q2- -q1)) = (u'* -q2- u'* -q1) *V:=by grind
    rw [e1,e2]
    have m1:u* -q2≤u'* -q2:=jij hu.2.1 Om
    have m2:u'* -q1≤u* -q1:=jjE hu.2.1 Om
    exact⟨jij Om Om,jij Om Om⟩
   ·have e0: -q2- -q1= -p1- -p2:=by omega
    rw [e0]
    have e1:w* (V* (-p1- -p2)) = (w* -p1- w* -p2) *V:=by grind
    have e2:w'* (V* (-p1- -p2)) = (w'* -p1- w'* -p2) *V:=by grind
    rw [e1,e2]
    have m1:w* -p1≤w'* -p1:=jij hw.2.1 Om
    have m2:w'* -p2≤w* -p2:=jjE hw.2.1 Om
    exact⟨jij Om Om,jij Om Om⟩
   ·have n:∀x y:Int,-x*y= -(x*y) :=fun x y=>Int.neg_mul ..
    rw [i1 (-q1) (-q2),show-q2- -q1= -p1- -p2 by omega,i2 (-p1) (-p2)]
    simp only [n]
    apply Prod.ext
    ·simp only;omega
    ·simp only;omega
def Rd (hot:List Pn) (a b c d:Pn) :Prop:=qf a b c d=true→∃k∈hot,∀t t' v:Int,0<v→sc a b t v=sc c d t' v→wu a b k t v
theorem Ff {h h' g g':Pn} (hs:qf h h' g g'=true) :h≠h'∧g≠g'∧g≠h∧g≠h'∧g'≠h∧g'≠h':=by
 obtain ⟨h1,h2⟩ :=K4.1 hs
 have z1:∀p q:Pn,tn p p q=0:=fun p q=>by simp only [tn,Q8];grind
 have z2:∀p q:Pn,tn p q p=0:=fun p q=>by simp only [tn,Q8];grind
 have z3:∀p q:Pn,tn p q q=0:=fun p q=>by simp only [tn,Q8];grind
 refine⟨?_,?_,?_,?_,?_,?_⟩ <;>rintro rfl<;>simp [z1,z2,z3] at h1 h2
theorem Na {hot:List Pn} {a b c d h h' g g':Pn} (F:Frag hot a b h h') (G:Frag hot c d g g') (mh:h∈hot) (mh':h'∈hot) (mg:g∈hot) (mg':g'∈hot) (hc:Rd hot a b c d) :qf h h' g g'≠true:=fun hs=>by
 obtain ⟨n1,n2,n3,n4,n5,n6⟩ :=Ff hs
 obtain ⟨V,u,u',hV,hu,i1,i2,i3⟩ :=F
 obtain ⟨W,w,w',hW,hw,j1,j2,j3⟩ :=G
 obtain ⟨pV,qu,k1,k2,k3⟩ :=Frag.scale hW hV hu i1 i2 i3
 obtain ⟨pW,qw,l1,l2,l3⟩ :=Frag.scale hV hW hw j1 j2 j3
 rw [jiV W V] at pW qw l1 l2 l3
 generalize V*W=U at*
 generalize u*W=x at*
 generalize u'*W=x' at*
 generalize w*V=y at*
 generalize w'*V=y' at*
 refine jcx pV qu qw k1 k2 l1 l2 n1 n2 (k3 g mg n3 n4) (k3 g' mg' n5 n6) (l3 h mh (Ne.symm n3) (Ne.symm n5)) (l3 h' mh' (Ne.symm n4) (Ne.symm n6)) ?_ hs
 intro hss
 obtain ⟨s1,t,t',v,hv,s2,s3,s4⟩ :=NV pV qu qw hss
 obtain ⟨k,mk,hk⟩ :=hc s1
 have p1:=hk t t' v hv s4
 have p2:wu c d k t' v:=by rw [Vd,←s4];exact Vd.1 p1
 by_cases e1:k=g
 ·subst e1;exact k3 k mk n3 n4 t v hv s2.1 s2.2 p1
 ·by_cases e2:k=g'
  ·subst e2;exact k3 k mk n5 n6 t v hv s2.1 s2.2 p1
  ·exact l3 k mk e1 e2 t' v hv s3.1 s3.2 p2
theorem Oi {s x:Sp} {u v:Int} (hs:0<s.ld) (hx:0<x.ld) (hv:0<v) (h:Y7 x s=false) (hl:lowOk x u v) :lowOk s u v:=by
 have hns:¬(x.ln*s.ld<s.ln*x.ld∨(x.ln*s.ld=s.ln*x.ld∧x.lc=true∧s.lc=false)) :=fun h'=>by
  have:=Gc.2 h'
  rw [h] at this
  cases this
 have hle:s.ln*x.ld≤x.ln*s.ld:=jjr.1 fun h'=>hns (.inl h')
 by_cases g:x.ln*v<u*x.ld
 ·exact .inl (KS hx hs hv hle g)
 ·obtain ⟨g1,g2⟩ :=hl.resolve_left g
  by_cases k:s.ln*x.ld<x.ln*s.ld
  ·exact .inl (wd hx hs hv k Om)
  ·have l1:=vq (a:=s.ln) (b:=s.ld) (c:=x.ln) (d:=x.ld) (e:=u) (f:=v) hx hs hv Om Om
   have l2:=vq (a:=u) (b:=v) (c:=x.ln) (d:=x.ld) (e:=s.ln) (f:=s.ld) hx hv hs Om Om
   refine .inr ⟨by omega,?_⟩
   cases hc:s.lc with
   | true=>rfl
   | false=>exact absurd (.inr ⟨by omega,g2,hc⟩) hns
theorem GO {s:Sp} {u v u' v':Int} (hs:0<s.hd) (hv:0<v) (hv':0<v') (hle:u*v'≤u'*v) (h:highOk s u' v') :highOk s u v:=by
 rcases h with h |⟨h,hc⟩
 ·exact .inl (KS hv' hv hs hle h)
 ·by_cases k:u*v'<u'*v
  ·exact .inl (wd hv' hv hs k Om)
  ·have l1:=vq (a:=u) (b:=v) (c:=u') (d:=v') (e:=s.hn) (f:=s.hd) hv' hv hs Om Om
   have l2:=vq (a:=s.hn) (b:=s.hd) (c:=u') (d:=v') (e:=u) (f:=v) hv' hs hv Om Om
   exact .inr ⟨by omega,hc⟩
theorem jcZ {f' d' k u v:Int} (hv:0<v) (h0:0≤u) (h1:u≤v) (h:zR (2*f') (2* (d'- f')) (2*k- 1) u v) :min f' d'- 1≤k∧k≤max f' d'+1:=by
 obtain ⟨g1,g2⟩ :=h
 have e:2*f'*v+u* (2* (d'- f')) =2* (f'* (v- u) +d'*u) :=by grind
 rw [e] at g1 g2
 have a1:min f' d'* (v- u)≤f'* (v- u) :=jij Om Om
 have a2:min f' d'*u≤d'*u:=jij Om h0
 have a3:f'* (v- u)≤max f' d'* (v- u) :=jij Om Om
 have a4:d'*u≤max f' d'*u:=jij Om h0
 have b1:min f' d'* (v- u) +min f' d'*u=min f' d'*v:=by grind
 have b2:max f' d'* (v- u) +max f' d'*u=max f' d'*v:=by grind
 have c1: (2*k- 1) *v≤(2*max f' d') *v:=by
  have:2*max f' d'*v=2* (max f' d'*v) :=by grind
  omega
 have c2: (2*min f' d') *v< (2*k- 1+2) *v:=by
  have:2*min f' d'*v=2* (min f' d'*v) :=by grind
  omega
 have d1:=jiS c1 hv
 have d2:=jiP c2 Om
 omega
theorem SP {a b k:Pn} {u v:Int} (hv:0<v) (h0:0≤u) (h1:u≤v) (h:wu a b k u v) :KJ a b k=true:=by
 have x:=jcZ hv h0 h1 h.1
 have y:=jcZ hv h0 h1 h.2
 exact yW (Xd x.1 x.2) (zC y.1 y.2) (Mf hv h0 h1 h)
theorem U2 {a b p:Pn} (h:Ve a b p=true) :∃u v:Int,0<v∧yr (JZ a b p) u v∧0≤u∧u≤v∧wu a b p u v:=by
 have hn:vP (JZ a b p) =true:=by have h':=h;unfold Ve Xr at h';simp only [jig] at h';exact h'.2
 obtain ⟨u,v,hv,hm⟩ :=Mi (KY a b p) hn
 have:= (KZ hv h).1 hm
 exact⟨u,v,hv,hm,this.1.1,this.1.2,this.2⟩
theorem jeu {hot l1 l2:List Pn} {a b h h':Pn} (hnd:hot.Nodup) (hp:qD a b hot=l1++h::h'::l2) :Frag hot a b h h':=by
 have hs:Uy (KN a b) (qD a b hot) :=by rw [wK];exact Zm a b hot
 have hd:=ut (a:=a) (b:=b) hnd
 have hi:∀p∈qD a b hot,Ve a b p=true:=fun p hp=>ZG (Ku.1 hp).2
 have mh:h∈qD a b hot:=by rw [hp];simp
 have mh':h'∈qD a b hot:=by rw [hp];simp
 have hmem:∀k,k∈hot→KJ a b k=true→k≠h→k≠h'→k∈l1∨k∈l2:=fun k k1 k2 k3 k4=>by
  have:=Ku.2 ⟨k1,k2⟩
  rw [hp] at this
  simp only [jiv,jir] at this
  rcases this with h1 | rfl | rfl | h1
  ·exact .inl h1
  ·exact absurd rfl k3
  ·exact absurd rfl k4
  ·exact .inr h1
 rw [hp] at hs hd
 have hs1:=jjN.1 hs
 have hs2:=jiR.1 hs1.2.1
 have hs3:=jiR.1 hs2.2
 have hne:h≠h':=fun e=>by
  have:= (List.nodup_append.1 hd).2.1
  rw [e] at this
  exact(List.nodup_cons.1 this).1 (by simp)
 obtain ⟨u0,v0,p0,m0,a0,b0,c0⟩ :=U2 (hi h mh)
 obtain ⟨u1,v1,p1,m1,a1,b1,c1⟩ :=U2 (hi h' mh')
 have pos:=fun p=>KY a b p
 have hle:u0*v1≤u1*v0:=jjr.1 fun hlt=>by
  have lo:lowOk (JZ a b h) u1 v1:=Oi (pos h).1 (pos h').1 p1 (hs2.1 h' (by simp)) m1.1
  have hi':highOk (JZ a b h) u1 v1:=GO (pos h).2 p1 p0 Om m0.2
  exact hne (Uu p1 ((KZ p1 (hi h mh)).1 ⟨lo,hi'⟩).2 c1)
 refine⟨v0*v1,u0*v1,u1*v0,jiU p0 p1,⟨jiF a0 Om,hle,?_⟩,?_,?_,?_⟩
 ·rw [jiV v0 v1]
  exact jij b1 Om
 ·exact(Ys p1).2 c0
 ·rw [jiV v0 v1]
  exact(Ys p0).2 c1
 ·intro k k1 k2 k3 t v hv t1 t2 hin
  have t1':u0*v≤t*v0:=by
   have e1:u0*v1*v=u0*v*v1:=by grind
   have e2:t* (v0*v1) =t*v0*v1:=by grind
   rw [e1,e2] at t1
   exact jiS t1 p1
  have t2':t*v1≤u1*v:=by
   have e1:u1*v0*v=u1*v*v0:=by grind
   have e2:t* (v0*v1) =t*v1*v0:=by grind
   rw [e1,e2] at t2
   exact jiS t2 p0
  have g0:0≤t:=by
   refine jjr.1 fun hn=> ?_
   have:=jiF a0 (show 0≤v by omega)
   have:=jjh hn p0
   omega
  have g1:t≤v:=by
   have e1:u1*v≤v1*v:=jij b1 Om
   have e2:t*v1≤v*v1:=by rw [jiV v v1];omega
   exact jiS e2 p1
  have hw:=SP hv g0 g1 hin
  have hik:=ZG hw
  have mk:= (KZ hv hik).2 ⟨⟨g0,g1⟩,hin⟩
  rcases hmem k k1 hw k2 k3 with c | c
  ·have lo:lowOk (JZ a b k) u0 v0:=Oi (pos k).1 (pos h).1 p0 (hs1.2.2 k c h (by simp)) m0.1
   have hi':highOk (JZ a b k) u0 v0:=GO (pos k).2 p0 hv t1' mk.2
   exact k2 (Uu p0 ((KZ p0 hik).1 ⟨lo,hi'⟩).2 c0)
  ·have lo:lowOk (JZ a b h') t v:=Oi (pos h').1 (pos k).1 hv (hs3.1 k c) mk.1
   have hi':highOk (JZ a b h') t v:=GO (pos h').2 hv p1 t2' m1.2
   exact k3 (Uu hv ((KZ hv (hi h' mh')).1 ⟨lo,hi'⟩).2 hin).symm
def C8 (p q:Pn) (l:List Pn) :Prop:=∃l1 l2,l=l1++p::q::l2
theorem Zy {hot:List Pn} {e:Pn×Pn} {l:List (Pn×Pn)} (h:e.1≠e.2∧e.1∈hot∧e.2∈hot) :∃rest,(e::l).flatMap (Qs hot) =e.1::rest:=by
 obtain ⟨mid,h1,_⟩ :=VW h
 exact⟨mid++l.flatMap (Qs hot),by rw [jiB,h1];rfl⟩
theorem Ds {hot:List Pn} {p q:Pn} :∀ {es:List (Pn×Pn)} {e:Pn×Pn} {z:Pn},Lk (e::es) z→(∀d∈e::es,d.1≠d.2∧d.1∈hot∧d.2∈hot)→C8 p q ((e::es).flatMap (Qs hot) ++ [z])→∃d∈e::es,C8 p q (qD d.1 d.2 hot)
 | [],e,z,hl,hm,hc=>by
  obtain ⟨mid,h1,h2⟩ :=VW (hm e (jiE ..))
  have hz:e.2=z:=hl
  refine⟨e,jiE ..,?_⟩
  rw [h2,hz]
  simpa using hc
 | f::l,e,z,hl,hm,hc=>by
  obtain ⟨mid,h1,h2⟩ :=VW (hm e (jiE ..))
  obtain ⟨rest,hr⟩ :=Zy (l:=l) (hm f (jiq _ (jiE ..)))
  have ih:=Ds (p:=p) (q:=q) (es:=l) (e:=f) (z:=z) hl.2 (fun d hd=>hm d (jiq _ hd))
  have lift:C8 p q ((f::l).flatMap (Qs hot) ++ [z])→∃d∈e::f::l,C8 p q (qD d.1 d.2 hot) :=fun h=>by
   obtain ⟨d,hd,hk⟩ :=ih h
   exact⟨d,jiq _ hd,hk⟩
  obtain ⟨l1,l2,hc⟩ :=hc
  rw [jiB,jil] at hc
  have hB: (f::l).flatMap (Qs hot) ++ [z] =f.1:: (rest++ [z]) :=by rw [hr];rfl
  rcases List.append_eq_append_iff.1 hc with⟨zs,h3,h4⟩ |⟨zs,h3,h4⟩
  ·exact lift ⟨zs,l2,h4⟩
  ·match zs,h3,h4 with
   | [],h3,h4=>exact lift ⟨[],l2,h4.symm⟩
   | [x],h3,h4=>
    rw [hB] at h4
    simp only [jiJ,jiW,List.cons.injEq] at h4
    refine⟨e,jiE ..,l1,[],?_⟩
    rw [h2,h3,hl.1,h4.1,h4.2.1]
    simp
   | x::y::zs,h3,h4=>
    simp only [jiJ,List.cons.injEq] at h4
    refine⟨e,jiE ..,l1,zs++ [e.2],?_⟩
    rw [h2,h3,h4.1,h4.2.1]
    simp
theorem jeg {l:List Pn} {j:Nat} (h:j+1<l.length) :C8 l[j] l[j+1] l:=
 ⟨l.take j,l.drop (j+2),by
  have e1:l.drop j=l[j] ::l.drop (j+1) :=jiY Om
  have e2:l.drop (j+1) =l[j+1] ::l.drop (j+2) :=jiY h
  rw [←e2,←e1,jiw]⟩
theorem Ew {S:List Pn} {j:Nat} (h:j<S.length) :C8 (pt S j) (pt S (nx S j)) (S++ [pt S 0]) :=by
 have hc:=jeg (l:=S++ [pt S 0]) (j:=j) (by simp;omega)
 have e1: (S++ [pt S 0])[j]'(by simp;omega) =pt S j:=by rw [List.getElem_append_left h,Kk h]
 have e2: (S++ [pt S 0])[j+1]'(by simp;omega) =pt S (nx S j) :=by
  by_cases k:j+1<S.length
  ·rw [List.getElem_append_left k,Kk k,show nx S j=j+1 from jjx k]
  ·rw [List.getElem_append_right Om,show nx S j=0 by unfold nx;rw [show j+1=S.length by omega,Nat.mod_self]]
   simp
 rw [e1,e2] at hc
 exact hc
theorem Dv {hot xs:List Pn} (hnd:hot.Nodup) (hb:bare xs) (hm:∀p∈xs,p∈hot) {e:Leg} (he:e∈J0 (kU hot xs)) :∃f∈J0 xs,Frag hot (lA f) (lB f) (lA e) (lB e)∧lA e∈hot∧lB e∈hot:=by
 have hS:= (Ux hnd hb hm).1
 rw [kz hS] at he
 obtain ⟨pq,hpq,rfl⟩ :=jip.1 he
 obtain ⟨j,hj,rfl⟩ :=jip.1 hpq
 have hj:=List.mem_range.1 hj
 have hc:=Ew hj
 have hSp:=uM (hot:=hot) hb
 have hlk:=XZ (xs:=xs)
 have hok:=yY hb hm
 have hhd:∀h:0< (KK xs).length,((KK xs)[0]'h).1=pt xs 0:=fun h=>by simp [KK]
 have hlen:0< (KK xs).length:=by rw [Wv];exact hb.1
 cases hP:KK xs with
 | nil=>rw [hP] at hlen;exact absurd hlen (by simp)
 | cons e0 es=>
  simp only [hP] at hlk hok hhd hlen hSp
  obtain ⟨rest,hr⟩ :=Zy (l:=es) (hok e0 (jiE ..))
  have h0:pt (kU hot xs) 0=pt xs 0:=by
   rw [hSp,hr,←hhd hlen]
   rfl
  rw [h0,hSp] at hc
  obtain ⟨d,hd,l1,l2,hk⟩ :=Ds hlk hok hc
  refine⟨mkL d,?_,?_,?_,?_⟩
  ·rw [kz hb,hP]
   exact jip.2 ⟨d,hd,rfl⟩
  ·have:=jeu hnd hk
   rw [←hSp] at this
   exact this
  ·exact O1 (xs:=xs) (by show pt (kU hot xs) j∈_;rw [←Kk hj];exact jis _)
  ·have hn:nx (kU hot xs) j< (kU hot xs).length:=Nat.mod_lt _ Om
   exact O1 (xs:=xs) (by show pt (kU hot xs) (nx (kU hot xs) j)∈_;rw [←Kk hn];exact jis _)
theorem DP {rs:List jV} {e:Leg} :∀k,e∈qJ rs k↔∃j,j<k∧e∈J0 (rg rs j)
 | 0=>by simp [qJ]
 | k+1=>by
  show e∈qJ rs k++J0 (rg rs k)↔_
  rw [jiv,DP k]
  constructor
  ·rintro(⟨j,h1,h2⟩ | h)
   ·exact⟨j,by omega,h2⟩
   ·exact⟨k,by omega,h⟩
  ·rintro⟨j,h1,h2⟩
   by_cases h:j=k
   ·subst h;exact .inr h2
   ·exact .inl ⟨j,by omega,h2⟩
theorem Yw {rs:List jV} {e:Leg} :e∈jE rs↔∃r∈rs,e∈J0 r:=by
 unfold jE
 rw [DP]
 constructor
 ·rintro⟨j,h1,h2⟩
  exact⟨rg rs j,by rw [←Wa h1];exact jis _,h2⟩
 ·rintro⟨r,h1,h2⟩
  obtain ⟨j,hj,e1⟩ :=ji0 h1
  exact⟨j,hj,by rw [←Wa hj,e1];exact h2⟩
def jaN (hot:List Pn) (E:List Leg) :Prop:=∀e∈E,∀f∈E,Rd hot (lA e) (lB e) (lA f) (lB f)
def NoX (E:List Leg) :Prop:=∀e∈E,∀f∈E,qf (lA e) (lB e) (lA f) (lB f)≠true
theorem NoX.inv {hot:List Pn} {E:List Leg} (h:NoX E) :jaN hot E:=fun e he f hf hs=>absurd hs (h e he f hf)
theorem Sb {hot:List Pn} {rs:List jV} (hnd:hot.Nodup) (hb:bareG hot rs) (h:jaN hot (jE rs)) :NoX (jE (qR hot rs)) :=fun e he f hf=>by
 obtain ⟨r,hr,he⟩ :=Yw.1 he
 obtain ⟨s,hs,hf⟩ :=Yw.1 hf
 obtain ⟨r0,hr0,rfl⟩ :=jip.1 hr
 obtain ⟨s0,hs0,rfl⟩ :=jip.1 hs
 obtain ⟨e0,he0,F,m1,m2⟩ :=Dv hnd (hb r0 hr0).1 (hb r0 hr0).2 he
 obtain ⟨f0,hf0,G,m3,m4⟩ :=Dv hnd (hb s0 hs0).1 (hb s0 hs0).2 hf
 exact Na F G m1 m2 m3 m4 (h e0 (Yw.2 ⟨r0,hr0,he0⟩) f0 (Yw.2 ⟨s0,hs0,hf0⟩))
def I2 (hot:List Pn) :Nat→List jV→List jV
 | 0,rs=>rs
 | n+1,rs=>I2 hot n (qR hot rs)
theorem PR (hot:List Pn) :∀n rs ss,I2 hot n (rs++ss) =I2 hot n rs++I2 hot n ss
 | 0,_,_=>rfl
 | n+1,rs,ss=>by
  show I2 hot n (qR hot (rs++ss)) =_
  rw [show qR hot (rs++ss) =qR hot rs++qR hot ss by simp [qR],PR]
  rfl
theorem Fq9 {hot:List Pn} {rs:List jV} (h:qR hot rs=rs) :∀n,I2 hot n rs=rs
 | 0=>rfl
 | n+1=>by
  show I2 hot n (qR hot rs) =rs
  rw [h,Fq9 h n]
theorem FR {hot:List Pn} :∀m n rs,I2 hot (m+n) rs=I2 hot n (I2 hot m rs)
 | 0,n,rs=>by rw [jiL];rfl
 | m+1,n,rs=>by
  rw [show m+1+n= (m+n) +1 by omega]
  exact FR m n (qR hot rs)
theorem PS {hot:List Pn} (hnd:hot.Nodup) :∀n rs,bareG hot rs→jaN hot (jE rs)→bareG hot (I2 hot n rs)∧jaN hot (jE (I2 hot n rs))
 | 0,rs,h1,h2=>⟨h1,h2⟩
 | n+1,rs,h1,h2=>PS hnd n (qR hot rs) (h1.snap hnd) (Sb hnd h1 h2).inv
theorem CW {hot:List Pn} :∀f {rs ss:List jV} {r q:Nat},WV hot f rs r=some (ss,q)→qR hot ss=ss∧∃n,ss=I2 hot n rs
 | 0,_,_,_,_,h=>by cases h
 | f+1,rs,ss,r,q,h=>by
  unfold WV at h
  split at h
  ·cases h
  ·split at h
   ·rename_i e
    injection h with h
    injection h with h1 h2
    subst h1
    exact⟨e,0,rfl⟩
   ·obtain ⟨h1,n,h2⟩ :=CW f h
    exact⟨h1,n+1,h2⟩
theorem R5 {hot:List Pn} :∀ {es:List (Pn×Pn)},(∀d∈es,d.1≠d.2∧d.1∈hot∧d.2∈hot)→(es.flatMap (Qs hot)).length=es.length→∀e∈es,qD e.1 e.2 hot= [e.1,e.2]
 | [],_,_,e,he=>by cases he
 | d::l,h,hl,e,he=>by
  obtain ⟨mid,h1,h2⟩ :=VW (h d (jiE ..))
  have hg:= (GM (es:=l) fun x hx=>h x (jiq _ hx)).1
  rw [jiB,h1,jif,jim,jim] at hl
  rcases jir.1 he with rfl | he
  ·obtain rfl:mid= [] :=jiQ Om
   rw [h2,h1]
   rfl
  ·exact R5 (fun x hx=>h x (jiq _ hx)) Om e he
theorem HC {hot:List Pn} {rs:List jV} (hb:bareG hot rs) (hs:qR hot rs=rs) {e:Leg} (he:e∈jE rs) :lA e∈hot∧lB e∈hot∧lA e≠lB e∧qD (lA e) (lB e) hot= [lA e,lB e] :=by
 obtain ⟨r,hr,he⟩ :=Yw.1 he
 have hsr:kU hot r=r:=by
  have:∀ {l:List jV},l.map (kU hot) =l→∀x∈l,kU hot x=x:=fun {l} =>by
   induction l with
   | nil=>intro _ x hx;cases hx
   | cons y l ih=>
    intro h x hx
    simp only [jiA,List.cons.injEq] at h
    rcases jir.1 hx with rfl | hx
    ·exact h.1
    ·exact ih h.2 x hx
  exact this hs r hr
 obtain ⟨h1,h2⟩ :=hb r hr
 have hok:=yY h1 h2
 rw [kz h1] at he
 obtain ⟨d,hd,rfl⟩ :=jip.1 he
 have hl: ((KK r).flatMap (Qs hot)).length= (KK r).length:=by rw [←uM h1,hsr,Wv]
 obtain ⟨g1,g2,g3⟩ :=hok d hd
 exact⟨g2,g3,g1,R5 hok hl d hd⟩
theorem T6 (a b c d:Pn) : (Qk a b c d).Nodup:=by
 have key:∀out p,out.Nodup→(LI a b c d out p).Nodup:=fun out p h=>by
  unfold LI
  split
  ·rename_i k
   simp only [jig,ji2] at k
   refine List.nodup_append.2 ⟨h,by simp,fun x hx y hy e=> ?_⟩
   rw [jik.1 hy] at e
   subst e
   have:=k.1
   rw [List.contains_eq_mem,decide_eq_false_iff_not] at this
   exact this hx
  ·exact h
 exact key _ _ (key _ _ (key _ _ (key _ _ List.nodup_nil)))
theorem jaC {hot:List Pn} {rs:List jV} (hb:bareG hot rs) (hs:qR hot rs=rs) (hx:NoX (jE rs)) (hok:∀p∈hot,bd2 p) {e f:Leg} (he:e∈jE rs) (hf:f∈jE rs) :ve (lA e) (lB e) (lA f) (lB f) =true:=by
 obtain ⟨e1,e2,e3,e4⟩ :=HC hb hs he
 obtain ⟨f1,f2,f3,f4⟩ :=HC hb hs hf
 have hno:=hx e he f hf
 generalize lA e=a at*
 generalize lB e=b at*
 generalize lA f=c at*
 generalize lB f=d at*
 have way:∀ {p q x:Pn},qD p q hot= [p,q]→p∈hot→q∈hot→x∈hot→uO p q x=true→x=p∨x=q:=fun {p q x} h hp hq hx ho=>by
  have hi:= (jgQ (hok p hp) (hok q hq) ho).2
  unfold ipB at hi
  simp only [jig] at hi
  obtain ⟨u,v,hv,_,h0,h1,h2⟩ :=U2 (a:=p) (b:=q) (p:=x) hi.2
  have hm:x∈qD p q hot:=Ku.2 ⟨hx,SP hv h0 h1 h2⟩
  rw [h] at hm
  simpa using hm
 have both:∀q∈Qk a b c d,(q=a∨q=b)∧(q=c∨q=d) :=fun q hq=>by
  obtain ⟨h1,h2⟩ :=qL.1 hq
  unfold kk at h2
  simp only [jig] at h2
  have hqh:q∈hot:=by
   rcases h1 with rfl | rfl | rfl | rfl<;>assumption
  exact⟨way e4 e1 e2 hqh h2.1,way f4 f1 f2 hqh h2.2⟩
 have nd:=T6 a b c d
 unfold ve
 split
 ·rfl
 ·split
  ·rename_i h2
   exact absurd (Ia h2) hno
  ·split
   ·rename_i h1
    have:∃q,q∈Qk a b c d:=by
     unfold qU at h1
     cases hh:Qk a b c d with
     | nil=>rw [hh] at h1;simp at h1;split at h1<;>omega
     | cons x l=>exact⟨x,by simp⟩
    obtain ⟨q,hq⟩ :=this
    obtain ⟨k1,k2⟩ :=both q hq
    simp only [ji2,jjG,decide_eq_false_iff_not,ne_eq,Decidable.not_not]
    rcases k1 with rfl | rfl<;>rcases k2 with rfl | rfl<;>simp
   ·split
    ·rename_i h3
     unfold qU at h3
     match hh:Qk a b c d with
     | [] =>rw [hh] at h3;simp at h3;split at h3<;>omega
     | [x] =>rw [hh] at h3;simp at h3
     | x::y::l=>
      rw [hh] at nd both
      have hxy:x≠y:=fun e=> (List.nodup_cons.1 nd).1 (by rw [e];simp)
      obtain ⟨k1,k2⟩ :=both x (by simp)
      obtain ⟨k3,k4⟩ :=both y (by simp)
      rw [decide_eq_true_iff]
      rcases k1 with rfl | rfl<;>rcases k3 with rfl | rfl
      ·exact absurd rfl hxy
      ·rcases k2 with rfl | rfl<;>rcases k4 with rfl | rfl
       ·exact absurd rfl hxy
       ·exact .inl ⟨rfl,rfl⟩
       ·exact .inr ⟨rfl,rfl⟩
       ·exact absurd rfl hxy
      ·rcases k2 with rfl | rfl<;>rcases k4 with rfl | rfl
       ·exact absurd rfl hxy
       ·exact .inr ⟨rfl,rfl⟩
       ·exact .inl ⟨rfl,rfl⟩
       ·exact absurd rfl hxy
      ·exact absurd rfl hxy
    ·rfl
theorem US {a b c d:Pn} (h:qf a b c d=true) :qU a b c d=2:=by
 have hn:Qk a b c d= [] :=by
  refine List.eq_nil_iff_forall_not_mem.2 fun q hq=> ?_
  obtain ⟨h1,h2⟩ :=qL.1 hq
  unfold kk at h2
  simp only [jig] at h2
  have t1:= (KE.1 h2.1).1
  have t2:= (KE.1 h2.2).1
  obtain ⟨s1,s2⟩ :=K4.1 h
  rcases h1 with rfl | rfl | rfl | rfl<;>omega
 unfold qU
 rw [hn,if_pos (show([] :List Pn).length=0 from rfl),if_pos h]
theorem MQ {E:List Leg} {i k:Nat} (h:qU (lA (lg E i)) (lB (lg E i)) (lA (lg E k)) (lB (lg E k)) =2) :∀j,k<j→GH (lA (lg E i)) (lB (lg E i)) (lA (lg E k)) (lB (lg E k))∈cz E i j
 | 0,hj=>absurd hj Om
 | j+1,hj=>by
  unfold cz
  by_cases e:k=j
  ·subst e
   rw [if_pos h]
   simp
  ·exact jjc _ (MQ h j Om)
theorem MZ {E:List Leg} {i:Nat} {p:Pn} (h:p∈cz E i i) :∀n,i<n→p∈U0 E n
 | 0,hn=>absurd hn Om
 | n+1,hn=>by
  unfold U0
  by_cases e:i=n
  ·subst e;exact jjH _ h
  ·exact jjc _ (jjc _ (MZ h n Om))
theorem jdg {a b c d:Pn} {t t' v:Int} (h:sc a b t v=sc c d t' v) :v*tn c d a=t* (tn c d a- tn c d b) :=by
 have e1:2* (v*tn c d a+t* (tn c d b- tn c d a)) = (d.1- c.1) * ((sc a b t v).2- (sc c d t' v).2) - (d.2- c.2) * ((sc a b t v).1- (sc c d t' v).1) :=by simp only [sc,tn,Q8];grind
 rw [h] at e1
 have e2:v*tn c d a+t* (tn c d b- tn c d a) =0:=by
  have: (d.1- c.1) * ((sc c d t' v).2- (sc c d t' v).2) - (d.2- c.2) * ((sc c d t' v).1- (sc c d t' v).1) =0:=by rw [Int.sub_self,Int.sub_self];simp
  omega
 have e3:t* (tn c d a- tn c d b) = -(t* (tn c d b- tn c d a)) :=by grind
 omega
theorem jbw {x y n D0 t v:Int} (hd:D0≠0) (hv:0<v) (h:v*n=t*D0) :zR (2*x) (2* (y- x)) (2*Bw x y n D0- 1) t v:=by
 obtain ⟨N,D,hD,hND,g1,g2⟩ :=TV (x:=x) (y:=y) (n:=n) hd
 have hk:v*N=t*D:=by
  rcases hND with⟨_,rfl,rfl⟩ |⟨_,rfl,rfl⟩
  ·rw [Int.mul_neg,Int.mul_neg,h]
  ·exact h
 generalize Bw x y n D0=r at*
 unfold zR
 have e: (2*x*v+t* (2* (y- x))) *D=2* (x*D+ (y- x) *N) *v:=by
  have: (2*x*v+t* (2* (y- x))) *D=2*x*D*v+2* (y- x) * (t*D) :=by grind
  rw [this,←hk]
  grind
 have m1:=jij g1 (show 0≤v by omega)
 have m2:=jiz g2 hv
 rw [←e] at m1 m2
 have f1: (2*r- 1) *D*v= (2*r- 1) *v*D:=by grind
 have f2: (2*r+1) *D*v= (2*r- 1+2) *v*D:=by grind
 rw [f1] at m1
 rw [f2] at m2
 exact⟨jiS m1 hD,jiP m2 Om⟩
theorem RI {a b c d:Pn} (hs:qf a b c d=true) {t t' v:Int} (hv:0<v) (h:sc a b t v=sc c d t' v) :wu a b (GH a b c d) t v:=by
 have hd:=K3 hs
 have hk2:v*crN a c d=t*TQ a b c d:=by
  rw [zK,Yp]
  exact jdg h
 exact⟨jbw hd hv hk2,jbw hd hv hk2⟩
theorem yc {a b c d:Pn} (h:qf a b c d=true) :qf c d a b=true:=by
 obtain ⟨h1,h2⟩ :=K4.1 h
 exact K4.2 ⟨h2,h1⟩
theorem EH {E:List Leg} {hot:List Pn} (hh:∀p∈U0 E E.length,p∈hot) :jaN hot E:=fun e he f hf hs=>by
 obtain ⟨i,hi,rfl⟩ :=yN he
 obtain ⟨k,hk,rfl⟩ :=yN hf
 rcases Nat.lt_trichotomy i k with c | c | c
 ·have hs':=yc hs
  refine⟨GH (lA (lg E k)) (lB (lg E k)) (lA (lg E i)) (lB (lg E i)),hh _ (MZ (MQ (US hs') k c) _ hk),fun t t' v hv h=> ?_⟩
  rw [xp (K3 hs) (K3 hs')]
  exact RI hs hv h
 ·subst c
  exact absurd rfl (Ff hs).2.2.1
 ·exact⟨GH (lA (lg E i)) (lB (lg E i)) (lA (lg E k)) (lB (lg E k)),hh _ (MZ (MQ (US hs) i c) _ hi),fun t t' v hv h=>RI hs hv h⟩
end Go.Proofs.YtpncbbcmoiiipaaGreat
