import Derived.Test.YtbahojdbmmjkcaaGreatSRounds
import Derived.Test.YtbahojdbmmjkcaaGreatSHotLaw
import Derived.Test.YtbahojdbmmjkcaaGreatSCross
import Derived.Test.YtbahojdbmmjkcaaGreatSTo
import Derived.Test.YtbahojdbmmjkcaaGreatSTopo2
set_option linter.unusedVariables false
set_option linter.unusedSimpArgs false
namespace Go.Proofs.YtbahojdbmmjkcaaGreat
open Go Go.RowKit
variable {A:Option Addr} {V:Option Addr→Nat→Value} {args:Array Value} {rs ss:List Jp}
set_option maxRecDepth 100000
set_option maxHeartbeats 4000000
def jey (E:List Leg) :List Pn:=qF (YM E E.length)
theorem jcz {a b c d:Pn} (h:kz a b c d=2) :Qc a b c d=true:=by
 unfold kz at h
 split at h
 ·split at h
  ·rename_i h1;exact h1
  ·omega
 ·split at h<;>omega
theorem SE {E:List Leg} :∀i,i≤E.length→∀k,k<i→lA (lg E k)∈YM E i∧lB (lg E k)∈YM E i
 | 0,_,k,hk=>absurd hk Om
 | i+1,hi,k,hk=>by
  rw [YM]
  rcases jjt (show k≤i by omega) with h | rfl
  ·obtain ⟨h1,h2⟩ :=SE (E:=E) i Om k h
   exact⟨jjg _ (jjg _ h1),jjg _ (jjg _ h2)⟩
  ·exact⟨jjg _ (jjM _ (by simp)),jjg _ (jjM _ (by simp))⟩
theorem jbS {E:List Leg} (hok:∀l∈E,qU l) {i:Nat} (hi:i<E.length) :∀k,k≤i→∀p∈cz E i k,bd2 p
 | 0,_,p,hp=>by simp [cz] at hp
 | k+1,hk,p,hp=>by
  rw [cz] at hp
  rcases jit.1 hp with h | h
  ·exact jbS hok hi k Om p h
  ·split at h
   ·rename_i hm
    rw [jin.1 h]
    exact(EY (VR (kk hok Om)) (wP (kk hok Om)) (jcz hm)).1
   ·simp at h
theorem Cl {E:List Leg} (hok:∀l∈E,qU l) :∀i,i≤E.length→∀p∈YM E i,bd2 p
 | 0,_,p,hp=>by simp [YM] at hp
 | i+1,hi,p,hp=>by
  rw [YM] at hp
  rcases jit.1 hp with h | h
  ·rcases jit.1 h with h | h
   ·exact Cl hok i Om p h
   ·simp only [jis,ji3,or_false] at h
    rcases h with rfl | rfl
    ·exact VR (kk hok Om)
    ·exact wP (kk hok Om)
  ·exact jbS hok Om i (jif _) p h
theorem EJ {l:List Pn} (h:Asc l) :l.Nodup:=List.Pairwise.imp (fun {a b} (hab:ww a b) (e:a=b) =>Q8 a (by rw [←e] at hab;exact hab)) h
theorem jgv {E:List Leg} {k:Nat} (hk:k<E.length) :lg E k=E[k] :=by simp [lg,List.getD,hk]
theorem Mw {rs:List Jp} :∀k,k≤rs.length→cnt (vg rs k) = (Qe rs k).length
 | 0,_=>rfl
 | k+1,hk=>by
  have ih:=Mw (rs:=rs) k Om
  have e: (Qe rs (k+1)).length= (Qe rs k).length+ (qf (rg rs k)).length:=jid
  have e2: (vc (rg rs k)).length= (qf (rg rs k)).length:=jip ..
  by_cases h:0< (vc (rg rs k)).length
  ·rw [yP Om h,e,←ih]
   simp [cnt,e2]
  ·rw [Zl Om h,e,←ih]
   omega
theorem YX (hr:J0 rs=true) :∀r∈qh rs,bare r:=fun r h=>by
 obtain ⟨h0,q,hq,rfl⟩ :=Z5 h
 obtain ⟨i,hi,e⟩ :=jiU hq
 have:=Qz (VK hr hi)
 rw [Wc hi] at e
 rw [e] at this
 exact DZ this.1 h0
theorem jeB {xs:List Pn} (h:q6 xs=true) :∀p∈vc xs,wX p.1 p.2=true:=fun p hp=>by
 obtain ⟨l,hl,rfl⟩ :=jiD.1 hp
 exact yQ (VR (xf (H5 h).2.2 _ (jif _) l hl))
theorem yO (hr:J0 rs=true) :J0 (qh rs) =true:=by
 have h40:=UL hr
 have hl:=Z4 rs rs.length
 have hcnt: (Jw (qh rs)).length≤400:=by
  rw [xY (YX hr)]
  have:=Mw (rs:=rs) rs.length (jif _)
  have h4: (Jw rs).length≤400:=by simp [J0] at hr;omega
  unfold Jw at h4
  unfold qh
  omega
 have hall: (qh rs).all q6=true:=jjo.2 fun r h=>by
  have hs:=xg hr h
  obtain ⟨h0,q,hq,rfl⟩ :=Z5 h
  obtain ⟨i,hi,e⟩ :=jiU hq
  have hb:=VK hr hi
  rw [Wc hi] at e
  rw [e] at hb
  unfold q6 Yt
  rw [decide_eq_true (show(1:Int)≤((vc q).length:Int) by omega),decide_eq_true (show((vc q).length:Int)≤400 by omega)]
  exact jjo.2 fun p hp=>jeB hb p hp
 rw [Ut (by unfold qh;omega) hall]
 exact decide_eq_true hcnt
structure HotOk (hot:List Pn) (ss:List Jp) :Prop where
 reg:J0 ss=true
 ok:∀p∈hot,wX p.1 p.2=true
 asc:Asc hot
 nd:hot.Nodup
 len:hot.length≤1048576
 bare:bareG hot ss
theorem Fz {hot:List Pn} (hnd:hot.Nodup) :∀(f:Nat) {rs ss:List Jp} {r q:Nat},J0 rs=true→bareG hot rs→X0 hot f rs r=some (ss,q)→J0 ss=true
 | 0,_,_,_,_,_,_,h=>by cases h
 | f+1,rs,ss,r,q,hr,hb,h=>by
  rw [X0] at h
  split at h
  ·cases h
  ·rename_i h1
   split at h
   ·injection h with h
    injection h with h2 h3
    exact h2▸hr
   ·exact Fz hnd f (by simpa using h1) (hb.snap hnd) h
theorem jdN {hot:List Pn} (hnd:hot.Nodup) {r:Nat} (hr:J0 rs=true) (hb:bareG hot rs) (h:Bm hot rs=some (ss,r)) :J0 ss=true:=Fz hnd _ hr hb h
theorem jb2 {P:Program} {f:FuncId} {w1:World} {n lo hi:Nat} {c:Nat} (hg: (kx n ss lo hi A).P w1) (hn:ss.length=n) (h:Calls P f args w1 fun e w'=>∃A' c',e= .returned (V A' c')∧((A'=A∧c'=c∧rs=ss)∨OwnG w1.heap.size w'.heap.size w' A' rs.length rs)∧Over w1 w') :
  Calls P f args w1 fun e w'=>∃x: (Option Addr×Nat)×Nat×Nat,e= .returned (V x.1.1 x.1.2)∧Wrs (kx n ss lo hi A).F w1 w'∧(kx rs.length rs x.2.1 x.2.2 x.1.1).P w'∧(∀b,(kx rs.length rs x.2.1 x.2.2 x.1.1).F b→(kx n ss lo hi A).F b∨w1.heap.size≤b)∧(kx rs.length rs x.2.1 x.2.2 x.1.1).B=0:=by
 refine h.mono ?_
 rintro e w' ⟨A',c',rfl,ho,hO⟩
 rcases ho with⟨rfl,rfl,rfl⟩ | ho
 ·subst hn
  have hz:hi≤w1.heap.size:=hg.1
  exact⟨((A',c'),lo,hi),rfl,Wrs.of hO,E7 ((uO hg).agree fun b h1 h2=>hO.out.block b Om) (jiY hz hO.size),fun b hb=> .inl hb,rfl⟩
 ·exact⟨((A',c'),w1.heap.size,w'.heap.size),rfl,Wrs.of hO,E7 ho (jif _),fun b hb=> .inr hb.1,rfl⟩
end Go.Proofs.YtbahojdbmmjkcaaGreat
namespace Go.Proofs.YtbahojdbmmjkcaaGreat
open Go Go.RowKit
variable {E:List Leg} {a b c d h':Pn} {e:Leg} {hot:List Pn} {j:Nat} {l:List (Pn×Pn)} {m u u' v:Int} {rs:List Jp}
def Frag (hot:List Pn) (a b h h':Pn) :Prop:=∃V u u':Int,0<V∧(0≤u∧u≤u'∧u'≤V)∧wV a b h u V∧wV a b h' u' V∧∀k∈hot,k≠h→k≠h'→Mi a b k V u u'
theorem TH {f d lo:Int} (hm:0<m) :ZE f d lo (u*m) (v*m)↔ZE f d lo u v:=by
 have e1:lo* (v*m) =lo*v*m:=by grind
 have e2:f* (v*m) +u*m*d= (f*v+u*d) *m:=by grind
 have e3: (lo+2) * (v*m) = (lo+2) *v*m:=by grind
 unfold ZE
 rw [e1,e2,e3]
 constructor
 ·rintro⟨h1,h2⟩;exact⟨jiT h1 hm,ji4 h2 Om⟩
 ·rintro⟨h1,h2⟩;exact⟨jih h1 Om,jiQ h2 hm⟩
theorem y5 {p:Pn} (hm:0<m) :wV a b p (u*m) (v*m)↔wV a b p u v:=by
 unfold wV
 rw [TH hm,TH hm]
theorem Pg {k:Pn} {V:Int} (hm:0<m) (h:Mi a b k V u u') :Mi a b k (V*m) (u*m) (u'*m) :=fun t v hv h1 h2=>by
 refine h t v hv ?_ ?_
 ·have e1:u*m*v=u*v*m:=by grind
  have e2:t* (V*m) =t*V*m:=by grind
  rw [e1,e2] at h1
  exact jiT h1 hm
 ·have e1:u'*m*v=u'*v*m:=by grind
  have e2:t* (V*m) =t*V*m:=by grind
  rw [e1,e2] at h2
  exact jiT h2 hm
theorem Frag.scale {h:Pn} {V:Int} (hm:0<m) (hV:0<V) (hu:0≤u∧u≤u'∧u'≤V) (h1:wV a b h u V) (h2:wV a b h' u' V) (h3:∀k∈hot,k≠h→k≠h'→Mi a b k V u u') :
  0<V*m∧(0≤u*m∧u*m≤u'*m∧u'*m≤V*m)∧wV a b h (u*m) (V*m)∧wV a b h' (u'*m) (V*m)∧∀k∈hot,k≠h→k≠h'→Mi a b k (V*m) (u*m) (u'*m) :=
 ⟨ji5 hV hm,⟨jiP hu.1 Om,jih hu.2.1 Om,jih hu.2.2 Om⟩,(y5 hm).2 h1,(y5 hm).2 h2,fun k a1 a2 a3=>Pg hm (h3 k a1 a2 a3)⟩
theorem C9 (a b c d:Pn) (V w w' t:Int) :tn (sc c d w V) (sc c d w' V) (sc a b t V) =4* (w'- w) * (V*tn c d a+t* (tn c d b- tn c d a)) :=by
 simp only [sc,tn,Kw]
 grind
theorem jcV {A B V D p q:Int} (hu:0≤u∧u≤u'∧u'≤V) (hD:0≤D) (hp:p=D* (V*A+u* (B- A))) (hq:q=D* (V*A+u'* (B- A))) (h: (p<0∧0<q)∨(0<p∧q<0)) : (A<0∧0<B)∨(0<A∧B<0) :=by
 have e1:V*A+u* (B- A) = (V- u) *A+u*B:=by grind
 have e2:V*A+u'* (B- A) = (V- u') *A+u'*B:=by grind
 rw [e1] at hp
 rw [e2] at hq
 have s1:=kY hp
 have s2:=kY hq
 have k:¬(0≤A∧0≤B) :=fun ⟨g1,g2⟩ =>by
  have m1:=jiP (show 0≤V- u by omega) g1
  have m2:=jiP hu.1 g2
  have m3:=jiP (show 0≤V- u' by omega) g1
  have m4:=jiP (show 0≤u' by omega) g2
  omega
 have k':¬(A≤0∧B≤0) :=fun ⟨g1,g2⟩ =>by
  have m1:=jjE (show 0≤V- u by omega) g1
  have m2:=jjE hu.1 g2
  have m3:=jjE (show 0≤V- u' by omega) g1
  have m4:=jjE (show 0≤u' by omega) g2
  omega
 omega
theorem PF {V w w':Int} (hV:0<V) (hu:0≤u∧u≤u'∧u'≤V) (hw:0≤w∧w≤w'∧w'≤V) (hs:Qc (sc a b u V) (sc a b u' V) (sc c d w V) (sc c d w' V) =true) :
  Qc a b c d=true∧∃t t' v:Int,0<v∧(u*v≤t*V∧t*V≤u'*v)∧(w*v≤t'*V∧t'*V≤w'*v)∧sc a b t v=sc c d t' v:=by
 obtain ⟨h1,h2⟩ :=K9.1 hs
 have hd:=Ri (sc a b u V) (sc a b u' V) (sc c d w V) (sc c d w' V)
 refine⟨K9.2 ⟨?_,?_⟩,?_⟩
 ·exact jcV hw Om (C9 c d a b V u u' w) (C9 c d a b V u u' w') h1
 ·exact jcV hu Om (C9 a b c d V w w' u) (C9 a b c d V w w' u') h2
 ·
  have i1:∀q1 q2:Int,(sc a b (u*q2- u'*q1) (V* (q2- q1))) = (q2* (sc a b u V).1- q1* (sc a b u' V).1,q2* (sc a b u V).2- q1* (sc a b u' V).2) :=fun q1 q2=>by
   apply Prod.ext<;> (simp only [sc];grind)
  have i2:∀p1 p2:Int,(sc c d (w'*p1- w*p2) (V* (p1- p2))) = (p1* (sc c d w' V).1- p2* (sc c d w V).1,p1* (sc c d w' V).2- p2* (sc c d w V).2) :=fun p1 p2=>by
   apply Prod.ext<;> (simp only [sc];grind)
  have j1:∀X X' Y Y':Pn,tn Y Y' X'*X.1- tn Y Y' X*X'.1=tn X X' Y*Y'.1- tn X X' Y'*Y.1:=fun X X' Y Y'=>by simp only [tn,Kw];grind
  have j2:∀X X' Y Y':Pn,tn Y Y' X'*X.2- tn Y Y' X*X'.2=tn X X' Y*Y'.2- tn X X' Y'*Y.2:=fun X X' Y Y'=>by simp only [tn,Kw];grind
  have J1:=j1 (sc a b u V) (sc a b u' V) (sc c d w V) (sc c d w' V)
  have J2:=j2 (sc a b u V) (sc a b u' V) (sc c d w V) (sc c d w' V)
  generalize tn (sc a b u V) (sc a b u' V) (sc c d w V) =p1 at*
  generalize tn (sc a b u V) (sc a b u' V) (sc c d w' V) =p2 at*
  generalize tn (sc c d w V) (sc c d w' V) (sc a b u V) =q1 at*
  generalize tn (sc c d w V) (sc c d w' V) (sc a b u' V) =q2 at*
  rcases h2 with⟨g1,g2⟩ |⟨g1,g2⟩
  ·refine⟨u*q2- u'*q1,w'*p1- w*p2,V* (q2- q1),ji5 hV Om,?_,?_,?_⟩
   ·have e1:u* (V* (q2- q1)) = (u*q2- u*q1) *V:=by grind
    have e2:u'* (V* (q2- q1)) = (u'*q2- u'*q1) *V:=by grind
    rw [e1,e2]
    have m1:u*q2≤u'*q2:=jih hu.2.1 Om
    have m2:u'*q1≤u*q1:=jjw hu.2.1 Om
    exact⟨jih Om Om,jih Om Om⟩
   ·have e0:q2- q1=p1- p2:=by omega
    rw [e0]
    have e1:w* (V* (p1- p2)) = (w*p1- w*p2) *V:=by grind
    have e2:w'* (V* (p1- p2)) = (w'*p1- w'*p2) *V:=by grind
    rw [e1,e2]
    have m1:w*p1≤w'*p1:=jih hw.2.1 Om
    have m2:w'*p2≤w*p2:=jjw hw.2.1 Om
    exact⟨jih Om Om,jih Om Om⟩
   ·rw [i1,show q2- q1=p1- p2 by omega,i2,J1,J2]
  ·have i1':=i1 (-q1) (-q2)
   have i2':=i2 (-p1) (-p2)
   refine⟨u* -q2- u'* -q1,w'* -p1- w* -p2,V* (-q2- -q1),ji5 hV Om,?_,?_,?_⟩
   ·have e1:u* (V* (-q2- -q1)) = (u* -q2- u* -q1) *V:=by grind
    have e2:u'* (V* (-q2- -q1)) = (u'* -q2- u'* -q1) *V:=by grind
    rw [e1,e2]
    have m1:u* -q2≤u'* -q2:=jih hu.2.1 Om
    have m2:u'* -q1≤u* -q1:=jjw hu.2.1 Om
    exact⟨jih Om Om,jih Om Om⟩
   ·have e0: -q2- -q1= -p1- -p2:=by omega
    rw [e0]
    have e1:w* (V* (-p1- -p2)) = (w* -p1- w* -p2) *V:=by grind
    have e2:w'* (V* (-p1- -p2)) = (w'* -p1- w'* -p2) *V:=by grind
    rw [e1,e2]
    have m1:w* -p1≤w'* -p1:=jih hw.2.1 Om
    have m2:w'* -p2≤w* -p2:=jjw hw.2.1 Om
    exact⟨jih Om Om,jih Om Om⟩
   ·have n:∀x y:Int,-x*y= -(x*y) :=fun x y=>Int.neg_mul ..
    rw [i1 (-q1) (-q2),show-q2- -q1= -p1- -p2 by omega,i2 (-p1) (-p2)]
    simp only [n]
    apply Prod.ext
    ·simp only;omega
    ·simp only;omega
def RD (hot:List Pn) (a b c d:Pn) :Prop:=Qc a b c d=true→∃k∈hot,∀t t' v:Int,0<v→sc a b t v=sc c d t' v→wV a b k t v
theorem FB {h g g':Pn} (hs:Qc h h' g g'=true) :h≠h'∧g≠g'∧g≠h∧g≠h'∧g'≠h∧g'≠h':=by
 obtain ⟨h1,h2⟩ :=K9.1 hs
 have z1:∀p q:Pn,tn p p q=0:=fun p q=>by simp only [tn,Kw];grind
 have z2:∀p q:Pn,tn p q p=0:=fun p q=>by simp only [tn,Kw];grind
 have z3:∀p q:Pn,tn p q q=0:=fun p q=>by simp only [tn,Kw];grind
 refine⟨?_,?_,?_,?_,?_,?_⟩ <;>rintro rfl<;>simp [z1,z2,z3] at h1 h2
theorem NH {h g g':Pn} (F:Frag hot a b h h') (G:Frag hot c d g g') (mh:h∈hot) (mh':h'∈hot) (mg:g∈hot) (mg':g'∈hot) (hc:RD hot a b c d) :Qc h h' g g'≠true:=fun hs=>by
 obtain ⟨n1,n2,n3,n4,n5,n6⟩ :=FB hs
 obtain ⟨V,u,u',hV,hu,i1,i2,i3⟩ :=F
 obtain ⟨W,w,w',hW,hw,j1,j2,j3⟩ :=G
 obtain ⟨pV,qu,k1,k2,k3⟩ :=Frag.scale hW hV hu i1 i2 i3
 obtain ⟨pW,qw,l1,l2,l3⟩ :=Frag.scale hV hW hw j1 j2 j3
 rw [jiW W V] at pW qw l1 l2 l3
 generalize V*W=U at*
 generalize u*W=x at*
 generalize u'*W=x' at*
 generalize w*V=y at*
 generalize w'*V=y' at*
 refine jcM pV qu qw k1 k2 l1 l2 n1 n2 (k3 g mg n3 n4) (k3 g' mg' n5 n6) (l3 h mh (Ne.symm n3) (Ne.symm n5)) (l3 h' mh' (Ne.symm n4) (Ne.symm n6)) ?_ hs
 intro hss
 obtain ⟨s1,t,t',v,hv,s2,s3,s4⟩ :=PF pV qu qw hss
 obtain ⟨k,mk,hk⟩ :=hc s1
 have p1:=hk t t' v hv s4
 have p2:wV c d k t' v:=by rw [vG,←s4];exact vG.1 p1
 by_cases e1:k=g
 ·subst e1;exact k3 k mk n3 n4 t v hv s2.1 s2.2 p1
 ·by_cases e2:k=g'
  ·subst e2;exact k3 k mk n5 n6 t v hv s2.1 s2.2 p1
  ·exact l3 k mk e1 e2 t' v hv s3.1 s3.2 p2
theorem Oe {s x:Sp} (hs:0<s.ld) (hx:0<x.ld) (hv:0<v) (h:z8 x s=false) (hl:lowOk x u v) :lowOk s u v:=by
 have hns:¬(x.ln*s.ld<s.ln*x.ld∨(x.ln*s.ld=s.ln*x.ld∧x.lc=true∧s.lc=false)) :=fun h'=>by
  have:=Bb.2 h'
  rw [h] at this
  cases this
 have hle:s.ln*x.ld≤x.ln*s.ld:=jjn.1 fun h'=>hns (.inl h')
 by_cases g:x.ln*v<u*x.ld
 ·exact .inl (vj hx hs hv hle g)
 ·obtain ⟨g1,g2⟩ :=hl.resolve_left g
  by_cases k:s.ln*x.ld<x.ln*s.ld
  ·exact .inl (VD hx hs hv k Om)
  ·have l1:=Vd (a:=s.ln) (b:=s.ld) (c:=x.ln) (d:=x.ld) (e:=u) (f:=v) hx hs hv Om Om
   have l2:=Vd (a:=u) (b:=v) (c:=x.ln) (d:=x.ld) (e:=s.ln) (f:=s.ld) hx hv hs Om Om
   refine .inr ⟨by omega,?_⟩
   cases hc:s.lc with
   | true=>rfl
   | false=>exact absurd (.inr ⟨by omega,g2,hc⟩) hns
theorem Gs {s:Sp} {v':Int} (hs:0<s.hd) (hv:0<v) (hv':0<v') (hle:u*v'≤u'*v) (h:highOk s u' v') :highOk s u v:=by
 rcases h with h |⟨h,hc⟩
 ·exact .inl (vj hv' hv hs hle h)
 ·by_cases k:u*v'<u'*v
  ·exact .inl (VD hv' hv hs k Om)
  ·have l1:=Vd (a:=u) (b:=v) (c:=u') (d:=v') (e:=s.hn) (f:=s.hd) hv' hv hs Om Om
   have l2:=Vd (a:=s.hn) (b:=s.hd) (c:=u') (d:=v') (e:=u) (f:=v) hv' hs hv Om Om
   exact .inr ⟨by omega,hc⟩
theorem jc9 {f' d' k:Int} (hv:0<v) (h0:0≤u) (h1:u≤v) (h:ZE (2*f') (2* (d'- f')) (2*k- 1) u v) :min f' d'- 1≤k∧k≤max f' d'+1:=by
 obtain ⟨g1,g2⟩ :=h
 have e:2*f'*v+u* (2* (d'- f')) =2* (f'* (v- u) +d'*u) :=by grind
 rw [e] at g1 g2
 have a1:min f' d'* (v- u)≤f'* (v- u) :=jih Om Om
 have a2:min f' d'*u≤d'*u:=jih Om h0
 have a3:f'* (v- u)≤max f' d'* (v- u) :=jih Om Om
 have a4:d'*u≤max f' d'*u:=jih Om h0
 have b1:min f' d'* (v- u) +min f' d'*u=min f' d'*v:=by grind
 have b2:max f' d'* (v- u) +max f' d'*u=max f' d'*v:=by grind
 have c1: (2*k- 1) *v≤(2*max f' d') *v:=by
  have:2*max f' d'*v=2* (max f' d'*v) :=by grind
  omega
 have c2: (2*min f' d') *v< (2*k- 1+2) *v:=by
  have:2*min f' d'*v=2* (min f' d'*v) :=by grind
  omega
 have d1:=jiT c1 hv
 have d2:=ji4 c2 Om
 omega
theorem Tq {k:Pn} (hv:0<v) (h0:0≤u) (h1:u≤v) (h:wV a b k u v) :K3 a b k=true:=by
 have x:=jc9 hv h0 h1 h.1
 have y:=jc9 hv h0 h1 h.2
 exact yu (xT x.1 x.2) (Y3 y.1 y.2) (Ih hv h0 h1 h)
theorem Ig {p:Pn} (h:ui a b p=true) :∃u v:Int,0<v∧zv (J6 a b p) u v∧0≤u∧u≤v∧wV a b p u v:=by
 have hn:vp (J6 a b p) =true:=by have h':=h;unfold ui Xb at h';simp only [jig] at h';exact h'.2
 obtain ⟨u,v,hv,hm⟩ :=LY (Vs a b p) hn
 have:= (Vt hv h).1 hm
 exact⟨u,v,hv,hm,this.1.1,this.1.2,this.2⟩
theorem jev {l1 l2:List Pn} {h:Pn} (hnd:hot.Nodup) (hp:Qv a b hot=l1++h::h'::l2) :Frag hot a b h h':=by
 have hs:Uw (wh a b) (Qv a b hot) :=by rw [um];exact Bo a b hot
 have hd:=xx (a:=a) (b:=b) hnd
 have hi:∀p∈Qv a b hot,ui a b p=true:=fun p hp=>GW (wB.1 hp).2
 have mh:h∈Qv a b hot:=by rw [hp];simp
 have mh':h'∈Qv a b hot:=by rw [hp];simp
 have hmem:∀k,k∈hot→K3 a b k=true→k≠h→k≠h'→k∈l1∨k∈l2:=fun k k1 k2 k3 k4=>by
  have:=wB.2 ⟨k1,k2⟩
  rw [hp] at this
  simp only [jit,jis] at this
  rcases this with h1 | rfl | rfl | h1
  ·exact .inl h1
  ·exact absurd rfl k3
  ·exact absurd rfl k4
  ·exact .inr h1
 rw [hp] at hs hd
 have hs1:=jjC.1 hs
 have hs2:=jiN.1 hs1.2.1
 have hs3:=jiN.1 hs2.2
 have hne:h≠h':=fun e=>by
  have:= (List.nodup_append.1 hd).2.1
  rw [e] at this
  exact(List.nodup_cons.1 this).1 (by simp)
 obtain ⟨u0,v0,p0,m0,a0,b0,c0⟩ :=Ig (hi h mh)
 obtain ⟨u1,v1,p1,m1,a1,b1,c1⟩ :=Ig (hi h' mh')
 have pos:=fun p=>Vs a b p
 have hle:u0*v1≤u1*v0:=jjn.1 fun hlt=>by
  have lo:lowOk (J6 a b h) u1 v1:=Oe (pos h).1 (pos h').1 p1 (hs2.1 h' (by simp)) m1.1
  have hi':highOk (J6 a b h) u1 v1:=Gs (pos h).2 p1 p0 Om m0.2
  exact hne (yh p1 ((Vt p1 (hi h mh)).1 ⟨lo,hi'⟩).2 c1)
 refine⟨v0*v1,u0*v1,u1*v0,ji5 p0 p1,⟨jiP a0 Om,hle,?_⟩,?_,?_,?_⟩
 ·rw [jiW v0 v1]
  exact jih b1 Om
 ·exact(y5 p1).2 c0
 ·rw [jiW v0 v1]
  exact(y5 p0).2 c1
 ·intro k k1 k2 k3 t v hv t1 t2 hin
  have t1':u0*v≤t*v0:=by
   have e1:u0*v1*v=u0*v*v1:=by grind
   have e2:t* (v0*v1) =t*v0*v1:=by grind
   rw [e1,e2] at t1
   exact jiT t1 p1
  have t2':t*v1≤u1*v:=by
   have e1:u1*v0*v=u1*v*v0:=by grind
   have e2:t* (v0*v1) =t*v1*v0:=by grind
   rw [e1,e2] at t2
   exact jiT t2 p0
  have g0:0≤t:=by
   refine jjn.1 fun hn=> ?_
   have:=jiP a0 (show 0≤v by omega)
   have:=jjq hn p0
   omega
  have g1:t≤v:=by
   have e1:u1*v≤v1*v:=jih b1 Om
   have e2:t*v1≤v*v1:=by rw [jiW v v1];omega
   exact jiT e2 p1
  have hw:=Tq hv g0 g1 hin
  have hik:=GW hw
  have mk:= (Vt hv hik).2 ⟨⟨g0,g1⟩,hin⟩
  rcases hmem k k1 hw k2 k3 with c | c
  ·have lo:lowOk (J6 a b k) u0 v0:=Oe (pos k).1 (pos h).1 p0 (hs1.2.2 k c h (by simp)) m0.1
   have hi':highOk (J6 a b k) u0 v0:=Gs (pos k).2 p0 hv t1' mk.2
   exact k2 (yh p0 ((Vt p0 hik).1 ⟨lo,hi'⟩).2 c0)
  ·have lo:lowOk (J6 a b h') t v:=Oe (pos h').1 (pos k).1 hv (hs3.1 k c) mk.1
   have hi':highOk (J6 a b h') t v:=Gs (pos h').2 hv p1 t2' m1.2
   exact k3 (yh hv ((Vt hv (hi h' mh')).1 ⟨lo,hi'⟩).2 hin).symm
def EC (p q:Pn) (l:List Pn) :Prop:=∃l1 l2,l=l1++p::q::l2
theorem DS {e:Pn×Pn} (h:e.1≠e.2∧e.1∈hot∧e.2∈hot) :∃rest,(e::l).flatMap (kT hot) =e.1::rest:=by
 obtain ⟨mid,h1,_⟩ :=wC h
 exact⟨mid++l.flatMap (kT hot),by rw [jiA,h1];rfl⟩
theorem DL {hot:List Pn} {p q:Pn} :∀ {es:List (Pn×Pn)} {e:Pn×Pn} {z:Pn},Lk (e::es) z→(∀d∈e::es,d.1≠d.2∧d.1∈hot∧d.2∈hot)→EC p q ((e::es).flatMap (kT hot) ++ [z])→∃d∈e::es,EC p q (Qv d.1 d.2 hot)
 | [],e,z,hl,hm,hc=>by
  obtain ⟨mid,h1,h2⟩ :=wC (hm e (jiH ..))
  have hz:e.2=z:=hl
  refine⟨e,jiH ..,?_⟩
  rw [h2,hz]
  simpa using hc
 | f::l,e,z,hl,hm,hc=>by
  obtain ⟨mid,h1,h2⟩ :=wC (hm e (jiH ..))
  obtain ⟨rest,hr⟩ :=DS (l:=l) (hm f (jiz _ (jiH ..)))
  have ih:=DL (p:=p) (q:=q) (es:=l) (e:=f) (z:=z) hl.2 (fun d hd=>hm d (jiz _ hd))
  have lift:EC p q ((f::l).flatMap (kT hot) ++ [z])→∃d∈e::f::l,EC p q (Qv d.1 d.2 hot) :=fun h=>by
   obtain ⟨d,hd,hk⟩ :=ih h
   exact⟨d,jiz _ hd,hk⟩
  obtain ⟨l1,l2,hc⟩ :=hc
  rw [jiA,jil] at hc
  have hB: (f::l).flatMap (kT hot) ++ [z] =f.1:: (rest++ [z]) :=by rw [hr];rfl
  rcases List.append_eq_append_iff.1 hc with⟨zs,h3,h4⟩ |⟨zs,h3,h4⟩
  ·exact lift ⟨zs,l2,h4⟩
  ·match zs,h3,h4 with
   | [],h3,h4=>exact lift ⟨[],l2,h4.symm⟩
   | [x],h3,h4=>
    rw [hB] at h4
    simp only [jiI,jiV,List.cons.injEq] at h4
    refine⟨e,jiH ..,l1,[],?_⟩
    rw [h2,h3,hl.1,h4.1,h4.2.1]
    simp
   | x::y::zs,h3,h4=>
    simp only [jiI,List.cons.injEq] at h4
    refine⟨e,jiH ..,l1,zs++ [e.2],?_⟩
    rw [h2,h3,h4.1,h4.2.1]
    simp
theorem jek {l:List Pn} (h:j+1<l.length) :EC l[j] l[j+1] l:=
 ⟨l.take j,l.drop (j+2),by
  have e1:l.drop j=l[j] ::l.drop (j+1) :=jiR Om
  have e2:l.drop (j+1) =l[j+1] ::l.drop (j+2) :=jiR h
  rw [←e2,←e1,jiq]⟩
theorem EW {S:List Pn} (h:j<S.length) :EC (pt S j) (pt S (nx S j)) (S++ [pt S 0]) :=by
 have hc:=jek (l:=S++ [pt S 0]) (j:=j) (by simp;omega)
 have e1: (S++ [pt S 0])[j]'(by simp;omega) =pt S j:=by rw [List.getElem_append_left h,kB h]
 have e2: (S++ [pt S 0])[j+1]'(by simp;omega) =pt S (nx S j) :=by
  by_cases k:j+1<S.length
  ·rw [List.getElem_append_left k,kB k,show nx S j=j+1 from jju k]
  ·rw [List.getElem_append_right Om,show nx S j=0 by unfold nx;rw [show j+1=S.length by omega,Nat.mod_self]]
   simp
 rw [e1,e2] at hc
 exact hc
theorem DN {xs:List Pn} (hnd:hot.Nodup) (hb:bare xs) (hm:∀p∈xs,p∈hot) (he:e∈qf (KD hot xs)) :∃f∈qf xs,Frag hot (lA f) (lB f) (lA e) (lB e)∧lA e∈hot∧lB e∈hot:=by
 have hS:= (Hg hnd hb hm).1
 rw [Vo hS] at he
 obtain ⟨pq,hpq,rfl⟩ :=jiD.1 he
 obtain ⟨j,hj,rfl⟩ :=jiD.1 hpq
 have hj:=jjN.1 hj
 have hc:=EW hj
 have hSp:=z6 (hot:=hot) hb
 have hlk:=Tz (xs:=xs)
 have hok:=XL hb hm
 have hhd:∀h:0< (vU xs).length,((vU xs)[0]'h).1=pt xs 0:=fun h=>by simp [vU]
 have hlen:0< (vU xs).length:=by rw [W0];exact hb.1
 cases hP:vU xs with
 | nil=>rw [hP] at hlen;exact absurd hlen (by simp)
 | cons e0 es=>
  simp only [hP] at hlk hok hhd hlen hSp
  obtain ⟨rest,hr⟩ :=DS (l:=es) (hok e0 (jiH ..))
  have h0:pt (KD hot xs) 0=pt xs 0:=by
   rw [hSp,hr,←hhd hlen]
   rfl
  rw [h0,hSp] at hc
  obtain ⟨d,hd,l1,l2,hk⟩ :=DL hlk hok hc
  refine⟨mkL d,?_,?_,?_,?_⟩
  ·rw [Vo hb,hP]
   exact jiD.2 ⟨d,hd,rfl⟩
  ·have:=jev hnd hk
   rw [←hSp] at this
   exact this
  ·exact O9 (xs:=xs) (by show pt (KD hot xs) j∈_;rw [←kB hj];exact jir _)
  ·have hn:nx (KD hot xs) j< (KD hot xs).length:=Nat.mod_lt _ Om
   exact O9 (xs:=xs) (by show pt (KD hot xs) (nx (KD hot xs) j)∈_;rw [←kB hn];exact jir _)
theorem Fc {rs:List Jp} {e:Leg} :∀k,e∈Qe rs k↔∃j,j<k∧e∈qf (rg rs j)
 | 0=>by simp [Qe]
 | k+1=>by
  show e∈Qe rs k++qf (rg rs k)↔_
  rw [jit,Fc k]
  constructor
  ·rintro(⟨j,h1,h2⟩ | h)
   ·exact⟨j,by omega,h2⟩
   ·exact⟨k,by omega,h⟩
  ·rintro⟨j,h1,h2⟩
   by_cases h:j=k
   ·subst h;exact .inr h2
   ·exact .inl ⟨j,by omega,h2⟩
theorem Zt :e∈Jw rs↔∃r∈rs,e∈qf r:=by
 unfold Jw
 rw [Fc]
 constructor
 ·rintro⟨j,h1,h2⟩
  exact⟨rg rs j,by rw [←Wc h1];exact jir _,h2⟩
 ·rintro⟨r,h1,h2⟩
  obtain ⟨j,hj,e1⟩ :=jiU h1
  exact⟨j,hj,by rw [←Wc hj,e1];exact h2⟩
def jbf (hot:List Pn) (E:List Leg) :Prop:=∀e∈E,∀f∈E,RD hot (lA e) (lB e) (lA f) (lB f)
def NoX (E:List Leg) :Prop:=∀e∈E,∀f∈E,Qc (lA e) (lB e) (lA f) (lB f)≠true
theorem NoX.inv (h:NoX E) :jbf hot E:=fun e he f hf hs=>absurd hs (h e he f hf)
theorem SG (hnd:hot.Nodup) (hb:bareG hot rs) (h:jbf hot (Jw rs)) :NoX (Jw (Qg hot rs)) :=fun e he f hf=>by
 obtain ⟨r,hr,he⟩ :=Zt.1 he
 obtain ⟨s,hs,hf⟩ :=Zt.1 hf
 obtain ⟨r0,hr0,rfl⟩ :=jiD.1 hr
 obtain ⟨s0,hs0,rfl⟩ :=jiD.1 hs
 obtain ⟨e0,he0,F,m1,m2⟩ :=DN hnd (hb r0 hr0).1 (hb r0 hr0).2 he
 obtain ⟨f0,hf0,G,m3,m4⟩ :=DN hnd (hb s0 hs0).1 (hb s0 hs0).2 hf
 exact NH F G m1 m2 m3 m4 (h e0 (Zt.2 ⟨r0,hr0,he0⟩) f0 (Zt.2 ⟨s0,hs0,hf0⟩))
def SH (hot:List Pn) :Nat→List Jp→List Jp
 | 0,rs=>rs
 | n+1,rs=>SH hot n (Qg hot rs)
theorem Co (hot:List Pn) :∀n rs ss,SH hot n (rs++ss) =SH hot n rs++SH hot n ss
 | 0,_,_=>rfl
 | n+1,rs,ss=>by
  show SH hot n (Qg hot (rs++ss)) =_
  rw [show Qg hot (rs++ss) =Qg hot rs++Qg hot ss by simp [Qg],Co]
  rfl
theorem Ij {hot:List Pn} {rs:List Jp} (h:Qg hot rs=rs) :∀n,SH hot n rs=rs
 | 0=>rfl
 | n+1=>by
  show SH hot n (Qg hot rs) =rs
  rw [h,Ij h n]
theorem Ii {hot:List Pn} :∀m n rs,SH hot (m+n) rs=SH hot n (SH hot m rs)
 | 0,n,rs=>by rw [jiB];rfl
 | m+1,n,rs=>by
  rw [show m+1+n= (m+n) +1 by omega]
  exact Ii m n (Qg hot rs)
theorem Cp {hot:List Pn} (hnd:hot.Nodup) :∀n rs,bareG hot rs→jbf hot (Jw rs)→bareG hot (SH hot n rs)∧jbf hot (Jw (SH hot n rs))
 | 0,rs,h1,h2=>⟨h1,h2⟩
 | n+1,rs,h1,h2=>Cp hnd n (Qg hot rs) (h1.snap hnd) (SG hnd h1 h2).inv
theorem Es {hot:List Pn} :∀f {rs ss:List Jp} {r q:Nat},X0 hot f rs r=some (ss,q)→Qg hot ss=ss∧∃n,ss=SH hot n rs
 | 0,_,_,_,_,h=>by cases h
 | f+1,rs,ss,r,q,h=>by
  unfold X0 at h
  split at h
  ·cases h
  ·split at h
   ·rename_i e
    injection h with h
    injection h with h1 h2
    subst h1
    exact⟨e,0,rfl⟩
   ·obtain ⟨h1,n,h2⟩ :=Es f h
    exact⟨h1,n+1,h2⟩
theorem Sy {hot:List Pn} :∀ {es:List (Pn×Pn)},(∀d∈es,d.1≠d.2∧d.1∈hot∧d.2∈hot)→(es.flatMap (kT hot)).length=es.length→∀e∈es,Qv e.1 e.2 hot= [e.1,e.2]
 | [],_,_,e,he=>by cases he
 | d::l,h,hl,e,he=>by
  obtain ⟨mid,h1,h2⟩ :=wC (h d (jiH ..))
  have hg:= (Gr (es:=l) fun x hx=>h x (jiz _ hx)).1
  rw [jiA,h1,jid,jij,jij] at hl
  rcases jis.1 he with rfl | he
  ·obtain rfl:mid= [] :=jiE Om
   rw [h2,h1]
   rfl
  ·exact Sy (fun x hx=>h x (jiz _ hx)) Om e he
theorem FA (hb:bareG hot rs) (hs:Qg hot rs=rs) (he:e∈Jw rs) :lA e∈hot∧lB e∈hot∧lA e≠lB e∧Qv (lA e) (lB e) hot= [lA e,lB e] :=by
 obtain ⟨r,hr,he⟩ :=Zt.1 he
 have hsr:KD hot r=r:=by
  have:∀ {l:List Jp},l.map (KD hot) =l→∀x∈l,KD hot x=x:=fun {l} =>by
   induction l with
   | nil=>intro _ x hx;cases hx
   | cons y l ih=>
    intro h x hx
    simp only [jiv,List.cons.injEq] at h
    rcases jis.1 hx with rfl | hx
    ·exact h.1
    ·exact ih h.2 x hx
  exact this hs r hr
 obtain ⟨h1,h2⟩ :=hb r hr
 have hok:=XL h1 h2
 rw [Vo h1] at he
 obtain ⟨d,hd,rfl⟩ :=jiD.1 he
 have hl: ((vU r).flatMap (kT hot)).length= (vU r).length:=by rw [←z6 h1,hsr,W0]
 obtain ⟨g1,g2,g3⟩ :=hok d hd
 exact⟨g2,g3,g1,Sy hok hl d hd⟩
theorem Nz (a b c d:Pn) : (ky a b c d).Nodup:=by
 have key:∀out p,out.Nodup→(Ls a b c d out p).Nodup:=fun out p h=>by
  unfold Ls
  split
  ·rename_i k
   simp only [jig,ji0] at k
   refine List.nodup_append.2 ⟨h,by simp,fun x hx y hy e=> ?_⟩
   rw [jin.1 hy] at e
   subst e
   have:=k.1
   rw [List.contains_eq_mem,decide_eq_false_iff_not] at this
   exact this hx
  ·exact h
 exact key _ _ (key _ _ (key _ _ (key _ _ List.nodup_nil)))
theorem ja6 (hb:bareG hot rs) (hs:Qg hot rs=rs) (hx:NoX (Jw rs)) (hok:∀p∈hot,bd2 p) {f:Leg} (he:e∈Jw rs) (hf:f∈Jw rs) :XK (lA e) (lB e) (lA f) (lB f) =true:=by
 obtain ⟨e1,e2,e3,e4⟩ :=FA hb hs he
 obtain ⟨f1,f2,f3,f4⟩ :=FA hb hs hf
 have hno:=hx e he f hf
 generalize lA e=a at*
 generalize lB e=b at*
 generalize lA f=c at*
 generalize lB f=d at*
 have way:∀ {p q x:Pn},Qv p q hot= [p,q]→p∈hot→q∈hot→x∈hot→UZ p q x=true→x=p∨x=q:=fun {p q x} h hp hq hx ho=>by
  have hi:= (jgM (hok p hp) (hok q hq) ho).2
  unfold ipB at hi
  simp only [jig] at hi
  obtain ⟨u,v,hv,_,h0,h1,h2⟩ :=Ig (a:=p) (b:=q) (p:=x) hi.2
  have hm:x∈Qv p q hot:=wB.2 ⟨hx,Tq hv h0 h1 h2⟩
  rw [h] at hm
  simpa using hm
 have both:∀q∈ky a b c d,(q=a∨q=b)∧(q=c∨q=d) :=fun q hq=>by
  obtain ⟨h1,h2⟩ :=kL.1 hq
  unfold KS at h2
  simp only [jig] at h2
  have hqh:q∈hot:=by
   rcases h1 with rfl | rfl | rfl | rfl<;>assumption
  exact⟨way e4 e1 e2 hqh h2.1,way f4 f1 f2 hqh h2.2⟩
 have nd:=Nz a b c d
 unfold XK
 split
 ·rfl
 ·split
  ·rename_i h2
   exact absurd (jcz h2) hno
  ·split
   ·rename_i h1
    have:∃q,q∈ky a b c d:=by
     unfold kz at h1
     cases hh:ky a b c d with
     | nil=>rw [hh] at h1;simp at h1;split at h1<;>omega
     | cons x l=>exact⟨x,by simp⟩
    obtain ⟨q,hq⟩ :=this
    obtain ⟨k1,k2⟩ :=both q hq
    simp only [ji0,jjS,decide_eq_false_iff_not,ne_eq,Decidable.not_not]
    rcases k1 with rfl | rfl<;>rcases k2 with rfl | rfl<;>simp
   ·split
    ·rename_i h3
     unfold kz at h3
     match hh:ky a b c d with
     | [] =>rw [hh] at h3;simp at h3;split at h3<;>omega
     | [x] =>rw [hh] at h3;simp at h3
     | x::y::l=>
      rw [hh] at nd both
      have hxy:x≠y:=fun e=> (List.nodup_cons.1 nd).1 (by rw [e];simp)
      obtain ⟨k1,k2⟩ :=both x (by simp)
      obtain ⟨k3,k4⟩ :=both y (by simp)
      rw [decide_eq_true_iff]
      rcases k1 with rfl | rfl<;>rcases k3 with rfl | rfl
      ·exact absurd rfl hxy
      ·rcases k2 with rfl | rfl<;>rcases k4 with rfl | rfl
       ·exact absurd rfl hxy
       ·exact .inl ⟨rfl,rfl⟩
       ·exact .inr ⟨rfl,rfl⟩
       ·exact absurd rfl hxy
      ·rcases k2 with rfl | rfl<;>rcases k4 with rfl | rfl
       ·exact absurd rfl hxy
       ·exact .inr ⟨rfl,rfl⟩
       ·exact .inl ⟨rfl,rfl⟩
       ·exact absurd rfl hxy
      ·exact absurd rfl hxy
    ·rfl
theorem Bp (h:Qc a b c d=true) :kz a b c d=2:=by
 have hn:ky a b c d= [] :=by
  refine List.eq_nil_iff_forall_not_mem.2 fun q hq=> ?_
  obtain ⟨h1,h2⟩ :=kL.1 hq
  unfold KS at h2
  simp only [jig] at h2
  have t1:= (Ky.1 h2.1).1
  have t2:= (Ky.1 h2.2).1
  obtain ⟨s1,s2⟩ :=K9.1 h
  rcases h1 with rfl | rfl | rfl | rfl<;>omega
 unfold kz
 rw [hn,if_pos (show([] :List Pn).length=0 from rfl),if_pos h]
theorem Nv {E:List Leg} {i k:Nat} (h:kz (lA (lg E i)) (lB (lg E i)) (lA (lg E k)) (lB (lg E k)) =2) :∀j,k<j→F0 (lA (lg E i)) (lB (lg E i)) (lA (lg E k)) (lB (lg E k))∈cz E i j
 | 0,hj=>absurd hj Om
 | j+1,hj=>by
  unfold cz
  by_cases e:k=j
  ·subst e
   rw [if_pos h]
   simp
  ·exact jjg _ (Nv h j Om)
theorem NI {E:List Leg} {i:Nat} {p:Pn} (h:p∈cz E i i) :∀n,i<n→p∈YM E n
 | 0,hn=>absurd hn Om
 | n+1,hn=>by
  unfold YM
  by_cases e:i=n
  ·subst e;exact jjM _ h
  ·exact jjg _ (jjg _ (NI h n Om))
theorem jdv {t t':Int} (h:sc a b t v=sc c d t' v) :v*tn c d a=t* (tn c d a- tn c d b) :=by
 have e1:2* (v*tn c d a+t* (tn c d b- tn c d a)) = (d.1- c.1) * ((sc a b t v).2- (sc c d t' v).2) - (d.2- c.2) * ((sc a b t v).1- (sc c d t' v).1) :=by simp only [sc,tn,Kw];grind
 rw [h] at e1
 have e2:v*tn c d a+t* (tn c d b- tn c d a) =0:=by
  have: (d.1- c.1) * ((sc c d t' v).2- (sc c d t' v).2) - (d.2- c.2) * ((sc c d t' v).1- (sc c d t' v).1) =0:=by rw [Int.sub_self,Int.sub_self];simp
  omega
 have e3:t* (tn c d a- tn c d b) = -(t* (tn c d b- tn c d a)) :=by grind
 omega
theorem jbO {x y n D0 t:Int} (hd:D0≠0) (hv:0<v) (h:v*n=t*D0) :ZE (2*x) (2* (y- x)) (2*BJ x y n D0- 1) t v:=by
 obtain ⟨N,D,hD,hND,g1,g2⟩ :=Nr (x:=x) (y:=y) (n:=n) hd
 have hk:v*N=t*D:=by
  rcases hND with⟨_,rfl,rfl⟩ |⟨_,rfl,rfl⟩
  ·rw [Int.mul_neg,Int.mul_neg,h]
  ·exact h
 generalize BJ x y n D0=r at*
 unfold ZE
 have e: (2*x*v+t* (2* (y- x))) *D=2* (x*D+ (y- x) *N) *v:=by
  have: (2*x*v+t* (2* (y- x))) *D=2*x*D*v+2* (y- x) * (t*D) :=by grind
  rw [this,←hk]
  grind
 have m1:=jih g1 (show 0≤v by omega)
 have m2:=jiQ g2 hv
 rw [←e] at m1 m2
 have f1: (2*r- 1) *D*v= (2*r- 1) *v*D:=by grind
 have f2: (2*r+1) *D*v= (2*r- 1+2) *v*D:=by grind
 rw [f1] at m1
 rw [f2] at m2
 exact⟨jiT m1 hD,ji4 m2 Om⟩
theorem R9 (hs:Qc a b c d=true) {t t':Int} (hv:0<v) (h:sc a b t v=sc c d t' v) :wV a b (F0 a b c d) t v:=by
 have hd:=Uu hs
 have hk2:v*crN a c d=t*EX a b c d:=by
  rw [Gn,xe]
  exact jdv h
 exact⟨jbO hd hv hk2,jbO hd hv hk2⟩
theorem TZ (h:Qc a b c d=true) :Qc c d a b=true:=by
 obtain ⟨h1,h2⟩ :=K9.1 h
 exact K9.2 ⟨h2,h1⟩
theorem jac (hh:∀p∈YM E E.length,p∈hot) :jbf hot E:=fun e he f hf hs=>by
 obtain ⟨i,hi,rfl⟩ :=D7 he
 obtain ⟨k,hk,rfl⟩ :=D7 hf
 rcases Nat.lt_trichotomy i k with c | c | c
 ·have hs':=TZ hs
  refine⟨F0 (lA (lg E k)) (lB (lg E k)) (lA (lg E i)) (lB (lg E i)),hh _ (NI (Nv (Bp hs') k c) _ hk),fun t t' v hv h=> ?_⟩
  rw [No (Uu hs) (Uu hs')]
  exact R9 hs hv h
 ·subst c
  exact absurd rfl (FB hs).2.2.1
 ·exact⟨F0 (lA (lg E i)) (lB (lg E i)) (lA (lg E k)) (lB (lg E k)),hh _ (NI (Nv (Bp hs) i c) _ hi),fun t t' v hv h=>R9 hs hv h⟩
end Go.Proofs.YtbahojdbmmjkcaaGreat
