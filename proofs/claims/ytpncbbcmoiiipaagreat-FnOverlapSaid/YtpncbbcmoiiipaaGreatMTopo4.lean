import Derived.Test.YtpncbbcmoiiipaaGreatMNetQ
import Derived.Test.YtpncbbcmoiiipaaGreatMValidRegion
import Derived.Test.YtpncbbcmoiiipaaGreatMOwn
import Derived.Test.YtpncbbcmoiiipaaGreatMSnapped
import Derived.Test.YtpncbbcmoiiipaaGreatMSimp
import Derived.Test.YtpncbbcmoiiipaaGreatMRounds
import Derived.Shelf.SlSortCmp.WholeK
import Derived.Test.YtpncbbcmoiiipaaGreatMHot
set_option linter.unusedVariables false
set_option linter.unusedSimpArgs false
namespace Go.Proofs.YtpncbbcmoiiipaaGreat
open Go Go.RowKit
def C8 (p q:Pn) (l:List Pn) :Prop:=∃l1 l2,l=l1++p::q::l2
theorem Zy {hot:List Pn} {e:Pn×Pn} {l:List (Pn×Pn)} (h:e.1≠e.2∧e.1∈hot∧e.2∈hot) :∃rest,(e::l).flatMap (Qs hot) =e.1::rest:=by
 obtain ⟨mid,h1,_⟩ :=VW h
 exact⟨mid++l.flatMap (Qs hot),by rw [jiB,h1];rfl⟩
theorem Ds {hot:List Pn} {p q:Pn} :∀ {es:List (Pn×Pn)} {e:Pn×Pn} {z:Pn},Lk (e::es) z→(∀d∈e::es,d.1≠d.2∧d.1∈hot∧d.2∈hot)→C8 p q ((e::es).flatMap (Qs hot) ++ [z])→∃d∈e::es,C8 p q (qD d.1 d.2 hot)
 | [],e,z,hl,hm,hc=>by
  obtain ⟨mid,h1,h2⟩ :=VW (hm e (jiE ..))
  have hz:e.2=z:=hl
  refine⟨e,jiE ..,?_⟩
  rw [h2,hz]
  simpa using hc
 | f::l,e,z,hl,hm,hc=>by
  obtain ⟨mid,h1,h2⟩ :=VW (hm e (jiE ..))
  obtain ⟨rest,hr⟩ :=Zy (l:=l) (hm f (jiq _ (jiE ..)))
  have ih:=Ds (p:=p) (q:=q) (es:=l) (e:=f) (z:=z) hl.2 (fun d hd=>hm d (jiq _ hd))
  have lift:C8 p q ((f::l).flatMap (Qs hot) ++ [z])→∃d∈e::f::l,C8 p q (qD d.1 d.2 hot) :=fun h=>by
   obtain ⟨d,hd,hk⟩ :=ih h
   exact⟨d,jiq _ hd,hk⟩
  obtain ⟨l1,l2,hc⟩ :=hc
  rw [jiB,jil] at hc
  have hB: (f::l).flatMap (Qs hot) ++ [z] =f.1:: (rest++ [z]) :=by rw [hr];rfl
  rcases List.append_eq_append_iff.1 hc with⟨zs,h3,h4⟩ |⟨zs,h3,h4⟩
  ·exact lift ⟨zs,l2,h4⟩
  ·match zs,h3,h4 with
   | [],h3,h4=>exact lift ⟨[],l2,h4.symm⟩
   | [x],h3,h4=>
    rw [hB] at h4
    simp only [jiJ,jiW,List.cons.injEq] at h4
    refine⟨e,jiE ..,l1,[],?_⟩
    rw [h2,h3,hl.1,h4.1,h4.2.1]
    simp
   | x::y::zs,h3,h4=>
    simp only [jiJ,List.cons.injEq] at h4
    refine⟨e,jiE ..,l1,zs++ [e.2],?_⟩
    rw [h2,h3,h4.1,h4.2.1]
    simp
theorem jeg {l:List Pn} {j:Nat} (h:j+1<l.length) :C8 l[j] l[j+1] l:=
 ⟨l.take j,l.drop (j+2),by
  have e1:l.drop j=l[j] ::l.drop (j+1) :=jiY Om
  have e2:l.drop (j+1) =l[j+1] ::l.drop (j+2) :=jiY h
  rw [←e2,←e1,jiw]⟩
theorem Ew {S:List Pn} {j:Nat} (h:j<S.length) :C8 (pt S j) (pt S (nx S j)) (S++ [pt S 0]) :=by
 have hc:=jeg (l:=S++ [pt S 0]) (j:=j) (by simp;omega)
 have e1: (S++ [pt S 0])[j]'(by simp;omega) =pt S j:=by rw [List.getElem_append_left h,Kk h]
 have e2: (S++ [pt S 0])[j+1]'(by simp;omega) =pt S (nx S j) :=by
  by_cases k:j+1<S.length
  ·rw [List.getElem_append_left k,Kk k,show nx S j=j+1 from jjx k]
  ·rw [List.getElem_append_right Om,show nx S j=0 by unfold nx;rw [show j+1=S.length by omega,jj3]]
   simp
 rw [e1,e2] at hc
 exact hc
theorem Dv {hot xs:List Pn} (hnd:hot.Nodup) (hb:bare xs) (hm:∀p∈xs,p∈hot) {e:Leg} (he:e∈J0 (kU hot xs)) :∃f∈J0 xs,Frag hot (lA f) (lB f) (lA e) (lB e)∧lA e∈hot∧lB e∈hot:=by
 have hS:= (Ux hnd hb hm).1
 rw [kz hS] at he
 obtain ⟨pq,hpq,rfl⟩ :=jip.1 he
 obtain ⟨j,hj,rfl⟩ :=jip.1 hpq
 have hj:=jjo.1 hj
 have hc:=Ew hj
 have hSp:=uM (hot:=hot) hb
 have hlk:=XZ (xs:=xs)
 have hok:=yY hb hm
 have hhd:∀h:0< (KK xs).length,((KK xs)[0]'h).1=pt xs 0:=fun h=>by simp [KK]
 have hlen:0< (KK xs).length:=by rw [Wv];exact hb.1
 cases hP:KK xs with
 | nil=>rw [hP] at hlen;exact absurd hlen (by simp)
 | cons e0 es=>
  simp only [hP] at hlk hok hhd hlen hSp
  obtain ⟨rest,hr⟩ :=Zy (l:=es) (hok e0 (jiE ..))
  have h0:pt (kU hot xs) 0=pt xs 0:=by
   rw [hSp,hr,←hhd hlen]
   rfl
  rw [h0,hSp] at hc
  obtain ⟨d,hd,l1,l2,hk⟩ :=Ds hlk hok hc
  refine⟨mkL d,?_,?_,?_,?_⟩
  ·rw [kz hb,hP]
   exact jip.2 ⟨d,hd,rfl⟩
  ·have:=jeu hnd hk
   rw [←hSp] at this
   exact this
  ·exact O1 (xs:=xs) (by show pt (kU hot xs) j∈_;rw [←Kk hj];exact jis _)
  ·have hn:nx (kU hot xs) j< (kU hot xs).length:=Nat.mod_lt _ Om
   exact O1 (xs:=xs) (by show pt (kU hot xs) (nx (kU hot xs) j)∈_;rw [←Kk hn];exact jis _)
theorem DP {rs:List jV} {e:Leg} :∀k,e∈qJ rs k↔∃j,j<k∧e∈J0 (rg rs j)
 | 0=>by simp [qJ]
 | k+1=>by
  show e∈qJ rs k++J0 (rg rs k)↔_
  rw [jiv,DP k]
  constructor
  ·rintro(⟨j,h1,h2⟩ | h)
   ·exact⟨j,by omega,h2⟩
   ·exact⟨k,by omega,h⟩
  ·rintro⟨j,h1,h2⟩
   by_cases h:j=k
   ·subst h;exact .inr h2
   ·exact .inl ⟨j,by omega,h2⟩
theorem Yw {rs:List jV} {e:Leg} :e∈jE rs↔∃r∈rs,e∈J0 r:=by
 unfold jE
 rw [DP]
 constructor
 ·rintro⟨j,h1,h2⟩
  exact⟨rg rs j,by rw [←Wa h1];exact jis _,h2⟩
 ·rintro⟨r,h1,h2⟩
  obtain ⟨j,hj,e1⟩ :=ji0 h1
  exact⟨j,hj,by rw [←Wa hj,e1];exact h2⟩
def jaN (hot:List Pn) (E:List Leg) :Prop:=∀e∈E,∀f∈E,Rd hot (lA e) (lB e) (lA f) (lB f)
def NoX (E:List Leg) :Prop:=∀e∈E,∀f∈E,qf (lA e) (lB e) (lA f) (lB f)≠true
theorem NoX.inv {hot:List Pn} {E:List Leg} (h:NoX E) :jaN hot E:=fun e he f hf hs=>absurd hs (h e he f hf)
theorem Sb {hot:List Pn} {rs:List jV} (hnd:hot.Nodup) (hb:bareG hot rs) (h:jaN hot (jE rs)) :NoX (jE (qR hot rs)) :=fun e he f hf=>by
 obtain ⟨r,hr,he⟩ :=Yw.1 he
 obtain ⟨s,hs,hf⟩ :=Yw.1 hf
 obtain ⟨r0,hr0,rfl⟩ :=jip.1 hr
 obtain ⟨s0,hs0,rfl⟩ :=jip.1 hs
 obtain ⟨e0,he0,F,m1,m2⟩ :=Dv hnd (hb r0 hr0).1 (hb r0 hr0).2 he
 obtain ⟨f0,hf0,G,m3,m4⟩ :=Dv hnd (hb s0 hs0).1 (hb s0 hs0).2 hf
 exact Na F G m1 m2 m3 m4 (h e0 (Yw.2 ⟨r0,hr0,he0⟩) f0 (Yw.2 ⟨s0,hs0,hf0⟩))
def I2 (hot:List Pn) :Nat→List jV→List jV
 | 0,rs=>rs
 | n+1,rs=>I2 hot n (qR hot rs)
theorem PR (hot:List Pn) :∀n rs ss,I2 hot n (rs++ss) =I2 hot n rs++I2 hot n ss
 | 0,_,_=>rfl
 | n+1,rs,ss=>by
  show I2 hot n (qR hot (rs++ss)) =_
  rw [show qR hot (rs++ss) =qR hot rs++qR hot ss by simp [qR],PR]
  rfl
theorem Fq9 {hot:List Pn} {rs:List jV} (h:qR hot rs=rs) :∀n,I2 hot n rs=rs
 | 0=>rfl
 | n+1=>by
  show I2 hot n (qR hot rs) =rs
  rw [h,Fq9 h n]
theorem FR {hot:List Pn} :∀m n rs,I2 hot (m+n) rs=I2 hot n (I2 hot m rs)
 | 0,n,rs=>by rw [jiL];rfl
 | m+1,n,rs=>by
  rw [show m+1+n= (m+n) +1 by omega]
  exact FR m n (qR hot rs)
theorem PS {hot:List Pn} (hnd:hot.Nodup) :∀n rs,bareG hot rs→jaN hot (jE rs)→bareG hot (I2 hot n rs)∧jaN hot (jE (I2 hot n rs))
 | 0,rs,h1,h2=>⟨h1,h2⟩
 | n+1,rs,h1,h2=>PS hnd n (qR hot rs) (h1.snap hnd) (Sb hnd h1 h2).inv
theorem CW {hot:List Pn} :∀f {rs ss:List jV} {r q:Nat},WV hot f rs r=some (ss,q)→qR hot ss=ss∧∃n,ss=I2 hot n rs
 | 0,_,_,_,_,h=>by cases h
 | f+1,rs,ss,r,q,h=>by
  unfold WV at h
  split at h
  ·cases h
  ·split at h
   ·rename_i e
    injection h with h
    injection h with h1 h2
    subst h1
    exact⟨e,0,rfl⟩
   ·obtain ⟨h1,n,h2⟩ :=CW f h
    exact⟨h1,n+1,h2⟩
theorem R5 {hot:List Pn} :∀ {es:List (Pn×Pn)},(∀d∈es,d.1≠d.2∧d.1∈hot∧d.2∈hot)→(es.flatMap (Qs hot)).length=es.length→∀e∈es,qD e.1 e.2 hot= [e.1,e.2]
 | [],_,_,e,he=>by cases he
 | d::l,h,hl,e,he=>by
  obtain ⟨mid,h1,h2⟩ :=VW (h d (jiE ..))
  have hg:= (GM (es:=l) fun x hx=>h x (jiq _ hx)).1
  rw [jiB,h1,jif,jim,jim] at hl
  rcases jir.1 he with rfl | he
  ·obtain rfl:mid= [] :=jiQ Om
   rw [h2,h1]
   rfl
  ·exact R5 (fun x hx=>h x (jiq _ hx)) Om e he
theorem HC {hot:List Pn} {rs:List jV} (hb:bareG hot rs) (hs:qR hot rs=rs) {e:Leg} (he:e∈jE rs) :lA e∈hot∧lB e∈hot∧lA e≠lB e∧qD (lA e) (lB e) hot= [lA e,lB e] :=by
 obtain ⟨r,hr,he⟩ :=Yw.1 he
 have hsr:kU hot r=r:=by
  have:∀ {l:List jV},l.map (kU hot) =l→∀x∈l,kU hot x=x:=fun {l} =>by
   induction l with
   | nil=>intro _ x hx;cases hx
   | cons y l ih=>
    intro h x hx
    simp only [jiA,List.cons.injEq] at h
    rcases jir.1 hx with rfl | hx
    ·exact h.1
    ·exact ih h.2 x hx
  exact this hs r hr
 obtain ⟨h1,h2⟩ :=hb r hr
 have hok:=yY h1 h2
 rw [kz h1] at he
 obtain ⟨d,hd,rfl⟩ :=jip.1 he
 have hl: ((KK r).flatMap (Qs hot)).length= (KK r).length:=by rw [←uM h1,hsr,Wv]
 obtain ⟨g1,g2,g3⟩ :=hok d hd
 exact⟨g2,g3,g1,R5 hok hl d hd⟩
theorem T6 (a b c d:Pn) : (Qk a b c d).Nodup:=by
 have key:∀out p,out.Nodup→(LI a b c d out p).Nodup:=fun out p h=>by
  unfold LI
  split
  ·rename_i k
   simp only [jig,ji2] at k
   refine List.nodup_append.2 ⟨h,by simp,fun x hx y hy e=> ?_⟩
   rw [jik.1 hy] at e
   subst e
   have:=k.1
   rw [List.contains_eq_mem,decide_eq_false_iff_not] at this
   exact this hx
  ·exact h
 exact key _ _ (key _ _ (key _ _ (key _ _ List.nodup_nil)))
theorem jaC {hot:List Pn} {rs:List jV} (hb:bareG hot rs) (hs:qR hot rs=rs) (hx:NoX (jE rs)) (hok:∀p∈hot,bd2 p) {e f:Leg} (he:e∈jE rs) (hf:f∈jE rs) :ve (lA e) (lB e) (lA f) (lB f) =true:=by
 obtain ⟨e1,e2,e3,e4⟩ :=HC hb hs he
 obtain ⟨f1,f2,f3,f4⟩ :=HC hb hs hf
 have hno:=hx e he f hf
 generalize lA e=a at*
 generalize lB e=b at*
 generalize lA f=c at*
 generalize lB f=d at*
 have way:∀ {p q x:Pn},qD p q hot= [p,q]→p∈hot→q∈hot→x∈hot→uO p q x=true→x=p∨x=q:=fun {p q x} h hp hq hx ho=>by
  have hi:= (jgQ (hok p hp) (hok q hq) ho).2
  unfold ipB at hi
  simp only [jig] at hi
  obtain ⟨u,v,hv,_,h0,h1,h2⟩ :=U2 (a:=p) (b:=q) (p:=x) hi.2
  have hm:x∈qD p q hot:=Ku.2 ⟨hx,SP hv h0 h1 h2⟩
  rw [h] at hm
  simpa using hm
 have both:∀q∈Qk a b c d,(q=a∨q=b)∧(q=c∨q=d) :=fun q hq=>by
  obtain ⟨h1,h2⟩ :=qL.1 hq
  unfold kk at h2
  simp only [jig] at h2
  have hqh:q∈hot:=by
   rcases h1 with rfl | rfl | rfl | rfl<;>assumption
  exact⟨way e4 e1 e2 hqh h2.1,way f4 f1 f2 hqh h2.2⟩
 have nd:=T6 a b c d
 unfold ve
 split
 ·rfl
 ·split
  ·rename_i h2
   exact absurd (Ia h2) hno
  ·split
   ·rename_i h1
    have:∃q,q∈Qk a b c d:=by
     unfold qU at h1
     cases hh:Qk a b c d with
     | nil=>rw [hh] at h1;simp at h1;split at h1<;>omega
     | cons x l=>exact⟨x,by simp⟩
    obtain ⟨q,hq⟩ :=this
    obtain ⟨k1,k2⟩ :=both q hq
    simp only [ji2,jjG,decide_eq_false_iff_not,ne_eq,Decidable.not_not]
    rcases k1 with rfl | rfl<;>rcases k2 with rfl | rfl<;>simp
   ·split
    ·rename_i h3
     unfold qU at h3
     match hh:Qk a b c d with
     | [] =>rw [hh] at h3;simp at h3;split at h3<;>omega
     | [x] =>rw [hh] at h3;simp at h3
     | x::y::l=>
      rw [hh] at nd both
      have hxy:x≠y:=fun e=> (jjF.1 nd).1 (by rw [e];simp)
      obtain ⟨k1,k2⟩ :=both x (by simp)
      obtain ⟨k3,k4⟩ :=both y (by simp)
      rw [decide_eq_true_iff]
      rcases k1 with rfl | rfl<;>rcases k3 with rfl | rfl
      ·exact absurd rfl hxy
      ·rcases k2 with rfl | rfl<;>rcases k4 with rfl | rfl
       ·exact absurd rfl hxy
       ·exact .inl ⟨rfl,rfl⟩
       ·exact .inr ⟨rfl,rfl⟩
       ·exact absurd rfl hxy
      ·rcases k2 with rfl | rfl<;>rcases k4 with rfl | rfl
       ·exact absurd rfl hxy
       ·exact .inr ⟨rfl,rfl⟩
       ·exact .inl ⟨rfl,rfl⟩
       ·exact absurd rfl hxy
      ·exact absurd rfl hxy
    ·rfl
theorem US {a b c d:Pn} (h:qf a b c d=true) :qU a b c d=2:=by
 have hn:Qk a b c d= [] :=by
  refine List.eq_nil_iff_forall_not_mem.2 fun q hq=> ?_
  obtain ⟨h1,h2⟩ :=qL.1 hq
  unfold kk at h2
  simp only [jig] at h2
  have t1:= (KE.1 h2.1).1
  have t2:= (KE.1 h2.2).1
  obtain ⟨s1,s2⟩ :=K4.1 h
  rcases h1 with rfl | rfl | rfl | rfl<;>omega
 unfold qU
 rw [hn,if_pos (show([] :List Pn).length=0 from rfl),if_pos h]
theorem MQ {E:List Leg} {i k:Nat} (h:qU (lA (lg E i)) (lB (lg E i)) (lA (lg E k)) (lB (lg E k)) =2) :∀j,k<j→GH (lA (lg E i)) (lB (lg E i)) (lA (lg E k)) (lB (lg E k))∈cz E i j
 | 0,hj=>absurd hj Om
 | j+1,hj=>by
  unfold cz
  by_cases e:k=j
  ·subst e
   rw [if_pos h]
   simp
  ·exact jjc _ (MQ h j Om)
theorem MZ {E:List Leg} {i:Nat} {p:Pn} (h:p∈cz E i i) :∀n,i<n→p∈U0 E n
 | 0,hn=>absurd hn Om
 | n+1,hn=>by
  unfold U0
  by_cases e:i=n
  ·subst e;exact jjH _ h
  ·exact jjc _ (jjc _ (MZ h n Om))
theorem jdg {a b c d:Pn} {t t' v:Int} (h:sc a b t v=sc c d t' v) :v*tn c d a=t* (tn c d a- tn c d b) :=by
 have e1:2* (v*tn c d a+t* (tn c d b- tn c d a)) = (d.1- c.1) * ((sc a b t v).2- (sc c d t' v).2) - (d.2- c.2) * ((sc a b t v).1- (sc c d t' v).1) :=by simp only [sc,tn,Q8];grind
 rw [h] at e1
 have e2:v*tn c d a+t* (tn c d b- tn c d a) =0:=by
  have: (d.1- c.1) * ((sc c d t' v).2- (sc c d t' v).2) - (d.2- c.2) * ((sc c d t' v).1- (sc c d t' v).1) =0:=by rw [Int.sub_self,Int.sub_self];simp
  omega
 have e3:t* (tn c d a- tn c d b) = -(t* (tn c d b- tn c d a)) :=by grind
 omega
theorem jbw {x y n D0 t v:Int} (hd:D0≠0) (hv:0<v) (h:v*n=t*D0) :zR (2*x) (2* (y- x)) (2*Bw x y n D0- 1) t v:=by
 obtain ⟨N,D,hD,hND,g1,g2⟩ :=TV (x:=x) (y:=y) (n:=n) hd
 have hk:v*N=t*D:=by
  rcases hND with⟨_,rfl,rfl⟩ |⟨_,rfl,rfl⟩
  ·rw [Int.mul_neg,Int.mul_neg,h]
  ·exact h
 generalize Bw x y n D0=r at*
 unfold zR
 have e: (2*x*v+t* (2* (y- x))) *D=2* (x*D+ (y- x) *N) *v:=by
  have: (2*x*v+t* (2* (y- x))) *D=2*x*D*v+2* (y- x) * (t*D) :=by grind
  rw [this,←hk]
  grind
 have m1:=jij g1 (show 0≤v by omega)
 have m2:=jiz g2 hv
 rw [←e] at m1 m2
 have f1: (2*r- 1) *D*v= (2*r- 1) *v*D:=by grind
 have f2: (2*r+1) *D*v= (2*r- 1+2) *v*D:=by grind
 rw [f1] at m1
 rw [f2] at m2
 exact⟨jiS m1 hD,jiP m2 Om⟩
theorem RI {a b c d:Pn} (hs:qf a b c d=true) {t t' v:Int} (hv:0<v) (h:sc a b t v=sc c d t' v) :wu a b (GH a b c d) t v:=by
 have hd:=K3 hs
 have hk2:v*crN a c d=t*TQ a b c d:=by
  rw [zK,Yp]
  exact jdg h
 exact⟨jbw hd hv hk2,jbw hd hv hk2⟩
theorem yc {a b c d:Pn} (h:qf a b c d=true) :qf c d a b=true:=by
 obtain ⟨h1,h2⟩ :=K4.1 h
 exact K4.2 ⟨h2,h1⟩
theorem EH {E:List Leg} {hot:List Pn} (hh:∀p∈U0 E E.length,p∈hot) :jaN hot E:=fun e he f hf hs=>by
 obtain ⟨i,hi,rfl⟩ :=yN he
 obtain ⟨k,hk,rfl⟩ :=yN hf
 rcases Nat.lt_trichotomy i k with c | c | c
 ·have hs':=yc hs
  refine⟨GH (lA (lg E k)) (lB (lg E k)) (lA (lg E i)) (lB (lg E i)),hh _ (MZ (MQ (US hs') k c) _ hk),fun t t' v hv h=> ?_⟩
  rw [xp (K3 hs) (K3 hs')]
  exact RI hs hv h
 ·subst c
  exact absurd rfl (Ff hs).2.2.1
 ·exact⟨GH (lA (lg E i)) (lB (lg E i)) (lA (lg E k)) (lB (lg E k)),hh _ (MZ (MQ (US hs) i c) _ hi),fun t t' v hv h=>RI hs hv h⟩
theorem EF {s:Sp} {u v u' v':Int} (hs:0<s.hd) (hv:0<v) (hv':0<v') (h:highOk s u v) (hle:u'*v≤u*v') :highOk s u' v':=by
 rcases h with h |⟨h,hc⟩
 ·exact .inl (KS hv hv' hs hle h)
 ·have:=vq hv hv' hs hle (jjX h)
  by_cases k:u'*s.hd=s.hn*v'
  ·exact .inr ⟨k,hc⟩
  ·exact .inl Om
theorem EP {s x:Sp} {u v:Int} (hs:0<s.ld) (hx:0<x.ld) (hv:0<v) (h:Y7 x s=false) (hl:lowOk x u v) :lowOk s u v:=by
 have hn:¬(x.ln*s.ld<s.ln*x.ld∨(x.ln*s.ld=s.ln*x.ld∧x.lc=true∧s.lc=false)) :=fun k=>by rw [Gc.2 k] at h;cases h
 have hle:s.ln*x.ld≤x.ln*s.ld:=jjr.1 fun k=>hn (.inl k)
 rcases hl with hl |⟨hl,hc⟩
 ·exact .inl (KS hx hs hv hle hl)
 ·have h1:=vq hx hs hv hle (jjX hl)
  by_cases k:s.ln*v=u*s.ld
  ·refine .inr ⟨k,?_⟩
   cases hcs:s.lc with
   | true=>rfl
   | false=>
    have h2:=vq (a:=x.ln) (b:=x.ld) (c:=u) (d:=v) (e:=s.ln) (f:=s.ld) hv hx hs Om Om
    exact absurd (.inr ⟨by omega,hc,hcs⟩) hn
  ·exact .inl Om
theorem Ms {a b p q:Pn} (hi:Ve a b p=true) (hj:Ve a b q=true) (hne:p≠q) (hs:KN a b q p=false) {u v u' v':Int} (hv:0<v) (hv':0<v') (m:yr (JZ a b p) u v) (m':yr (JZ a b q) u' v') :u*v'<u'*v:=by
 rcases Int.lt_or_le (u*v') (u'*v) with h | h
 ·exact h
 ·exfalso
  have l1:lowOk (JZ a b p) u' v':=EP (KY a b p).1 (KY a b q).1 hv' hs m'.1
  have l2:highOk (JZ a b p) u' v':=EF (KY a b p).2 hv hv' m.2 h
  exact hne (Uu hv' ((KZ hv' hi).1 ⟨l1,l2⟩).2 ((KZ hv' hj).1 m').2)
theorem To {a b p q:Pn} (hi:Ve a b p=true) (hj:Ve a b q=true) (hne:p≠q) :KN a b p q=true∨KN a b q p=true:=by
 cases h1:KN a b p q with
 | true=>exact .inl rfl
 | false=>
  cases h2:KN a b q p with
  | true=>exact .inr rfl
  | false=>
   exfalso
   obtain ⟨u,v,hv,m,_⟩ :=U2 hi
   obtain ⟨u',v',hv',m',_⟩ :=U2 hj
   have:=Ms hi hj hne h2 hv hv' m m'
   have:=Ms hj hi (Ne.symm hne) h1 hv' hv m' m
   omega
theorem M1 {a b p:Pn} {u v:Int} (h:wu a b p u v) :wu b a p (v- u) v:=by
 have e:∀x y:Int,2*y*v+ (v- u) * (2* (x- y)) =2*x*v+u* (2* (y- x)) :=fun x y=>by grind
 obtain ⟨⟨h1,h2⟩,h3,h4⟩ :=h
 unfold wu zR
 rw [e,e]
 exact⟨⟨h1,h2⟩,h3,h4⟩
theorem Vv {a b p:Pn} (h:Ve a b p=true) :Ve b a p=true:=by
 obtain ⟨u,v,hv,_,h0,h1,hp⟩ :=U2 h
 exact Mf hv Om Om (M1 hp)
theorem jdn {a b p q:Pn} (hi:Ve a b p=true) (hj:Ve a b q=true) (hne:p≠q) (h:KN a b p q=true) :KN b a q p=true:=by
 rcases To (Vv hi) (Vv hj) hne with k | k
 ·exfalso
  obtain ⟨u,v,hv,m,h0,h1,hp⟩ :=U2 hi
  obtain ⟨u',v',hv',m',h0',h1',hp'⟩ :=U2 hj
  have k1:=Ms hi hj hne ((YJ a b).asym _ _ h) hv hv' m m'
  have n1:yr (JZ b a p) (v- u) v:= (KZ hv (Vv hi)).2 ⟨⟨by omega,by omega⟩,M1 hp⟩
  have n2:yr (JZ b a q) (v'- u') v':= (KZ hv' (Vv hj)).2 ⟨⟨by omega,by omega⟩,M1 hp'⟩
  have k2:=Ms (Vv hi) (Vv hj) hne ((YJ b a).asym _ _ k) hv hv' n1 n2
  rw [Int.sub_mul,Int.sub_mul,jiV v v'] at k2
  omega
 ·exact k
theorem EX (a b p:Pn) :KJ b a p=KJ a b p:=by
 have hi:Ve b a p=Ve a b p:=by
  cases h:Ve a b p with
  | true=>exact Vv h
  | false=>
   cases h':Ve b a p with
   | true=>rw [Vv h'] at h;cases h
   | false=>rfl
 unfold KJ yi za
 rw [hi,jjZ b.1,jjY b.1,jjZ b.2,jjY b.2]
theorem Lp {α:Type} {R:α→α→Prop} :∀ {l m:List α},l.Perm m→l.Pairwise R→m.Pairwise R→(∀a∈l,∀b∈l,R a b→R b a→a=b)→l=m
 | [],m,hp,_,_,_=> (List.Perm.nil_eq hp)
 | a::l,m,hp,hl,hm,ha=>by
  cases m with
  | nil=>exact absurd hp.length_eq (by simp)
  | cons b m=>
   have hl':=jiR.1 hl
   have hm':=jiR.1 hm
   have hab:a=b:=by
    have m1:a∈b::m:=hp.subset (jiE ..)
    have m2:b∈a::l:=hp.symm.subset (jiE ..)
    rcases jir.1 m1 with k | k
    ·exact k
    ·rcases jir.1 m2 with k2 | k2
     ·exact k2.symm
     ·exact ha a (jiE ..) b m2 (hl'.1 b k2) (hm'.1 a k)
   subst hab
   rw [Lp (List.Perm.cons_inv hp) hl'.2 hm'.2 fun x hx y hy=>ha x (jiq _ hx) y (jiq _ hy)]
theorem SW {a b:Pn} {hot:List Pn} (hnd:hot.Nodup) :qD b a hot= (qD a b hot).reverse:=by
 have s1:Uy (KN a b) (qD a b hot) :=by rw [wK];exact Zm a b hot
 have s2:Uy (KN b a) (qD b a hot) :=by rw [wK];exact Zm b a hot
 have ins:∀p∈qD a b hot,Ve a b p=true:=fun p hp=>ZG (Ku.1 hp).2
 have hmem:∀p,p∈qD b a hot↔p∈(qD a b hot).reverse:=fun p=>by
  rw [List.mem_reverse,Ku,Ku,EX]
 have hn1:=ut (a:=a) (b:=b) hnd
 have hp: (qD b a hot).Perm (qD a b hot).reverse:= (jj6 (ut hnd) (List.pairwise_reverse.2 (hn1.imp Ne.symm))).2 hmem
 refine Lp hp s2 ?_ ?_
 ·refine List.pairwise_reverse.2 ?_
  have both: (qD a b hot).Pairwise (fun x y=> (KN a b y x=false)∧x≠y∧x∈qD a b hot∧y∈qD a b hot) :=by
   have h2: (qD a b hot).Pairwise (fun x y=>x≠y) :=hn1
   have h3:=s1.and h2
   refine List.Pairwise.imp_of_mem ?_ h3
   intro x y hx hy h
   exact⟨h.1,h.2,hx,hy⟩
  refine both.imp ?_
  rintro x y ⟨h1,h2,h3,h4⟩
  cases k:KN b a x y with
  | false=>rfl
  | true=>
   have:=jdn (Vv (ins x h3)) (Vv (ins y h4)) h2 k
   rw [h1] at this
   cases this
 ·intro x hx y hy h1 h2
  refine Decidable.byContradiction fun hne=> ?_
  have ix:=Vv (ins x (List.mem_reverse.1 ((hmem x).1 hx)))
  have iy:=Vv (ins y (List.mem_reverse.1 ((hmem y).1 hy)))
  rcases To ix iy hne with k | k
  ·rw [h2] at k;cases k
  ·rw [h1] at k;cases k
section
variable {P:Program} {n:Nat} {env:List (Nat×Value)} {w0:Bs} {Rs:List Res} {o:Oper} {Q:Exit→Act→World→Prop} {K:Act→World→Prop}
theorem jfm {w:World} {B T s m:Nat} {xs:List Value} {x:Option Addr×Nat} (h: (JY B T s m xs x).P w) (h0:0<m) :x.1=some ⟨W3 x.1,0,none⟩ :=by
 have h:w.ownsRow B T s (.slice x.1 m x.2) m xs:=h
 rcases h.2 with⟨_,e⟩ |⟨g,cap,cur,e,_⟩
 ·omega
 ·injection e with e1
  rw [e1]
  rfl
theorem X5 {w:World} {B T s m i:Nat} {xs:List Value} {x:Option Addr×Nat} {v:Value} (h: (JY B T s m xs x).P w) (hv:xs[i]? =some v) :w.cell? ⟨W3 x.1,i,none⟩ =some v:=by
 have h:w.ownsRow B T s (.slice x.1 m x.2) m xs:=h
 have hi:= (List.getElem?_eq_some_iff.1 hv).1
 rcases h.2 with⟨_,e⟩ |⟨g,cap,cur,e,hb,hg,hcap,hmax,hsz,htk⟩
 ·have:=h.1
  rw [e,Nat.zero_mul] at this
  omega
 ·injection e with e1
  rw [e1,W3,cell_of_row w g i cur T (0,0) hg]
  have h1:=h.1
  rw [←htk,List.getElem?_take,if_pos Om] at hv
  simpa using hv
theorem UZ {α:Type} (f:α→List Value) {m:Nat} (hf:∀a,(f a).length=m) {l:List α} {k off:Nat} {a a':α} (hk:l[k]? =some a) (pre old vs post:List Value) (h1:f a=pre++old++post) (h2:f a'=pre++vs++post) (hl:old.length=vs.length) (ho:off=k*m+pre.length) :qP (l.flatMap f) off vs= (l.set k a').flatMap f:=by
 obtain ⟨hj,e⟩ :=List.getElem?_eq_some_iff.1 hk
 have e1:l=l.take k++a::l.drop (k+1) :=by rw [←e,←jiY hj,jiw]
 have e2:l.set k a'=l.take k++a'::l.drop (k+1) :=List.set_eq_take_append_cons_drop .. |>.trans (if_pos hj)
 have e3: ((l.take k).flatMap f).length=k*m:=by rw [WG f m hf,jiy,jjm Om]
 have s:=UR vs ((l.take k).flatMap f++pre) old (post++ (l.drop (k+1)).flatMap f) hl
 rw [jif,e3,←ho] at s
 rw [e2,jio,jiB,h2]
 conv=>lhs;rw [e1,jio,jiB,h1]
 simp only [jil] at s⊢
 exact s
theorem jaA {w:World} {B T s m j:Nat} {xs:List Value} {x:Option Addr×Nat} (h: (JY B T s m xs x).P w) (hj:j≤m) :Src s (sliced x.1 0 j x.2 s) j (xs.take (j*s)) w:=by
 have h:w.ownsRow B T s (.slice x.1 m x.2) m xs:=h
 have hm:j*s≤m*s:=Nat.mul_le_mul_right s hj
 refine⟨by rw [jiy,h.1];omega,?_⟩
 rcases h.2 with⟨e,e0⟩ |⟨g,cap,cur,e,hb,hg,hcap,hmax,hsz,htk⟩
 ·left
  have hj0:j=0:=by omega
  injection e with e1 _ e3
  rw [e1,e3,hj0]
  exact⟨rfl,rfl⟩
 ·right
  injection e with e1 _ e3
  refine⟨⟨g,0,none⟩,x.2,?_,fun q u hu=> ?_⟩
  ·rw [e1]
   unfold sliced
   split
   ·rfl
   ·simp [Q1]
  ·have hq:= (List.getElem?_eq_some_iff.1 hu).1
   rw [jiy] at hq
   rw [List.getElem?_take,if_pos Om,←htk,List.getElem?_take,if_pos (by have:=h.1;omega)] at hu
   rw [Q1,jiL,cell_of_row w g q cur T (0,0) hg]
   simpa using hu
theorem jaz {w:World} {B T s m j:Nat} {xs:List Value} {x:Option Addr×Nat} (h: (JY B T s m xs x).P w) (hj:j≤m) :Src s (sliced x.1 j m x.2 s) (m- j) (xs.drop (j*s)) w:=by
 have h:w.ownsRow B T s (.slice x.1 m x.2) m xs:=h
 refine⟨by rw [jiI,h.1,Nat.sub_mul],?_⟩
 rcases h.2 with⟨e,e0⟩ |⟨g,cap,cur,e,hb,hg,hcap,hmax,hsz,htk⟩
 ·left
  subst e0
  have hj0:j=0:=by omega
  injection e with e1 _ e3
  rw [e1,e3,hj0]
  exact⟨rfl,rfl⟩
 ·right
  injection e with e1 _ e3
  by_cases hz:x.2=j
  ·refine⟨⟨g,0,none⟩,x.2- j,by rw [e1];unfold sliced;rw [if_pos hz],fun q u hu=> ?_⟩
   have hq:= (List.getElem?_eq_some_iff.1 hu).1
   have hjm:j=m:=by omega
   rw [jiI,h.1,hjm] at hq
   omega
  ·refine⟨⟨g,0+j*s,none⟩,x.2- j,by rw [e1];unfold sliced;rw [if_neg hz];simp [Q1],fun q u hu=> ?_⟩
   have hq:= (List.getElem?_eq_some_iff.1 hu).1
   rw [jiI,h.1] at hq
   rw [List.getElem?_drop,←htk,List.getElem?_take,if_pos Om] at hu
   rw [Q1,jiL,cell_of_row w g _ cur T (0,0) hg]
   simpa using hu
theorem Uw {T U m:Nat} {x y:Operand} {k B s q off:Nat} {r:Option Addr×Nat} {cs vs:List Value} {v:Value} (ho:o.op= .store T x y) (hd:o.dst=none) (hx:ev env x=some (.pointer (some ⟨W3 r.1,off,none⟩))) (hy:ev env y=some v) (hv:v.cells=vs.toArray) (h1:vs.all (·.oneCell') =true)
  (hz: (P.info? T).map (·.size) =some m) (hm:vs.length=m) (hk:Rs[k]? =some (JY B U s q cs r)) (h0:0<vs.length) (hlt:off+vs.length≤cs.length) (h:At n env w0 (Rs.set k (JY B U s q (qP cs off vs) r)) K) :At n env w0 Rs (fun a w=>o.wp P a w K Q) :=fun a w hf hs=>by
 have hr:w.ownsRow B U s (.slice r.1 q r.2) q cs:= (hs.all k _ hk).1
 have hlow:=fun b hb=> (hs.all k _ hk).2.1 b hb
 rcases hr.2 with⟨_,e0⟩ |⟨g,cap,cur,e,hb,hg,hcap,hmax,hsz,htk⟩
 ·have:=hr.1
  rw [e0,Nat.zero_mul] at this
  omega
 ·injection e with e1 _ e3
  have hgb:W3 r.1=g:=by rw [e1];rfl
  rw [hgb] at hx
  have hcl:cs.length=q*s:=hr.1
  have hcur:cur.toList=cs++cur.toList.drop (q*s) :=by rw [←htk,jiw]
  have hlen:cs.length≤cur.toList.length:=by rw [hcur,jif];omega
  have hh:w.heap[g]? =some (.cells cur.toList.toArray U (0,0)) :=by rw [jjy];exact hg
  have hso: (sizeOf T).run P w= .ok m w:=by
   obtain ⟨i,hi,hs'⟩ :=jjQ.1 hz
   simp [sizeOf,typeInfo,hi,hs']
  have hst:=WS (P:=P) vs off 0 cur.toList w hh Om h1
  have hrun: (execOp a.eval o).run P w= .ok .skip (w.setRow g (qP cur.toList off vs).toArray) :=by
   unfold execOp
   simp only [ho,hf.ev hx,hf.ev hy,Instr.storeAt,Instr.sureAddr,storeVar,hv]
   simp only [Sem.run_bind,Sem.run_pure,Result.andThen_ok,hso]
   have:¬(vs.toArray.size≠m) :=by simp [hm]
   simp only [this,if_false,hst,Result.andThen_ok]
   rfl
  show o.upon P a K Q ((execOp a.eval o).run P w)
  rw [hrun,Oper.upon_skip,hd]
  refine h _ _ hf (hs.upd hk ⟨by simpa using hs.over.os,by simpa using hs.over.tape,by simpa using hs.over.output,by simpa using hs.over.size,fun c hc hx'=> ?_⟩ (by simp) (fun c _ hne=>setRow_other w g c _ (fun e=>hne (by rw [e];show Value.ownBlock (.slice r.1 q r.2) =some g;rw [e1];rfl))) ?_ (fun c hc=> .inl hc) J)
  ·have:=hlow g (by show Value.ownBlock (.slice r.1 q r.2) =some g;rw [e1];rfl)
   rw [setRow_other w g c _ (fun e=>this.elim (fun h1=>by omega) (fun h1=>hx' (e▸h1)))]
   exact hs.over.block c hc hx'
  ·refine⟨by rw [kD];exact hr.1, .inr ⟨g,cap,(qP cur.toList off vs).toArray,by rw [e1,e3],hb,setRow_heap w g _ _ U (0,0) hg,hcap,hmax,by simp [kD,hsz],?_⟩⟩
   rw [jjj,hcur,Zk Om,List.take_left' (by rw [kD];exact hr.1)]
end
end Go.Proofs.YtpncbbcmoiiipaaGreat
namespace Go.Proofs.YtpncbbcmoiiipaaGreat
open Go Go.Shelf
def YK:Go.Shelf.Ren:=⟨fun | 6=>222 | 15=>210 | 14=>266 | 28=>259 | 29=>260 | 20=>283 | 21=>284 | 22=>285 | 23=>286 | 24=>287 | 25=>288 | 26=>289 | 27=>290 | 46=>297 | 47=>276 | 48=>277 | 49=>298 | 50=>299 | 57=>301 | n=>n,fun | 22=>106 | 24=>131 | 25=>247 | 3=>3 | 39=>206 | 0=>0 | 53=>270 | 55=>171 | 4=>4 | 46=>264 | 45=>263 | 50=>227 | 5=>5 | 9=>9 | 66=>290 | 70=>294 | 76=>306 | 77=>307 | n=>n,fun | n=>n⟩
theorem jdo:Go.Proofs.SlLaysF0.n6 Tryz.prog YK:= {
 mixed:=by kernel_rfl
 f6:=⟨Tryz.f222.name,by decide,Tryz.func222.trans (congrArg some Kr)⟩
 f14:=⟨Tryz.f266.name,by decide,Tryz.func266.trans (congrArg some Kr)⟩
 f15:=Tryz.func210.trans (congrArg some Kr)
 f20:=⟨Tryz.f283.name,by decide,Tryz.func283.trans (congrArg some Kr)⟩
 f21:=⟨Tryz.f284.name,by decide,Tryz.func284.trans (congrArg some Kr)⟩
 f22:=⟨Tryz.f285.name,by decide,Tryz.func285.trans (congrArg some Kr)⟩
 f23:=⟨Tryz.f286.name,by decide,Tryz.func286.trans (congrArg some Kr)⟩
 f24:=⟨Tryz.f287.name,by decide,Tryz.func287.trans (congrArg some Kr)⟩
 f25:=⟨Tryz.f288.name,by decide,Tryz.func288.trans (congrArg some Kr)⟩
 f26:=⟨Tryz.f289.name,by decide,Tryz.func289.trans (congrArg some Kr)⟩
 f27:=⟨Tryz.f290.name,by decide,Tryz.func290.trans (congrArg some Kr)⟩
 f28:=Tryz.func259.trans (congrArg some Kr)
 f29:=Tryz.func260.trans (congrArg some Kr)
 f46:=⟨Tryz.f297.name,by decide,Tryz.func297.trans (congrArg some Kr)⟩
 f47:=Tryz.func276.trans (congrArg some Kr)
 f48:=Tryz.func277.trans (congrArg some Kr)
 f49:=⟨Tryz.f298.name,by decide,Tryz.func298.trans (congrArg some Kr)⟩
 f50:=⟨Tryz.f299.name,by decide,Tryz.func299.trans (congrArg some Kr)⟩
 f57:=⟨Tryz.f301.name,by decide,Tryz.func301.trans (congrArg some Kr)⟩
 t0:=Tryz.underlying0
 a0:=Tryz.isAgg0
 z0:=Tryz.sizeOf0
 v0:=Tryz.zeroValue0
 t3:=Tryz.underlying3
 a3:=Tryz.isAgg3
 z3:=Tryz.sizeOf3
 v3:=Tryz.zeroValue3
 t4:=Tryz.underlying4
 a4:=Tryz.isAgg4
 z4:=Tryz.sizeOf4
 v4:=Tryz.zeroValue4
 t5:=Tryz.underlying5
 a5:=Tryz.isAgg5
 z5:=Tryz.sizeOf5
 v5:=Tryz.zeroValue5
 t9:=Tryz.underlying9
 a9:=Tryz.isAgg9
 z9:=Tryz.sizeOf9
 v9:=Tryz.zeroValue9
 t22:=Tryz.underlying106
 a22:=Tryz.isAgg106
 z22:=Tryz.sizeOf106
 v22:=Tryz.zeroValue106
 t25:=Tryz.underlying247
 a25:=Tryz.isAgg247
 z25:=Tryz.sizeOf247
 v25:=Tryz.zeroValue247
 t39:=Tryz.underlying206
 a39:=Tryz.isAgg206
 z39:=Tryz.sizeOf206
 v39:=Tryz.zeroValue206
 t45:=Tryz.underlying263
 a45:=Tryz.isAgg263
 z45:=Tryz.sizeOf263
 v45:=Tryz.zeroValue263
 t46:=Tryz.underlying264
 a46:=Tryz.isAgg264
 z46:=Tryz.sizeOf264
 v46:=Tryz.zeroValue264
 t50:=Tryz.underlying227
 a50:=Tryz.isAgg227
 z50:=Tryz.sizeOf227
 v50:=Tryz.zeroValue227
 t53:=Tryz.underlying270
 a53:=Tryz.isAgg270
 z53:=Tryz.sizeOf270
 v53:=Tryz.zeroValue270
 t55:=Tryz.underlying171
 a55:=Tryz.isAgg171
 z55:=Tryz.sizeOf171
 v55:=Tryz.zeroValue171
 t66:=Tryz.underlying290
 a66:=Tryz.isAgg290
 z66:=Tryz.sizeOf290
 v66:=Tryz.zeroValue290
 t70:=Tryz.underlying294
 a70:=Tryz.isAgg294
 z70:=Tryz.sizeOf294
 v70:=Tryz.zeroValue294
 t76:=Tryz.underlying306
 a76:=Tryz.isAgg306
 z76:=Tryz.sizeOf306
 v76:=Tryz.zeroValue306
 t77:=Tryz.underlying307
 a77:=Tryz.isAgg307
 z77:=Tryz.sizeOf307
 v77:=Tryz.zeroValue307}
end Go.Proofs.YtpncbbcmoiiipaaGreat
